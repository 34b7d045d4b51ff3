/- parse of package integer. -/
import Derived.Test.YtllnepdighhkdaaGreatDoorMT
import Derived.Test.YtllnepdighhkdaaGreatDoorIOver2
namespace Ig
theorem nv_acc : ∀ (b : List UInt8) (n : Nat), b.foldl (fun n c => 10 * n + (c.toNat - 48)) n = n * 10 ^ b.length + nv b
  | [], n => by simp [nv]
  | c :: b, n => by
    have h1 := nv_acc b (10 * n + (c.toNat - 48))
    have h2 := nv_acc b (10 * 0 + (c.toNat - 48))
    unfold nv at h1 h2 ⊢
    rw [List.foldl_cons, List.foldl_cons, h1, h2, List.length_cons, Nat.pow_succ, Nat.add_mul, Nat.add_mul, Nat.mul_comm 10 n, Nat.mul_assoc, Nat.mul_comm 10 (10 ^ b.length)]
    omega
theorem nv_app (a b : List UInt8) : nv (a ++ b) = nv a * 10 ^ b.length + nv b := by
  rw [← nv_acc]
  unfold nv
  rw [List.foldl_append]
theorem nv_lt : ∀ (k : Nat) {s : List UInt8}, s.length = k → s.all isD = true → nv s < 10 ^ k
  | 0, s, h, _ => by rw [List.length_eq_zero_iff.1 h]; decide
  | k + 1, s, h, hd => by
    rcases List.eq_nil_or_concat s with h0 | ⟨m, c, h0⟩
    · rw [h0] at h; simp at h
    · obtain rfl : s = m ++ [c] := by simpa using h0
      rw [List.all_append, Bool.and_eq_true] at hd
      have ih := nv_lt k (s := m) (by simpa using h) hd.1
      have hc : c.toNat ≤ 57 := by have := hd.2; simp [isD] at this; omega
      rw [nv_snoc, Nat.pow_succ]
      omega
structure ParseAt (D : List UInt8) (a m : Nat) (out : List Int) : Prop where
  le : m ≤ D.length
  gr : Gr out
  eq : gval out + 10000 ^ out.length * (nv (D.take m) : Int) = a
  lo : out.length + m ≤ D.length
theorem parse_start (a : Nat) : ParseAt (Go.Lib.decDigits a) a (Go.Lib.decDigits a).length [] := ⟨Nat.le_refl _, (fun g h => by cases h), by rw [List.take_length, nv_dec]; simp [gval], by simp⟩
theorem chunk_lt {D : List UInt8} (hD : D.all isD = true) {m : Nat} : nv ((D.take m).drop (m - 4)) < 10000 := by
  have h1 : ((D.take m).drop (m - 4)).all isD = true := List.all_eq_true.2 fun c hc => List.all_eq_true.1 hD c (List.mem_of_mem_take (List.mem_of_mem_drop hc))
  have h2 := nv_lt _ rfl h1
  have h3 : ((D.take m).drop (m - 4)).length ≤ 4 := by simp; omega
  exact Nat.lt_of_lt_of_le h2 (Nat.pow_le_pow_right (n := 10) (by decide) h3)
theorem parse_step {D : List UInt8} {a m : Nat} {out : List Int} (hD : D.all isD = true) (h : ParseAt D a m out) (hm : 0 < m) : ParseAt D a (m - 4) (out ++ [(nv ((D.take m).drop (m - 4)) : Int)]) := by
  have hlt := chunk_lt hD (m := m)
  refine ⟨by have := h.le; omega, fun g hg => ?_, ?_, by have := h.lo; simp; omega⟩
  · rcases List.mem_append.1 hg with hg | hg
    · exact h.gr g hg
    · obtain rfl : g = _ := by simpa using hg
      omega
  · have hs : D.take m = D.take (m - 4) ++ (D.take m).drop (m - 4) := by
      conv => lhs; rw [← List.take_append_drop (m - 4) (D.take m), List.take_take, Nat.min_eq_left (by omega)]
    have hv : nv (D.take m) = nv (D.take (m - 4)) * 10000 + nv ((D.take m).drop (m - 4)) := by
      conv => lhs; rw [hs, nv_app]
      by_cases h4 : 4 ≤ m
      · have : ((D.take m).drop (m - 4)).length = 4 := by have := h.le; simp; omega
        rw [this]
      · rw [show m - 4 = 0 by omega]; simp [nv]
    rw [← h.eq, hv, gval_append, List.length_append, List.length_singleton, Int.pow_succ]
    generalize nv ((D.take m).drop (m - 4)) = n
    generalize nv (D.take (m - 4)) = q
    generalize (10000 : Int) ^ out.length = p
    simp only [gval]
    rw [Int.natCast_add, Int.natCast_mul, Int.mul_add, Int.mul_add, Int.mul_assoc]
    rw [show ((10000 : Nat) : Int) = 10000 from rfl, Int.mul_comm 10000 (q : Int)]
    omega
theorem parse_end {D : List UInt8} {a : Nat} {out : List Int} (h : ParseAt D a 0 out) : trimG out = grp a := by
  rw [trimG_of h.gr]
  have := h.eq
  simp [nv] at this
  rw [this, Int.toNat_natCast]
end Ig
namespace Go.Proofs.YtllnepdighhkdaaGreatDoor
set_option linter.unusedVariables false
set_option linter.unusedSimpArgs false
open Go.RowKit Go.Shelf
theorem own_at {W : World} {B : Nat} {v : Value} {out : List Int} (h : W.ownsRow B 3 1 v out.length (out.flatMap intC)) : ∃ A cap, v = .slice A out.length cap ∧ At 1 intC W W.heap.size A out ∧ out.length ≤ cap ∧ cap ≤ maxLen ∧ ∀ b off, A = some ⟨b, off, none⟩ → B ≤ b := by
  rcases h.2 with ⟨rfl, h0⟩ | ⟨g, cap, cur, rfl, h2, h3, h4, h5, h6, h7⟩
  · obtain rfl : out = [] := List.length_eq_zero_iff.1 h0
    exact ⟨none, 0, rfl, At.nil, Nat.le_refl _, Nat.zero_le _, fun b off h => by cases h⟩
  · obtain ⟨A, e, hA, hc⟩ := RowC.at (f := intC) (size := 1) (fun _ => rfl) (show RowC 3 1 B cap out.length (out.flatMap intC) (.slice (some ⟨g, 0, none⟩) out.length cap) W from ⟨g, cur, rfl, h2, h4, h3, h6, h7⟩)
    refine ⟨A, cap, e, hA, hc, h5, fun b off hb => ?_⟩
    rw [hb] at e
    simp only [Value.slice.injEq, Option.some.injEq, Addr.mk.injEq] at e
    omega
theorem own_callG {e : TypeId} {B n size : Nat} {v : Value} {bs : List Value} {w w' : World} (h : w.ownsRow B e size v n bs) (hb : Below w.heap.size w w') : w'.ownsRow B e size v n bs := by
  refine ⟨h.1, ?_⟩
  rcases h.2 with h1 | ⟨g, cap, cur, h1, h2, h3, h4⟩
  · exact .inl h1
  · exact .inr ⟨g, cap, cur, h1, h2, (hb.block g (Array.getElem?_eq_some_iff.1 h3).1).trans h3, h4⟩
theorem own_farG {e : TypeId} {B n size : Nat} {v : Value} {bs : List Value} {w : World} (h : w.ownsRow B e size v n bs) {p : Addr} (hp : p.block < B) (u : Value) : (w.setCell p u).ownsRow B e size v n bs := by
  refine ⟨h.1, ?_⟩
  rcases h.2 with h1 | ⟨g, cap, cur, h1, h2, h3, h4⟩
  · exact .inl h1
  · exact .inr ⟨g, cap, cur, h1, h2, (Below.heap_setCell w p u g (by omega)).trans h3, h4⟩
theorem grown_bx {e t : TypeId} {B n size g : Nat} {v : Value} {bs : List Value} {cs : Array Value} {w w' : World} (ho : w.ownsRow B e size v n bs) (hg : w.grownBy w' v.ownBlock) (hB : Bx w g t cs) (hlt : g < B) : Bx w' g t cs :=
  (hg.block g hB.lt (fun h => by have := (ho.lt g h.symm).1; omega)).trans hB
theorem all_isD {s : List UInt8} (h : s.all Ig.isD = true) : ∀ c ∈ s, 48 ≤ c.toNat ∧ c.toNat ≤ 57 := fun c hc => by
  have := List.all_eq_true.1 h c hc
  simpa [Ig.isD] using this
def lenOf : Value → Nat
  | .string b => b.size
  | _ => 0
theorem results_signed {fn : Func} {t : Tmp} {g : Nat} {neg : Bool} {A : Option Addr} {n c : Nat} (h : fn.results = #[.cell t 100]) (tmps : Array Value) (w : World) (ht : tmps.getD t undef = .pointer (some ⟨g, 0, none⟩)) (hB : Bx w g 100 #[.bool neg, .slice A n c]) :
    (results fn tmps).run Tryz.prog w = .ok (.agg #[.bool neg, .slice A n c]) w := by
  have h0 := hB.cell 0 rfl
  have h1 := hB.cell 1 rfl
  have ht' : tmps[t]?.getD undef = .pointer (some ⟨g, 0, none⟩) := by simpa using ht
  simp only [results, h]
  simp [go_sem, ht', h0, h1, loadVar]
set_option maxRecDepth 100000 in
set_option maxHeartbeats 4000000 in
theorem parse_any (z : Int) (w : World) (hz : Ig.fits z) :
    Calls Tryz.prog 147 #[.string ⟨(Lib.itoa z).toArray⟩] w fun e w' => ∃ v, e = .returned (.agg #[.bool (decide (z < 0)), v]) ∧ NumAt w' z.natAbs v ∧ Below w.heap.size w w' := by
  have hT := fun w0 => TrimPrefix_any (Lib.itoa z) w0
  have hlen : (decide ((Lib.decDigits z.natAbs).length < (Lib.itoa z).length)) = decide (z < 0) := by
    by_cases h : 0 ≤ z
    · rw [Ig.itoa_nonneg h, decide_eq_false (by omega), decide_eq_false (by omega)]
    · rw [Ig.itoa_neg (by omega), decide_eq_true (by rw [List.length_cons]; omega), decide_eq_true (by omega)]
  have hD := Ig.dec_digits z.natAbs
  have hst := Ig.parse_start z.natAbs
  have hDl : (Lib.decDigits z.natAbs).length ≤ 200 := by rw [Ig.dec_len]; exact (Ig.fits_iff z).1 hz
  rw [Ig.unsg_itoa] at hT
  generalize decide (z < 0) = neg at *
  generalize z.natAbs = a at *
  generalize Lib.itoa z = s at *
  generalize Lib.decDigits a = D at *
  go_enter Tryz.func147, Tryz.ntmps147
  go_wp2_with (go_at_call 163; refine (hT _).mono ?_; rintro _ _ ⟨rfl, rfl⟩)
  have hb0 := bNew (bNewW w (.cells #[.bool false, .slice none 0 0] 100)) (.cells #[.bool neg, .slice none 0 0] 100)
  have B1 := (Bx.mk w 100 #[.bool false, .slice none 0 0]).new (.cells #[.bool neg, .slice none 0 0] 100)
  have B2 := Bx.mk (w.alloc (.cells #[.bool false, .slice none 0 0] 100)) 100 #[.bool neg, .slice none 0 0]
  have hsz : ((w.alloc (.cells #[.bool false, .slice none 0 0] 100)).alloc (.cells #[.bool neg, .slice none 0 0] 100)).heap.size = w.heap.size + 2 := by rw [alloc_size, alloc_size]
  rw [alloc_size] at B2
  generalize ((w.alloc (.cells #[.bool false, .slice none 0 0] 100)).alloc (.cells #[.bool neg, .slice none 0 0] 100)) = W0 at *
  clear hT hlen
  go_loopw [3, 5, 6, 7] (fun s3 s5 s6 s7 wr => ∃ (m : Nat) (out : List Int) (v : Value), s3 = .string ⟨(D.take m).toArray⟩ ∧ Kp (Ig.ParseAt D a m out) ∧ m ≤ D.length ∧ out.length ≤ 200 ∧ Bx wr w.heap.size 100 #[.bool false, .slice none 0 0] ∧ Bx wr (w.heap.size + 1) 100 #[.bool neg, v] ∧ wr.ownsRow (w.heap.size + 2) 3 1 v out.length (out.flatMap intC) ∧ w.heap.size + 2 ≤ wr.heap.size ∧ Below w.heap.size w wr)
    (fun s3 s5 s6 s7 _ => lenOf s3)
  case atStart => exact ⟨D.length, [], .slice none 0 0, by rw [List.take_length], ⟨hst⟩, Nat.le_refl _, by simp, B1, B2, World.ownsRow_nil _ _ _ _, by omega, hb0⟩
  case round =>
    clear hb0 B1 B2 hsz hst
    obtain ⟨m, out, v, rfl, hp, hmD, hol, B1, B2, hown, hle, hb⟩ := hrel
    by_cases h0 : 0 < m
    · have hnext := Kp.mk (Ig.parse_step hD hp.out h0)
      have hch := Ig.chunk_lt hD (m := m)
      have hlo := hp.out.lo
      have hdig : ((D.take m).drop (m - 4)).all Ig.isD = true := List.all_eq_true.2 fun c hc => List.all_eq_true.1 hD c (List.mem_of_mem_take (List.mem_of_mem_drop hc))
      have hcl : ((D.take m).drop (m - 4)).length ≤ 4 := by simp; omega
      have hcn : (D.take m).drop (m - 4) ≠ [] := by
        intro h
        have := congrArg List.length h
        simp at this; omega
      have hA := fun w0 => Atoi_any ((D.take m).drop (m - 4)) (Ig.nv ((D.take m).drop (m - 4)) : Int) w0 (by omega) (atoi_digits _ (all_isD hdig) hcn (by omega))
      have htk : (D.take m).take (m - 4) = D.take (m - 4) := by rw [List.take_take, Nat.min_eq_left (by omega)]
      have htl : (D.take m).length = m := by simp; omega
      clear hdig hcl hcn
      generalize Ig.nv ((D.take m).drop (m - 4)) = n at *
      generalize hch2 : (D.take m).drop (m - 4) = ch at *
      have hmx : max (0 : Int) ((m : Int) - 4) = ((m - 4 : Nat) : Int) := by omega
      have hm4 : m - 4 ≤ m := by omega
      clear hp
      generalize D.take m = t at *
      generalize ht' : D.take (m - 4) = t' at *
      generalize hk : m - 4 = k at *
      have c1 := B2.cell 1 rfl
      have htc : List.take (m - k) ch = ch := by rw [← hch2]; exact List.take_of_length_le (by rw [List.length_drop, htl]; omega)
      go_wp2_with fail
      refine (hA _).mono ?_
      rintro _ w1 ⟨rfl, hb1⟩
      clear c1 hA htc
      replace B1 := B1.call hb1
      replace B2 := B2.call hb1
      replace hown := own_callG hown hb1
      replace hb := bCall hb hb1
      replace hle := Nat.le_trans hle hb1.size
      have c1 := B2.cell 1 rfl
      obtain ⟨i0, z0, hi, hz, hs1, hz1, hby⟩ := intI
      have hBt := Bx.mk w1 3 #[.int .i64 (n : Int)]
      go_wp2_with (at_builtin; refine wpList_append_own _ rfl (.tmp 31) (.tmp 33) 98 rfl (w.heap.size + 2) 3 i0 z0 1 8 Tryz.underlying98 hi hz hs1 hby hz1 (by decide) _ _ _ rfl (hown.alloc _) ⟨w1.heap.size, 0, none⟩ 1 1 [.int .i64 (n : Int)] rfl rfl ?c1 ?c2 ?c3 ?c4 ?c5 ?_)
      case c1 =>
        intro j u hj
        match j, hj with
        | 0, hj => simp at hj; subst hj; simp [Addr.add]
      case c2 => intro u hu; simp at hu; subst hu; rfl
      case c3 => unfold maxLen; omega
      case c4 => omega
      case c5 => rw [alloc_size]; omega
      intro v' w2 hown' hgrow _
      have hbn := bNewW w1 (.cells #[.int .i64 (n : Int)] 3)
      have hown1 := own_callG hown hbn
      have B1' := grown_bx hown1 hgrow (B1.call hbn) (by omega)
      have B2' := grown_bx hown1 hgrow (B2.call hbn) (by omega)
      have hb' := (bCall hb hbn).grown hgrow (by rw [alloc_size]; omega) (fun k hk => by have := (hown1.lt k hk).1; omega)
      have hle' : w.heap.size + 2 ≤ w2.heap.size := Nat.le_trans (Nat.le_trans hle hbn.size) hgrow.size
      obtain ⟨ao, n', cap, rfl⟩ : ∃ ao n' cap, v' = .slice ao n' cap := by
        rcases hown'.2 with ⟨hv, _⟩ | ⟨g, cap, cur, hv, _⟩
        · exact ⟨_, _, _, hv⟩
        · exact ⟨_, _, _, hv⟩
      have d1 := B2'.cell 1 rfl
      have f1 := B2'.frozen 1
      clear c1 hBt hgrow hown hown1 B1 B2 hbn hb hle hi hz hs1 hz1 hby
      go_wp2
      refine ⟨⟨k, out ++ [(n : Int)], .slice ao n' cap, ?_, hnext, by omega, by rw [List.length_append, List.length_singleton]; omega, B1'.far (by simp) _, B2'.set 1 _, ?_, ?_, bSet hb' (by show w.heap.size ≤ w.heap.size + 1; omega) _⟩, ?_⟩
      · rw [ht']
      · rw [List.length_append, List.length_singleton, List.flatMap_append]
        exact own_farG hown' (by show w.heap.size + 1 < w.heap.size + 2; omega) _
      · exact Nat.le_trans hle' (KeepsOthers.setCell w2 _ _).size
      · simp only [lenOf]
        show t'.length < t.length
        rw [← htk, List.length_take, htl]
        omega
    · obtain rfl : m = 0 := by omega
      have hfin := Ig.parse_end hp.out
      clear hp hD hmD
      obtain ⟨A, cap, rfl, hA, hcap, hcm, hAB⟩ := own_at hown
      have hT := trimmed_any out A cap wr hA hcap (by omega)
      have hN := num_of hA hcap hcm ⟨hfin⟩
      have hAt : At 1 intC wr wr.heap.size A (Ig.trimG out) := by rw [← trim_take]; exact hA.take _
      clear hown hA hN
      have hlk : Kp ((Ig.grp a).length = (Ig.trimG out).length) := ⟨by rw [hfin]⟩
      have htl := Kp.mk (show (Ig.trimG out).length ≤ cap by rw [← trim_take, List.length_take]; omega)
      rw [hfin] at hAt
      clear hfin
      generalize (Ig.trimG out).length = n at *
      have c0 := B2.cell 0 rfl
      have c1 := B2.cell 1 rfl
      have f1 := B2.frozen 1
      have B2' := B2.set 1 (.slice A n cap)
      have B1' := B1.far (p := ⟨w.heap.size + 1, 1, none⟩) (by simp) (.slice A n cap)
      have hb' := bSet hb (p := ⟨w.heap.size + 1, 1, none⟩) (by show w.heap.size ≤ w.heap.size + 1; omega) (.slice A n cap)
      have hAt' := at_far (g := w.heap.size + 1) (o := 1) hAt (fun b off h => by have := hAB b off h; omega) (.slice A n cap)
      clear B1 hb hAt
      go_wp2_with fail
      refine hT.mono ?_
      rintro _ _ ⟨rfl, rfl⟩
      clear hT
      have d0 := B2'.cell 0 rfl
      have d1 := B2'.cell 1 rfl
      have e0 := B1'.cell 0 rfl
      have e1 := B1'.cell 1 rfl
      have g0 := B1'.frozen 0
      have g1 := B1'.frozen 1
      have B1s := (B1'.set 0 (.bool neg)).set 1 (.slice A n cap)
      have hbs := bSet (bSet hb' (p := ⟨w.heap.size, 0, none⟩) (Nat.le_refl _) (.bool neg)) (p := ⟨w.heap.size, 1, none⟩) (Nat.le_refl _) (.slice A n cap)
      have hAs := at_far (g := w.heap.size) (o := 1) (at_far (g := w.heap.size) (o := 0) hAt' (fun b off h => by have := hAB b off h; omega) (.bool neg)) (fun b off h => by have := hAB b off h; omega) (.slice A n cap)
      go_wp2
      refine bodyPost_ret (results_signed rfl _ _ rfl B1s) rfl ⟨_, rfl, ⟨A, cap, by rw [hlk.out], hAs.more ?_, by rw [hlk.out]; exact htl.out, hcm⟩, hbs⟩
      exact Nat.le_trans (KeepsOthers.setCell wr _ _).size (Nat.le_trans (KeepsOthers.setCell _ _ _).size (KeepsOthers.setCell _ _ _).size)
end Go.Proofs.YtllnepdighhkdaaGreatDoor
