/- Write of package plan. Appending in a drawn region whose other blocks are of other types. -/
import Derived.Test.YtlldlkjngcgcjaaGreatDoorQ07
import Derived.Test.YtlldlkjngcgcjaaGreatDoorD04
namespace Go.Proofs.YtlldlkjngcgcjaaGreatDoor
set_option linter.unusedVariables false
set_option linter.unusedSimpArgs false
open Go.RowKit
def writeV (r : List UInt8 × Int) : Value := .tuple #[.string ⟨r.1.toArray⟩, .int .i64 r.2]
theorem trim_zeros (s : List UInt8) : Lib.trimS s [48] = [] ↔ s = Pl.zeros s.length := by
  rw [trim_digits]
  simp [Pl.zeros, List.eq_replicate_iff]
set_option maxRecDepth 100000 in
set_option maxHeartbeats 4000000 in
theorem write_any (p : List Pl.Cd) (A : Option Addr) (cap : Nat) (n ph : Int) (w : World) (hA : At 3 codeC w w.heap.size A p) (hn : p.length ≤ cap) (hl : p.length ≤ 1000) (hs : ∀ c ∈ p, c.old.length ≤ 1000 ∧ c.new.length ≤ 1000) (hE : Env w) :
    Calls Tryz.prog 9 #[.slice A p.length cap, .int .i64 n, .int .i64 ph] w fun e w' => e = .returned (writeV (Pl.write p n ph)) ∧ Below w.heap.size w w' := by
  by_cases hall : Pl.valid p = true ∧ Pl.isPhase ph = true ∧ Pl.within n 0 99999999 = true
  · obtain ⟨h1, h2, h3⟩ := hall
    obtain ⟨n0, n1⟩ := within_true h3
    have h8 : (Pl.eight n.toNat).length ≤ 8 := by rw [Pl.eight_len]; omega
    have h8' : 8 ≤ (Pl.eight n.toNat).length := by rw [Pl.eight_len]; omega
    have hfin : Pl.write p n ph = match p.find? (fun c => c.new.isPrefixOf (Pl.eight n.toNat)) with
      | none => ([], 120)
      | some c => if ph ≠ 1 then (Pl.eight n.toNat, 0) else
        let cut := (8 - Pl.room c).toNat
        if ((Pl.eight n.toNat).take cut).drop c.new.length = Pl.zeros (cut - c.new.length) then (c.old ++ (Pl.eight n.toNat).drop cut, 0) else ([], 120) := by
      unfold Pl.write; rw [h1, h2, h3]; rfl
    have heig := fun W hW => eight_any n n0 n1 W hW
    generalize Pl.eight n.toNat = s at *
    have HE8 : Kp (∀ W, Env W → Calls Tryz.prog 37 #[.int .i64 n] W fun e w' => e = .returned (.string ⟨s.toArray⟩) ∧ Below W.heap.size W w') := ⟨heig⟩
    have HF : Kp _ := ⟨hfin⟩
    have HV : Kp _ := ⟨h1⟩
    clear hfin heig
    go_enter Tryz.func9, Tryz.ntmps9
    go_wp2_with (first
      | (go_at_call 34; refine (valid_any p _ cap _ hA hn hl hs).mono ?_; rintro e w1 ⟨rfl, hb1⟩)
      | (go_at_call 36; refine (isWithin_any _ _ _ _).mono ?_; rintro e w' ⟨rfl, rfl⟩)
      | (go_at_call 35; refine (isPhase_any _ _).mono ?_; rintro e w' ⟨rfl, rfl⟩)
      | (go_at_call 37; refine (HE8.out _ (hE.below hb1)).mono ?_; rintro e w2 ⟨rfl, hb2⟩))
    have hb := bCall hb1 hb2
    clear hb1 hb2 HE8 h1 h2 h3
    go_loopw [29] (fun i wr => ∃ k : Nat, k ≤ p.length ∧ i = .int .i64 k ∧ Kp (p.find? (fun c => c.new.isPrefixOf s) = (p.drop k).find? (fun c => c.new.isPrefixOf s)) ∧ Below w.heap.size w wr) (fun i _ => p.length - (intOf i).toNat)
    case atStart => exact ⟨0, Nat.zero_le _, rfl, ⟨rfl⟩, hb⟩
    case round =>
      obtain ⟨k, hk, rfl, hf, hbr⟩ := hrel
      by_cases hlt : k < p.length
      · obtain ⟨b, off, rfl, hbB, hcell⟩ := hA (by omega)
        have hck : p[k]? = some p[k] := List.getElem?_eq_getElem hlt
        have c0 := (hbr.cell (p := ⟨b, off + k * 3, none⟩) hbB).trans (hcell k _ hck 0 _ rfl)
        have c1 := (hbr.cell (p := ⟨b, off + k * 3 + 1, none⟩) hbB).trans (hcell k _ hck 1 _ rfl)
        have c2 := (hbr.cell (p := ⟨b, off + k * 3 + 2, none⟩) hbB).trans (hcell k _ hck 2 _ rfl)
        have hfine := Pl.valid_fine HV.out (List.getElem_mem hlt)
        have hdrop : (p.drop k).find? (fun c => c.new.isPrefixOf s) = if (p[k]).new.isPrefixOf s then some p[k] else (p.drop (k + 1)).find? (fun c => c.new.isPrefixOf s) := by
          rw [List.drop_eq_getElem_cons hlt, List.find?_cons]
          cases (p[k]).new.isPrefixOf s <;> rfl
        have HD : Kp _ := ⟨hdrop⟩
        clear hdrop hck hcell hA
        generalize p[k] = c at *
        obtain ⟨o, nw, l⟩ := c
        obtain ⟨dold, dnew, o1, o4, nn1, nn5, l1, l7, fit, ap⟩ := hfine
        simp only [Pl.room] at c0 c1 c2 o1 o4 nn1 nn5 l1 l7 fit HD
        cases hpre : nw.isPrefixOf s
        · have HP : Kp _ := ⟨hpre⟩
          go_wp2_with (go_at_call 38; refine (HasPrefix_any _ _ _).mono ?_; rintro e w' ⟨rfl, rfl⟩)
          go_roundw
          case rel => exact ⟨k + 1, by omega, by go_num, ⟨by rw [hf.out, HD.out, HP.out]; simp⟩, bNew hbr _⟩
          case measure => simp [intOf]; omega
        · have HP : Kp _ := ⟨hpre⟩
          have hph : (ph != 1) = true ∨ (ph != 1) = false := by cases (ph != 1) <;> simp
          rcases hph with hph | hph
          · go_wp2_with (go_at_call 38; refine (HasPrefix_any _ _ _).mono ?_; rintro e w' ⟨rfl, rfl⟩)
            go_ret2
            exact ⟨by
              have : ph ≠ 1 := by simpa using hph
              rw [HF.out, hf.out, HD.out, HP.out]; simp [writeV, this], bNew hbr _⟩
          · have hph1 : ph = 1 := by simpa using hph
            obtain ⟨cut, ecut, hcut1, hcut2⟩ : ∃ cut : Nat, l - (o.length : Int) = 8 - (cut : Int) ∧ nw.length ≤ cut ∧ cut ≤ 8 := ⟨(8 - (l - (o.length : Int))).toNat, by omega, by omega, by omega⟩
            have hgoal : Pl.write p n ph = if Lib.trimS ((s.drop nw.length).take (cut - nw.length)) [48] = [] then (o ++ s.drop cut, 0) else ([], 120) := by
              rw [HF.out, hf.out, HD.out, HP.out]
              have e1 : (8 - Pl.room ⟨o, nw, l⟩).toNat = cut := by simp only [Pl.room]; omega
              simp only [if_true, e1]
              rw [if_neg (by omega), List.drop_take]
              have e2 : ((s.drop nw.length).take (cut - nw.length)).length = cut - nw.length := by simp; omega
              by_cases hz : Lib.trimS ((s.drop nw.length).take (cut - nw.length)) [48] = []
              · rw [if_pos hz, if_pos (by have := (trim_zeros _).1 hz; rw [e2] at this; exact this)]
              · rw [if_neg hz, if_neg (fun h => hz ((trim_zeros _).2 (by rw [e2]; exact h)))]
            have HG : Kp _ := ⟨hgoal⟩
            have EC : Kp _ := ⟨ecut⟩
            have hXl : ((s.drop nw.length).take (cut - nw.length)).length ≤ 1000000 := by simp; omega
            have XL : Kp _ := ⟨hXl⟩
            clear hgoal ecut hXl HD hf fit
            go_wp2_with (first
              | (go_at_call 38; refine (HasPrefix_any _ _ _).mono ?_; rintro e w' ⟨rfl, rfl⟩)
              | (go_at_call 39; refine (room_any _ _ _ (by omega) (by omega) _).mono ?_; rintro e w4 ⟨rfl, hb4⟩; rw [EC.out]; have q0 := ((Bx.mk wr 63 #[.string ⟨o.toArray⟩, .string ⟨nw.toArray⟩, .int .i64 l]).call hb4).cell 0 rfl; have q1 := ((Bx.mk wr 63 #[.string ⟨o.toArray⟩, .string ⟨nw.toArray⟩, .int .i64 l]).call hb4).cell 1 rfl))
            have e1 : (8 : Int) - (8 - (cut : Int)) = cut := by omega
            have e2 : 8 - (8 - cut) = cut := by omega
            simp only [e1, e2]
            clear e1 e2
            refine (Trim_any _ [48] _ XL.out (by decide) (by decide)).mono ?_
            rintro e w5 ⟨rfl, hb5⟩
            generalize Lib.trimS ((s.drop nw.length).take (cut - nw.length)) [48] = z at *
            have B5 := (((Bx.mk wr 63 #[.string ⟨o.toArray⟩, .string ⟨nw.toArray⟩, .int .i64 l]).call hb4)).call hb5
            have hbf := bCall (bCall (bNew hbr _) hb4) hb5
            clear hb4 hb5 q0 q1
            by_cases hz : z = []
            · subst hz
              go_wp2
              have g0 := fun d os => (B5.again d os).cell 0 rfl
              refine wp_region_quiet_below (by kernel_rfl) (by kernel_rfl) ?_
              repeat (go_big_quiet_step (fail))
              refine wpQuiet_nil ?_
              rintro _ ⟨q, rfl⟩
              go_wp2
              go_ret2
              exact ⟨by rw [HG.out]; simp [writeV]; exact List.take_of_length_le (by simp), bAgain hbf _ _⟩
            · have hz2 : z.isEmpty = false := by simpa using hz
              go_wp2
              go_ret2
              exact ⟨by rw [HG.out, if_neg hz]; simp [writeV], hbf⟩
      · go_wp2
        go_ret2
        obtain rfl : k = p.length := by omega
        exact ⟨by rw [HF.out, hf.out]; simp [writeV], hbr⟩
  · have hc : Pl.valid p = false ∨ (Pl.valid p = true ∧ Pl.isPhase ph = false) ∨ (Pl.valid p = true ∧ Pl.isPhase ph = true ∧ Pl.within n 0 99999999 = false) := by
      cases h1 : Pl.valid p <;> cases h2 : Pl.isPhase ph <;> cases h3 : Pl.within n 0 99999999 <;> simp_all
    have HF : Kp (Pl.write p n ph = ([], 120)) := ⟨by unfold Pl.write; rcases hc with h | ⟨h, h'⟩ | ⟨h, h', h''⟩ <;> simp [*]⟩
    clear hall
    rcases hc with h1 | ⟨h1, h2⟩ | ⟨h1, h2, h3⟩
    all_goals
      go_enter Tryz.func9, Tryz.ntmps9
      go_wp2_with (first
        | (go_at_call 34; refine (valid_any p _ cap _ hA hn hl hs).mono ?_; rintro e w1 ⟨rfl, hb1⟩)
        | (go_at_call 36; refine (isWithin_any _ _ _ _).mono ?_; rintro e w' ⟨rfl, rfl⟩)
        | (go_at_call 35; refine (isPhase_any _ _).mono ?_; rintro e w' ⟨rfl, rfl⟩))
      go_ret2
      exact ⟨by rw [HF.out]; rfl, hb1⟩
end Go.Proofs.YtlldlkjngcgcjaaGreatDoor
namespace Go.Proofs.YtlldlkjngcgcjaaGreatDoor
set_option linter.unusedVariables false
set_option linter.unusedSimpArgs false
open Go.RowKit
/-- blocks of the type e as an append leaves them; blocks of other types stay -/
def KHe (B : Nat) (e : TypeId) (pos : Nat) (news : List Value) (w w' : World) : Prop := KH B e pos news w w' ∧ KpE e w w'
section
variable {B : Nat} {e : TypeId} {pos : Nat} {news : List Value} {W w w' : World}
theorem KHe.rf (B : Nat) (e : TypeId) (pos : Nat) (news : List Value) (w : World) : KHe B e pos news w w := ⟨KH.rf _ _ _ _ _, KpE.refl _ _⟩
theorem cls_KHe (B : Nat) (e : TypeId) (pos : Nat) (news : List Value) : RS.Cls (KHe B e pos news) :=
  ⟨KHe.rf B e pos news, fun h1 h2 => ⟨(cls_KH B e pos news).trans h1.1 h2.1, h1.2.trans h2.2⟩, fun w n => ⟨(cls_KH B e pos news).drawn w n, ⟨Nat.le_refl _, fun _ _ h _ => h⟩⟩⟩
theorem KHe.of (hB : B ≤ w.heap.size) (h : Below w.heap.size w w') : KHe B e pos news w w' := ⟨KH.of hB h, KpE.call h⟩
theorem KHe.bl (h : KHe B e pos news w w') : Below B w w' := h.1.1
theorem KHe.size (h : KHe B e pos news w w') : w.heap.size ≤ w'.heap.size := h.1.2.1
theorem KHe.call (h : KHe B e pos news W w) (hB : B ≤ W.heap.size) (hb : Below w.heap.size w w') : KHe B e pos news w w' := KHe.of (Nat.le_trans hB h.size) hb
theorem stab_KHe {R : RS.Rl} (h : RS.Stab (KH B e pos news) R) : RS.Stab (KHe B e pos news) R := fun x v w w' hr hK => h x v w w' hr hK.1
/-- a variable of another type -/
def FrE (B : Nat) (t : TypeId) (cs : Array Value) : RS.Rl := fun _ v w => ∃ g, v = .pointer (some ⟨g, 0, none⟩) ∧ B ≤ g ∧ Bx w g t cs
theorem stab_frE {t : TypeId} {cs : Array Value} (ht : t ≠ e) : RS.Stab (KHe B e pos news) (FrE B t cs) := fun x v w w' ⟨g, h1, h2, h3⟩ hK => ⟨g, h1, h2, hK.2.bx ht h3⟩
end
/-- the run of an append in a region's class -/
theorem app_He {P : Program} {w : World} (t ty e : TypeId) (i : TypeInfo) (z : Value) (size B n m : Nat) (flat news : List Value) (v x : Value) (ht : P.underlying t = some (.slice e)) (hi : P.info? e = some i) (hz : i.zero = some z)
    (hsize : i.size = size) (hzs : z.cells.size = size) (hv : RowZ e size B n flat v w) (hB : B ≤ w.heap.size) (hs : Src P size t x m news w) (hm : 0 < m) (h63 : n + m ≤ maxLen) (hb : (n + m) * i.bytes ≤ 140737488355328) :
    ∃ v' w', (Builtin.append_ #[t, t] ty #[v, x]).run P w = .ok v' w' ∧ KHe B e (n * size) news w w' ∧ RowZ e size B (n + m) (flat ++ news) v' w' := by
  obtain ⟨v', w', hr, h1, h2⟩ := append_KH (P := P) w t ty e i z size B n m flat news v x ht hi hz hsize hzs hv hB hs hm h63 hb
  obtain ⟨v2, w2, hr2, -, k2, -⟩ := append_rowE (P := P) w t ty e i z size B n m flat news v x ht hi hz hsize hzs hv hB hs hm h63 hb
  refine ⟨v', w', hr, ⟨h1, ?_⟩, h2⟩
  have := hr.symm.trans hr2
  simp only [Result.ok.injEq] at this
  rw [this.2]; exact k2
end Go.Proofs.YtlldlkjngcgcjaaGreatDoor
