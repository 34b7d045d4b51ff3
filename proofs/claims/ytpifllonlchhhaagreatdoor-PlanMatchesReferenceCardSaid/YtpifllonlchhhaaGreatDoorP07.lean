/- Read of package plan. Read of package plan, where the input is in bounds. Same of package plan; reads, kind and example of package dialtonelaw12. -/
import Derived.Test.YtpifllonlchhhaaGreatDoorP06
namespace Go.Proofs.YtpifllonlchhhaaGreatDoor
set_option linter.unusedVariables false
set_option linter.unusedSimpArgs false
open Go.RowKit
def readV (r : Pl.Dialled × Int) : Value := .tuple #[.agg #[.int .i64 r.1.kind, .int .i64 r.1.number, .int .i64 r.1.code, .int .i64 r.1.used], .int .i64 r.2]
theorem B4 {w : World} {g : Nat} {x y z u : Value} (h : Bx w g 44 #[x, y, z, u]) (a b c d : Value) : Bx ((((w.setCell ⟨g, 0, none⟩ a).setCell ⟨g, 1, none⟩ b).setCell ⟨g, 2, none⟩ c).setCell ⟨g, 3, none⟩ d) g 44 #[a, b, c, d] := (((h.set 0 a).set 1 b).set 2 c).set 3 d
theorem b4 {a w : World} (h : Below a.heap.size a w) (p q r t : Value) : Below a.heap.size a ((((w.setCell ⟨a.heap.size, 0, none⟩ p).setCell ⟨a.heap.size, 1, none⟩ q).setCell ⟨a.heap.size, 2, none⟩ r).setCell ⟨a.heap.size, 3, none⟩ t) :=
  bSet (bSet (bSet (bSet h (p := ⟨_, 0, none⟩) (Nat.le_refl _) p) (p := ⟨_, 1, none⟩) (Nat.le_refl _) q) (p := ⟨_, 2, none⟩) (Nat.le_refl _) r) (p := ⟨_, 3, none⟩) (Nat.le_refl _) t
set_option maxRecDepth 100000 in
set_option maxHeartbeats 4000000 in
theorem read_bad (p : List Pl.Cd) (A : Option Addr) (cap : Nat) (s : List UInt8) (ph : Int) (w : World) (hA : At 3 codeC w w.heap.size A p) (hn : p.length ≤ cap) (hl : p.length ≤ 1000) (hs : ∀ c ∈ p, c.old.length ≤ 1000 ∧ c.new.length ≤ 1000) (hsl : s.length ≤ 1000)
    (hbad : Pl.valid p = false ∨ (Pl.valid p = true ∧ Pl.digits s = false) ∨ (Pl.valid p = true ∧ Pl.digits s = true ∧ 16 < s.length) ∨ (Pl.valid p = true ∧ Pl.digits s = true ∧ s.length ≤ 16 ∧ Pl.isPhase ph = false)) :
    Calls Tryz.prog 14 #[.slice A p.length cap, .string ⟨s.toArray⟩, .int .i64 ph] w fun e w' => e = .returned (readV (Pl.read p s ph)) ∧ Below w.heap.size w w' := by
  have hfin : Kp (readV (Pl.read p s ph) = .tuple #[.agg #[.int .i64 0, .int .i64 0, .int .i64 0, .int .i64 0], .int .i64 120]) := by
    constructor
    unfold Pl.read
    rcases hbad with h | ⟨h, h2⟩ | ⟨h, h2, h3⟩ | ⟨h, h2, h3, h4⟩
    · rw [h]; rfl
    · rw [h, h2]; rfl
    · rw [h, h2, decide_eq_false (by omega)]; rfl
    · rw [h, h2, decide_eq_true h3, h4]; rfl
  have hV := fun w0 (h0 : At 3 codeC w0 w0.heap.size A p) => valid_any p A cap w0 h0 hn hl hs
  have hD := fun w0 => isDigits_any s (by omega) w0
  have hP := fun w0 => isPhase_any ph w0
  have hA1 := (hA.below ((Below.refl w.heap.size w).alloc (Nat.le_refl _) (.cells #[.int .i64 0, .int .i64 0, .int .i64 0, .int .i64 0] 44))).more (show w.heap.size ≤ (w.alloc (.cells #[.int .i64 0, .int .i64 0, .int .i64 0, .int .i64 0] 44)).heap.size by rw [alloc_size]; omega)
  have B1 := Bx.mk w 44 #[.int .i64 0, .int .i64 0, .int .i64 0, .int .i64 0]
  have hb0 := bNew (bStart w) (.cells #[.int .i64 0, .int .i64 0, .int .i64 0, .int .i64 0] 44)
  clear hA hs
  rcases hbad with h | ⟨h, h2⟩ | ⟨h, h2, h3⟩ | ⟨h, h2, h3, h4⟩
  · rw [h] at hV
    clear h
    go_enter Tryz.func14, Tryz.ntmps14
    go_wp2_with (go_at_call 18; refine (hV _ (by assumption)).mono ?_; rintro e w1 ⟨rfl, hb1⟩; have R0 := (B1.call hb1).cell 0 rfl; have R1 := (B1.call hb1).cell 1 rfl; have R2 := (B1.call hb1).cell 2 rfl; have R3 := (B1.call hb1).cell 3 rfl; have S0 := (B1.call hb1).frozen 0; have S1 := (B1.call hb1).frozen 1; have S2 := (B1.call hb1).frozen 2; have S3 := (B1.call hb1).frozen 3)
    have E := B4 (B1.call hb1) (.int .i64 0) (.int .i64 0) (.int .i64 0) (.int .i64 0)
    have hb9 := b4 (bCall hb0 hb1) (.int .i64 0) (.int .i64 0) (.int .i64 0) (.int .i64 0)
    clear R0 R1 R2 R3 S0 S1 S2 S3
    generalize ((((w1.setCell _ _).setCell _ _).setCell _ _).setCell _ _) = W at *
    have R0 := E.cell 0 rfl
    have R1 := E.cell 1 rfl
    have R2 := E.cell 2 rfl
    have R3 := E.cell 3 rfl
    refine bodyPost_ret (v := .tuple #[.agg #[.int .i64 0, .int .i64 0, .int .i64 0, .int .i64 0], .int .i64 120]) (by simp [results, Tryz.results14, go_sem, R0, R1, R2, R3]) rfl ?_
    exact ⟨by rw [hfin.out], hb9⟩
  · rw [h] at hV; rw [h2] at hD; clear h h2
    go_enter Tryz.func14, Tryz.ntmps14
    go_wp2_with (first
      | (go_at_call 18; refine (hV _ (by assumption)).mono ?_; rintro e w1 ⟨rfl, hb1⟩)
      | (go_at_call 40; refine (hD _).mono ?_; rintro e w2 ⟨rfl, hb2⟩; have R0 := ((B1.call hb1).call hb2).cell 0 rfl; have R1 := ((B1.call hb1).call hb2).cell 1 rfl; have R2 := ((B1.call hb1).call hb2).cell 2 rfl; have R3 := ((B1.call hb1).call hb2).cell 3 rfl; have S0 := ((B1.call hb1).call hb2).frozen 0; have S1 := ((B1.call hb1).call hb2).frozen 1; have S2 := ((B1.call hb1).call hb2).frozen 2; have S3 := ((B1.call hb1).call hb2).frozen 3)
      | (go_at_call 26; refine (hP _).mono ?_; rintro e w3 ⟨rfl, rfl⟩))
    have E := B4 ((B1.call hb1).call hb2) (.int .i64 0) (.int .i64 0) (.int .i64 0) (.int .i64 0)
    have hb9 := b4 (bCall (bCall hb0 hb1) hb2) (.int .i64 0) (.int .i64 0) (.int .i64 0) (.int .i64 0)
    clear R0 R1 R2 R3 S0 S1 S2 S3
    generalize ((((w2.setCell _ _).setCell _ _).setCell _ _).setCell _ _) = W at *
    have R0 := E.cell 0 rfl
    have R1 := E.cell 1 rfl
    have R2 := E.cell 2 rfl
    have R3 := E.cell 3 rfl
    refine bodyPost_ret (v := .tuple #[.agg #[.int .i64 0, .int .i64 0, .int .i64 0, .int .i64 0], .int .i64 120]) (by simp [results, Tryz.results14, go_sem, R0, R1, R2, R3]) rfl ?_
    exact ⟨by rw [hfin.out], hb9⟩
  · rw [h] at hV; rw [h2] at hD; clear h h2
    have t3 : decide ((16 : Int) < (s.length : Int)) = true := by simp; omega
    go_enter Tryz.func14, Tryz.ntmps14
    go_wp2_with (first
      | (go_at_call 18; refine (hV _ (by assumption)).mono ?_; rintro e w1 ⟨rfl, hb1⟩)
      | (go_at_call 40; refine (hD _).mono ?_; rintro e w2 ⟨rfl, hb2⟩; have R0 := ((B1.call hb1).call hb2).cell 0 rfl; have R1 := ((B1.call hb1).call hb2).cell 1 rfl; have R2 := ((B1.call hb1).call hb2).cell 2 rfl; have R3 := ((B1.call hb1).call hb2).cell 3 rfl; have S0 := ((B1.call hb1).call hb2).frozen 0; have S1 := ((B1.call hb1).call hb2).frozen 1; have S2 := ((B1.call hb1).call hb2).frozen 2; have S3 := ((B1.call hb1).call hb2).frozen 3)
      | (go_at_call 26; refine (hP _).mono ?_; rintro e w3 ⟨rfl, rfl⟩))
    have E := B4 ((B1.call hb1).call hb2) (.int .i64 0) (.int .i64 0) (.int .i64 0) (.int .i64 0)
    have hb9 := b4 (bCall (bCall hb0 hb1) hb2) (.int .i64 0) (.int .i64 0) (.int .i64 0) (.int .i64 0)
    clear R0 R1 R2 R3 S0 S1 S2 S3
    generalize ((((w2.setCell _ _).setCell _ _).setCell _ _).setCell _ _) = W at *
    have R0 := E.cell 0 rfl
    have R1 := E.cell 1 rfl
    have R2 := E.cell 2 rfl
    have R3 := E.cell 3 rfl
    refine bodyPost_ret (v := .tuple #[.agg #[.int .i64 0, .int .i64 0, .int .i64 0, .int .i64 0], .int .i64 120]) (by simp [results, Tryz.results14, go_sem, R0, R1, R2, R3]) rfl ?_
    exact ⟨by rw [hfin.out], hb9⟩
  · rw [h] at hV; rw [h2] at hD; rw [h4] at hP; clear h h2 h4
    have t3 : decide ((16 : Int) < (s.length : Int)) = false := by simp; omega
    go_enter Tryz.func14, Tryz.ntmps14
    go_wp2_with (first
      | (go_at_call 18; refine (hV _ (by assumption)).mono ?_; rintro e w1 ⟨rfl, hb1⟩)
      | (go_at_call 40; refine (hD _).mono ?_; rintro e w2 ⟨rfl, hb2⟩; have R0 := ((B1.call hb1).call hb2).cell 0 rfl; have R1 := ((B1.call hb1).call hb2).cell 1 rfl; have R2 := ((B1.call hb1).call hb2).cell 2 rfl; have R3 := ((B1.call hb1).call hb2).cell 3 rfl; have S0 := ((B1.call hb1).call hb2).frozen 0; have S1 := ((B1.call hb1).call hb2).frozen 1; have S2 := ((B1.call hb1).call hb2).frozen 2; have S3 := ((B1.call hb1).call hb2).frozen 3)
      | (go_at_call 26; refine (hP _).mono ?_; rintro e w3 ⟨rfl, rfl⟩))
    have E := B4 ((B1.call hb1).call hb2) (.int .i64 0) (.int .i64 0) (.int .i64 0) (.int .i64 0)
    have hb9 := b4 (bCall (bCall hb0 hb1) hb2) (.int .i64 0) (.int .i64 0) (.int .i64 0) (.int .i64 0)
    clear R0 R1 R2 R3 S0 S1 S2 S3
    generalize ((((w2.setCell _ _).setCell _ _).setCell _ _).setCell _ _) = W at *
    have R0 := E.cell 0 rfl
    have R1 := E.cell 1 rfl
    have R2 := E.cell 2 rfl
    have R3 := E.cell 3 rfl
    refine bodyPost_ret (v := .tuple #[.agg #[.int .i64 0, .int .i64 0, .int .i64 0, .int .i64 0], .int .i64 120]) (by simp [results, Tryz.results14, go_sem, R0, R1, R2, R3]) rfl ?_
    exact ⟨by rw [hfin.out], hb9⟩
end Go.Proofs.YtpifllonlchhhaaGreatDoor
namespace Go.Proofs.YtpifllonlchhhaaGreatDoor
set_option linter.unusedVariables false
set_option linter.unusedSimpArgs false
open Go.RowKit
def entZ : Value := .agg #[.int .i64 0, .int .i64 0, .string ⟨#[]⟩]
theorem zeroEnt (w : World) : (zeroValue 76).run Tryz.prog w = .ok entZ w := by
  have h : (Tryz.prog.info? 76).bind (·.zero) = some entZ := by kernel_rfl
  cases hi : Tryz.prog.info? 76 with
  | none => rw [hi] at h; cases h
  | some i =>
    rw [hi] at h
    have hz : i.zero = some entZ := h
    simp [zeroValue, typeInfo, hi, hz]
set_option maxRecDepth 100000 in
set_option maxHeartbeats 4000000 in
theorem read_good (p : List Pl.Cd) (A : Option Addr) (cap : Nat) (s : List UInt8) (ph : Int) (w : World) (hA : At 3 codeC w w.heap.size A p) (hn : p.length ≤ cap) (hl : p.length ≤ 1000) (hs : ∀ c ∈ p, c.old.length ≤ 1000 ∧ c.new.length ≤ 1000)
    (hv : Pl.valid p = true) (hd : Pl.digits s = true) (h16 : s.length ≤ 16) (h4 : Pl.isPhase ph = true) :
    Calls Tryz.prog 14 #[.slice A p.length cap, .string ⟨s.toArray⟩, .int .i64 ph] w fun e w' => e = .returned (readV (Pl.read p s ph)) ∧ Below w.heap.size w w' := by
  have hph : ph = 1 ∨ ph = 2 ∨ ph = 3 := by simp [Pl.isPhase, Pl.within] at h4; omega
  have hV := fun w0 (h0 : At 3 codeC w0 w0.heap.size A p) => valid_any p A cap w0 h0 hn hl hs
  have hD := fun w0 => isDigits_any s (by omega) w0
  have hP := fun w0 => isPhase_any ph w0
  have hE := fun w0 (h0 : At 3 codeC w0 w0.heap.size A p) => entries_any p A cap ph w0 h0 hn hv hph
  rw [hv] at hV; rw [hd] at hD; rw [h4] at hP
  have hA1 := (hA.below ((Below.refl w.heap.size w).alloc (Nat.le_refl _) (.cells #[.int .i64 0, .int .i64 0, .int .i64 0, .int .i64 0] 44))).more (show w.heap.size ≤ (w.alloc (.cells #[.int .i64 0, .int .i64 0, .int .i64 0, .int .i64 0] 44)).heap.size by rw [alloc_size]; omega)
  have B1 := Bx.mk w 44 #[.int .i64 0, .int .i64 0, .int .i64 0, .int .i64 0]
  have hb0 := bNew (bStart w) (.cells #[.int .i64 0, .int .i64 0, .int .i64 0, .int .i64 0] 44)
  have t3 : decide ((16 : Int) < (s.length : Int)) = false := by simp; omega
  have hread : Kp (Pl.read p s ph = match Pl.begun (Pl.ents p ph) s with
      | some (k, x) => if (s.length : Int) < x.length then (⟨1, 0, 0, 0⟩, 0) else (⟨2, Pl.val (x.stands ++ (s.take x.length.toNat).drop k), x.code, x.length⟩, 0)
      | none => if (Pl.ents p ph).any fun e => s.isPrefixOf e.1 then (⟨1, 0, 0, 0⟩, 0) else (⟨0, 0, 0, 0⟩, 0)) := by
    constructor
    rw [Pl.read, hv, hd, h4, decide_eq_true h16]
    rfl
  have hok := fun (k : List UInt8) x (h : (Pl.ents p ph).lookup k = some x) => Pl.ents_ok hv h
  generalize hes : Pl.ents p ph = es at *
  clear hes hA hs hv h4 hph
  go_enter Tryz.func14, Tryz.ntmps14
  go_wp2_with (first
    | (go_at_call 18; refine (hV _ (by assumption)).mono ?_; rintro e w1 ⟨rfl, hb1⟩; have hA2 := (hA1.below hb1).more hb1.size)
    | (go_at_call 40; refine (hD _).mono ?_; rintro e w2 ⟨rfl, hb2⟩; have hA3 := (hA2.below hb2).more hb2.size)
    | (go_at_call 26; refine (hP _).mono ?_; rintro e w3 ⟨rfl, rfl⟩)
    | (go_at_call 41; refine (hE _ hA3).mono ?_; rintro e w4 ⟨mb, rfl, hb4, hmb, hM⟩))
  have hbb := bCall (bCall (bCall hb0 hb1) hb2) hb4
  have BR := ((B1.call hb1).call hb2).call hb4
  have hmb2 : w.heap.size < mb := by have h1 := hb1.size; have h2 := hb2.size; rw [alloc_size] at h1; omega
  clear hb0 hb1 hb2 hb4 hA1 hA2 hA3 hV hD hP hE B1 hmb t3
  have hstr : Tryz.prog.underlying 9 = some .string := Tryz.underlying9
  have hmap : Tryz.prog.underlying 73 = some (.map 9 76) := Tryz.underlying73
  go_loopw [9, 10, 11, 12, 13, 40] (fun s9 s10 s11 s12 s13 s40 wr => ∃ k : Nat, k ≤ s.length + 1 ∧ s40 = .int .i64 k ∧ Kp (∀ j, j < k → es.lookup (s.take j) = none) ∧ EntsIs es mb wr ∧ Below w.heap.size w wr ∧ Bx wr w.heap.size 44 #[.int .i64 0, .int .i64 0, .int .i64 0, .int .i64 0]) (fun _ _ _ _ _ s40 _ => s.length + 1 - (intOf s40).toNat)
  case atStart => exact ⟨0, Nat.zero_le _, rfl, ⟨fun j h => by omega⟩, hM, hbb, BR⟩
  case round =>
    clear hbb BR hM
    obtain ⟨k, hk, rfl, hno, hM, hb, BR⟩ := hrel
    by_cases hlt : k < s.length + 1
    · have t0 : decide ((k : Int) < (s.length : Int) + 1) = true := by simp; omega
      have hks : k ≤ s.length := by omega
      cases hlk : es.lookup (s.take k) with
      | none =>
        go_wp2_with (at_lookup; refine wpList_look (s := s.take k) rfl (.tmp 44) (.tmp 47) rfl hstr hmap (zeroEnt _) rfl hM rfl (by simp; unfold maxLen; omega) ?_; rw [hlk]; simp only [entZ, Option.isSome_none])
        go_roundw
        case rel => exact ⟨k + 1, by omega, by go_num, ⟨fun j hj => by
          rcases Nat.lt_or_ge j k with h | h
          · exact hno.out j h
          · obtain rfl : j = k := by omega
            exact hlk⟩, hM.below (B := wr.heap.size) ((Below.refl wr.heap.size wr).alloc (Nat.le_refl _) _) hM.lt, bNew hb _, BR.new _⟩
        case measure => simp [intOf]; omega
      | some x =>
        have hx := hok _ x hlk
        have hbeg := Pl.begun_hit hks hno.out hlk
        obtain ⟨d1, d2, d3, d4, d5, d6, d7, d8⟩ := hx
        rw [hbeg] at hread
        clear hno hok hbeg
        obtain ⟨xc, xl, xs⟩ := x
        simp only at *
        have B2 := BR.new (.cells #[.int .i64 xc, .int .i64 xl, .string ⟨xs.toArray⟩] 76)
        have E2 := Bx.mk wr 76 #[.int .i64 xc, .int .i64 xl, .string ⟨xs.toArray⟩]
        have hb2 := bNew hb (.cells #[.int .i64 xc, .int .i64 xl, .string ⟨xs.toArray⟩] 76)
        have e1 := E2.cell 1 rfl
        by_cases hm : (s.length : Int) < xl
        · rw [if_pos hm] at hread
          have R0 := B2.cell 0 rfl
          have R1 := B2.cell 1 rfl
          have R2 := B2.cell 2 rfl
          have R3 := B2.cell 3 rfl
          have S0 := B2.frozen 0
          have S1 := B2.frozen 1
          have S2 := B2.frozen 2
          have S3 := B2.frozen 3
          go_wp2_with (at_lookup; refine wpList_look (s := s.take k) rfl (.tmp 44) (.tmp 47) rfl hstr hmap (zeroEnt _) rfl hM rfl (by simp; unfold maxLen; omega) ?_; rw [hlk]; simp only [entV, Option.isSome_some])
          have E := B4 B2 (.int .i64 1) (.int .i64 0) (.int .i64 0) (.int .i64 0)
          have hb9 := b4 hb2 (.int .i64 1) (.int .i64 0) (.int .i64 0) (.int .i64 0)
          clear R0 R1 R2 R3 S0 S1 S2 S3
          generalize (((((wr.alloc _).setCell _ _).setCell _ _).setCell _ _).setCell _ _) = W at *
          have R0 := E.cell 0 rfl
          have R1 := E.cell 1 rfl
          have R2 := E.cell 2 rfl
          have R3 := E.cell 3 rfl
          refine bodyPost_ret (v := .tuple #[.agg #[.int .i64 1, .int .i64 0, .int .i64 0, .int .i64 0], .int .i64 0]) (by simp [results, Tryz.results14, go_sem, R0, R1, R2, R3]) rfl ?_
          exact ⟨by rw [hread.out]; rfl, hb9⟩
        · rw [if_neg hm] at hread
          have g0 := fun d os => (E2.again d os).cell 0 rfl
          have g1 := fun d os => (E2.again d os).cell 1 rfl
          have g2 := fun d os => (E2.again d os).cell 2 rfl
          obtain ⟨L, rfl⟩ : ∃ L : Nat, xl = L := ⟨xl.toNat, by omega⟩
          have hkL : k ≤ L := by rw [List.length_take] at d4; omega
          have hLs : L ≤ s.length := by omega
          have hkL2 : (k : Int) ≤ (L : Int) := by omega
          have hLs2 : (L : Int) ≤ (s.length : Int) := by omega
          have hsz : (xs ++ (s.drop k).take (L - k)).length ≤ 18 := by simp; omega
          have hne : xs ++ (s.drop k).take (L - k) ≠ [] := by
            intro h; have h9 := congrArg List.length h; rw [List.length_append] at h9; simp only [List.length_nil] at h9; omega
          have hdg : ∀ c ∈ xs ++ (s.drop k).take (L - k), 48 ≤ c.toNat ∧ c.toNat ≤ 57 := by
            intro c hc
            rcases List.mem_append.1 hc with h | h
            · exact Pl.digits_mem d1 c h
            · exact Pl.digits_mem hd c (List.mem_of_mem_drop (List.mem_of_mem_take h))
          have hat := fun w0 => Atoi_any (xs ++ (s.drop k).take (L - k)) _ w0 (by omega) (atoi_digits _ hdg hne hsz)
          have hcat : ¬ (9223372036854775807 < xs.length + ((s.drop k).take (L - k)).length) := by simp; omega
          have hcat2 : ¬ (9223372036854775807 < xs.length + min (L - k) (s.length - k)) := by omega
          rw [show ((L : Int).toNat) = L from rfl, List.drop_take] at hread
          go_wp2_with (at_lookup; refine wpList_look (s := s.take k) rfl (.tmp 44) (.tmp 47) rfl hstr hmap (zeroEnt _) rfl hM rfl (by simp; unfold maxLen; omega) ?_; rw [hlk]; simp only [entV, Option.isSome_some])
          refine wp_region_quiet_below (by kernel_rfl) (by kernel_rfl) ?_
          repeat (go_big_quiet_step (first | (go_at_call 36; exact Calls.regrown_of (hat _))))
          refine wpQuiet_nil ?_
          rintro _ ⟨q, rfl⟩
          have hb3 := bAgain hb2 q.d q.os
          have B3 := B2.again q.d q.os
          have E3 := E2.again q.d q.os
          clear g0 g1 g2 e1 hb2 B2 E2 hat
          generalize Sort.grow _ q.os = W2 at *
          have R0 := B3.cell 0 rfl
          have R1 := B3.cell 1 rfl
          have R2 := B3.cell 2 rfl
          have R3 := B3.cell 3 rfl
          have S0 := B3.frozen 0
          have S1 := B3.frozen 1
          have S2 := B3.frozen 2
          have S3 := B3.frozen 3
          have e0 := E3.cell 0 rfl
          have e1 := E3.cell 1 rfl
          generalize hN : numOf (xs ++ (s.drop k).take (L - k)) = N at *
          go_wp2
          have E := B4 B3 (.int .i64 2) (.int .i64 N) (.int .i64 xc) (.int .i64 L)
          have hb9 := b4 hb3 (.int .i64 2) (.int .i64 N) (.int .i64 xc) (.int .i64 L)
          clear R0 R1 R2 R3 S0 S1 S2 S3
          generalize ((((W2.setCell _ _).setCell _ _).setCell _ _).setCell _ _) = W at *
          have R0 := E.cell 0 rfl
          have R1 := E.cell 1 rfl
          have R2 := E.cell 2 rfl
          have R3 := E.cell 3 rfl
          refine bodyPost_ret (v := .tuple #[.agg #[.int .i64 2, .int .i64 N, .int .i64 xc, .int .i64 L], .int .i64 0]) (by simp [results, Tryz.results14, go_sem, R0, R1, R2, R3]) rfl ?_
          exact ⟨by rw [hread.out, ← hN]; rfl, hb9⟩
    · have t0 : decide ((k : Int) < (s.length : Int) + 1) = false := by simp; omega
      have hbeg := Pl.begun_none (es := es) (s := s) fun j hj => hno.out j (by omega)
      rw [hbeg] at hread
      simp only at hread
      clear hbeg hno hok hd
      go_wp2_with (refine wpList_range_k rfl (.tmp 78) rfl hstr hmap rfl hM ?_; intro w5 left cnt hR hleft hg5 hs5)
      have hgb : Below wr.heap.size wr w5 := below_grownBy hg5 (fun b hb => by cases hb) (Nat.le_refl _) (Below.refl _ _)
      have hb5 := bCall hb hgb
      have BR5 := BR.call hgb
      have hmr : mb < wr.heap.size := hM.lt
      have hrl5 : wr.heap.size < w5.heap.size := by omega
      clear hg5 hs5 hgb hb BR hM
      generalize wr.heap.size = r at *
      simp only [Act.put, List.setIfInBounds_toArray, List.set_cons_succ, List.set_cons_zero]
      go_loopw [14] (fun s14 wq => ∃ lf ct, RangeIs Tryz.prog 9 entV es mb r wq lf ct ∧ Kp (∀ key x, es.lookup key = some x → lf (.string key) = true ∨ s.isPrefixOf key = false) ∧ Below w.heap.size w wq ∧ Bx wq w.heap.size 44 #[.int .i64 0, .int .i64 0, .int .i64 0, .int .i64 0] ∧ r < wq.heap.size) (fun _ wq => wq.rangeLeft mb r)
      case atStart => exact ⟨left, cnt, hR, ⟨fun key x h => .inl (by rw [hleft, h]; rfl)⟩, hb5, BR5, hrl5⟩
      case round =>
        clear hb5 BR5 hR hleft hrl5
        obtain ⟨lf, ct, hR, hno, hb, BR, hrl⟩ := hrel
        have R0 := BR.cell 0 rfl
        have R1 := BR.cell 1 rfl
        have R2 := BR.cell 2 rfl
        have R3 := BR.cell 3 rfl
        have S0 := BR.frozen 0
        have S1 := BR.frozen 1
        have S2 := BR.frozen 2
        have S3 := BR.frozen 3
        go_wp2_with (first | ((refine wpList_next_k rfl (.tmp 79) rfl hstr r lf ct rfl hR (fun h0 => ?_) (fun key y w6 ct6 hl6 hx6 hR6 hlt6 hg6 hs6 hen6 => ?_)) <;> try (have BR6 := (hg6.block w.heap.size BR.lt (by intro h; injection h with h; omega)).trans BR; have T0 := Bx.cell BR6 0 rfl; have T1 := Bx.cell BR6 1 rfl; have T2 := Bx.cell BR6 2 rfl; have T3 := Bx.cell BR6 3 rfl; have U0 := Bx.frozen BR6 0; have U1 := Bx.frozen BR6 1; have U2 := Bx.frozen BR6 2; have U3 := Bx.frozen BR6 3)) | (go_at_call 29; cases hpre : s.isPrefixOf key <;> (refine (HasPrefix_any s key _).mono ?_; rintro e w7 ⟨rfl, rfl⟩; rw [hpre])))
        · have hany : (es.any fun e => s.isPrefixOf e.1) = false := by
            rw [List.any_eq_false]
            intro e he
            cases hl : es.lookup e.1 with
            | none => rw [List.lookup_eq_none_iff] at hl; have := hl e he; simp at this
            | some x =>
              rcases hno.out e.1 x hl with h | h
              · rw [h0] at h; cases h
              · simp [h]
          rw [hany] at hread
          have E := B4 BR (.int .i64 0) (.int .i64 0) (.int .i64 0) (.int .i64 0)
          have hb9 := b4 hb (.int .i64 0) (.int .i64 0) (.int .i64 0) (.int .i64 0)
          clear R0 R1 R2 R3 S0 S1 S2 S3
          generalize ((((wr.setCell _ _).setCell _ _).setCell _ _).setCell _ _) = W at *
          have R0 := E.cell 0 rfl
          have R1 := E.cell 1 rfl
          have R2 := E.cell 2 rfl
          have R3 := E.cell 3 rfl
          refine bodyPost_ret (v := .tuple #[.agg #[.int .i64 0, .int .i64 0, .int .i64 0, .int .i64 0], .int .i64 0]) (by simp [results, Tryz.results14, go_sem, R0, R1, R2, R3]) rfl ?_
          exact ⟨by rw [hread.out]; rfl, hb9⟩
        · have hb6 := below_grownBy hg6 (fun b hb => by cases hb; omega) hb.size hb
          obtain ⟨D1, hD1, _⟩ := id hR
          obtain ⟨D2, hD2, _⟩ := id hR6
          refine ⟨⟨_, ct6, hR6, ⟨fun key' x h => ?_⟩, hb6, BR6, by omega⟩, by rw [hD1.left_eq, hD2.left_eq]; exact hlt6⟩
          by_cases hkk : key' = key
          · subst hkk; exact .inr hpre
          · rcases hno.out key' x h with h9 | h9
            · left; simp [h9, Lit.sameKey, hkk]
            · exact .inr h9
        · have hany : (es.any fun e => s.isPrefixOf e.1) = true := by
            rw [List.any_eq_true]
            exact ⟨_, Pl.lookup_mem _ _ _ hx6, hpre⟩
          rw [hany] at hread
          have hb6 := below_grownBy hg6 (fun b hb => by cases hb; omega) hb.size hb
          have E := B4 BR6 (.int .i64 1) (.int .i64 0) (.int .i64 0) (.int .i64 0)
          have hb9 := b4 hb6 (.int .i64 1) (.int .i64 0) (.int .i64 0) (.int .i64 0)
          clear R0 R1 R2 R3 S0 S1 S2 S3 T0 T1 T2 T3 U0 U1 U2 U3
          generalize ((((w6.setCell _ _).setCell _ _).setCell _ _).setCell _ _) = W at *
          have R0 := E.cell 0 rfl
          have R1 := E.cell 1 rfl
          have R2 := E.cell 2 rfl
          have R3 := E.cell 3 rfl
          refine bodyPost_ret (v := .tuple #[.agg #[.int .i64 1, .int .i64 0, .int .i64 0, .int .i64 0], .int .i64 0]) (by simp [results, Tryz.results14, go_sem, R0, R1, R2, R3]) rfl ?_
          exact ⟨by rw [hread.out]; rfl, hb9⟩
end Go.Proofs.YtpifllonlchhhaaGreatDoor
namespace Go.Proofs.YtpifllonlchhhaaGreatDoor
set_option linter.unusedVariables false
set_option linter.unusedSimpArgs false
open Go.RowKit
theorem read_any (p : List Pl.Cd) (A : Option Addr) (cap : Nat) (s : List UInt8) (ph : Int) (w : World) (hA : At 3 codeC w w.heap.size A p) (hn : p.length ≤ cap) (hl : p.length ≤ 1000) (hs : ∀ c ∈ p, c.old.length ≤ 1000 ∧ c.new.length ≤ 1000) (hsl : s.length ≤ 1000) :
    Calls Tryz.prog 14 #[.slice A p.length cap, .string ⟨s.toArray⟩, .int .i64 ph] w fun e w' => e = .returned (readV (Pl.read p s ph)) ∧ Below w.heap.size w w' := by
  cases h1 : Pl.valid p with
  | false => exact read_bad p A cap s ph w hA hn hl hs hsl (.inl h1)
  | true =>
    cases h2 : Pl.digits s with
    | false => exact read_bad p A cap s ph w hA hn hl hs hsl (.inr (.inl ⟨h1, h2⟩))
    | true =>
      by_cases h3 : s.length ≤ 16
      · cases h4 : Pl.isPhase ph with
        | false => exact read_bad p A cap s ph w hA hn hl hs hsl (.inr (.inr (.inr ⟨h1, h2, h3, h4⟩)))
        | true => exact read_good p A cap s ph w hA hn hl hs h1 h2 h3 h4
      · exact read_bad p A cap s ph w hA hn hl hs hsl (.inr (.inr (.inl ⟨h1, h2, by omega⟩)))
set_option maxRecDepth 100000 in
set_option maxHeartbeats 2000000 in
theorem sameIn_any (p : List Pl.Cd) (A : Option Addr) (cap : Nat) (s : List UInt8) (g : Nat) (w : World) (hA : At 3 codeC w w.heap.size A p) (hB : Bx w g 24 #[.slice A p.length cap]) (hn : p.length ≤ cap) (hl : p.length ≤ 1000) (hs : ∀ c ∈ p, c.old.length ≤ 1000 ∧ c.new.length ≤ 1000) (hsl : s.length ≤ 1000) :
    Calls Tryz.prog 44 #[.string ⟨s.toArray⟩, .pointer (some ⟨g, 0, none⟩)] w fun e w' => e = .returned (.tuple #[.int .i64 (Pl.reads p s).1, .bool (Pl.reads p s).2]) ∧ Below w.heap.size w w' := by
  have c0 := hB.cell 0 rfl
  have hR := fun w0 (h0 : At 3 codeC w0 w0.heap.size A p) => read_any p A cap s 2 w0 h0 hn hl hs hsl
  have hrd : Kp (Pl.reads p s = ((Pl.read p s 2).1.number, (Pl.read p s 2).2 == 0 && (Pl.read p s 2).1.kind == 2 && (Pl.read p s 2).1.used == s.length)) := ⟨rfl⟩
  generalize Pl.read p s 2 = r at *
  obtain ⟨⟨k, n, c, u⟩, e⟩ := r
  simp only [readV] at hR
  simp only at hrd
  rcases (show e ≠ 0 ∨ (e = 0 ∧ k ≠ 2) ∨ (e = 0 ∧ k = 2 ∧ u ≠ s.length) ∨ (e = 0 ∧ k = 2 ∧ u = s.length) by omega) with he | ⟨rfl, hk⟩ | ⟨rfl, rfl, hu⟩ | ⟨rfl, rfl, rfl⟩
  · have hfin : Kp (Pl.reads p s = (n, false)) := ⟨by rw [hrd.out]; simp [he]⟩
    have t1 : (e == 0) = false := by simp [he]
    clear hs hrd
    go_enter Tryz.func44, Tryz.ntmps44
    go_wp2_with (go_at_call 14; refine (hR _ (by assumption)).mono ?_; rintro e w1 ⟨rfl, hb1⟩)
    have B1 := (Bx.mk w1 44 #[.int .i64 k, .int .i64 n, .int .i64 c, .int .i64 u])
    have b1 := bNew hb1 (.cells #[.int .i64 k, .int .i64 n, .int .i64 c, .int .i64 u] 44)
    have g0 := fun d os => (B1.again d os).cell 0 rfl
    have g1 := fun d os => (B1.again d os).cell 1 rfl
    have g3 := fun d os => (B1.again d os).cell 3 rfl
    clear hR hb1 hA hB c0
    refine wp_region_quiet_below (by kernel_rfl) (by kernel_rfl) ?_
    repeat (go_big_quiet_step (fail))
    refine wpQuiet_nil ?_
    rintro _ ⟨q, rfl⟩
    go_wp2
    go_ret2
    exact ⟨by rw [hfin.out]; rfl, bAgain b1 q.d q.os⟩
  · have hfin : Kp (Pl.reads p s = (n, false)) := ⟨by rw [hrd.out]; simp [hk]⟩
    have t1 : (k == 2) = false := by simp [hk]
    clear hs hrd
    go_enter Tryz.func44, Tryz.ntmps44
    go_wp2_with (go_at_call 14; refine (hR _ (by assumption)).mono ?_; rintro e w1 ⟨rfl, hb1⟩)
    have B1 := (Bx.mk w1 44 #[.int .i64 k, .int .i64 n, .int .i64 c, .int .i64 u])
    have b1 := bNew hb1 (.cells #[.int .i64 k, .int .i64 n, .int .i64 c, .int .i64 u] 44)
    have g0 := fun d os => (B1.again d os).cell 0 rfl
    have g1 := fun d os => (B1.again d os).cell 1 rfl
    have g3 := fun d os => (B1.again d os).cell 3 rfl
    clear hR hb1 hA hB c0
    refine wp_region_quiet_below (by kernel_rfl) (by kernel_rfl) ?_
    repeat (go_big_quiet_step (fail))
    refine wpQuiet_nil ?_
    rintro _ ⟨q, rfl⟩
    go_wp2
    go_ret2
    exact ⟨by rw [hfin.out]; rfl, bAgain b1 q.d q.os⟩
  · have hfin : Kp (Pl.reads p s = (n, false)) := ⟨by rw [hrd.out]; simp [hu]⟩
    have t1 : (u == (s.length : Int)) = false := by simp [hu]
    clear hs hrd
    go_enter Tryz.func44, Tryz.ntmps44
    go_wp2_with (go_at_call 14; refine (hR _ (by assumption)).mono ?_; rintro e w1 ⟨rfl, hb1⟩)
    have B1 := (Bx.mk w1 44 #[.int .i64 2, .int .i64 n, .int .i64 c, .int .i64 u])
    have b1 := bNew hb1 (.cells #[.int .i64 2, .int .i64 n, .int .i64 c, .int .i64 u] 44)
    have g0 := fun d os => (B1.again d os).cell 0 rfl
    have g1 := fun d os => (B1.again d os).cell 1 rfl
    have g3 := fun d os => (B1.again d os).cell 3 rfl
    clear hR hb1 hA hB c0
    refine wp_region_quiet_below (by kernel_rfl) (by kernel_rfl) ?_
    repeat (go_big_quiet_step (fail))
    refine wpQuiet_nil ?_
    rintro _ ⟨q, rfl⟩
    go_wp2
    go_ret2
    exact ⟨by rw [hfin.out]; rfl, bAgain b1 q.d q.os⟩
  · have hfin : Kp (Pl.reads p s = (n, true)) := ⟨by rw [hrd.out]; simp⟩
    clear hs hrd
    go_enter Tryz.func44, Tryz.ntmps44
    go_wp2_with (go_at_call 14; refine (hR _ (by assumption)).mono ?_; rintro e w1 ⟨rfl, hb1⟩)
    have B1 := (Bx.mk w1 44 #[.int .i64 2, .int .i64 n, .int .i64 c, .int .i64 s.length])
    have b1 := bNew hb1 (.cells #[.int .i64 2, .int .i64 n, .int .i64 c, .int .i64 s.length] 44)
    have g0 := fun d os => (B1.again d os).cell 0 rfl
    have g1 := fun d os => (B1.again d os).cell 1 rfl
    have g3 := fun d os => (B1.again d os).cell 3 rfl
    clear hR hb1 hA hB c0
    refine wp_region_quiet_below (by kernel_rfl) (by kernel_rfl) ?_
    repeat (go_big_quiet_step (fail))
    refine wpQuiet_nil ?_
    rintro _ ⟨q, rfl⟩
    go_wp2
    go_ret2
    exact ⟨by rw [hfin.out]; rfl, bAgain b1 q.d q.os⟩
set_option maxRecDepth 100000 in
set_option maxHeartbeats 2000000 in
theorem same_any (p : List Pl.Cd) (A : Option Addr) (cap : Nat) (s t : List UInt8) (w : World) (hA : At 3 codeC w w.heap.size A p) (hn : p.length ≤ cap) (hl : p.length ≤ 1000) (hs : ∀ c ∈ p, c.old.length ≤ 1000 ∧ c.new.length ≤ 1000) (hsl : s.length ≤ 1000) (htl : t.length ≤ 1000) :
    Calls Tryz.prog 16 #[.slice A p.length cap, .string ⟨s.toArray⟩, .string ⟨t.toArray⟩] w fun e w' => e = .returned (.bool (Pl.same p s t)) ∧ Below w.heap.size w w' := by
  have hA1 := (hA.below ((Below.refl w.heap.size w).alloc (Nat.le_refl _) (.cells #[.slice A p.length cap] 24))).more (show w.heap.size ≤ (w.alloc (.cells #[.slice A p.length cap] 24)).heap.size by rw [alloc_size]; omega)
  have B1 := Bx.mk w 24 #[.slice A p.length cap]
  have b1 := bNew (bStart w) (.cells #[.slice A p.length cap] 24)
  have hC := fun w0 (h0 : At 3 codeC w0 w0.heap.size A p) (h1 : Bx w0 w.heap.size 24 #[.slice A p.length cap]) => sameIn_any p A cap s w.heap.size w0 h0 h1 hn hl hs hsl
  have hD := fun w0 (h0 : At 3 codeC w0 w0.heap.size A p) (h1 : Bx w0 w.heap.size 24 #[.slice A p.length cap]) => sameIn_any p A cap t w.heap.size w0 h0 h1 hn hl hs htl
  have hsm : Kp (Pl.same p s t = ((Pl.reads p s).2 && (Pl.reads p t).2 && (Pl.reads p s).1 == (Pl.reads p t).1)) := ⟨rfl⟩
  generalize Pl.reads p s = r at *
  generalize Pl.reads p t = q at *
  obtain ⟨m, x⟩ := r
  obtain ⟨n, y⟩ := q
  simp only at hC hD hsm
  clear hA hs
  rcases (show x = false ∨ (x = true ∧ y = false) ∨ (x = true ∧ y = true ∧ m = n) ∨ (x = true ∧ y = true ∧ m ≠ n) by cases x <;> cases y <;> simp <;> omega) with rfl | ⟨rfl, rfl⟩ | ⟨rfl, rfl, rfl⟩ | ⟨rfl, rfl, hm⟩
  · have hsm : Kp (Pl.same p s t = false) := ⟨by rw [hsm.out]; simp⟩
    go_enter Tryz.func16, Tryz.ntmps16
    go_wp2_with (go_at_call 44; first
      | (refine (hC _ (by assumption) (by assumption)).mono ?_; rintro e w1 ⟨rfl, hb1⟩; have hA2 := (hA1.below hb1).more hb1.size; have B2 := B1.call hb1; clear hC)
      | (refine (hD _ (by assumption) (by assumption)).mono ?_; rintro e w2 ⟨rfl, hb2⟩))
    go_ret
    exact ⟨ret_bool (by rw [hsm.out]), bCall (bCall b1 hb1) hb2⟩
  · have hsm : Kp (Pl.same p s t = false) := ⟨by rw [hsm.out]; simp⟩
    go_enter Tryz.func16, Tryz.ntmps16
    go_wp2_with (go_at_call 44; first
      | (refine (hC _ (by assumption) (by assumption)).mono ?_; rintro e w1 ⟨rfl, hb1⟩; have hA2 := (hA1.below hb1).more hb1.size; have B2 := B1.call hb1; clear hC)
      | (refine (hD _ (by assumption) (by assumption)).mono ?_; rintro e w2 ⟨rfl, hb2⟩))
    go_ret
    exact ⟨ret_bool (by rw [hsm.out]), bCall (bCall b1 hb1) hb2⟩
  · have hsm : Kp (Pl.same p s t = true) := ⟨by rw [hsm.out]; simp⟩
    go_enter Tryz.func16, Tryz.ntmps16
    go_wp2_with (go_at_call 44; first
      | (refine (hC _ (by assumption) (by assumption)).mono ?_; rintro e w1 ⟨rfl, hb1⟩; have hA2 := (hA1.below hb1).more hb1.size; have B2 := B1.call hb1; clear hC)
      | (refine (hD _ (by assumption) (by assumption)).mono ?_; rintro e w2 ⟨rfl, hb2⟩))
    go_ret
    exact ⟨ret_bool (by rw [hsm.out]), bCall (bCall b1 hb1) hb2⟩
  · have hsm : Kp (Pl.same p s t = false) := ⟨by rw [hsm.out]; simp [hm]⟩
    have t1 : (m == n) = false := by simp [hm]
    go_enter Tryz.func16, Tryz.ntmps16
    go_wp2_with (go_at_call 44; first
      | (refine (hC _ (by assumption) (by assumption)).mono ?_; rintro e w1 ⟨rfl, hb1⟩; have hA2 := (hA1.below hb1).more hb1.size; have B2 := B1.call hb1; clear hC)
      | (refine (hD _ (by assumption) (by assumption)).mono ?_; rintro e w2 ⟨rfl, hb2⟩))
    go_ret
    exact ⟨ret_bool (by rw [hsm.out]), bCall (bCall b1 hb1) hb2⟩
end Go.Proofs.YtpifllonlchhhaaGreatDoor
