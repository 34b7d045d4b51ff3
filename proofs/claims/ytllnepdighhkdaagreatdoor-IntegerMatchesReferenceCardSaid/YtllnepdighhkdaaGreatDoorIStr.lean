/- isValid of package integer. -/
import Derived.Test.YtllnepdighhkdaaGreatDoorLibC
import Derived.Test.YtllnepdighhkdaaGreatDoorMP
import Derived.Test.YtllnepdighhkdaaGreatDoorMK
namespace Go.Proofs.YtllnepdighhkdaaGreatDoor
set_option linter.unusedVariables false
set_option linter.unusedSimpArgs false
open Go.RowKit
def I64 (x : Int) : Prop := -9223372036854775808 ≤ x ∧ x ≤ 9223372036854775807
theorem alloc_size (w : World) (o : Obj) : (w.alloc o).heap.size = w.heap.size + 1 := by
  show (w.heap.push o).size = _
  simp
def intC (c : Int) : List Value := [.int .i64 c]
theorem intI : ∃ i z, Tryz.prog.info? 3 = some i ∧ i.zero = some z ∧ i.size = 1 ∧ z.cells.size = 1 ∧ i.bytes = 8 := by
  have h : (Tryz.prog.info? 3).map (fun i => (i.size, i.bytes, i.zero.map (·.cells.size))) = some (1, 8, some 1) := by kernel_rfl
  cases hi : Tryz.prog.info? 3 with
  | none => rw [hi] at h; cases h
  | some i =>
    rw [hi] at h
    simp only [Option.map_some, Option.some.injEq, Prod.mk.injEq] at h
    obtain ⟨h1, h2, h3⟩ := h
    cases hz : i.zero with
    | none => rw [hz] at h3; cases h3
    | some z => rw [hz] at h3; exact ⟨i, z, rfl, hz, h1, by simpa using h3, h2⟩
theorem bNewW (W : World) (o : Obj) : Below W.heap.size W (W.alloc o) := (Below.refl W.heap.size W).alloc (Nat.le_refl _) o
theorem exK {α : Type} (a : α) : ∃ b, Kp (a = b) := ⟨a, ⟨rfl⟩⟩
theorem calls_b {P : Program} {f : FuncId} {args : Array Value} {w : World} {v : Value} (h : Calls P f args w fun e w' => e = .returned v ∧ w = w') : Calls P f args w fun e w' => e = .returned v ∧ Below w.heap.size w w' := calls_below h
theorem TrimPrefix_any (s : List UInt8) (w : World) : Calls Tryz.prog 163 #[.string ⟨s.toArray⟩, .string ⟨#[45]⟩] w fun e w' => e = .returned (.string ⟨(Ig.unsg s).toArray⟩) ∧ w = w' :=
  (Tryz.strings_TrimPrefix ⟨s.toArray⟩ ⟨#[45]⟩ w).mono fun e w' ⟨h1, h2⟩ => ⟨by
    rw [h1]
    have : Lib.trimPrefix s [45] = Ig.unsg s := by
      unfold Lib.trimPrefix Ig.unsg
      rfl
    simp only [this], h2.symm⟩
def tenD : List UInt8 := [48, 49, 50, 51, 52, 53, 54, 55, 56, 57]
theorem mem_ten (b : UInt8) : b ∈ tenD ↔ Ig.isD b = true := by
  have : ∀ b : Fin 256, (UInt8.ofNat b.val) ∈ tenD ↔ Ig.isD (UInt8.ofNat b.val) = true := by decide +kernel
  have h := this ⟨b.toNat, b.toNat_lt⟩
  simpa using h
theorem digits_trim (s : List UInt8) : (Lib.trimS s tenD).isEmpty = s.all Ig.isD := by
  rw [Bool.eq_iff_iff, List.isEmpty_iff, trim_digits]
  simp only [List.all_eq_true, mem_ten]
set_option maxRecDepth 100000 in
set_option maxHeartbeats 1000000 in
theorem isValid_any (s : List UInt8) (hs : s.length ≤ 1000000) (w : World) :
    Calls Tryz.prog 104 #[.string ⟨s.toArray⟩] w fun e w' => e = .returned (.bool (Ig.validS s)) ∧ Below w.heap.size w w' := by
  have hT := fun w0 => TrimPrefix_any s w0
  have hul : (Ig.unsg s).length ≤ 1000000 := by
    unfold Ig.unsg
    split
    · rw [List.length_drop]; omega
    · omega
  have hD := fun w0 => Trim_any (Ig.unsg s) tenD w0 hul (by decide) (by decide)
  have hdt := digits_trim (Ig.unsg s)
  have hdef : Kp (Ig.validS s = (!(Ig.unsg s).isEmpty && decide ((Ig.unsg s).length ≤ 200) && (Ig.unsg s).all Ig.isD && (s == [48] || !((Ig.unsg s).head? == some 48)))) := ⟨rfl⟩
  generalize Ig.unsg s = d at *
  by_cases h0 : d = []
  · subst h0
    have hfin : Kp (Ig.validS s = false) := ⟨by rw [hdef.out]; rfl⟩
    clear hdt hdef hD
    go_enter Tryz.func104, Tryz.ntmps104
    go_wp2_with (go_at_call 163; refine (hT _).mono ?_; rintro _ _ ⟨rfl, rfl⟩)
    go_ret
    exact ⟨ret_bool hfin.out.symm, Below.refl _ _⟩
  · have e0 : d.isEmpty = false := by simpa using h0
    by_cases hl : d.length ≤ 200
    · have t1 : decide ((d.length : Int) > 200) = false := by simp; omega
      cases hdd : d.all Ig.isD
      · have hfin : Kp (Ig.validS s = false) := ⟨by rw [hdef.out, hdd]; simp⟩
        rw [hdd] at hdt
        clear hdef h0 hdd
        go_enter Tryz.func104, Tryz.ntmps104
        go_wp2_with (first
          | (go_at_call 163; refine (hT _).mono ?_; rintro _ _ ⟨rfl, rfl⟩)
          | (go_at_call 128; refine (hD _).mono ?_; rintro _ w1 ⟨rfl, hb⟩))
        go_ret
        exact ⟨ret_bool hfin.out.symm, hb⟩
      · rw [hdd] at hdt
        by_cases hz : s = [48]
        · have hfin : Kp (Ig.validS s = true) := ⟨by rw [hdef.out, hdd, e0, decide_eq_true hl, hz]; rfl⟩
          subst hz
          clear hdef h0 hdd
          go_enter Tryz.func104, Tryz.ntmps104
          go_wp2_with (first
            | (go_at_call 163; refine (hT _).mono ?_; rintro _ _ ⟨rfl, rfl⟩)
            | (go_at_call 128; refine (hD _).mono ?_; rintro _ w1 ⟨rfl, hb⟩))
          go_ret
          exact ⟨ret_bool hfin.out.symm, hb⟩
        · have hpos : 0 < d.length := by
            cases d with
            | nil => exact absurd rfl h0
            | cons a l => simp
          have hhd : d.head? = some d[0] := by
            cases d with
            | nil => exact absurd rfl h0
            | cons a l => rfl
          have hzb : (s == [48]) = false := by simpa using hz
          by_cases hc : d[0] = 48
          · have hfin : Kp (Ig.validS s = false) := ⟨by rw [hdef.out, hdd, e0, hhd, hc, hzb]; simp⟩
            have t2 : (((d[0].toNat : Nat) : Int) != 48) = false := by rw [hc]; rfl
            clear hdef h0 hdd hhd hc
            go_enter Tryz.func104, Tryz.ntmps104
            go_wp2_with (first
              | (go_at_call 163; refine (hT _).mono ?_; rintro _ _ ⟨rfl, rfl⟩)
              | (go_at_call 128; refine (hD _).mono ?_; rintro _ w1 ⟨rfl, hb⟩))
            go_ret
            exact ⟨ret_bool hfin.out.symm, hb⟩
          · have hfin : Kp (Ig.validS s = true) := ⟨by rw [hdef.out, hdd, e0, hhd, hzb, decide_eq_true hl]; simp [hc]⟩
            have hne : ¬ d[0].toNat = 48 := fun h => hc (by apply UInt8.toNat_inj.1; exact h)
            have t2 : (((d[0].toNat : Nat) : Int) != 48) = true := by simp; omega
            clear hdef h0 hdd hhd hc
            go_enter Tryz.func104, Tryz.ntmps104
            go_wp2_with (first
              | (go_at_call 163; refine (hT _).mono ?_; rintro _ _ ⟨rfl, rfl⟩)
              | (go_at_call 128; refine (hD _).mono ?_; rintro _ w1 ⟨rfl, hb⟩))
            go_ret
            exact ⟨ret_bool hfin.out.symm, hb⟩
    · have t1 : decide ((d.length : Int) > 200) = true := by simp; omega
      have hfin : Kp (Ig.validS s = false) := ⟨by rw [hdef.out, decide_eq_false hl]; simp⟩
      clear hdt hdef hD h0
      go_enter Tryz.func104, Tryz.ntmps104
      go_wp2_with (go_at_call 163; refine (hT _).mono ?_; rintro _ _ ⟨rfl, rfl⟩)
      go_ret
      exact ⟨ret_bool hfin.out.symm, Below.refl _ _⟩
end Go.Proofs.YtllnepdighhkdaaGreatDoor
