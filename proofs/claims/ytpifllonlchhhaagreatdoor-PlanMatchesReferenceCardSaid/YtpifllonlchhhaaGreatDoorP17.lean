/- What PlanMatchesReference calls, in the law's words. -/
import Derived.Test.YtpifllonlchhhaaGreatDoorP13
import Derived.Test.YtpifllonlchhhaaGreatDoorP15
import Derived.Test.YtpifllonlchhhaaGreatDoorP16
namespace Go.Proofs.YtpifllonlchhhaaGreatDoor
set_option linter.unusedVariables false
set_option linter.unusedSimpArgs false
open Go.RowKit
theorem BeV.call {v : Value} {W W' : World} (h : BeV v W) (hb : Below W.heap.size W W') : BeV v W' := by
  obtain ⟨q, ⟨A, c, e, h1, h2, h3⟩, h4, h5⟩ := h
  exact ⟨q, ⟨A, c, e, h1.call hb, h2, h3⟩, h4, h5⟩
theorem BeV.sw {w W : World} {v : Value} (hb : Below w.heap.size w W) (hE : Env W) (h : BeV v W) : ∃ A c q, v = .slice A q.length c ∧ Sw w W A c q := by
  obtain ⟨q, ⟨A, c, e, h1, h2, h3⟩, h4, h5⟩ := h
  exact ⟨A, c, q, e, hb, h1, hE, h5, by omega, h2, h3⟩
section
variable {w W : World} {A : Option Addr} {cap : Nat} {p : List Pl.Cd}
theorem x_range (st : Sw w W A cap p) {i ph : Int} {r : Int × Int × Int} (h : Kp (Pl.range p i ph = r)) :
    Calls Tryz.prog 13 #[.slice A p.length cap, .int .i64 i, .int .i64 ph] W fun e w' => e = .returned (.tuple #[.agg #[.int .i64 r.1, .int .i64 r.2.1], .int .i64 r.2.2]) ∧ Below W.heap.size W w' := by
  have := refRange_any p A cap i ph W st.hA st.hc st.hs st.hl
  rw [h.out] at this
  exact this
theorem x_read (st : Sw w W A cap p) {s : List UInt8} {ph : Int} {r : Pl.Dialled × Int} (hs : s.length ≤ 1000) (h : Kp (Pl.read p s ph = r)) :
    Calls Tryz.prog 15 #[.slice A p.length cap, .string ⟨s.toArray⟩, .int .i64 ph] W fun e w' => e = .returned (.tuple #[.agg #[.int .i64 r.1.kind, .int .i64 r.1.number, .int .i64 r.1.code, .int .i64 r.1.used], .int .i64 r.2]) ∧ Below W.heap.size W w' := by
  have := rRead_any p A cap s ph W st.hA st.hc st.hs (by omega)
  rw [h.out] at this
  exact this
theorem x_same (st : Sw w W A cap p) {s t : List UInt8} {b : Bool} (hs : s.length ≤ 1000) (ht : t.length ≤ 1000) (h : Kp (Pl.same p s t = b)) :
    Calls Tryz.prog 17 #[.slice A p.length cap, .string ⟨s.toArray⟩, .string ⟨t.toArray⟩] W fun e w' => e = .returned (.bool b) ∧ Below W.heap.size W w' := by
  have := rSame_any p A cap s t W st.hA st.hc st.hs (by omega) (by omega)
  rw [h.out] at this
  exact this
theorem x_valid (st : Sw w W A cap p) {b : Bool} (h : Kp (Pl.valid p = b)) :
    Calls Tryz.prog 19 #[.slice A p.length cap] W fun e w' => e = .returned (.bool b) ∧ Below W.heap.size W w' := by
  have := refValid_any p A cap W st.hA st.hc st.hs
  rw [h.out] at this
  exact this
end
theorem write_len (p : List Pl.Cd) (n ph : Int) : (Pl.write p n ph).1.length ≤ 8 := by
  by_cases h : Pl.valid p = true ∧ Pl.isPhase ph = true ∧ Pl.within n 0 99999999 = true
  · obtain ⟨h1, h2, h3⟩ := h
    obtain ⟨n0, n1⟩ := within_true h3
    exact (Pl.write_digits h1 h2 n0 n1).2.1
  · unfold Pl.write
    rw [if_pos]
    · simp
    · cases h1 : Pl.valid p <;> cases h2 : Pl.isPhase ph <;> cases h3 : Pl.within n 0 99999999 <;> simp_all
def strC (s : List UInt8) : List Value := [.string ⟨s.toArray⟩]
theorem strC_one (s : List UInt8) : ∀ u ∈ strC s, u.oneCell' = true := fun u hu => by
  simp only [strC, List.mem_singleton] at hu
  subst hu; rfl
theorem strI : ∃ i z, Tryz.prog.info? 9 = some i ∧ i.zero = some z ∧ i.size = 1 ∧ z.cells.size = 1 ∧ i.bytes = 16 := by
  have h : (Tryz.prog.info? 9).map (fun i => (i.size, i.bytes, i.zero.map (·.cells.size))) = some (1, 16, some 1) := by kernel_rfl
  cases hi : Tryz.prog.info? 9 with
  | none => rw [hi] at h; cases h
  | some i =>
    rw [hi] at h
    simp only [Option.map_some, Option.some.injEq, Prod.mk.injEq] at h
    obtain ⟨h1, h2, h3⟩ := h
    cases hz : i.zero with
    | none => rw [hz] at h3; cases h3
    | some z => rw [hz] at h3; simp only [Option.map_some, Option.some.injEq] at h3; exact ⟨i, z, rfl, hz, h1, h3, h2⟩
/-- an own row of n short strings -/
def TxV (B n : Nat) (v : Value) (W : World) : Prop := ∃ zs : List (List UInt8), zs.length = n ∧ (∀ z ∈ zs, z.length ≤ 100) ∧ RowZ 9 1 B n (zs.flatMap strC) v W
theorem TxV.call {B n : Nat} {v : Value} {W W' : World} (h : TxV B n v W) (hb : Below W.heap.size W W') : TxV B n v W' := by
  obtain ⟨zs, h1, h2, h3⟩ := h
  exact ⟨zs, h1, h2, stab_rowZ _ _ _ _ _ _ _ _ h3 hb⟩
theorem TxV.at {B n : Nat} {v : Value} {W : World} (h : TxV B n v W) : ∃ zs A c, v = .slice A n c ∧ zs.length = n ∧ (∀ z ∈ zs, z.length ≤ 100) ∧ At 1 strC W W.heap.size A zs ∧ n ≤ c ∧ c ≤ maxLen := by
  obtain ⟨zs, rfl, h2, h3⟩ := h
  obtain ⟨A, c, e1, e2, e3, e4⟩ := RowZ.at (p := zs) (f := strC) (fun _ => rfl) h3
  exact ⟨zs, A, c, e1, rfl, h2, e2, e3, e4⟩
end Go.Proofs.YtpifllonlchhhaaGreatDoor
