/- sane of package dialtonelaw12: it returns true. -/
import Derived.Test.YtppdcjbnijbcdaaGreatDoorSane
import Derived.Test.YtppdcjbnijbcdaaGreatDoorWrite
namespace Go.Proofs.YtppdcjbnijbcdaaGreatDoor
set_option linter.unusedVariables false
set_option linter.unusedSimpArgs false
open Go.RowKit
/-- what a walk carries along: from the beginning's world to the present one -/
structure St (w W : World) (A : Option Addr) (p : List Pl.Cd) : Prop where
  hb : Below w.heap.size w W
  hA : At 3 codeC W W.heap.size A p
  hE : Env W
theorem St.call {w W W' : World} {A : Option Addr} {p : List Pl.Cd} (h : St w W A p) (hb : Below W.heap.size W W') : St w W' A p := ⟨bCall h.hb hb, (h.hA.below hb).more hb.size, h.hE.below hb⟩
theorem St.new {w W : World} {A : Option Addr} {p : List Pl.Cd} (h : St w W A p) (o : Obj) : St w (W.alloc o) A p := h.call ((Below.refl W.heap.size W).alloc (Nat.le_refl _) o)
theorem ex_write (n ph : Int) (r : List UInt8 × Int) (h : Pl.write Pl.ex n ph = r) {w W : World} {A : Option Addr} (st : St w W A Pl.ex) :
    Calls Tryz.prog 17 #[.slice A 2 2, .int .i64 n, .int .i64 ph] W fun e w' => e = .returned (.tuple #[.string ⟨r.1.toArray⟩, .int .i64 r.2]) ∧ Below W.heap.size W w' := by
  have := write_any Pl.ex A 2 n ph W st.hA (by decide) (by decide) ex_small st.hE
  rw [h] at this
  exact this
theorem ex_range (n ph : Int) (r : Int × Int × Int) (h : Pl.range Pl.ex n ph = r) {w W : World} {A : Option Addr} (st : St w W A Pl.ex) :
    Calls Tryz.prog 19 #[.slice A 2 2, .int .i64 n, .int .i64 ph] W fun e w' => e = .returned (.tuple #[.agg #[.int .i64 r.1, .int .i64 r.2.1], .int .i64 r.2.2]) ∧ Below W.heap.size W w' := by
  have := range_any Pl.ex A 2 n ph W st.hA (by decide) (by decide) ex_small
  rw [h] at this
  exact this
theorem ex_same (s t : List UInt8) (b : Bool) (h : Pl.same Pl.ex s t = b) (hs : s.length ≤ 1000) (ht : t.length ≤ 1000) {w W : World} {A : Option Addr} (st : St w W A Pl.ex) :
    Calls Tryz.prog 23 #[.slice A 2 2, .string ⟨s.toArray⟩, .string ⟨t.toArray⟩] W fun e w' => e = .returned (.bool b) ∧ Below W.heap.size W w' := by
  have := same_any Pl.ex A 2 s t W st.hA (by decide) (by decide) ex_small hs ht
  rw [h] at this
  exact this
theorem ex_valid {w W : World} {A : Option Addr} (st : St w W A Pl.ex) :
    Calls Tryz.prog 25 #[.slice A 2 2] W fun e w' => e = .returned (.bool true) ∧ Below W.heap.size W w' :=
  valid_any Pl.ex A 2 W st.hA (by decide) (by decide) ex_small
theorem bad_valid (w : World) :
    Calls Tryz.prog 25 #[.slice (some ⟨w.heap.size, 0, none⟩) 1 1] (w.alloc (.cells #[.string ⟨#[50]⟩, .string ⟨#[50, 49]⟩, .int .i64 4] 29)) fun e w' => e = .returned (.bool false) ∧ Below (w.alloc (.cells #[.string ⟨#[50]⟩, .string ⟨#[50, 49]⟩, .int .i64 4] 29)).heap.size (w.alloc (.cells #[.string ⟨#[50]⟩, .string ⟨#[50, 49]⟩, .int .i64 4] 29)) w' := by
  have B := Bx.mk w 29 #[.string ⟨#[50]⟩, .string ⟨#[50, 49]⟩, .int .i64 4]
  refine valid_any [⟨[50], [50, 49], 4⟩] _ 1 _ (fun _ => ⟨w.heap.size, 0, rfl, by rw [alloc_size]; omega, ?_⟩) (by decide) (by decide) (fun c hc => by rw [List.mem_singleton] at hc; subst hc; simp)
  intro i c hi j u hj
  rcases i with _ | i
  · simp only [List.getElem?_cons_zero, Option.some.injEq] at hi
    subst hi
    rcases j with _ | _ | _ | j
    · simp only [codeC, List.getElem?_cons_zero, Option.some.injEq] at hj; subst hj; exact B.cell 0 rfl
    · simp only [codeC, List.getElem?_cons_succ, List.getElem?_cons_zero, Option.some.injEq] at hj; subst hj; exact B.cell 1 rfl
    · simp only [codeC, List.getElem?_cons_succ, List.getElem?_cons_zero, Option.some.injEq] at hj; subst hj; exact B.cell 2 rfl
    · simp [codeC] at hj
  · simp at hi
set_option maxRecDepth 100000 in
set_option maxHeartbeats 8000000 in
theorem sane_any (w : World) (hE : Env w) : Calls Tryz.prog 11 #[] w fun e w' => e = .returned (.bool true) ∧ Below w.heap.size w w' := by
  go_enter Tryz.func11, Tryz.ntmps11
  go_wp2_with fail
  refine (example_any w).mono ?_
  rintro _ w0 ⟨A, rfl, hb, hA⟩
  have st : St w w0 A Pl.ex := ⟨hb, hA, hE.below hb⟩
  clear hb hA hE
  go_wp2_with fail
  refine (ex_write 82001234 1 ([50, 49, 50, 51, 52], 0) (by kernel_rfl) st).mono ?_
  rintro _ w1 ⟨rfl, hb⟩
  replace st := st.call hb
  clear hb
  go_wp2_with fail
  refine (ex_write 82991234 2 ([56, 50, 57, 57, 49, 50, 51, 52], 0) (by kernel_rfl) st).mono ?_
  rintro _ w2 ⟨rfl, hb⟩
  replace st := st.call hb
  clear hb
  go_wp2_with fail
  refine (ex_write 82991234 1 ([], 120) (by kernel_rfl) st).mono ?_
  rintro _ w3 ⟨rfl, hb⟩
  replace st := st.call hb
  clear hb
  go_wp2_with fail
  refine (ex_range 0 1 (82000000, 82010000, 0) (by kernel_rfl) st).mono ?_
  rintro _ w4 ⟨rfl, hb⟩
  replace st := st.call hb
  clear hb
  have B01 := Bx.mk w4 40 #[.int .i64 82000000, .int .i64 82010000]
  replace st := st.new (.cells #[.int .i64 82000000, .int .i64 82010000] 40)
  go_wp2_with fail
  refine (ex_range 1 1 (90000000, 90001000, 0) (by kernel_rfl) st).mono ?_
  rintro _ w5 ⟨rfl, hb⟩
  replace st := st.call hb
  replace B01 := B01.call hb
  clear hb
  replace B01 := B01.new (.cells #[.int .i64 90000000, .int .i64 90001000] 40)
  have B11 := Bx.mk w5 40 #[.int .i64 90000000, .int .i64 90001000]
  replace st := st.new (.cells #[.int .i64 90000000, .int .i64 90001000] 40)
  go_wp2_with fail
  refine (ex_range 0 3 (82000000, 83000000, 0) (by kernel_rfl) st).mono ?_
  rintro _ w6 ⟨rfl, hb⟩
  replace st := st.call hb
  replace B01 := B01.call hb
  replace B11 := B11.call hb
  clear hb
  replace B01 := B01.new (.cells #[.int .i64 82000000, .int .i64 83000000] 40)
  replace B11 := B11.new (.cells #[.int .i64 82000000, .int .i64 83000000] 40)
  have B03 := Bx.mk w6 40 #[.int .i64 82000000, .int .i64 83000000]
  replace st := st.new (.cells #[.int .i64 82000000, .int .i64 83000000] 40)
  go_wp2_with fail
  refine (ex_range 1 3 (90000000, 100000000, 0) (by kernel_rfl) st).mono ?_
  rintro _ w7 ⟨rfl, hb⟩
  replace st := st.call hb
  replace B01 := B01.call hb
  replace B11 := B11.call hb
  replace B03 := B03.call hb
  clear hb
  replace B01 := B01.new (.cells #[.int .i64 90000000, .int .i64 100000000] 40)
  replace B11 := B11.new (.cells #[.int .i64 90000000, .int .i64 100000000] 40)
  replace B03 := B03.new (.cells #[.int .i64 90000000, .int .i64 100000000] 40)
  have B13 := Bx.mk w7 40 #[.int .i64 90000000, .int .i64 100000000]
  replace st := st.new (.cells #[.int .i64 90000000, .int .i64 100000000] 40)
  go_wp2_with fail
  refine (reads_any [50, 49, 50, 51, 52] 82001234 0 5 _ (by decide) (by kernel_rfl)).mono ?_
  rintro _ w8 ⟨rfl, hb⟩
  replace st := st.call hb
  replace B01 := B01.call hb
  replace B11 := B11.call hb
  replace B03 := B03.call hb
  replace B13 := B13.call hb
  clear hb
  go_wp2_with fail
  refine (reads_any [56, 50, 48, 48, 49, 50, 51, 52] 82001234 0 8 _ (by decide) (by kernel_rfl)).mono ?_
  rintro _ w9 ⟨rfl, hb⟩
  replace st := st.call hb
  replace B01 := B01.call hb
  replace B11 := B11.call hb
  replace B03 := B03.call hb
  replace B13 := B13.call hb
  clear hb
  go_wp2_with fail
  refine (reads_any [50, 49, 50, 51, 52, 53] 82001234 0 5 _ (by decide) (by kernel_rfl)).mono ?_
  rintro _ w10 ⟨rfl, hb⟩
  replace st := st.call hb
  replace B01 := B01.call hb
  replace B11 := B11.call hb
  replace B03 := B03.call hb
  replace B13 := B13.call hb
  clear hb
  go_wp2_with fail
  refine (reads_any [51, 49, 48, 48, 55] 90000007 1 5 _ (by decide) (by kernel_rfl)).mono ?_
  rintro _ w11 ⟨rfl, hb⟩
  replace st := st.call hb
  replace B01 := B01.call hb
  replace B11 := B11.call hb
  replace B03 := B03.call hb
  replace B13 := B13.call hb
  clear hb
  go_wp2_with fail
  refine (kind_any [56, 50, 48, 48, 49, 50, 51] 2 _ (by decide) ⟨1, 0, 0, 0⟩ 0 (by kernel_rfl) 1 (by decide)).mono ?_
  rintro _ w12 ⟨rfl, hb⟩
  replace st := st.call hb
  replace B01 := B01.call hb
  replace B11 := B11.call hb
  replace B03 := B03.call hb
  replace B13 := B13.call hb
  clear hb
  go_wp2_with fail
  refine (kind_any [51] 2 _ (by decide) ⟨1, 0, 0, 0⟩ 0 (by kernel_rfl) 1 (by decide)).mono ?_
  rintro _ w13 ⟨rfl, hb⟩
  replace st := st.call hb
  replace B01 := B01.call hb
  replace B11 := B11.call hb
  replace B03 := B03.call hb
  replace B13 := B13.call hb
  clear hb
  go_wp2_with fail
  refine (kind_any [53] 2 _ (by decide) ⟨0, 0, 0, 0⟩ 0 (by kernel_rfl) 0 (by decide)).mono ?_
  rintro _ w14 ⟨rfl, hb⟩
  replace st := st.call hb
  replace B01 := B01.call hb
  replace B11 := B11.call hb
  replace B03 := B03.call hb
  replace B13 := B13.call hb
  clear hb
  go_wp2_with fail
  refine (kind_any [] 2 _ (by decide) ⟨1, 0, 0, 0⟩ 0 (by kernel_rfl) 1 (by decide)).mono ?_
  rintro _ w15 ⟨rfl, hb⟩
  replace st := st.call hb
  replace B01 := B01.call hb
  replace B11 := B11.call hb
  replace B03 := B03.call hb
  replace B13 := B13.call hb
  clear hb
  go_wp2_with fail
  refine (kind_any [50, 49, 50, 51, 52] 3 _ (by decide) ⟨0, 0, 0, 0⟩ 0 (by kernel_rfl) 0 (by decide)).mono ?_
  rintro _ w16 ⟨rfl, hb⟩
  replace st := st.call hb
  replace B01 := B01.call hb
  replace B11 := B11.call hb
  replace B03 := B03.call hb
  replace B13 := B13.call hb
  clear hb
  go_wp2_with fail
  refine (kind_any [56, 50, 48, 48, 49, 50, 51, 52] 1 _ (by decide) ⟨0, 0, 0, 0⟩ 0 (by kernel_rfl) 0 (by decide)).mono ?_
  rintro _ w17 ⟨rfl, hb⟩
  replace st := st.call hb
  replace B01 := B01.call hb
  replace B11 := B11.call hb
  replace B03 := B03.call hb
  replace B13 := B13.call hb
  clear hb
  go_wp2_with fail
  refine (kind_any [50, 120] 2 _ (by decide) ⟨0, 0, 0, 0⟩ 120 (by kernel_rfl) (-1) (by decide)).mono ?_
  rintro _ w18 ⟨rfl, hb⟩
  replace st := st.call hb
  replace B01 := B01.call hb
  replace B11 := B11.call hb
  replace B03 := B03.call hb
  replace B13 := B13.call hb
  clear hb
  have B010 := B01.cell 0 rfl
  have B011 := B01.cell 1 rfl
  have B110 := B11.cell 0 rfl
  have B111 := B11.cell 1 rfl
  have B030 := B03.cell 0 rfl
  have B031 := B03.cell 1 rfl
  have B130 := B13.cell 0 rfl
  have B131 := B13.cell 1 rfl
  go_wp2_with fail
  refine (ex_same [50, 49, 50, 51, 52] [56, 50, 48, 48, 49, 50, 51, 52] true (by kernel_rfl) (by decide) (by decide) st).mono ?_
  rintro _ w19 ⟨rfl, hb⟩
  replace st := st.call hb
  clear hb
  go_wp2_with fail
  refine (ex_same [50, 49, 50, 51, 52] [56, 50, 48, 48, 49, 50, 51, 53] false (by kernel_rfl) (by decide) (by decide) st).mono ?_
  rintro _ w20 ⟨rfl, hb⟩
  replace st := st.call hb
  clear hb
  go_wp2_with fail
  refine (ex_valid st).mono ?_
  rintro _ w21 ⟨rfl, hb⟩
  replace st := st.call hb
  clear hb
  go_wp2_with fail
  refine (bad_valid _).mono ?_
  rintro _ w99 ⟨rfl, hb⟩
  replace st := (st.new _).call hb
  clear hb
  go_wp2_with fail
  go_ret
  exact ⟨rfl, st.hb⟩
end Go.Proofs.YtppdcjbnijbcdaaGreatDoor
