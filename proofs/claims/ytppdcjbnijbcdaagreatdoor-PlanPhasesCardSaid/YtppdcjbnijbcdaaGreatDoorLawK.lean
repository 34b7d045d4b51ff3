/- What the walks of the laws of package dialtonelaw12 share: a valid plan in memory, and the contracts at it. -/
import Derived.Test.YtppdcjbnijbcdaaGreatDoorSane2
import Derived.Test.YtppdcjbnijbcdaaGreatDoorNum
namespace Go.Proofs.YtppdcjbnijbcdaaGreatDoor
set_option linter.unusedVariables false
set_option linter.unusedSimpArgs false
open Go.RowKit
/-- before the plan is made: what was given is there, and the table -/
structure S0 (w W : World) (A : Option Addr) (x : List Pl.T3) : Prop where
  hb : Below w.heap.size w W
  hA : At 3 t3C W W.heap.size A x
  hE : Env W
theorem S0.call {w W W' : World} {A : Option Addr} {x : List Pl.T3} (h : S0 w W A x) (hb : Below W.heap.size W W') : S0 w W' A x := ⟨bCall h.hb hb, (h.hA.below hb).more hb.size, h.hE.below hb⟩
theorem S0.new {w W : World} {A : Option Addr} {x : List Pl.T3} (h : S0 w W A x) (o : Obj) : S0 w (W.alloc o) A x := h.call ((Below.refl W.heap.size W).alloc (Nat.le_refl _) o)
/-- a valid plan in memory -/
structure Sv (w W : World) (A : Option Addr) (cap : Nat) (p : List Pl.Cd) : Prop where
  hb : Below w.heap.size w W
  hA : At 3 codeC W W.heap.size A p
  hE : Env W
  hv : Pl.valid p = true
  hc : p.length ≤ cap
  hm : cap ≤ maxLen
theorem Sv.call {w W W' : World} {A : Option Addr} {cap : Nat} {p : List Pl.Cd} (h : Sv w W A cap p) (hb : Below W.heap.size W W') : Sv w W' A cap p := ⟨bCall h.hb hb, (h.hA.below hb).more hb.size, h.hE.below hb, h.hv, h.hc, h.hm⟩
theorem Sv.new {w W : World} {A : Option Addr} {cap : Nat} {p : List Pl.Cd} (h : Sv w W A cap p) (o : Obj) : Sv w (W.alloc o) A cap p := h.call ((Below.refl W.heap.size W).alloc (Nat.le_refl _) o)
theorem Sv.again {w W : World} {A : Option Addr} {cap : Nat} {p : List Pl.Cd} (h : Sv w W A cap p) (d : Nat) (os : Array Obj) : Sv w (Sort.grow (redrawn W d) os) A cap p := h.call (below_regrown W d os)
theorem v_small {p : List Pl.Cd} (hv : Pl.valid p = true) : Small p := by
  intro c hc
  have hf := Pl.valid_fine hv hc
  have := hf.o4; have := hf.n5; have := hf.l1; have := hf.l7
  omega
theorem v_small2 {p : List Pl.Cd} (hv : Pl.valid p = true) : ∀ c ∈ p, c.old.length ≤ 1000 ∧ c.new.length ≤ 1000 := fun c hc => ⟨(v_small hv c hc).1, (v_small hv c hc).2.1⟩
section
variable {w W : World} {A : Option Addr} {cap : Nat} {p : List Pl.Cd}
theorem v_write (st : Sv w W A cap p) {n ph : Int} {r : List UInt8 × Int} (h : Kp (Pl.write p n ph = r)) :
    Calls Tryz.prog 17 #[.slice A p.length cap, .int .i64 n, .int .i64 ph] W fun e w' => e = .returned (.tuple #[.string ⟨r.1.toArray⟩, .int .i64 r.2]) ∧ Below W.heap.size W w' := by
  have := write_any p A cap n ph W st.hA st.hc (by have := Pl.valid_len st.hv; omega) (v_small2 st.hv) st.hE
  rw [h.out] at this
  exact this
theorem v_range (st : Sv w W A cap p) {i ph : Int} {r : Int × Int × Int} (h : Kp (Pl.range p i ph = r)) :
    Calls Tryz.prog 19 #[.slice A p.length cap, .int .i64 i, .int .i64 ph] W fun e w' => e = .returned (.tuple #[.agg #[.int .i64 r.1, .int .i64 r.2.1], .int .i64 r.2.2]) ∧ Below W.heap.size W w' := by
  have := range_any p A cap i ph W st.hA st.hc (by have := Pl.valid_len st.hv; omega) (v_small2 st.hv)
  rw [h.out] at this
  exact this
theorem v_read (st : Sv w W A cap p) {s : List UInt8} {ph : Int} {r : Pl.Dialled × Int} (hs : s.length ≤ 1000) (h : Kp (Pl.read p s ph = r)) :
    Calls Tryz.prog 21 #[.slice A p.length cap, .string ⟨s.toArray⟩, .int .i64 ph] W fun e w' => e = .returned (.tuple #[.agg #[.int .i64 r.1.kind, .int .i64 r.1.number, .int .i64 r.1.code, .int .i64 r.1.used], .int .i64 r.2]) ∧ Below W.heap.size W w' := by
  have := read_any p A cap s ph W st.hA st.hc (by have := Pl.valid_len st.hv; omega) (v_small2 st.hv) hs
  rw [h.out] at this
  exact this
theorem v_same (st : Sv w W A cap p) {s t : List UInt8} {b : Bool} (hs : s.length ≤ 1000) (ht : t.length ≤ 1000) (h : Kp (Pl.same p s t = b)) :
    Calls Tryz.prog 23 #[.slice A p.length cap, .string ⟨s.toArray⟩, .string ⟨t.toArray⟩] W fun e w' => e = .returned (.bool b) ∧ Below W.heap.size W w' := by
  have := same_any p A cap s t W st.hA st.hc (by have := Pl.valid_len st.hv; omega) (v_small2 st.hv) hs ht
  rw [h.out] at this
  exact this
theorem v_number (st : Sv w W A cap p) {which n m : Int} (h1 : I64 which) (h2 : I64 n) (h : Kp (Pl.number p which n = m)) :
    Calls Tryz.prog 13 #[.slice A p.length cap, .int .i64 which, .int .i64 n] W fun e w' => e = .returned (.int .i64 m) ∧ Below W.heap.size W w' := by
  have := Number_any p A cap which n W st.hA st.hc (v_small st.hv) (by have := Pl.valid_len st.hv; omega) h1 h2 (Pl.range_ok st.hv)
  rw [h.out] at this
  exact this
theorem v_made {x : List Pl.T3} {A0 : Option Addr} {cap0 : Nat} (st : S0 w W A0 x) (hn : x.length ≤ cap0) (hlen : x.length ≤ maxLen) (hx : ∀ t ∈ x, I64 t.a ∧ I64 t.b ∧ I64 t.c) (h : Kp (Pl.made x = p)) :
    Calls Tryz.prog 12 #[.slice A0 x.length cap0] W fun e w' => ∃ B c, e = .returned (.slice B p.length c) ∧ Below W.heap.size W w' ∧ Sv w w' B c p := by
  refine (Made_any x A0 cap0 W st.hA hn hlen hx).mono ?_
  rintro _ w' ⟨_, rfl, hb, B, c, rfl, hP, hpc, hpm⟩
  refine ⟨B, c, by rw [h.out], hb, bCall st.hb hb, ?_, st.hE.below hb, ?_, ?_, hpm⟩
  · rw [← h.out]; exact hP
  · rw [← h.out]; exact Pl.made_valid x
  · rw [← h.out]; exact hpc
theorem k_pick {c n z : Int} {W : World} (hn : 0 < n) (hc : I64 c) (h : Kp (Pl.pick c n = z)) : Calls Tryz.prog 16 #[.int .i64 c, .int .i64 n] W fun e w' => e = .returned (.int .i64 z) ∧ W = w' :=
  pickLaw_k ⟨hn, hc.1, hc.2, h.out⟩
theorem k_begins {s t : List UInt8} {b : Bool} {W : World} (h : Kp (s.isPrefixOf t = b)) : Calls Tryz.prog 27 #[.string ⟨s.toArray⟩, .string ⟨t.toArray⟩] W fun e w' => e = .returned (.bool b) ∧ W = w' := by
  have := beginsLaw_any s t W
  rwa [h.out] at this
end
theorem k_text {W : World} {Y : Option Addr} {ycap m k : Nat} {y : List Int} {z : List UInt8} (hY : At 1 intC W W.heap.size Y y) (hc : y.length ≤ ycap) (hl : y.length ≤ maxLen) (hy : ∀ t ∈ y, I64 t) (hm : Kp ((y.take k).length = m)) (hz : Kp (Pl.text (y.take k) = z)) :
    Calls Tryz.prog 15 #[.slice Y m ycap] W fun e w' => e = .returned (.string ⟨z.toArray⟩) ∧ Below W.heap.size W w' := by
  have := text_any (y.take k) Y ycap W (hY.take k) (by simp; omega) (by simp; omega) (fun t ht => hy t (List.mem_of_mem_take ht))
  rw [hm.out, hz.out] at this
  exact this
theorem not_pre {s t : List UInt8} (h : ¬ s <+: t) : s.isPrefixOf t = false := by
  cases hp : s.isPrefixOf t with
  | false => rfl
  | true => exact absurd (List.isPrefixOf_iff_prefix.1 hp) h
theorem bNewW (W : World) (o : Obj) : Below W.heap.size W (W.alloc o) := (Below.refl W.heap.size W).alloc (Nat.le_refl _) o
theorem At.call {α : Type} {size : Nat} {f : α → List Value} {W W' : World} {A : Option Addr} {p : List α} (h : At size f W W.heap.size A p) (hb : Below W.heap.size W W') : At size f W' W'.heap.size A p := (h.below hb).more hb.size
/-- a plan in memory, valid or not -/
structure Sw (w W : World) (A : Option Addr) (cap : Nat) (p : List Pl.Cd) : Prop where
  hb : Below w.heap.size w W
  hA : At 3 codeC W W.heap.size A p
  hE : Env W
  hs : Small p
  hl : p.length ≤ 1000
  hc : p.length ≤ cap
  hm : cap ≤ maxLen
theorem Sw.call {w W W' : World} {A : Option Addr} {cap : Nat} {p : List Pl.Cd} (h : Sw w W A cap p) (hb : Below W.heap.size W W') : Sw w W' A cap p := ⟨bCall h.hb hb, (h.hA.below hb).more hb.size, h.hE.below hb, h.hs, h.hl, h.hc, h.hm⟩
theorem Sw.new {w W : World} {A : Option Addr} {cap : Nat} {p : List Pl.Cd} (h : Sw w W A cap p) (o : Obj) : Sw w (W.alloc o) A cap p := h.call (bNewW W o)
theorem Sv.weak {w W : World} {A : Option Addr} {cap : Nat} {p : List Pl.Cd} (h : Sv w W A cap p) : Sw w W A cap p := ⟨h.hb, h.hA, h.hE, v_small h.hv, by have := Pl.valid_len h.hv; omega, h.hc, h.hm⟩
section
variable {w W : World} {A : Option Addr} {cap : Nat} {p : List Pl.Cd}
theorem Sw.s2 (st : Sw w W A cap p) : ∀ c ∈ p, c.old.length ≤ 1000 ∧ c.new.length ≤ 1000 := fun c hc => ⟨(st.hs c hc).1, (st.hs c hc).2.1⟩
theorem w_write (st : Sw w W A cap p) {n ph : Int} {r : List UInt8 × Int} (h : Kp (Pl.write p n ph = r)) :
    Calls Tryz.prog 17 #[.slice A p.length cap, .int .i64 n, .int .i64 ph] W fun e w' => e = .returned (.tuple #[.string ⟨r.1.toArray⟩, .int .i64 r.2]) ∧ Below W.heap.size W w' := by
  have := write_any p A cap n ph W st.hA st.hc st.hl st.s2 st.hE
  rw [h.out] at this
  exact this
theorem w_valid (st : Sw w W A cap p) {b : Bool} (h : Kp (Pl.valid p = b)) :
    Calls Tryz.prog 25 #[.slice A p.length cap] W fun e w' => e = .returned (.bool b) ∧ Below W.heap.size W w' := by
  have := valid_any p A cap W st.hA st.hc st.hl st.s2
  rw [h.out] at this
  exact this
theorem w_range (st : Sw w W A cap p) {i ph : Int} {r : Int × Int × Int} (h : Kp (Pl.range p i ph = r)) :
    Calls Tryz.prog 19 #[.slice A p.length cap, .int .i64 i, .int .i64 ph] W fun e w' => e = .returned (.tuple #[.agg #[.int .i64 r.1, .int .i64 r.2.1], .int .i64 r.2.2]) ∧ Below W.heap.size W w' := by
  have := range_any p A cap i ph W st.hA st.hc st.hl st.s2
  rw [h.out] at this
  exact this
theorem w_read (st : Sw w W A cap p) {s : List UInt8} {ph : Int} {r : Pl.Dialled × Int} (hs : s.length ≤ 1000) (h : Kp (Pl.read p s ph = r)) :
    Calls Tryz.prog 21 #[.slice A p.length cap, .string ⟨s.toArray⟩, .int .i64 ph] W fun e w' => e = .returned (.tuple #[.agg #[.int .i64 r.1.kind, .int .i64 r.1.number, .int .i64 r.1.code, .int .i64 r.1.used], .int .i64 r.2]) ∧ Below W.heap.size W w' := by
  have := read_any p A cap s ph W st.hA st.hc st.hl st.s2 hs
  rw [h.out] at this
  exact this
theorem w_same (st : Sw w W A cap p) {s t : List UInt8} {b : Bool} (hs : s.length ≤ 1000) (ht : t.length ≤ 1000) (h : Kp (Pl.same p s t = b)) :
    Calls Tryz.prog 23 #[.slice A p.length cap, .string ⟨s.toArray⟩, .string ⟨t.toArray⟩] W fun e w' => e = .returned (.bool b) ∧ Below W.heap.size W w' := by
  have := same_any p A cap s t W st.hA st.hc st.hl st.s2 hs ht
  rw [h.out] at this
  exact this
end
theorem exK {α : Type} (a : α) : ∃ b, Kp (a = b) := ⟨a, ⟨rfl⟩⟩
end Go.Proofs.YtppdcjbnijbcdaaGreatDoor
