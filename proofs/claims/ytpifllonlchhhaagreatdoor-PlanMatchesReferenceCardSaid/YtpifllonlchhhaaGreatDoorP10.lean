/- What the walks of the laws of package dialtonelaw12 share: a valid plan in memory, and the contracts at it. Code, Old, Write of package dialtoneref12. -/
import Derived.Test.YtpifllonlchhhaaGreatDoorP09
import Derived.Test.YtpifllonlchhhaaGreatDoorP05
namespace Go.Proofs.YtpifllonlchhhaaGreatDoor
set_option linter.unusedVariables false
set_option linter.unusedSimpArgs false
open Go.RowKit
/-- before the plan is made: what was given is there, and the table -/
structure S0 (w W : World) (A : Option Addr) (x : List Pl.T3) : Prop where
  hb : Below w.heap.size w W
  hA : At 3 t3C W W.heap.size A x
  hE : Env W
theorem S0.call {w W W' : World} {A : Option Addr} {x : List Pl.T3} (h : S0 w W A x) (hb : Below W.heap.size W W') : S0 w W' A x := ⟨bCall h.hb hb, (h.hA.below hb).more hb.size, h.hE.below hb⟩
theorem S0.new {w W : World} {A : Option Addr} {x : List Pl.T3} (h : S0 w W A x) (o : Obj) : S0 w (W.alloc o) A x := h.call ((Below.refl W.heap.size W).alloc (Nat.le_refl _) o)
/-- a valid plan in memory -/
structure Sv (w W : World) (A : Option Addr) (cap : Nat) (p : List Pl.Cd) : Prop where
  hb : Below w.heap.size w W
  hA : At 3 codeC W W.heap.size A p
  hE : Env W
  hv : Pl.valid p = true
  hc : p.length ≤ cap
  hm : cap ≤ maxLen
theorem Sv.call {w W W' : World} {A : Option Addr} {cap : Nat} {p : List Pl.Cd} (h : Sv w W A cap p) (hb : Below W.heap.size W W') : Sv w W' A cap p := ⟨bCall h.hb hb, (h.hA.below hb).more hb.size, h.hE.below hb, h.hv, h.hc, h.hm⟩
theorem Sv.new {w W : World} {A : Option Addr} {cap : Nat} {p : List Pl.Cd} (h : Sv w W A cap p) (o : Obj) : Sv w (W.alloc o) A cap p := h.call ((Below.refl W.heap.size W).alloc (Nat.le_refl _) o)
theorem Sv.again {w W : World} {A : Option Addr} {cap : Nat} {p : List Pl.Cd} (h : Sv w W A cap p) (d : Nat) (os : Array Obj) : Sv w (Sort.grow (redrawn W d) os) A cap p := h.call (below_regrown W d os)
theorem v_small {p : List Pl.Cd} (hv : Pl.valid p = true) : Small p := by
  intro c hc
  have hf := Pl.valid_fine hv hc
  have := hf.o4; have := hf.n5; have := hf.l1; have := hf.l7
  omega
theorem v_small2 {p : List Pl.Cd} (hv : Pl.valid p = true) : ∀ c ∈ p, c.old.length ≤ 1000 ∧ c.new.length ≤ 1000 := fun c hc => ⟨(v_small hv c hc).1, (v_small hv c hc).2.1⟩
section
variable {w W : World} {A : Option Addr} {cap : Nat} {p : List Pl.Cd}
theorem v_write (st : Sv w W A cap p) {n ph : Int} {r : List UInt8 × Int} (h : Kp (Pl.write p n ph = r)) :
    Calls Tryz.prog 10 #[.slice A p.length cap, .int .i64 n, .int .i64 ph] W fun e w' => e = .returned (.tuple #[.string ⟨r.1.toArray⟩, .int .i64 r.2]) ∧ Below W.heap.size W w' := by
  have := write_any p A cap n ph W st.hA st.hc (by have := Pl.valid_len st.hv; omega) (v_small2 st.hv) st.hE
  rw [h.out] at this
  exact this
theorem v_range (st : Sv w W A cap p) {i ph : Int} {r : Int × Int × Int} (h : Kp (Pl.range p i ph = r)) :
    Calls Tryz.prog 12 #[.slice A p.length cap, .int .i64 i, .int .i64 ph] W fun e w' => e = .returned (.tuple #[.agg #[.int .i64 r.1, .int .i64 r.2.1], .int .i64 r.2.2]) ∧ Below W.heap.size W w' := by
  have := range_any p A cap i ph W st.hA st.hc (by have := Pl.valid_len st.hv; omega) (v_small2 st.hv)
  rw [h.out] at this
  exact this
theorem v_read (st : Sv w W A cap p) {s : List UInt8} {ph : Int} {r : Pl.Dialled × Int} (hs : s.length ≤ 1000) (h : Kp (Pl.read p s ph = r)) :
    Calls Tryz.prog 14 #[.slice A p.length cap, .string ⟨s.toArray⟩, .int .i64 ph] W fun e w' => e = .returned (.tuple #[.agg #[.int .i64 r.1.kind, .int .i64 r.1.number, .int .i64 r.1.code, .int .i64 r.1.used], .int .i64 r.2]) ∧ Below W.heap.size W w' := by
  have := read_any p A cap s ph W st.hA st.hc (by have := Pl.valid_len st.hv; omega) (v_small2 st.hv) hs
  rw [h.out] at this
  exact this
theorem v_same (st : Sv w W A cap p) {s t : List UInt8} {b : Bool} (hs : s.length ≤ 1000) (ht : t.length ≤ 1000) (h : Kp (Pl.same p s t = b)) :
    Calls Tryz.prog 16 #[.slice A p.length cap, .string ⟨s.toArray⟩, .string ⟨t.toArray⟩] W fun e w' => e = .returned (.bool b) ∧ Below W.heap.size W w' := by
  have := same_any p A cap s t W st.hA st.hc (by have := Pl.valid_len st.hv; omega) (v_small2 st.hv) hs ht
  rw [h.out] at this
  exact this
theorem v_number (st : Sv w W A cap p) {which n m : Int} (h1 : I64 which) (h2 : I64 n) (h : Kp (Pl.number p which n = m)) :
    Calls Tryz.prog 6 #[.slice A p.length cap, .int .i64 which, .int .i64 n] W fun e w' => e = .returned (.int .i64 m) ∧ Below W.heap.size W w' := by
  have := Number_any p A cap which n W st.hA st.hc (v_small st.hv) (by have := Pl.valid_len st.hv; omega) h1 h2 (Pl.range_ok st.hv)
  rw [h.out] at this
  exact this
theorem v_made {x : List Pl.T3} {A0 : Option Addr} {cap0 : Nat} (st : S0 w W A0 x) (hn : x.length ≤ cap0) (hlen : x.length ≤ maxLen) (hx : ∀ t ∈ x, I64 t.a ∧ I64 t.b ∧ I64 t.c) (h : Kp (Pl.made x = p)) :
    Calls Tryz.prog 5 #[.slice A0 x.length cap0] W fun e w' => ∃ B c, e = .returned (.slice B p.length c) ∧ Below W.heap.size W w' ∧ Sv w w' B c p := by
  refine (Made_any x A0 cap0 W st.hA hn hlen hx).mono ?_
  rintro _ w' ⟨_, rfl, hb, B, c, rfl, hP, hpc, hpm⟩
  refine ⟨B, c, by rw [h.out], hb, bCall st.hb hb, ?_, st.hE.below hb, ?_, ?_, hpm⟩
  · rw [← h.out]; exact hP
  · rw [← h.out]; exact Pl.made_valid x
  · rw [← h.out]; exact hpc
theorem k_pick {c n z : Int} {W : World} (hn : 0 < n) (hc : I64 c) (h : Kp (Pl.pick c n = z)) : Calls Tryz.prog 9 #[.int .i64 c, .int .i64 n] W fun e w' => e = .returned (.int .i64 z) ∧ W = w' :=
  pickLaw_k ⟨hn, hc.1, hc.2, h.out⟩
end
theorem k_text {W : World} {Y : Option Addr} {ycap m k : Nat} {y : List Int} {z : List UInt8} (hY : At 1 intC W W.heap.size Y y) (hc : y.length ≤ ycap) (hl : y.length ≤ maxLen) (hy : ∀ t ∈ y, I64 t) (hm : Kp ((y.take k).length = m)) (hz : Kp (Pl.text (y.take k) = z)) :
    Calls Tryz.prog 8 #[.slice Y m ycap] W fun e w' => e = .returned (.string ⟨z.toArray⟩) ∧ Below W.heap.size W w' := by
  have := text_any (y.take k) Y ycap W (hY.take k) (by simp; omega) (by simp; omega) (fun t ht => hy t (List.mem_of_mem_take ht))
  rw [hm.out, hz.out] at this
  exact this
theorem not_pre {s t : List UInt8} (h : ¬ s <+: t) : s.isPrefixOf t = false := by
  cases hp : s.isPrefixOf t with
  | false => rfl
  | true => exact absurd (List.isPrefixOf_iff_prefix.1 hp) h
theorem bNewW (W : World) (o : Obj) : Below W.heap.size W (W.alloc o) := (Below.refl W.heap.size W).alloc (Nat.le_refl _) o
theorem At.call {α : Type} {size : Nat} {f : α → List Value} {W W' : World} {A : Option Addr} {p : List α} (h : At size f W W.heap.size A p) (hb : Below W.heap.size W W') : At size f W' W'.heap.size A p := (h.below hb).more hb.size
/-- a plan in memory, valid or not -/
structure Sw (w W : World) (A : Option Addr) (cap : Nat) (p : List Pl.Cd) : Prop where
  hb : Below w.heap.size w W
  hA : At 3 codeC W W.heap.size A p
  hE : Env W
  hs : Small p
  hl : p.length ≤ 1000
  hc : p.length ≤ cap
  hm : cap ≤ maxLen
theorem Sw.call {w W W' : World} {A : Option Addr} {cap : Nat} {p : List Pl.Cd} (h : Sw w W A cap p) (hb : Below W.heap.size W W') : Sw w W' A cap p := ⟨bCall h.hb hb, (h.hA.below hb).more hb.size, h.hE.below hb, h.hs, h.hl, h.hc, h.hm⟩
theorem Sw.new {w W : World} {A : Option Addr} {cap : Nat} {p : List Pl.Cd} (h : Sw w W A cap p) (o : Obj) : Sw w (W.alloc o) A cap p := h.call (bNewW W o)
theorem Sv.weak {w W : World} {A : Option Addr} {cap : Nat} {p : List Pl.Cd} (h : Sv w W A cap p) : Sw w W A cap p := ⟨h.hb, h.hA, h.hE, v_small h.hv, by have := Pl.valid_len h.hv; omega, h.hc, h.hm⟩
section
variable {w W : World} {A : Option Addr} {cap : Nat} {p : List Pl.Cd}
theorem Sw.s2 (st : Sw w W A cap p) : ∀ c ∈ p, c.old.length ≤ 1000 ∧ c.new.length ≤ 1000 := fun c hc => ⟨(st.hs c hc).1, (st.hs c hc).2.1⟩
theorem w_write (st : Sw w W A cap p) {n ph : Int} {r : List UInt8 × Int} (h : Kp (Pl.write p n ph = r)) :
    Calls Tryz.prog 10 #[.slice A p.length cap, .int .i64 n, .int .i64 ph] W fun e w' => e = .returned (.tuple #[.string ⟨r.1.toArray⟩, .int .i64 r.2]) ∧ Below W.heap.size W w' := by
  have := write_any p A cap n ph W st.hA st.hc st.hl st.s2 st.hE
  rw [h.out] at this
  exact this
theorem w_valid (st : Sw w W A cap p) {b : Bool} (h : Kp (Pl.valid p = b)) :
    Calls Tryz.prog 18 #[.slice A p.length cap] W fun e w' => e = .returned (.bool b) ∧ Below W.heap.size W w' := by
  have := valid_any p A cap W st.hA st.hc st.hl st.s2
  rw [h.out] at this
  exact this
theorem w_range (st : Sw w W A cap p) {i ph : Int} {r : Int × Int × Int} (h : Kp (Pl.range p i ph = r)) :
    Calls Tryz.prog 12 #[.slice A p.length cap, .int .i64 i, .int .i64 ph] W fun e w' => e = .returned (.tuple #[.agg #[.int .i64 r.1, .int .i64 r.2.1], .int .i64 r.2.2]) ∧ Below W.heap.size W w' := by
  have := range_any p A cap i ph W st.hA st.hc st.hl st.s2
  rw [h.out] at this
  exact this
theorem w_read (st : Sw w W A cap p) {s : List UInt8} {ph : Int} {r : Pl.Dialled × Int} (hs : s.length ≤ 1000) (h : Kp (Pl.read p s ph = r)) :
    Calls Tryz.prog 14 #[.slice A p.length cap, .string ⟨s.toArray⟩, .int .i64 ph] W fun e w' => e = .returned (.tuple #[.agg #[.int .i64 r.1.kind, .int .i64 r.1.number, .int .i64 r.1.code, .int .i64 r.1.used], .int .i64 r.2]) ∧ Below W.heap.size W w' := by
  have := read_any p A cap s ph W st.hA st.hc st.hl st.s2 hs
  rw [h.out] at this
  exact this
theorem w_same (st : Sw w W A cap p) {s t : List UInt8} {b : Bool} (hs : s.length ≤ 1000) (ht : t.length ≤ 1000) (h : Kp (Pl.same p s t = b)) :
    Calls Tryz.prog 16 #[.slice A p.length cap, .string ⟨s.toArray⟩, .string ⟨t.toArray⟩] W fun e w' => e = .returned (.bool b) ∧ Below W.heap.size W w' := by
  have := same_any p A cap s t W st.hA st.hc st.hl st.s2 hs ht
  rw [h.out] at this
  exact this
end
theorem exK {α : Type} (a : α) : ∃ b, Kp (a = b) := ⟨a, ⟨rfl⟩⟩
end Go.Proofs.YtpifllonlchhhaaGreatDoor
namespace Go.Proofs.YtpifllonlchhhaaGreatDoor
set_option linter.unusedVariables false
set_option linter.unusedSimpArgs false
open Go.RowKit
/-- the index of the code to which a number belongs -/
def codeAt (p : List Pl.Cd) (n : Int) : Int := if n < 0 ∨ 99999999 < n then -1 else match p.findIdx? (fun c => c.new.isPrefixOf (Pl.eight n.toNat)) with | some i => (i : Int) | none => -1
set_option maxRecDepth 100000 in
set_option maxHeartbeats 2000000 in
theorem Code_any (p : List Pl.Cd) (A : Option Addr) (cap : Nat) (n : Int) (w : World) (hA : At 3 codeC w w.heap.size A p) (hn : p.length ≤ cap) (hl : p.length ≤ 1000) (h64 : I64 n) :
    Calls Tryz.prog 33 #[.slice A p.length cap, .int .i64 n] w fun e w' => e = .returned (.int .i64 (codeAt p n)) ∧ Below w.heap.size w w' := by
  obtain ⟨h1, h2⟩ := h64
  by_cases hbad : n < 0 ∨ 99999999 < n
  · have hfin : Kp (codeAt p n = -1) := ⟨by unfold codeAt; rw [if_pos hbad]⟩
    rcases (show n < 0 ∨ (¬ n < 0 ∧ 99999999 < n) by omega) with h | ⟨h, h'⟩
    · have t1 : decide (n < 0) = true := by simp; omega
      go_enter Tryz.func33, Tryz.ntmps33
      go_wp2
      go_ret
      exact ⟨ret_int hfin.out.symm, Below.refl _ _⟩
    · have t1 : decide (n < 0) = false := by simp; omega
      have t2 : decide (n > 99999999) = true := by simp; omega
      go_enter Tryz.func33, Tryz.ntmps33
      go_wp2
      go_ret
      exact ⟨ret_int hfin.out.symm, Below.refl _ _⟩
  · have t1 : decide (n < 0) = false := by simp; omega
    have t2 : decide (n > 99999999) = false := by simp; omega
    have hdef : Kp (codeAt p n = match p.findIdx? (fun c => c.new.isPrefixOf (Pl.eight n.toNat)) with | some i => (i : Int) | none => -1) := ⟨by unfold codeAt; rw [if_neg hbad]⟩
    have hei := fun w0 => Eight_any n (by omega) (by omega) w0
    generalize Pl.eight n.toNat = s at *
    clear hbad
    go_enter Tryz.func33, Tryz.ntmps33
    go_wp2
    go_loopw [5] (fun i wr => ∃ k : Nat, k ≤ p.length ∧ i = .int .i64 k ∧ Kp (∀ j c, j < k → p[j]? = some c → c.new.isPrefixOf s = false) ∧ Below w.heap.size w wr) (fun i _ => p.length - (intOf i).toNat)
    case atStart => exact ⟨0, Nat.zero_le _, rfl, ⟨fun j c h => by omega⟩, bStart _⟩
    case round =>
      obtain ⟨k, hk, rfl, hno, hb⟩ := hrel
      by_cases hlt : k < p.length
      · obtain ⟨b, off, rfl, hbB, hcell⟩ := hA (by omega)
        have hck : p[k]? = some p[k] := List.getElem?_eq_getElem hlt
        have c1 : wr.cell? ⟨b, off + k * 3 + 1, none⟩ = some (.string ⟨(p[k]).new.toArray⟩) := (hb.cell (p := ⟨b, _, none⟩) hbB).trans (hcell k _ hck 1 _ rfl)
        have hbw : b < wr.heap.size := Nat.lt_of_lt_of_le hbB hb.size
        have g1 := fun d os => ((below_regrown wr d os).cell (p := ⟨b, off + k * 3 + 1, none⟩) hbw).trans c1
        clear hcell hA
        cases hpre : (p[k]).new.isPrefixOf s
        · have hnext : Kp (∀ j c, j < k + 1 → p[j]? = some c → c.new.isPrefixOf s = false) := ⟨fun j c hj hc => by
            rcases Nat.lt_or_ge j k with h | h
            · exact hno.out j c h hc
            · obtain rfl : j = k := by omega
              rw [hck] at hc
              obtain rfl : p[j] = c := by simpa using hc
              exact hpre⟩
          have hbg := fun w0 => begins_any (p[k]).new s w0
          rw [hpre] at hbg
          clear hck hpre hno
          generalize (p[k]).new = nw at *
          go_wp2_with fail
          refine wp_region_quiet_below (by kernel_rfl) (by kernel_rfl) ?_
          repeat (go_big_quiet_step (first
            | (go_at_call 34; exact Calls.regrown_of (hei _))
            | (go_at_call 43; exact Calls.regrown_of (calls_below (hbg _)))))
          refine wpQuiet_nil ?_
          rintro _ ⟨q, rfl⟩
          go_wp2
          go_roundw
          case rel => exact ⟨k + 1, by omega, by go_num, hnext, bAgain hb q.d q.os⟩
          case measure => simp [intOf]; omega
        · have hfin : Kp (codeAt p n = (k : Int)) := ⟨by
            rw [hdef.out]
            have : p.findIdx? (fun c => c.new.isPrefixOf s) = some k := by
              rw [List.findIdx?_eq_some_iff_getElem]
              refine ⟨hlt, hpre, fun j hj => ?_⟩
              rw [hno.out j _ hj (List.getElem?_eq_getElem (by omega))]
              simp
            rw [this]⟩
          have hbg := fun w0 => begins_any (p[k]).new s w0
          rw [hpre] at hbg
          clear hck hpre hno
          generalize (p[k]).new = nw at *
          go_wp2_with fail
          refine wp_region_quiet_below (by kernel_rfl) (by kernel_rfl) ?_
          repeat (go_big_quiet_step (first
            | (go_at_call 34; exact Calls.regrown_of (hei _))
            | (go_at_call 43; exact Calls.regrown_of (calls_below (hbg _)))))
          refine wpQuiet_nil ?_
          rintro _ ⟨q, rfl⟩
          go_wp2
          go_ret
          exact ⟨ret_int hfin.out.symm, bAgain hb q.d q.os⟩
      · have hfin : Kp (codeAt p n = -1) := ⟨by
          rw [hdef.out]
          have : p.findIdx? (fun c => c.new.isPrefixOf s) = none := by
            rw [List.findIdx?_eq_none_iff]
            intro c hc
            obtain ⟨j, hj⟩ := List.mem_iff_getElem?.1 hc
            exact hno.out j c (by have := (List.getElem?_eq_some_iff.1 hj).1; omega) hj
          rw [this]⟩
        go_wp2
        go_ret
        exact ⟨ret_int hfin.out.symm, hb⟩
/-- what Old returns -/
def oldR (c : Pl.Cd) (n : Nat) : List UInt8 × Bool := if ((Pl.eight n).take (Pl.cutOf c)).drop c.new.length = Pl.zeros (Pl.cutOf c - c.new.length) then (c.old ++ (Pl.eight n).drop (Pl.cutOf c), true) else ([], false)
theorem zeros_all {s : List UInt8} {a b : Nat} (hb : b ≤ s.length) (h : ∀ (j : Nat) (hj : j < s.length), a ≤ j → j < b → s[j] = 48) : (s.take b).drop a = Pl.zeros (b - a) := by
  apply List.ext_getElem
  · simp [Pl.zeros]; omega
  · intro i h1 h2
    simp only [List.getElem_drop, List.getElem_take, Pl.zeros, List.getElem_replicate]
    simp at h1
    exact h (a + i) (by omega) (by omega) (by omega)
set_option maxRecDepth 100000 in
set_option maxHeartbeats 2000000 in
theorem Old_any (c : Pl.Cd) (n : Int) (w : World) (hf : Pl.Fine c) (n0 : 0 ≤ n) (n1 : n ≤ 99999999) :
    Calls Tryz.prog 35 #[.agg #[.string ⟨c.old.toArray⟩, .string ⟨c.new.toArray⟩, .int .i64 c.len], .int .i64 n] w fun e w' => e = .returned (.tuple #[.string ⟨(oldR c n.toNat).1.toArray⟩, .bool (oldR c n.toNat).2]) ∧ Below w.heap.size w w' := by
  have hei := fun w0 => Eight_any n (by omega) (by omega) w0
  have h8 := Pl.eight_len n.toNat
  have hdef : Kp (oldR c n.toNat = if ((Pl.eight n.toNat).take (Pl.cutOf c)).drop c.new.length = Pl.zeros (Pl.cutOf c - c.new.length) then (c.old ++ (Pl.eight n.toNat).drop (Pl.cutOf c), true) else ([], false)) := ⟨rfl⟩
  generalize Pl.eight n.toNat = s at *
  obtain ⟨o, nw, l⟩ := c
  obtain ⟨_, _, o1, o4, w1, w5, l1, l7, fit, _⟩ := hf
  obtain ⟨cut, hcut⟩ : ∃ cut, Pl.cutOf ⟨o, nw, l⟩ = cut := ⟨_, rfl⟩
  have hc8 : cut ≤ 8 ∧ nw.length ≤ cut ∧ (8 : Int) - (l - (o.length : Int)) = cut := by
    rw [← hcut]; unfold Pl.cutOf Pl.room at *; simp only at *; omega
  obtain ⟨k8, kn, hsub⟩ := hc8
  rw [hcut] at hdef
  simp only at hdef
  clear hcut fit
  simp only at o1 o4 w1 w5 l1 l7
  have hloc := fun w0 => local_any o nw l (by omega) (by omega) w0
  have B := Bx.mk w 29 #[.string ⟨o.toArray⟩, .string ⟨nw.toArray⟩, .int .i64 l]
  have hb0 := bNew (bStart w) (.cells #[.string ⟨o.toArray⟩, .string ⟨nw.toArray⟩, .int .i64 l] 29)
  clear n0 n1
  go_enter Tryz.func35, Tryz.ntmps35
  go_wp2_with fail
  refine (hei _).mono ?_
  rintro _ w1 ⟨rfl, hb1⟩
  replace B := B.call hb1; replace hb0 := bCall hb0 hb1
  clear hb1 hei
  have r0 := B.cell 0 rfl; have r1 := B.cell 1 rfl; have r2 := B.cell 2 rfl
  go_wp2_with fail
  refine (hloc _).mono ?_
  rintro _ w2 ⟨rfl, hb2⟩
  replace B := B.call hb2; replace hb0 := bCall hb0 hb2
  clear hloc hb2 r0 r1 r2
  have r0 := B.cell 0 rfl; have r1 := B.cell 1 rfl; have r2 := B.cell 2 rfl
  go_wp2
  clear hsub
  go_loop [8] (fun i => ∃ j : Nat, nw.length ≤ j ∧ j ≤ cut ∧ i = .int .i64 j ∧ Hid (∀ (i : Nat) (hi : i < s.length), nw.length ≤ i → i < j → s[i] = 48)) (fun i => cut - (intOf i).toNat)
  case atStart => exact ⟨nw.length, Nat.le_refl _, kn, rfl, Lib.hid (fun i hi h1 h2 => by omega)⟩
  case round =>
    obtain ⟨j, hj1, hj2, rfl, hz⟩ := hrel
    by_cases hlt : j < cut
    · have hjs : j < s.length := by omega
      have t0 : decide ((j : Int) < (cut : Int)) = true := by simp; omega
      by_cases h48 : s[j] = 48
      · have t1 : (((s[j].toNat : Nat) : Int) != 48) = false := by rw [h48]; rfl
        go_wp2
        go_round
        case rel => exact ⟨j + 1, by omega, by omega, by go_num, Lib.hid (fun i hi h1 h2 => by
          rcases Nat.lt_or_ge i j with h | h
          · exact hz.out i hi h1 h
          · obtain rfl : i = j := by omega
            exact h48)⟩
        case measure => simp [intOf]; omega
      · have hne : ¬ (s[j].toNat = 48) := fun h => h48 (by apply UInt8.toNat_inj.1; exact h)
        have t1 : (((s[j].toNat : Nat) : Int) != 48) = true := by simp; omega
        have hfin : Kp (oldR ⟨o, nw, l⟩ n.toNat = ([], false)) := ⟨by
          rw [hdef.out, if_neg]
          intro h
          have h2 := congrArg (fun z => z[j - nw.length]?) h
          simp only [List.getElem?_drop, List.getElem?_take, Pl.zeros, show nw.length + (j - nw.length) = j by omega] at h2
          rw [if_pos hlt, List.getElem?_eq_getElem hjs, List.getElem?_replicate, if_pos (by omega)] at h2
          exact h48 (by simpa using h2)⟩
        go_wp2
        go_ret2
        exact ⟨by rw [hfin.out]; rfl, hb0⟩
    · obtain rfl : j = cut := by omega
      have t0 : decide ((j : Int) < (j : Int)) = false := by simp
      have hfin : Kp (oldR ⟨o, nw, l⟩ n.toNat = (o ++ (s.drop j).take (8 - j), true)) := ⟨by
        rw [hdef.out, if_pos (zeros_all (by omega) hz.out), List.take_of_length_le (by simp; omega)]⟩
      have g0 := fun d os => (B.again d os).cell 0 rfl
      clear hz hdef r0 r1 r2
      go_wp2
      refine wp_region_quiet_below (by kernel_rfl) (by kernel_rfl) ?_
      repeat (go_big_quiet_step (fail))
      refine wpQuiet_nil ?_
      rintro _ ⟨q, rfl⟩
      go_wp2
      go_ret2
      exact ⟨by rw [hfin.out]; rfl, bAgain hb0 q.d q.os⟩
theorem write_code {p : List Pl.Cd} {n ph : Int} (hv : Pl.valid p = true) (hp : Pl.isPhase ph = true) :
    (codeAt p n = -1 ∧ Pl.write p n ph = ([], 120)) ∨ (∃ (i : Nat) (c : Pl.Cd), codeAt p n = i ∧ p[i]? = some c ∧ 0 ≤ n ∧ n ≤ 99999999 ∧ Pl.write p n ph = if ph ≠ 1 then (Pl.eight n.toNat, 0) else if (oldR c n.toNat).2 then ((oldR c n.toNat).1, 0) else ([], 120)) := by
  unfold codeAt Pl.write
  rw [hv, hp]
  by_cases h : n < 0 ∨ 99999999 < n
  · rw [if_pos h]
    left
    have : Pl.within n 0 99999999 = false := by simp [Pl.within]; omega
    rw [this]
    exact ⟨rfl, rfl⟩
  · rw [if_neg h]
    have : Pl.within n 0 99999999 = true := by simp [Pl.within]; omega
    rw [this]
    simp only [Bool.not_true, Bool.or_self, Bool.false_eq_true, if_false]
    cases hf : p.findIdx? (fun c => c.new.isPrefixOf (Pl.eight n.toNat)) with
    | none =>
      left
      rw [List.findIdx?_eq_none_iff] at hf
      have : p.find? (fun c => c.new.isPrefixOf (Pl.eight n.toNat)) = none := by
        rw [List.find?_eq_none]; intro c hc; simp [hf c hc]
      rw [this]
      exact ⟨rfl, rfl⟩
    | some i =>
      right
      have h2 := List.findIdx?_eq_some_iff_getElem.1 hf
      obtain ⟨hi, hp1, hp2⟩ := h2
      have : p.find? (fun c => c.new.isPrefixOf (Pl.eight n.toNat)) = some p[i] := by
        rw [List.find?_eq_some_iff_getElem]
        exact ⟨hp1, i, hi, rfl, fun j hj => by rw [Bool.eq_false_iff.2 (hp2 j hj)]; rfl⟩
      rw [this]
      refine ⟨i, p[i], rfl, List.getElem?_eq_getElem hi, by omega, by omega, ?_⟩
      simp only
      unfold oldR Pl.cutOf
      by_cases hph : ph = 1
      · subst hph
        simp only [ne_eq, not_true_eq_false, if_false]
        split <;> rfl
      · simp only [ne_eq, hph, not_false_eq_true, if_true]
set_option maxRecDepth 100000 in
set_option maxHeartbeats 2000000 in
theorem refWrite_any {w0 w : World} {A : Option Addr} {cap : Nat} {p : List Pl.Cd} (sw : Sw w0 w A cap p) {n ph : Int} (h64 : I64 n) {r : List UInt8 × Int} (h : Kp (Pl.write p n ph = r)) :
    Calls Tryz.prog 11 #[.slice A p.length cap, .int .i64 n, .int .i64 ph] w fun e w' => e = .returned (.tuple #[.string ⟨r.1.toArray⟩, .int .i64 r.2]) ∧ Below w.heap.size w w' := by
  have sv : Sw w w A cap p := ⟨bStart w, sw.hA, sw.hE, sw.hs, sw.hl, sw.hc, sw.hm⟩
  clear sw
  have hV := fun w0 (h0 : At 3 codeC w0 w0.heap.size A p) => refValid_any p A cap w0 h0 sv.hc sv.hs
  have hP := fun w0 => phase_any ph w0
  have hC := fun w0 (h0 : At 3 codeC w0 w0.heap.size A p) => Code_any p A cap n w0 h0 sv.hc sv.hl h64
  have hE := fun (a : 0 ≤ n) (b : n ≤ 99999999) w0 => Eight_any n a (by omega) w0
  obtain ⟨r1, r2⟩ := r
  simp only
  cases hv : Pl.valid p
  · have hfin : r1 = [] ∧ r2 = 120 := by have := h.out; unfold Pl.write at this; rw [hv] at this; simpa [eq_comm] using this
    obtain ⟨rfl, rfl⟩ := hfin
    rw [hv] at hV
    clear hP hC hE h hv
    go_enter Tryz.func11, Tryz.ntmps11
    go_wp2_with (go_at_call 19; refine (hV _ sv.hA).mono ?_; rintro _ w1 ⟨rfl, hb1⟩)
    go_ret2
    exact ⟨rfl, hb1⟩
  · cases hp : Pl.isPhase ph
    · have hfin : r1 = [] ∧ r2 = 120 := by have := h.out; unfold Pl.write at this; rw [hv, hp] at this; simpa [eq_comm] using this
      obtain ⟨rfl, rfl⟩ := hfin
      rw [hv] at hV; rw [hp] at hP
      clear hC hE h hv hp
      go_enter Tryz.func11, Tryz.ntmps11
      go_wp2_with (first | (go_at_call 19; refine (hV _ sv.hA).mono ?_; rintro _ w1 ⟨rfl, hb1⟩) | (go_at_call 32; refine (hP _).mono ?_; rintro _ _ ⟨rfl, rfl⟩))
      go_ret2
      exact ⟨rfl, hb1⟩
    · have hpi : 1 ≤ ph ∧ ph ≤ 3 := by simp [Pl.isPhase, Pl.within] at hp; omega
      have hF := fun (c : Pl.Cd) (hc : c ∈ p) => Pl.valid_fine hv hc
      rcases write_code (n := n) hv hp with ⟨e1, e2⟩ | ⟨i, c, e1, hi, n0, n1, e2⟩
      · rw [h.out] at e2
        obtain ⟨rfl, rfl⟩ : r1 = [] ∧ r2 = 120 := by simpa using e2
        rw [hv] at hV; rw [hp] at hP; rw [e1] at hC
        clear hE h hv hp e1 e2 hF
        go_enter Tryz.func11, Tryz.ntmps11
        go_wp2_with (first
          | (go_at_call 19; refine (hV _ sv.hA).mono ?_; rintro _ w1 ⟨rfl, hb1⟩; have sv1 := sv.call hb1)
          | (go_at_call 32; refine (hP _).mono ?_; rintro _ _ ⟨rfl, rfl⟩)
          | (go_at_call 33; refine (hC _ sv1.hA).mono ?_; rintro _ w2 ⟨rfl, hb2⟩))
        go_ret2
        exact ⟨rfl, bCall hb1 hb2⟩
      · rw [h.out] at e2
        have hil : i < p.length := (List.getElem?_eq_some_iff.1 hi).1
        have hEi := hE n0 n1
        rw [hv] at hV; rw [hp] at hP; rw [e1] at hC
        have hfc := hF c (List.mem_of_getElem? hi)
        have hO := fun w0 => Old_any c n w0 hfc n0 n1
        clear hE h hv hp e1 hF
        have t0 : decide ((i : Int) < 0) = false := by simp
        by_cases hph : ph = 1
        · subst hph
          simp only [ne_eq, not_true_eq_false, if_false] at e2
          have hA0 := sv.hA
          obtain ⟨b, off, rfl, hbB, hcell⟩ := hA0 (by omega)
          have k0 : w.cell? ⟨b, off + i * 3, none⟩ = some (.string ⟨c.old.toArray⟩) := hcell i c hi 0 _ rfl
          have k1 : w.cell? ⟨b, off + i * 3 + 1, none⟩ = some (.string ⟨c.new.toArray⟩) := hcell i c hi 1 _ rfl
          have k2 : w.cell? ⟨b, off + i * 3 + 2, none⟩ = some (.int .i64 c.len) := hcell i c hi 2 _ rfl
          clear hcell hi hfc hEi
          obtain ⟨co, cn, cl⟩ := c
          simp only at k0 k1 k2 hO
          generalize oldR ⟨co, cn, cl⟩ n.toNat = o at *
          obtain ⟨o, ob⟩ := o
          cases ob
          · simp only [Bool.false_eq_true, if_false, Prod.mk.injEq] at e2
            obtain ⟨rfl, rfl⟩ := e2
            simp only at hO
            go_enter Tryz.func11, Tryz.ntmps11
            go_wp2_with (first
              | (go_at_call 19; refine (hV _ sv.hA).mono ?_; rintro _ w1 ⟨rfl, hb1⟩; have sv1 := sv.call hb1)
              | (go_at_call 32; refine (hP _).mono ?_; rintro _ _ ⟨rfl, rfl⟩)
              | (go_at_call 33; refine (hC _ sv1.hA).mono ?_; rintro _ w2 ⟨rfl, hb2⟩; have q0 := ((bCall hb1 hb2).cell (p := ⟨b, off + i * 3, none⟩) hbB).trans k0; have q1 := ((bCall hb1 hb2).cell (p := ⟨b, off + i * 3 + 1, none⟩) hbB).trans k1; have q2 := ((bCall hb1 hb2).cell (p := ⟨b, off + i * 3 + 2, none⟩) hbB).trans k2)
              | (go_at_call 35; refine (hO _).mono ?_; rintro _ w3 ⟨rfl, hb3⟩))
            go_ret2
            exact ⟨rfl, bCall (bCall hb1 hb2) hb3⟩
          · simp only [if_true, Prod.mk.injEq] at e2
            obtain ⟨rfl, rfl⟩ := e2
            simp only at hO
            go_enter Tryz.func11, Tryz.ntmps11
            go_wp2_with (first
              | (go_at_call 19; refine (hV _ sv.hA).mono ?_; rintro _ w1 ⟨rfl, hb1⟩; have sv1 := sv.call hb1)
              | (go_at_call 32; refine (hP _).mono ?_; rintro _ _ ⟨rfl, rfl⟩)
              | (go_at_call 33; refine (hC _ sv1.hA).mono ?_; rintro _ w2 ⟨rfl, hb2⟩; have q0 := ((bCall hb1 hb2).cell (p := ⟨b, off + i * 3, none⟩) hbB).trans k0; have q1 := ((bCall hb1 hb2).cell (p := ⟨b, off + i * 3 + 1, none⟩) hbB).trans k1; have q2 := ((bCall hb1 hb2).cell (p := ⟨b, off + i * 3 + 2, none⟩) hbB).trans k2)
              | (go_at_call 35; refine (hO _).mono ?_; rintro _ w3 ⟨rfl, hb3⟩))
            go_ret2
            exact ⟨rfl, bCall (bCall hb1 hb2) hb3⟩
        · have t1 : (ph != 1) = true := by simp [hph]
          rw [if_pos hph] at e2
          obtain ⟨rfl, rfl⟩ : r1 = Pl.eight n.toNat ∧ r2 = 0 := by simpa using e2
          clear e2 hO hfc hi hph
          go_enter Tryz.func11, Tryz.ntmps11
          go_wp2_with (first
          | (go_at_call 19; refine (hV _ sv.hA).mono ?_; rintro _ w1 ⟨rfl, hb1⟩; have sv1 := sv.call hb1)
          | (go_at_call 32; refine (hP _).mono ?_; rintro _ _ ⟨rfl, rfl⟩)
            | (go_at_call 33; refine (hC _ sv1.hA).mono ?_; rintro _ w2 ⟨rfl, hb2⟩)
            | (go_at_call 34; refine (hEi _).mono ?_; rintro _ w3 ⟨rfl, hb3⟩))
          go_ret2
          exact ⟨rfl, bCall (bCall hb1 hb2) hb3⟩
end Go.Proofs.YtpifllonlchhhaaGreatDoor
