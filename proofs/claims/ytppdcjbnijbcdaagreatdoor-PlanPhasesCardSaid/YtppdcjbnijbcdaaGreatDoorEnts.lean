/- entries of package plan. -/
import Derived.Test.YtppdcjbnijbcdaaGreatDoorNum
import Derived.Test.YtppdcjbnijbcdaaGreatDoorMapK
namespace Pl
theorem apart_ne {a b : S} (h : apart a b = true) : a ≠ b := by
  intro e
  subst e
  have h2 : a.isPrefixOf a = true := List.isPrefixOf_iff_prefix.2 (List.prefix_refl a)
  unfold apart at h
  rw [h2] at h
  cases h
theorem valid_differ {p : List Cd} (h : valid p = true) (k : Nat) (c : Cd) (hc : p[k]? = some c) (b : Cd) (hb : b ∈ p.take k) : differ c b = true := by
  simp only [valid, Bool.and_eq_true] at h
  have h2 := h.2
  unfold allPairs at h2
  have hk : k < p.length := (List.getElem?_eq_some_iff.1 hc).1
  have h3 := List.all_eq_true.1 h2 k (List.mem_range.2 hk)
  have h4 := List.all_eq_true.1 h3 b hb
  simpa [hc] using h4
def entOf (ph : Int) (c : Cd) (i : Nat) : List (S × Ent) :=
  (if ph ≠ 3 then [(c.old, ⟨(i : Int), c.len, c.new ++ zeros (8 - c.new.length - room c).toNat⟩)] else []) ++
    (if ph ≠ 1 then [(c.new, ⟨(i : Int), 8, c.new⟩)] else [])
theorem ents_succ (p : List Cd) (ph : Int) (k : Nat) (c : Cd) (hc : p[k]? = some c) : ents (p.take (k + 1)) ph = ents (p.take k) ph ++ entOf ph c k := by
  have hk : k < p.length := (List.getElem?_eq_some_iff.1 hc).1
  unfold ents
  rw [List.take_add_one, hc, Option.toList_some, List.zipIdx_append, List.flatMap_append]
  simp [entOf, Nat.min_eq_left (Nat.le_of_lt hk)]
theorem ents_len (p : List Cd) (ph : Int) : ∀ k, k ≤ p.length → (ents (p.take k) ph).length ≤ 2 * k
  | 0, _ => by simp [ents]
  | k + 1, h => by
    have ih := ents_len p ph k (by omega)
    rw [ents_succ p ph k p[k] (List.getElem?_eq_getElem (by omega)), List.length_append]
    have : (entOf ph p[k] k).length ≤ 2 := by unfold entOf; split <;> split <;> simp
    omega
theorem ents_key {p : List Cd} {ph : Int} {s : S} {x : Ent} (h : (s, x) ∈ ents p ph) : ∃ b ∈ p, s = b.old ∨ s = b.new := by
  unfold ents at h
  obtain ⟨⟨b, i⟩, h1, h2⟩ := List.mem_flatMap.1 h
  have hb : b ∈ p := (List.mem_zipIdx' h1).2 ▸ List.getElem_mem _
  refine ⟨b, hb, ?_⟩
  simp only [List.mem_append] at h2
  rcases h2 with h2 | h2
  · split at h2
    · simp at h2; exact .inl h2.1
    · simp at h2
  · split at h2
    · simp at h2; exact .inr h2.1
    · simp at h2
theorem lookup_none {α : Type} {es : List (S × α)} {s : S} (h : ∀ x, (s, x) ∉ es) : es.lookup s = none := by
  rw [List.lookup_eq_none_iff]
  intro q hq
  have : s ≠ q.1 := fun e => h q.2 (by rw [e]; exact hq)
  simpa using this
theorem ents_fresh {p : List Cd} (h : valid p = true) (ph : Int) (k : Nat) (c : Cd) (hc : p[k]? = some c) : (ents (p.take k) ph).lookup c.old = none ∧ (ents (p.take k) ph).lookup c.new = none ∧ c.old ≠ c.new := by
  refine ⟨lookup_none fun x hx => ?_, lookup_none fun x hx => ?_, apart_ne (valid_fine h (List.mem_of_getElem? hc)).ap⟩
  all_goals
    obtain ⟨b, hb, hs⟩ := ents_key hx
    have hd := valid_differ h k c hc b hb
    simp only [differ, Bool.and_eq_true] at hd
    obtain ⟨⟨⟨d1, d2⟩, d3⟩, d4⟩ := hd
    rcases hs with hs | hs
  · exact apart_ne d1 hs
  · exact apart_ne d3 hs
  · exact apart_ne d4 hs
  · exact apart_ne d2 hs
end Pl
namespace Go.Proofs.YtppdcjbnijbcdaaGreatDoor
set_option linter.unusedVariables false
set_option linter.unusedSimpArgs false
open Go.RowKit
def entV (x : Pl.Ent) : Value := .agg #[.int .i64 x.code, .int .i64 x.length, .string ⟨x.stands.toArray⟩]
/-- block b is the map of these entries -/
abbrev EntsIs (es : List (List UInt8 × Pl.Ent)) (b : Nat) (w : World) : Prop := MapIs Tryz.prog 9 entV es b w
set_option maxRecDepth 100000 in
set_option maxHeartbeats 4000000 in
theorem entries_any (p : List Pl.Cd) (A : Option Addr) (cap : Nat) (ph : Int) (w : World) (hA : At 3 codeC w w.heap.size A p) (hn : p.length ≤ cap) (hv : Pl.valid p = true) (hph : ph = 1 ∨ ph = 2 ∨ ph = 3) :
    Calls Tryz.prog 50 #[.slice A p.length cap, .int .i64 ph] w fun e w' => ∃ b, e = .returned (.map (some b)) ∧ Below w.heap.size w w' ∧ w.heap.size ≤ b ∧ EntsIs (Pl.ents p ph) b w' := by
  have hl20 := Pl.valid_len hv
  go_enter Tryz.func50, Tryz.ntmps50
  have hmk := run_makeMap (P := Tryz.prog) 81 w
  go_wp2
  clear hmk
  go_loopw [6, 7, 11] (fun s6 s7 s11 wr => ∃ k : Nat, k ≤ p.length ∧ s11 = .int .i64 k ∧ EntsIs (Pl.ents (p.take k) ph) w.heap.size wr ∧ Below w.heap.size w wr) (fun _ _ s11 _ => p.length - (intOf s11).toNat)
  case atStart => exact ⟨0, Nat.zero_le _, rfl, by simpa [Pl.ents] using MapIs.made w, bNew (bStart w) _⟩
  case round =>
    obtain ⟨k, hk, rfl, hM, hb⟩ := hrel
    by_cases hlt : k < p.length
    · have t0 : decide ((k : Int) < (p.length : Int)) = true := by simp; omega
      obtain ⟨b, off, rfl, hbB, hcell⟩ := hA (by omega)
      have hck : p[k]? = some p[k] := List.getElem?_eq_getElem hlt
      have c0 : wr.cell? ⟨b, off + k * 3, none⟩ = some (.string ⟨(p[k]).old.toArray⟩) := (hb.cell (p := ⟨b, _, none⟩) hbB).trans (hcell k _ hck 0 _ rfl)
      have c1 : wr.cell? ⟨b, off + k * 3 + 1, none⟩ = some (.string ⟨(p[k]).new.toArray⟩) := (hb.cell (p := ⟨b, _, none⟩) hbB).trans (hcell k _ hck 1 _ rfl)
      have c2 : wr.cell? ⟨b, off + k * 3 + 2, none⟩ = some (.int .i64 (p[k]).len) := (hb.cell (p := ⟨b, _, none⟩) hbB).trans (hcell k _ hck 2 _ rfl)
      have hF := Pl.valid_fine hv (List.getElem_mem hlt)
      have hfr := Pl.ents_fresh hv ph k p[k] hck
      have hsucc := Kp.mk (Pl.ents_succ p ph k p[k] hck)
      have hel : (Pl.ents (p.take k) ph).length ≤ 1000 := by have := Pl.ents_len p ph k (by omega); omega
      clear hck hcell hA
      generalize p[k] = c at *
      obtain ⟨o, nw, l⟩ := c
      obtain ⟨_, _, ho1, ho4, hn1, hn5, hl1, hl7, hfit, _⟩ := hF
      simp only [Pl.room] at *
      have Bc := Bx.mk wr 29 #[.string ⟨o.toArray⟩, .string ⟨nw.toArray⟩, .int .i64 l]
      have hM1 := hM.below (B := wr.heap.size) ((Below.refl wr.heap.size wr).alloc (Nat.le_refl _) (.cells #[.string ⟨o.toArray⟩, .string ⟨nw.toArray⟩, .int .i64 l] 29)) hM.lt
      have hb1 := bNew hb (.cells #[.string ⟨o.toArray⟩, .string ⟨nw.toArray⟩, .int .i64 l] 29)
      have g0 := fun d os => (Bc.again d os).cell 0 rfl
      have g1 := fun d os => (Bc.again d os).cell 1 rfl
      have g2 := fun d os => (Bc.again d os).cell 2 rfl
      have r0 := Bc.cell 0 rfl
      have r1 := Bc.cell 1 rfl
      have r2 := Bc.cell 2 rfl
      have hstr : Tryz.prog.underlying 9 = some .string := Tryz.underlying9
      have hmap : Tryz.prog.underlying 81 = some (.map 9 84) := Tryz.underlying81
      have hR := fun w0 => Repeat_any [48] (8 - (nw.length : Int) - (l - (o.length : Int))) w0 (by omega) (by omega) (by decide)
      have hz := repeat_zero (8 - (nw.length : Int) - (l - (o.length : Int))).toNat
      have hzl : (Lib.repeatL [48] (8 - (nw.length : Int) - (l - (o.length : Int))).toNat).length ≤ 8 := by rw [hz]; simp; omega
      rw [show List.replicate (8 - (nw.length : Int) - (l - (o.length : Int))).toNat 48 = Pl.zeros (8 - (nw.length : Int) - (l - (o.length : Int))).toNat from rfl] at hz
      replace hz := Kp.mk hz
      generalize Lib.repeatL [48] (8 - (nw.length : Int) - (l - (o.length : Int))).toNat = z at *
      have hcat : ¬ (9223372036854775807 < nw.length + z.length) := by omega
      rcases hph with rfl | rfl | rfl
      · clear r0 r1 r2
        go_wp2
        refine wp_region_below_tail 18 (by kernel_rfl) (by kernel_rfl) ?_
        simp only [List.take, List.drop]
        repeat (go_big_quiet_step (first
          | (go_at_call 39; exact Calls.regrown_of (room_any _ _ _ (by omega) (by omega) _))
          | (go_at_call 61; exact Calls.regrown_of (hR _))))
        refine wpQuiet_nil ?_
        rintro _ ⟨q, rfl⟩
        have hM2 := hM1.below (below_regrown _ q.d q.os) hM1.lt
        have hb2 := bAgain hb1 q.d q.os
        clear g0 g1 g2 hM1 hb1 Bc hM hb hR
        generalize Sort.grow _ q.os = W2 at *
        refine wpList_put rfl (.tmp 18) (.tmp 20) (.tmp 35) rfl hstr hmap rfl hM2 (by unfold maxLen; omega) o ⟨k, l, nw ++ z⟩ rfl rfl (by unfold maxLen; omega) hfr.1 ?_
        intro w3 hM3 hg3
        have hb3 := below_grownBy hg3 (fun b hb => by cases hb; exact Nat.le_refl _) hb2.size hb2
        clear hM2 hb2 hg3
        go_wp2
        refine ⟨⟨k + 1, by omega, by go_num, ?_, hb3⟩, by simp [intOf]; omega⟩
        rw [hsucc.out]
        have hz' := hz.out; simpa [Pl.entOf, Pl.room, ← hz'] using hM3
      · clear r0 r1 r2
        go_wp2
        refine wp_region_below_tail 18 (by kernel_rfl) (by kernel_rfl) ?_
        simp only [List.take, List.drop]
        repeat (go_big_quiet_step (first
          | (go_at_call 39; exact Calls.regrown_of (room_any _ _ _ (by omega) (by omega) _))
          | (go_at_call 61; exact Calls.regrown_of (hR _))))
        refine wpQuiet_nil ?_
        rintro _ ⟨q, rfl⟩
        have hM2 := hM1.below (below_regrown _ q.d q.os) hM1.lt
        have hb2 := bAgain hb1 q.d q.os
        have Bc2 := Bc.again q.d q.os
        have hne : w.heap.size < wr.heap.size := hM.lt
        clear g0 g1 g2 hM1 hb1 Bc hM hb hR
        generalize Sort.grow _ q.os = W2 at *
        refine wpList_put rfl (.tmp 18) (.tmp 20) (.tmp 35) rfl hstr hmap rfl hM2 (by unfold maxLen; omega) o ⟨k, l, nw ++ z⟩ rfl rfl (by unfold maxLen; omega) hfr.1 ?_
        intro w3 hM3 hg3
        have hb3 := below_grownBy hg3 (fun b hb => by cases hb; exact Nat.le_refl _) hb2.size hb2
        have Bc3 : Bx w3 wr.heap.size 29 #[.string ⟨o.toArray⟩, .string ⟨nw.toArray⟩, .int .i64 l] := (hg3.block wr.heap.size Bc2.lt (by intro h; injection h with h; omega)).trans Bc2
        have r1 := Bc3.cell 1 rfl
        have hnew : (Pl.ents (p.take k) 2 ++ [(o, (⟨(k : Int), l, nw ++ z⟩ : Pl.Ent))]).lookup nw = none := by
          rw [List.lookup_append, hfr.2.1]
          simp [List.lookup, beq_eq_false_iff_ne.2 (Ne.symm hfr.2.2)]
        clear hM2 hb2 hg3 Bc2 Bc3 hne
        go_wp2_with (at_mapUpdate; refine wpList_put rfl (.tmp 38) (.tmp 40) (.tmp 44) rfl hstr hmap rfl hM3 (by simp; unfold maxLen; omega) nw ⟨k, 8, nw⟩ rfl rfl (by unfold maxLen; omega) hnew ?_; intro w5 hM5 hg5)
        have hb5 := below_grownBy hg5 (fun b hb => by cases hb; exact Nat.le_refl _) hb3.size hb3
        refine ⟨⟨k + 1, by omega, by go_num, ?_, hb5⟩, by simp [intOf]; omega⟩
        rw [hsucc.out]
        have hz' := hz.out
        simpa [Pl.entOf, Pl.room, ← hz'] using hM5
      · clear g0 g1 g2 hR
        have hnew := hfr.2.1
        go_wp2_with (at_mapUpdate; refine wpList_put rfl (.tmp 38) (.tmp 40) (.tmp 44) rfl hstr hmap rfl hM1 (by unfold maxLen; omega) nw ⟨k, 8, nw⟩ rfl rfl (by unfold maxLen; omega) hnew ?_; intro w5 hM5 hg5)
        have hb5 := below_grownBy hg5 (fun b hb => by cases hb; exact Nat.le_refl _) hb1.size hb1
        refine ⟨⟨k + 1, by omega, by go_num, ?_, hb5⟩, by simp [intOf]; omega⟩
        rw [hsucc.out]
        simpa [Pl.entOf] using hM5
    · obtain rfl : k = p.length := by omega
      have t0 : decide ((p.length : Int) < (p.length : Int)) = false := by simp
      rw [List.take_of_length_le (Nat.le_refl _)] at hM
      go_wp2
      go_ret
      exact ⟨_, rfl, hb, Nat.le_refl _, hM⟩
end Go.Proofs.YtppdcjbnijbcdaaGreatDoor
