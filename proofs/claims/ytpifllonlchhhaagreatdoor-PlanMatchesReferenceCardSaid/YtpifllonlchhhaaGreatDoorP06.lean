/- A map of strings of the call's own, as a list of keys and elements (each key once). entries of package plan. What Read leans on, of no program. -/
import Derived.Test.YtpifllonlchhhaaGreatDoorP04
import Derived.Maps.OwnSet
import Derived.Maps.RangeWalk
import Derived.Test.YtpifllonlchhhaaGreatDoorP05
namespace Go.Proofs.YtpifllonlchhhaaGreatDoor
set_option linter.unusedVariables false
set_option linter.unusedSimpArgs false
open Go.RowKit
open Go.Maps (Keyed)
/-- every element reads as itself -/
def RV (v : Value) : Option (DataW Value × List MemPlace) := some (.held v, [])
theorem key_string {P : Program} {k : TypeId} (hk : P.underlying k = some .string) {s : List UInt8} (hs : s.length ≤ maxLen) : keyOf P k (.string ⟨s.toArray⟩) = some (.string s) := by
  have : (ByteArray.size ⟨s.toArray⟩) ≤ maxLen := hs
  simp [keyOf, mapKey, hk, this]
section
variable {α : Type} {P : Program} {k t e : TypeId} {enc : α → Value} {es : List (List UInt8 × α)} {b : Nat} {w w' : World}
/-- block b is a map that holds just these -/
def MapIs (P : Program) (k : TypeId) (enc : α → Value) (es : List (List UInt8 × α)) (b : Nat) (w : World) : Prop :=
  ∃ D, w.ownsMap P k RV b es.length D ∧ Maps.IsMap D ∧ ∀ s : List UInt8, (∀ z, D.atKey (.string s) z = match es.lookup s with | some x => .held (enc x) | none => z) ∧ Maps.has D (.string s) = (es.lookup s).isSome
theorem MapIs.made (w : World) : MapIs P k enc [] w.heap.size (w.alloc (.map #[] 0)) :=
  ⟨_, w.ownsMap_made P k RV, Maps.isMap_empty, fun s => ⟨fun z => rfl, rfl⟩⟩
theorem MapIs.below {B : Nat} (h : MapIs P k enc es b w) (hb : Below B w w') (hB : b < B) : MapIs P k enc es b w' := by
  obtain ⟨D, ⟨ent, clock, h1, h2, h3, h4⟩, hm, hs⟩ := h
  exact ⟨D, ⟨ent, clock, (hb.block b hB).trans h1, h2, h3, h4⟩, hm, hs⟩
theorem MapIs.lt (h : MapIs P k enc es b w) : b < w.heap.size := by obtain ⟨D, h, _⟩ := h; exact h.lt
theorem below_grownBy {B : Nat} {a : World} {row : Option Nat} (h : w.grownBy w' row) (hrow : ∀ b, row = some b → B ≤ b) (hB : B ≤ w.heap.size) (hb : Below B a w) : Below B a w' :=
  hb.trans ⟨h.os, h.tape, h.output, h.size, fun k hk => h.block k (by omega) (fun hh => by have := hrow k hh.symm; omega)⟩
theorem wpList_put {ops : Array Oper} {rest : List Oper} {o : Oper} {a : Act} {Q : Exit → Act → World → Prop} (hg : o.guard = none) (m x v : Operand) (hop : o.op = Op.mapUpdate t m x v) (hk : P.underlying k = some .string) (ht : P.underlying t = some (.map k e))
    (hm : a.eval m = .map (some b)) (h : MapIs P k enc es b w) (hn : es.length < maxLen) (s : List UInt8) (y : α) (hx : a.eval x = .string ⟨s.toArray⟩) (hv : a.eval v = enc y) (hs : s.length ≤ maxLen) (hnew : es.lookup s = none)
    (hK : ∀ w', MapIs P k enc (es ++ [(s, y)]) b w' → w.grownBy w' (some b) → wpList P ops Q rest (a.put o.dst undef) w') : wpList P ops Q (o :: rest) a w := by
  obtain ⟨D, hown, hmap, hall⟩ := h
  refine wpList_mapUpdate_own w hg m x v t hop k e (Maps.string_keyed hk) ht RV b es.length D hm hown hn _ _ (.string s) hx hv (key_string hk hs) (.held (enc y)) [] rfl fun w' h1 h2 => hK w' ⟨_, by simpa using h1, hmap.put _ _, fun s' => ?_⟩ h2
  rw [List.lookup_append]
  by_cases hss : s' = s
  · subst hss
    rw [hnew]
    refine ⟨fun z => ?_, ?_⟩
    · rw [Maps.atKey_put_same hmap (show WideAt.IsKeyLit (.string s') from trivial)]; simp
    · rw [Maps.has_put_same hmap (show WideAt.IsKeyLit (.string s') from trivial)]; simp
  · have hne : Lit.string s' ≠ Lit.string s := fun h => hss (by cases h; rfl)
    have hl : List.lookup s' [(s, y)] = none := by simp [List.lookup, beq_eq_false_iff_ne.2 hss]
    rw [hl, Option.or_none]
    exact ⟨fun z => by rw [Maps.atKey_put_other hne]; exact (hall s').1 z, by rw [Maps.has_put_other hne]; exact (hall s').2⟩
theorem wpList_look {ops : Array Oper} {rest : List Oper} {o : Oper} {a : Act} {Q : Exit → Act → World → Prop} (hg : o.guard = none) (m x : Operand) (hop : o.op = Op.lookup t m x true) (hk : P.underlying k = some .string) (ht : P.underlying t = some (.map k e))
    {z : Value} (hz : (zeroValue e).run P w = .ok z w) (hm : a.eval m = .map (some b)) (h : MapIs P k enc es b w) (s : List UInt8) (hx : a.eval x = .string ⟨s.toArray⟩) (hs : s.length ≤ maxLen)
    (hK : wpList P ops Q rest (a.put o.dst (.tuple #[(match es.lookup s with | some y => enc y | none => z), .bool (es.lookup s).isSome])) w) : wpList P ops Q (o :: rest) a w := by
  obtain ⟨D, hown, hmap, hall⟩ := h
  refine wpList_lookup_own_ok w hg m x t hop k e (Maps.string_keyed hk) ht RV hz (.held z) [] rfl b es.length D hm hown _ (.string s) hx (key_string hk hs) fun v ps hv => ?_
  simp only [RV, Option.some.injEq, Prod.mk.injEq] at hv
  rw [(hall s).1] at hv
  have : v = (match es.lookup s with | some y => enc y | none => z) := by
    have := hv.1
    cases hl : es.lookup s <;> rw [hl] at this <;> cases this <;> rfl
  rw [this, (hall s).2]
  exact hK
/-- the map while it is ranged over -/
def RangeIs (P : Program) (k : TypeId) (enc : α → Value) (es : List (List UInt8 × α)) (b r : Nat) (w : World) (left : Lit → Bool) (cnt : Nat) : Prop :=
  ∃ D, w.ranges P k RV b r es.length D left cnt ∧ Maps.IsMap D ∧ (∀ s : List UInt8, (∀ z, D.atKey (.string s) z = match es.lookup s with | some x => .held (enc x) | none => z) ∧ Maps.has D (.string s) = (es.lookup s).isSome) ∧ ∀ kl, left kl = true → Maps.has D kl = true
theorem wpList_range_k {ops : Array Oper} {rest : List Oper} {o : Oper} {a : Act} {Q : Exit → Act → World → Prop} (hg : o.guard = none) (m : Operand) (hop : o.op = Op.range t m) (hk : P.underlying k = some .string) (ht : P.underlying t = some (.map k e))
    (hm : a.eval m = .map (some b)) (h : MapIs P k enc es b w)
    (hK : ∀ w' left cnt, RangeIs P k enc es b w.heap.size w' left cnt → (∀ s : List UInt8, left (.string s) = (es.lookup s).isSome) → w.grownBy w' none → w'.heap.size = w.heap.size + 1 → wpList P ops Q rest (a.put o.dst (.pointer (some ⟨w.heap.size, 0, none⟩))) w') :
    wpList P ops Q (o :: rest) a w := by
  obtain ⟨D, hown, hmap, hall⟩ := h
  exact wpList_range_own w hg m t hop k e (Maps.string_keyed hk) ht RV b es.length D hm hown fun w' h1 h2 h3 => hK w' _ _ ⟨D, h1, hmap, hall, fun kl h => h⟩ (fun s => (hall s).2) h2 h3
theorem key_inv (hk : P.underlying k = some .string) (key : Value) (kl : Lit) (h : keyOf P k key = some kl) : ∃ s : List UInt8, key = .string ⟨s.toArray⟩ ∧ kl = .string s := by
  simp only [keyOf, mapKey, hk] at h
  cases key <;> simp at h
  rename_i s
  exact ⟨s.data.toList, by rw [Lib.mk_data], h.2.symm⟩
theorem wpList_next_k {ops : Array Oper} {rest : List Oper} {o : Oper} {a : Act} {Q : Exit → Act → World → Prop} (hg : o.guard = none) (it : Operand) (hop : o.op = Op.next it false) (hk : P.underlying k = some .string) (r : Nat) (left : Lit → Bool) (cnt : Nat)
    (hit : a.eval it = .pointer (some ⟨r, 0, none⟩)) (h : RangeIs P k enc es b r w left cnt)
    (hDone : (∀ s : List UInt8, left (.string s) = false) → wpList P ops Q rest (a.put o.dst (.tuple #[.bool false])) w)
    (hMore : ∀ (s : List UInt8) (y : α) (w' : World) (cnt' : Nat), left (.string s) = true → es.lookup s = some y → RangeIs P k enc es b r w' (fun z => left z && !z.sameKey (.string s)) cnt' → cnt' < cnt → w.grownBy w' (some r) → w'.heap.size = w.heap.size →
      (Instr.entry (.pointer (some ⟨r, 0, none⟩))).run P w' = .ok (.tuple #[.string ⟨s.toArray⟩, enc y]) w' → wpList P ops Q rest (a.put o.dst (.tuple #[.bool true, .string ⟨s.toArray⟩, enc y])) w') :
    wpList P ops Q (o :: rest) a w := by
  obtain ⟨D, hr, hmap, hall, hleft⟩ := h
  refine wpList_next_ranges (α := List UInt8) (β := Value) w hg it hop k (Maps.string_keyed hk) RV (fun s => .string ⟨s.toArray⟩) id (fun key kl h => by obtain ⟨s, h1, _⟩ := key_inv hk key kl h; exact ⟨s, h1⟩) (fun v y _ => ⟨v, rfl⟩) b r es.length D left cnt hit hr
    (fun _ h0 => hDone fun s => h0 _) fun s c kl y w' cnt' hkey hl hv hat hrg hlt hgr hsz hen => ?_
  obtain ⟨s', h1, rfl⟩ := key_inv hk _ _ hkey
  obtain rfl : s' = s := by
    have h2 : (⟨s.toArray⟩ : ByteArray) = ⟨s'.toArray⟩ := by injection h1
    have h3 : s.toArray = s'.toArray := by injection h2
    simpa using h3.symm
  have hh := hleft _ hl
  rw [(hall s').2] at hh
  obtain ⟨x, hx⟩ := Option.isSome_iff_exists.1 hh
  have hc : c = enc x := by
    have h2 := hat (.held c)
    rw [(hall s').1, hx] at h2
    simp only [RV, id, Option.some.injEq] at hv
    rw [← hv] at h2
    simp only [DataW.held.injEq] at h2
    exact h2.symm
  subst hc
  exact hMore s' x w' cnt' hl hx ⟨D, hrg, hmap, hall, fun kl h => hleft kl (by simp at h; exact h.1)⟩ hlt hgr hsz hen
end
end Go.Proofs.YtpifllonlchhhaaGreatDoor
namespace Pl
theorem apart_ne {a b : S} (h : apart a b = true) : a ≠ b := by
  intro e
  subst e
  have h2 : a.isPrefixOf a = true := List.isPrefixOf_iff_prefix.2 (List.prefix_refl a)
  unfold apart at h
  rw [h2] at h
  cases h
theorem valid_differ {p : List Cd} (h : valid p = true) (k : Nat) (c : Cd) (hc : p[k]? = some c) (b : Cd) (hb : b ∈ p.take k) : differ c b = true := by
  simp only [valid, Bool.and_eq_true] at h
  have h2 := h.2
  unfold allPairs at h2
  have hk : k < p.length := (List.getElem?_eq_some_iff.1 hc).1
  have h3 := List.all_eq_true.1 h2 k (List.mem_range.2 hk)
  have h4 := List.all_eq_true.1 h3 b hb
  simpa [hc] using h4
def entOf (ph : Int) (c : Cd) (i : Nat) : List (S × Ent) :=
  (if ph ≠ 3 then [(c.old, ⟨(i : Int), c.len, c.new ++ zeros (8 - c.new.length - room c).toNat⟩)] else []) ++
    (if ph ≠ 1 then [(c.new, ⟨(i : Int), 8, c.new⟩)] else [])
theorem ents_succ (p : List Cd) (ph : Int) (k : Nat) (c : Cd) (hc : p[k]? = some c) : ents (p.take (k + 1)) ph = ents (p.take k) ph ++ entOf ph c k := by
  have hk : k < p.length := (List.getElem?_eq_some_iff.1 hc).1
  unfold ents
  rw [List.take_add_one, hc, Option.toList_some, List.zipIdx_append, List.flatMap_append]
  simp [entOf, Nat.min_eq_left (Nat.le_of_lt hk)]
theorem ents_len (p : List Cd) (ph : Int) : ∀ k, k ≤ p.length → (ents (p.take k) ph).length ≤ 2 * k
  | 0, _ => by simp [ents]
  | k + 1, h => by
    have ih := ents_len p ph k (by omega)
    rw [ents_succ p ph k p[k] (List.getElem?_eq_getElem (by omega)), List.length_append]
    have : (entOf ph p[k] k).length ≤ 2 := by unfold entOf; split <;> split <;> simp
    omega
theorem ents_key {p : List Cd} {ph : Int} {s : S} {x : Ent} (h : (s, x) ∈ ents p ph) : ∃ b ∈ p, s = b.old ∨ s = b.new := by
  unfold ents at h
  obtain ⟨⟨b, i⟩, h1, h2⟩ := List.mem_flatMap.1 h
  have hb : b ∈ p := (List.mem_zipIdx' h1).2 ▸ List.getElem_mem _
  refine ⟨b, hb, ?_⟩
  simp only [List.mem_append] at h2
  rcases h2 with h2 | h2
  · split at h2
    · simp at h2; exact .inl h2.1
    · simp at h2
  · split at h2
    · simp at h2; exact .inr h2.1
    · simp at h2
theorem lookup_none {α : Type} {es : List (S × α)} {s : S} (h : ∀ x, (s, x) ∉ es) : es.lookup s = none := by
  rw [List.lookup_eq_none_iff]
  intro q hq
  have : s ≠ q.1 := fun e => h q.2 (by rw [e]; exact hq)
  simpa using this
theorem ents_fresh {p : List Cd} (h : valid p = true) (ph : Int) (k : Nat) (c : Cd) (hc : p[k]? = some c) : (ents (p.take k) ph).lookup c.old = none ∧ (ents (p.take k) ph).lookup c.new = none ∧ c.old ≠ c.new := by
  refine ⟨lookup_none fun x hx => ?_, lookup_none fun x hx => ?_, apart_ne (valid_fine h (List.mem_of_getElem? hc)).ap⟩
  all_goals
    obtain ⟨b, hb, hs⟩ := ents_key hx
    have hd := valid_differ h k c hc b hb
    simp only [differ, Bool.and_eq_true] at hd
    obtain ⟨⟨⟨d1, d2⟩, d3⟩, d4⟩ := hd
    rcases hs with hs | hs
  · exact apart_ne d1 hs
  · exact apart_ne d3 hs
  · exact apart_ne d4 hs
  · exact apart_ne d2 hs
end Pl
namespace Go.Proofs.YtpifllonlchhhaaGreatDoor
set_option linter.unusedVariables false
set_option linter.unusedSimpArgs false
open Go.RowKit
def entV (x : Pl.Ent) : Value := .agg #[.int .i64 x.code, .int .i64 x.length, .string ⟨x.stands.toArray⟩]
/-- block b is the map of these entries -/
abbrev EntsIs (es : List (List UInt8 × Pl.Ent)) (b : Nat) (w : World) : Prop := MapIs Tryz.prog 9 entV es b w
set_option maxRecDepth 100000 in
set_option maxHeartbeats 4000000 in
theorem entries_any (p : List Pl.Cd) (A : Option Addr) (cap : Nat) (ph : Int) (w : World) (hA : At 3 codeC w w.heap.size A p) (hn : p.length ≤ cap) (hv : Pl.valid p = true) (hph : ph = 1 ∨ ph = 2 ∨ ph = 3) :
    Calls Tryz.prog 41 #[.slice A p.length cap, .int .i64 ph] w fun e w' => ∃ b, e = .returned (.map (some b)) ∧ Below w.heap.size w w' ∧ w.heap.size ≤ b ∧ EntsIs (Pl.ents p ph) b w' := by
  have hl20 := Pl.valid_len hv
  go_enter Tryz.func41, Tryz.ntmps41
  have hmk := run_makeMap (P := Tryz.prog) 73 w
  go_wp2
  clear hmk
  go_loopw [6, 7, 11] (fun s6 s7 s11 wr => ∃ k : Nat, k ≤ p.length ∧ s11 = .int .i64 k ∧ EntsIs (Pl.ents (p.take k) ph) w.heap.size wr ∧ Below w.heap.size w wr) (fun _ _ s11 _ => p.length - (intOf s11).toNat)
  case atStart => exact ⟨0, Nat.zero_le _, rfl, by simpa [Pl.ents] using MapIs.made w, bNew (bStart w) _⟩
  case round =>
    obtain ⟨k, hk, rfl, hM, hb⟩ := hrel
    by_cases hlt : k < p.length
    · have t0 : decide ((k : Int) < (p.length : Int)) = true := by simp; omega
      obtain ⟨b, off, rfl, hbB, hcell⟩ := hA (by omega)
      have hck : p[k]? = some p[k] := List.getElem?_eq_getElem hlt
      have c0 : wr.cell? ⟨b, off + k * 3, none⟩ = some (.string ⟨(p[k]).old.toArray⟩) := (hb.cell (p := ⟨b, _, none⟩) hbB).trans (hcell k _ hck 0 _ rfl)
      have c1 : wr.cell? ⟨b, off + k * 3 + 1, none⟩ = some (.string ⟨(p[k]).new.toArray⟩) := (hb.cell (p := ⟨b, _, none⟩) hbB).trans (hcell k _ hck 1 _ rfl)
      have c2 : wr.cell? ⟨b, off + k * 3 + 2, none⟩ = some (.int .i64 (p[k]).len) := (hb.cell (p := ⟨b, _, none⟩) hbB).trans (hcell k _ hck 2 _ rfl)
      have hF := Pl.valid_fine hv (List.getElem_mem hlt)
      have hfr := Pl.ents_fresh hv ph k p[k] hck
      have hsucc := Kp.mk (Pl.ents_succ p ph k p[k] hck)
      have hel : (Pl.ents (p.take k) ph).length ≤ 1000 := by have := Pl.ents_len p ph k (by omega); omega
      clear hck hcell hA
      generalize p[k] = c at *
      obtain ⟨o, nw, l⟩ := c
      obtain ⟨_, _, ho1, ho4, hn1, hn5, hl1, hl7, hfit, _⟩ := hF
      simp only [Pl.room] at *
      have Bc := Bx.mk wr 29 #[.string ⟨o.toArray⟩, .string ⟨nw.toArray⟩, .int .i64 l]
      have hM1 := hM.below (B := wr.heap.size) ((Below.refl wr.heap.size wr).alloc (Nat.le_refl _) (.cells #[.string ⟨o.toArray⟩, .string ⟨nw.toArray⟩, .int .i64 l] 29)) hM.lt
      have hb1 := bNew hb (.cells #[.string ⟨o.toArray⟩, .string ⟨nw.toArray⟩, .int .i64 l] 29)
      have g0 := fun d os => (Bc.again d os).cell 0 rfl
      have g1 := fun d os => (Bc.again d os).cell 1 rfl
      have g2 := fun d os => (Bc.again d os).cell 2 rfl
      have r0 := Bc.cell 0 rfl
      have r1 := Bc.cell 1 rfl
      have r2 := Bc.cell 2 rfl
      have hstr : Tryz.prog.underlying 9 = some .string := Tryz.underlying9
      have hmap : Tryz.prog.underlying 73 = some (.map 9 76) := Tryz.underlying73
      have hR := fun w0 => Repeat_any [48] (8 - (nw.length : Int) - (l - (o.length : Int))) w0 (by omega) (by omega) (by decide)
      have hz := repeat_zero (8 - (nw.length : Int) - (l - (o.length : Int))).toNat
      have hzl : (Lib.repeatL [48] (8 - (nw.length : Int) - (l - (o.length : Int))).toNat).length ≤ 8 := by rw [hz]; simp; omega
      rw [show List.replicate (8 - (nw.length : Int) - (l - (o.length : Int))).toNat 48 = Pl.zeros (8 - (nw.length : Int) - (l - (o.length : Int))).toNat from rfl] at hz
      replace hz := Kp.mk hz
      generalize Lib.repeatL [48] (8 - (nw.length : Int) - (l - (o.length : Int))).toNat = z at *
      have hcat : ¬ (9223372036854775807 < nw.length + z.length) := by omega
      rcases hph with rfl | rfl | rfl
      · clear r0 r1 r2
        go_wp2
        refine wp_region_below_tail 18 (by kernel_rfl) (by kernel_rfl) ?_
        simp only [List.take, List.drop]
        repeat (go_big_quiet_step (first
          | (go_at_call 30; exact Calls.regrown_of (room_any _ _ _ (by omega) (by omega) _))
          | (go_at_call 52; exact Calls.regrown_of (hR _))))
        refine wpQuiet_nil ?_
        rintro _ ⟨q, rfl⟩
        have hM2 := hM1.below (below_regrown _ q.d q.os) hM1.lt
        have hb2 := bAgain hb1 q.d q.os
        clear g0 g1 g2 hM1 hb1 Bc hM hb hR
        generalize Sort.grow _ q.os = W2 at *
        refine wpList_put rfl (.tmp 18) (.tmp 20) (.tmp 35) rfl hstr hmap rfl hM2 (by unfold maxLen; omega) o ⟨k, l, nw ++ z⟩ rfl rfl (by unfold maxLen; omega) hfr.1 ?_
        intro w3 hM3 hg3
        have hb3 := below_grownBy hg3 (fun b hb => by cases hb; exact Nat.le_refl _) hb2.size hb2
        clear hM2 hb2 hg3
        go_wp2
        refine ⟨⟨k + 1, by omega, by go_num, ?_, hb3⟩, by simp [intOf]; omega⟩
        rw [hsucc.out]
        have hz' := hz.out; simpa [Pl.entOf, Pl.room, ← hz'] using hM3
      · clear r0 r1 r2
        go_wp2
        refine wp_region_below_tail 18 (by kernel_rfl) (by kernel_rfl) ?_
        simp only [List.take, List.drop]
        repeat (go_big_quiet_step (first
          | (go_at_call 30; exact Calls.regrown_of (room_any _ _ _ (by omega) (by omega) _))
          | (go_at_call 52; exact Calls.regrown_of (hR _))))
        refine wpQuiet_nil ?_
        rintro _ ⟨q, rfl⟩
        have hM2 := hM1.below (below_regrown _ q.d q.os) hM1.lt
        have hb2 := bAgain hb1 q.d q.os
        have Bc2 := Bc.again q.d q.os
        have hne : w.heap.size < wr.heap.size := hM.lt
        clear g0 g1 g2 hM1 hb1 Bc hM hb hR
        generalize Sort.grow _ q.os = W2 at *
        refine wpList_put rfl (.tmp 18) (.tmp 20) (.tmp 35) rfl hstr hmap rfl hM2 (by unfold maxLen; omega) o ⟨k, l, nw ++ z⟩ rfl rfl (by unfold maxLen; omega) hfr.1 ?_
        intro w3 hM3 hg3
        have hb3 := below_grownBy hg3 (fun b hb => by cases hb; exact Nat.le_refl _) hb2.size hb2
        have Bc3 : Bx w3 wr.heap.size 29 #[.string ⟨o.toArray⟩, .string ⟨nw.toArray⟩, .int .i64 l] := (hg3.block wr.heap.size Bc2.lt (by intro h; injection h with h; omega)).trans Bc2
        have r1 := Bc3.cell 1 rfl
        have hnew : (Pl.ents (p.take k) 2 ++ [(o, (⟨(k : Int), l, nw ++ z⟩ : Pl.Ent))]).lookup nw = none := by
          rw [List.lookup_append, hfr.2.1]
          simp [List.lookup, beq_eq_false_iff_ne.2 (Ne.symm hfr.2.2)]
        clear hM2 hb2 hg3 Bc2 Bc3 hne
        go_wp2_with (at_mapUpdate; refine wpList_put rfl (.tmp 38) (.tmp 40) (.tmp 44) rfl hstr hmap rfl hM3 (by simp; unfold maxLen; omega) nw ⟨k, 8, nw⟩ rfl rfl (by unfold maxLen; omega) hnew ?_; intro w5 hM5 hg5)
        have hb5 := below_grownBy hg5 (fun b hb => by cases hb; exact Nat.le_refl _) hb3.size hb3
        refine ⟨⟨k + 1, by omega, by go_num, ?_, hb5⟩, by simp [intOf]; omega⟩
        rw [hsucc.out]
        have hz' := hz.out
        simpa [Pl.entOf, Pl.room, ← hz'] using hM5
      · clear g0 g1 g2 hR
        have hnew := hfr.2.1
        go_wp2_with (at_mapUpdate; refine wpList_put rfl (.tmp 38) (.tmp 40) (.tmp 44) rfl hstr hmap rfl hM1 (by unfold maxLen; omega) nw ⟨k, 8, nw⟩ rfl rfl (by unfold maxLen; omega) hnew ?_; intro w5 hM5 hg5)
        have hb5 := below_grownBy hg5 (fun b hb => by cases hb; exact Nat.le_refl _) hb1.size hb1
        refine ⟨⟨k + 1, by omega, by go_num, ?_, hb5⟩, by simp [intOf]; omega⟩
        rw [hsucc.out]
        simpa [Pl.entOf] using hM5
    · obtain rfl : k = p.length := by omega
      have t0 : decide ((p.length : Int) < (p.length : Int)) = false := by simp
      rw [List.take_of_length_le (Nat.le_refl _)] at hM
      go_wp2
      go_ret
      exact ⟨_, rfl, hb, Nat.le_refl _, hM⟩
end Go.Proofs.YtpifllonlchhhaaGreatDoor
namespace Pl
structure EntOk (key : S) (x : Ent) : Prop where
  dig : digits x.stands = true
  s1 : 1 ≤ x.stands.length
  s8 : x.stands.length ≤ 8
  k : (key.length : Int) ≤ x.length
  k1 : 1 ≤ key.length
  l8 : x.length ≤ 8
  c0 : 0 ≤ x.code
  c20 : x.code ≤ 20
theorem lookup_mem {α : Type} : ∀ (es : List (S × α)) (s : S) (x : α), es.lookup s = some x → (s, x) ∈ es
  | [], _, _, h => by cases h
  | (k, y) :: es, s, x, h => by
    rw [List.lookup_cons] at h
    by_cases hk : (s == k) = true
    · rw [hk] at h
      have : s = k := by simpa using hk
      subst this
      simp at h; subst h; simp
    · rw [Bool.not_eq_true] at hk
      rw [hk] at h
      exact List.mem_cons_of_mem _ (lookup_mem es s x h)
theorem ents_ok {p : List Cd} (hv : valid p = true) {ph : Int} {s : S} {x : Ent} (h : (ents p ph).lookup s = some x) : EntOk s x := by
  have hm := lookup_mem _ _ _ h
  unfold ents at hm
  obtain ⟨⟨b, i⟩, h1, h2⟩ := List.mem_flatMap.1 hm
  have hb : b ∈ p := (List.mem_zipIdx' h1).2 ▸ List.getElem_mem _
  have hi : i < p.length := (List.mem_zipIdx' h1).1
  have hl := valid_len hv
  obtain ⟨d1, d2, o1, o4, n1, n5, l1, l7, fit, _⟩ := valid_fine hv hb
  have hz : ∀ n, digits (zeros n) = true := by
    intro n
    unfold digits zeros
    rw [List.all_eq_true]
    intro c hc
    rw [(List.mem_replicate.1 hc).2]
    decide
  simp only [List.mem_append] at h2
  rcases h2 with h2 | h2
  · split at h2
    · simp only [List.mem_singleton, Prod.mk.injEq] at h2
      obtain ⟨rfl, rfl⟩ := h2
      simp only [room] at fit
      refine ⟨?_, ?_, ?_, by simp only; omega, by omega, by simp only; omega, by simp only; omega, by simp only; omega⟩
      · simp only [digits, List.all_append, Bool.and_eq_true]
        exact ⟨d2, hz _⟩
      · simp only [List.length_append]; omega
      · simp only [List.length_append, zeros, List.length_replicate, room]; omega
    · simp at h2
  · split at h2
    · simp only [List.mem_singleton, Prod.mk.injEq] at h2
      obtain ⟨rfl, rfl⟩ := h2
      refine ⟨d2, by simp only; omega, by simp only; omega, by simp only; omega, by omega, by simp only; omega, by simp only; omega, by simp only; omega⟩
    · simp at h2
theorem begun_hit {es : List (S × Ent)} {s : S} {k : Nat} {x : Ent} (hk : k ≤ s.length) (hb : ∀ j, j < k → es.lookup (s.take j) = none) (hx : es.lookup (s.take k) = some x) : begun es s = some (k, x) := by
  unfold begun
  rw [List.findSome?_eq_some_iff]
  refine ⟨List.range k, k, List.range' (k + 1) (s.length - k), ?_, by rw [hx]; rfl, fun j hj => by rw [hb j (List.mem_range.1 hj)]; rfl⟩
  rw [List.range_eq_range', List.range_eq_range', show s.length + 1 = k + (s.length - k + 1) by omega, ← List.range'_append, List.range'_succ]
  simp
theorem begun_none {es : List (S × Ent)} {s : S} (hb : ∀ j, j ≤ s.length → es.lookup (s.take j) = none) : begun es s = none := by
  unfold begun
  rw [List.findSome?_eq_none_iff]
  intro j hj
  rw [hb j (by have := List.mem_range.1 hj; omega)]; rfl
end Pl
