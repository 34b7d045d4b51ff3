/- Two slices of the call's own, apart: what is appended to one leaves the other. Fewer settings and conditions, as ForwardLocal asks it; slices of different types lie apart. -/
import Derived.Test.YtlldlkjngcgcjaaGreatDoorQ03
import Derived.Test.YtlldlkjngcgcjaaGreatDoorQ08
import Derived.Test.YtlldlkjngcgcjaaGreatDoorQ09
namespace Go.Proofs.YtlldlkjngcgcjaaGreatDoor
set_option linter.unusedVariables false
open Go.RowKit
/-- no block is both slices' -/
def ApV (v1 v2 : Value) : Prop := ∀ g n c n' c', v1 = .slice (some ⟨g, 0, none⟩) n c → v2 ≠ .slice (some ⟨g, 0, none⟩) n' c'
theorem ApV.symm {v1 v2 : Value} (h : ApV v1 v2) : ApV v2 v1 := fun g n c n' c' h1 h2 => h g n' c' n c h2 h1
theorem ApV.nil (v : Value) : ApV (.slice none 0 0) v := fun g n c n' c' h1 _ => by cases h1
section
variable {e : TypeId} {size B n : Nat} {fl : List Value} {v1 v1' v2 : Value} {W W' : World}
theorem RowZ.kept (hk : KpV v1 v1' W W') (h : RowZ e size B n fl v2 W) (hne : ApV v1 v2) : RowZ e size B n fl v2 W' := by
  rcases h with h | ⟨cap, ⟨g, cells, e1, hg, hn, hB, hs, hf⟩, hm⟩
  · exact .inl h
  · exact .inr ⟨cap, ⟨g, cells, e1, hg, hn, hk.bx hB (fun n c hv => hne g n c _ _ hv e1), hs, hf⟩, hm⟩
theorem RowZ.apart (hk : KpV v1 v1' W W') (h : RowZ e size B n fl v2 W) (hne : ApV v1 v2) : ApV v1' v2 := fun g n c n' c' h1 h2 => by
  obtain ⟨g0, n0, c0, e0, hor⟩ := hk.at_
  rw [h1] at e0
  simp only [Value.slice.injEq, Option.some.injEq, Addr.mk.injEq, and_true] at e0
  obtain ⟨rfl, -, -⟩ := e0
  rcases hor with hor | ⟨n9, c9, h9⟩
  · rcases h with ⟨h, -, -⟩ | ⟨cap, ⟨g', cells, e1, hg, hn, hB, hs, hf⟩, hm⟩
    · rw [h] at h2; cases h2
    · rw [e1] at h2
      simp only [Value.slice.injEq, Option.some.injEq, Addr.mk.injEq, and_true] at h2
      obtain ⟨rfl, -, -⟩ := h2
      have := hB.lt
      omega
  · exact hne g n9 c9 n' c' h9 h2
end
/-- the address of a slice of one's own -/
theorem RowZ.shp {e : TypeId} {size B n : Nat} {fl : List Value} {v : Value} {w : World} (h : RowZ e size B n fl v w) : ∃ A c, v = .slice A n c := by
  rcases h with ⟨h, rfl, -⟩ | ⟨cap, ⟨g, cells, e1, _⟩, _⟩
  · exact ⟨none, 0, h⟩
  · exact ⟨_, _, e1⟩
end Go.Proofs.YtlldlkjngcgcjaaGreatDoor
namespace Go.Proofs.YtlldlkjngcgcjaaGreatDoor
set_option linter.unusedVariables false
set_option linter.unusedSimpArgs false
open Go.RowKit
theorem RowZ.ty {e1 e2 : TypeId} (he : e1 ≠ e2) {s1 s2 B1 B2 n1 n2 : Nat} {f1 f2 : List Value} {v1 v2 : Value} {W : World} (h1 : RowZ e1 s1 B1 n1 f1 v1 W) (h2 : RowZ e2 s2 B2 n2 f2 v2 W) : ApV v1 v2 := fun g n c n' c' e1' e2' => by
  rcases h1 with ⟨h, -, -⟩ | ⟨cap, ⟨g1, cs1, hv1, -, -, hB1, -⟩, -⟩
  · rw [h] at e1'; cases e1'
  rcases h2 with ⟨h, -, -⟩ | ⟨cap2, ⟨g2, cs2, hv2, -, -, hB2, -⟩, -⟩
  · rw [h] at e2'; cases e2'
  rw [hv1] at e1'
  rw [hv2] at e2'
  simp only [Value.slice.injEq, Option.some.injEq, Addr.mk.injEq, and_true] at e1' e2'
  obtain ⟨rfl, -, -⟩ := e1'
  obtain ⟨rfl, -, -⟩ := e2'
  have hh := hB1.symm.trans hB2
  simp only [Option.some.injEq, Obj.cells.injEq] at hh
  exact he hh.2.1
theorem idC_one (c : Nat) : ∀ u ∈ idC c, u.oneCell' = true := fun u hu => by
  simp only [idC, List.mem_cons, List.not_mem_nil, or_false] at hu
  subst hu; rfl
/-- the setting is of a number on the path and has the second -/
def onB (p : List Int) (t : Int) (s : Tw.St) : Bool := decide (s.n ∈ p) && (decide (s.f ≤ t) && decide (t < s.e))
def onC (p : List Int) (x : Int × Int) : Bool := decide (x.1 ∈ p)
theorem filt_take {α : Type} {P : α → Bool} {q : List α} {i : Nat} (h : i < q.length) : (q.take (i + 1)).filter P = if P q[i] then (q.take i).filter P ++ [q[i]] else (q.take i).filter P := by
  rw [List.take_succ_eq_append_getElem h, List.filter_append]
  cases hp : P q[i] <;> simp [hp]
structure LcL (l : List Tw.St) (q : List (Int × Int)) (n t : Int) (R R' : Tw.Ro) : Prop where
  kind : R'.kind = R.kind
  path : R'.path = R.path
  len : R'.used.length = R.used.length
  used : ∀ (i : Nat) (hi : i < R'.used.length), ∃ k, (Tw.kept l (onB R.path t) l.length)[R'.used[i]]? = some k ∧ R.used[i]? = some k
theorem lc_law {l : List Tw.St} {q : List (Int × Int)} {n t : Int} (hva : Tw.Va l) (hsm : ∀ s ∈ l, Tw.Sm s) (hvc : Tw.Vc q) (hq : q.length ≤ 8) (hn : 10 ≤ n ∧ n ≤ 18) (ht : 0 ≤ t ∧ t ≤ 200) :
    rsB (Tw.some_ l (onB (Tw.route l q n t).path t) l.length) (q.filter (onC (Tw.route l q n t).path)) n t ∧ (Tw.some_ l (onB (Tw.route l q n t).path t) l.length).length ≤ l.length ∧ (q.filter (onC (Tw.route l q n t).path)).length ≤ 8 ∧ (Tw.kept l (onB (Tw.route l q n t).path t) l.length).length ≤ l.length ∧
    LcL l q n t (Tw.route l q n t) (Tw.route (Tw.some_ l (onB (Tw.route l q n t).path t) l.length) (q.filter (onC (Tw.route l q n t).path)) n t) := by
  have hP : ∀ s ∈ l, s.n ∈ (Tw.route l q n t).path → s.has t = true → onB (Tw.route l q n t).path t s = true := fun s _ h1 h2 => by
    obtain ⟨h3, h4⟩ := Tw.has_iff.1 h2
    unfold onB
    rw [decide_eq_true h1, decide_eq_true h3, decide_eq_true h4]; rfl
  have hF := Tw.few_ok (l := l) (P := onB (Tw.route l q n t).path t) (t := t) (S := fun x => x ∈ (Tw.route l q n t).path) hP
  have hloc := Tw.local_ (c := q) (c' := q.filter (onC (Tw.route l q n t).path)) (n := n) hva hF fun m hm => Tw.cond_filter (S := fun x => decide (x ∈ (Tw.route l q n t).path)) (decide_eq_true hm)
  have hsome : Tw.some_ l (onB (Tw.route l q n t).path t) l.length = l.filter (onB (Tw.route l q n t).path t) := by unfold Tw.some_; rw [List.take_length]
  rw [hsome]
  obtain ⟨k1, k2, k3⟩ := Tw.kept_ok (l := l) (P := onB (Tw.route l q n t).path t) l.length (Nat.le_refl _)
  rw [hsome] at k1 k2
  generalize Tw.route l q n t = R at *
  have hsub : (l.filter (onB R.path t)).Sublist l := List.filter_sublist
  have hsl := hsub.length_le
  have hql : (q.filter (onC R.path)).length ≤ q.length := List.filter_sublist.length_le
  obtain ⟨v1, v2⟩ := Tw.va_vs.1 hva
  have hvcf : Tw.Vc (q.filter (onC R.path)) := ⟨fun x hx => hvc.fm x (List.mem_filter.1 hx).1, hvc.up.sublist List.filter_sublist⟩
  refine ⟨⟨Tw.va_vs.2 ⟨by omega, v2.sub hsub⟩, by omega, hvcf, ⟨by omega, by omega⟩, by omega, by omega⟩, hsl, by omega, by omega, ?_⟩
  have hEn := Tw.route_ok (l.filter (onB R.path t)) (q.filter (onC R.path)) n t
  obtain ⟨e1, e2, e3⟩ := hloc
  generalize hR' : Tw.route (l.filter (onB R.path t)) (q.filter (onC R.path)) n t = R' at *
  have hR2 : Tw.route (l.filter (onB R.path t)) (q.filter fun x => decide (x.1 ∈ R.path)) n t = R' := hR'
  refine ⟨e1.symm, e2.symm, ?_, fun i hi => ?_⟩
  · rw [e3]; simp
  · obtain ⟨j, s, h1, h2, -⟩ := hEn.stp i hi
    have hj : R'.used[i] = j := by rw [List.getElem?_eq_getElem hi] at h1; exact Option.some.inj h1
    have hjl := (List.getElem?_eq_some_iff.1 h2).1
    obtain ⟨k, g1, g2, g3, g4⟩ := k2 j hjl
    refine ⟨k, by rw [hj]; exact g1, ?_⟩
    rw [e3, List.getElem?_map, List.getElem?_eq_getElem hi, hj]
    simp [g1]
theorem endG_take {t e : Int} {l : List Tw.St} {i : Nat} (h : i < l.length) : Tw.endG t e (l.take (i + 1)) = Tw.endS t (Tw.endG t e (l.take i)) l[i] := by
  unfold Tw.endG
  rw [List.take_succ_eq_append_getElem h, List.foldl_append]; rfl
end Go.Proofs.YtlldlkjngcgcjaaGreatDoor
