/- What ForwardDialled calls, in the law's words. A drawn region of settings appended and a route stored. -/
import Derived.Test.YtlldlkjngcgcjaaGreatDoorD07
import Derived.Test.YtlldlkjngcgcjaaGreatDoorD08
import Derived.Test.YtlldlkjngcgcjaaGreatDoorQ08
import Derived.Test.YtlldlkjngcgcjaaGreatDoorD09
import Derived.Test.YtlldlkjngcgcjaaGreatDoorD10
import Derived.Test.YtlldlkjngcgcjaaGreatDoorQ07
namespace Go.Proofs.YtlldlkjngcgcjaaGreatDoor
set_option linter.unusedVariables false
set_option linter.unusedSimpArgs false
open Go.RowKit Go.Shelf
/-- a valid plan in memory -/
structure Sv (w W : World) (A : Option Addr) (cap : Nat) (p : List Pl.Cd) : Prop where
  hb : Below w.heap.size w W
  hA : At 3 codeC W W.heap.size A p
  hE : Env W
  hv : Pl.valid p = true
  hc : p.length ≤ cap
  hm : cap ≤ maxLen
theorem Sv.call {w W W' : World} {A : Option Addr} {cap : Nat} {p : List Pl.Cd} (h : Sv w W A cap p) (hb : Below W.heap.size W W') : Sv w W' A cap p := ⟨bCall h.hb hb, (h.hA.below hb).more hb.size, h.hE.below hb, h.hv, h.hc, h.hm⟩
theorem v_small {p : List Pl.Cd} (hv : Pl.valid p = true) : Small p := by
  intro c hc
  have hf := Pl.valid_fine hv hc
  have := hf.o4; have := hf.n5; have := hf.l1; have := hf.l7
  omega
theorem v_small2 {p : List Pl.Cd} (hv : Pl.valid p = true) : ∀ c ∈ p, c.old.length ≤ 1000 ∧ c.new.length ≤ 1000 := fun c hc => ⟨(v_small hv c hc).1, (v_small hv c hc).2.1⟩
section
variable {w W : World} {A : Option Addr} {cap : Nat} {p : List Pl.Cd}
theorem v_write (st : Sv w W A cap p) {n ph : Int} {r : List UInt8 × Int} (h : Kp (Pl.write p n ph = r)) :
    Calls Tryz.prog 9 #[.slice A p.length cap, .int .i64 n, .int .i64 ph] W fun e w' => e = .returned (.tuple #[.string ⟨r.1.toArray⟩, .int .i64 r.2]) ∧ Below W.heap.size W w' := by
  have := write_any p A cap n ph W st.hA st.hc (by have := Pl.valid_len st.hv; omega) (v_small2 st.hv) st.hE
  rw [h.out] at this
  exact this
theorem v_number (st : Sv w W A cap p) {which n m : Int} (h1 : I64 which) (h2 : I64 n) (h : Kp (Pl.number p which n = m)) :
    Calls Tryz.prog 8 #[.slice A p.length cap, .int .i64 which, .int .i64 n] W fun e w' => e = .returned (.int .i64 m) ∧ Below W.heap.size W w' := by
  have := Number_any p A cap which n W st.hA st.hc (v_small st.hv) (by have := Pl.valid_len st.hv; omega) h1 h2 (Pl.range_ok st.hv)
  rw [h.out] at this
  exact this
theorem v_dial (st : Sv w W A cap p) {s : List UInt8} {ph n k f e : Int} {a b c d g h : Int} (hd : Pl.digits s = true) (h16 : s.length ≤ 16) (h4 : Pl.isPhase ph = true) (hr : Kp (dialR (Pl.read p s ph) s.length n k f e = (⟨a, b, c, d, g⟩, h))) :
    Calls Tryz.prog 10 #[.slice A p.length cap, .int .i64 ph, .int .i64 n, .int .i64 k, .string ⟨s.toArray⟩, .agg #[.int .i64 f, .int .i64 e]] W fun e' w' => e' = .returned (.tuple #[.agg #[.int .i64 a, .int .i64 b, .int .i64 c, .int .i64 d, .int .i64 g], .int .i64 h]) ∧ Below W.heap.size W w' := by
  have := dial_any p A cap s ph n k f e W st.hA st.hc (by have := Pl.valid_len st.hv; omega) (v_small2 st.hv) st.hv hd h16 h4
  rw [hr.out] at this
  exact this
end
end Go.Proofs.YtlldlkjngcgcjaaGreatDoor
namespace Go.Proofs.YtlldlkjngcgcjaaGreatDoor
set_option linter.unusedVariables false
set_option linter.unusedSimpArgs false
open Go.RowKit Go.Shelf
/-- the cells of a route, its slices rows of integers -/
def GoodR (r : Tw.Ro) (w : World) (c : Array Value) : Prop := ∃ B vp vu, c = #[.int .i64 r.kind, vp, vu] ∧ RowZ 3 1 B r.path.length (r.path.flatMap inC) vp w ∧ RowZ 3 1 B r.used.length (r.used.flatMap idC) vu w
theorem rowZ_ki {t : TypeId} {size B n : Nat} {fl : List Value} {v : Value} {X Y : World} (h : RowZ t size B n fl v X) (k : ∀ g c, Bx X g t c → Bx Y g t c) : RowZ t size B n fl v Y := by
  rcases h with h | ⟨cap, ⟨g, cells, h1, h2, h3, h4, h5, h6⟩, h7⟩
  · exact .inl h
  · exact .inr ⟨cap, ⟨g, cells, h1, h2, h3, k _ _ h4, h5, h6⟩, h7⟩
theorem GoodR.mono {r : Tw.Ro} {w w' : World} {c : Array Value} (h : GoodR r w c) (k : ∀ g c, Bx w g 3 c → Bx w' g 3 c) : GoodR r w' c := by
  obtain ⟨B, vp, vu, e, h1, h2⟩ := h
  exact ⟨B, vp, vu, e, rowZ_ki h1 k, rowZ_ki h2 k⟩
theorem GoodR.size {r : Tw.Ro} {w : World} {c : Array Value} (h : GoodR r w c) : c.size = 3 := by
  obtain ⟨B, vp, vu, rfl, -, -⟩ := h; rfl
theorem RoT.ki {r : Tw.Ro} {v : Value} {X Y : World} (h : RoT r v X) (k : ∀ g c, Bx X g 3 c → Bx Y g 3 c) : RoT r v Y := by
  obtain ⟨B, vp, vu, e, h3, h4⟩ := h
  exact ⟨B, vp, vu, e, rowZ_ki h3 k, rowZ_ki h4 k⟩
structure KR (B pos : Nat) (news : List Value) (r : Tw.Ro) (w w' : World) : Prop where
  kh : KH B 33 pos news w w'
  ki : ∀ g c, Bx w g 3 c → Bx w' g 3 c
  kr : ∀ g c, B ≤ g → c.size = 3 → Bx w g 45 c → ∃ c', c'.size = 3 ∧ Bx w' g 45 c' ∧ (c' = c ∨ GoodR r w' c')
section
variable {B pos : Nat} {news : List Value} {r : Tw.Ro} {W w w' : World}
theorem KR.rf (B pos : Nat) (news : List Value) (r : Tw.Ro) (w : World) : KR B pos news r w w := ⟨KH.rf _ _ _ _ _, fun _ _ h => h, fun g c _ h1 h2 => ⟨c, h1, h2, .inl rfl⟩⟩
theorem cls_KR (B pos : Nat) (news : List Value) (r : Tw.Ro) : RS.Cls (KR B pos news r) :=
  ⟨KR.rf B pos news r, fun h1 h2 => ⟨(cls_KH _ _ _ _).trans h1.kh h2.kh, fun g c h => h2.ki g c (h1.ki g c h), fun g c hg hs h => by
     obtain ⟨c1, s1, b1, o1⟩ := h1.kr g c hg hs h
     obtain ⟨c2, s2, b2, o2⟩ := h2.kr g c1 hg s1 b1
     refine ⟨c2, s2, b2, ?_⟩
     rcases o2 with rfl | o2
     · rcases o1 with rfl | o1
       · exact .inl rfl
       · exact .inr (o1.mono h2.ki)
     · exact .inr o2⟩,
   fun w n => ⟨(cls_KH _ _ _ _).drawn w n, fun _ _ h => h, fun g c _ h1 h2 => ⟨c, h1, h2, .inl rfl⟩⟩⟩
theorem KR.of (hB : B ≤ w.heap.size) (h : Below w.heap.size w w') : KR B pos news r w w' := ⟨KH.of hB h, fun g c hb => hb.call h, fun g c _ h1 h2 => ⟨c, h1, h2.call h, .inl rfl⟩⟩
theorem KR.bl (h : KR B pos news r w w') : Below B w w' := h.kh.1
theorem KR.size (h : KR B pos news r w w') : w.heap.size ≤ w'.heap.size := h.kh.2.1
theorem KR.call (h : KR B pos news r W w) (hB : B ≤ W.heap.size) (hb : Below w.heap.size w w') : KR B pos news r w w' := KR.of (Nat.le_trans hB h.size) hb
theorem KR.he (h : KHe B 33 pos news w w') : KR B pos news r w w' := ⟨h.1, fun g c hb => h.2.bx (by decide) hb, fun g c _ h1 h2 => ⟨c, h1, h.2.bx (by decide) h2, .inl rfl⟩⟩
theorem stab_KR {R : RS.Rl} (h : RS.Stab (KH B 33 pos news) R) : RS.Stab (KR B pos news r) R := fun x v w w' hr hK => h x v w w' hr hK.kh
/-- the variable of the route, stored into or not -/
def PtR (B : Nat) : RS.Rl := fun _ v w => ∃ g c, v = .pointer (some ⟨g, 0, none⟩) ∧ B ≤ g ∧ c.size = 3 ∧ Bx w g 45 c
theorem stab_ptR : RS.Stab (KR B pos news r) (PtR B) := fun x v w w' ⟨g, c, h1, h2, h3, h4⟩ hK => by
  obtain ⟨c', s, b, -⟩ := hK.kr g c h2 h3 h4
  exact ⟨g, c', h1, h2, s, b⟩
/-- stored -/
def StR (B : Nat) (r : Tw.Ro) : RS.Rl := fun x _ w => ∃ g c, x = .pointer (some ⟨g, 0, none⟩) ∧ B ≤ g ∧ Bx w g 45 c ∧ GoodR r w c
theorem stab_stR : RS.Stab (KR B pos news r) (StR B r) := fun x v w w' ⟨g, c, h1, h2, h3, h4⟩ hK => by
  obtain ⟨c', s, b, o⟩ := hK.kr g c h2 h4.size h3
  rcases o with rfl | o
  · exact ⟨g, c', h1, h2, b, h4.mono hK.ki⟩
  · exact ⟨g, c', h1, h2, b, o⟩
theorem stab_roT : RS.Stab (KR B pos news r) (fun _ v W => RoT r v W) := fun x v w w' h hK => h.ki hK.ki
def TuR (r : Tw.Ro) : RS.Rl := fun _ v W => ∃ v', v = .tuple #[v', .int .i64 0] ∧ RoT r v' W
theorem stab_tuR : RS.Stab (KR B pos news r) (TuR r) := fun x v w w' ⟨v', h1, h2⟩ hK => ⟨v', h1, h2.ki hK.ki⟩
theorem KR.put {g : Nat} {c : Array Value} (hg : B ≤ g) (hB : Bx w g 45 c) (hc : c.size = 3) (a b d : Value) (hG : GoodR r w #[a, b, d]) (x : Value) (hx : x = .pointer (some ⟨g, 0, none⟩)) (y : Value) :
    KR B pos news r w (((w.setCell ⟨g, 0, none⟩ a).setCell ⟨g, 1, none⟩ b).setCell ⟨g, 2, none⟩ d) ∧ StR B r x y (((w.setCell ⟨g, 0, none⟩ a).setCell ⟨g, 1, none⟩ b).setCell ⟨g, 2, none⟩ d) := by
  obtain ⟨x0, x1, x2, rfl⟩ : ∃ x0 x1 x2, c = #[x0, x1, x2] := by
    rcases c with ⟨l⟩
    match l, hc with
    | [x0, x1, x2], _ => exact ⟨x0, x1, x2, rfl⟩
  have hbl : Below B w (((w.setCell ⟨g, 0, none⟩ a).setCell ⟨g, 1, none⟩ b).setCell ⟨g, 2, none⟩ d) := (((Below.refl B w).setCell (p := ⟨g, 0, none⟩) hg a).setCell (p := ⟨g, 1, none⟩) hg b).setCell (p := ⟨g, 2, none⟩) hg d
  have hN : Bx (((w.setCell ⟨g, 0, none⟩ a).setCell ⟨g, 1, none⟩ b).setCell ⟨g, 2, none⟩ d) g 45 #[a, b, d] := ((hB.set 0 a).set 1 b).set 2 d
  have hfar : ∀ g' t c', g' ≠ g → Bx w g' t c' → Bx (((w.setCell ⟨g, 0, none⟩ a).setCell ⟨g, 1, none⟩ b).setCell ⟨g, 2, none⟩ d) g' t c' := fun g' t c' hne h => ((h.far (p := ⟨g, 0, none⟩) hne a).far (p := ⟨g, 1, none⟩) hne b).far (p := ⟨g, 2, none⟩) hne d
  have hne : ∀ g' t c', t ≠ 45 → Bx w g' t c' → g' ≠ g := fun g' t c' ht h e => by
    subst e
    have := h.symm.trans hB
    simp only [Option.some.injEq, Obj.cells.injEq] at this
    exact ht this.2.1
  have hki : ∀ g' c', Bx w g' 3 c' → Bx (((w.setCell ⟨g, 0, none⟩ a).setCell ⟨g, 1, none⟩ b).setCell ⟨g, 2, none⟩ d) g' 3 c' := fun g' c' h => hfar g' _ c' (hne g' _ c' (by decide) h) h
  refine ⟨⟨⟨hbl, hbl.size, fun g' c' _ h => ⟨c', hfar g' _ c' (hne g' _ c' (by decide) h) h, rfl, fun i v _ hv => .inl hv⟩⟩, hki, fun g' c' hg' hs h => ?_⟩, g, _, hx, hg, hN, hG.mono hki⟩
  by_cases e : g' = g
  · subst e
    exact ⟨#[a, b, d], rfl, hN, .inr (hG.mono hki)⟩
  · exact ⟨c', hs, hfar g' _ c' e h, .inl rfl⟩
end
end Go.Proofs.YtlldlkjngcgcjaaGreatDoor
