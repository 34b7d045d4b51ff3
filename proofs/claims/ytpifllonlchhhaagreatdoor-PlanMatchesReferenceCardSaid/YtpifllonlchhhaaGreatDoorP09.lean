/- reads, kind, example and sane of package dialtonelaw12: the chapter's examples hold. Write of package plan. sane of package dialtonelaw12: it returns true. -/
import Derived.Test.YtpifllonlchhhaaGreatDoorP07
import Derived.Test.YtpifllonlchhhaaGreatDoorP08
import Derived.Test.YtpifllonlchhhaaGreatDoorP03
namespace Pl
/-- the chapter's example -/
def ex : List Cd := [⟨[50], [56, 50], 5⟩, ⟨[51, 49], [57], 5⟩]
end Pl
namespace Go.Proofs.YtpifllonlchhhaaGreatDoor
set_option linter.unusedVariables false
set_option linter.unusedSimpArgs false
open Go.RowKit
set_option maxRecDepth 100000 in
theorem example_any (w : World) : Calls Tryz.prog 20 #[] w fun e w' => ∃ A, e = .returned (.slice A 2 2) ∧ Below w.heap.size w w' ∧ At 3 codeC w' w'.heap.size A Pl.ex := by
  go_enter Tryz.func20, Tryz.ntmps20
  go_wp2
  go_ret
  refine ⟨_, rfl, bNew (bStart w) _, fun _ => ⟨w.heap.size, 0, rfl, by rw [alloc_size]; omega, ?_⟩⟩
  have B := Bx.mk w 29 #[.string ⟨#[50]⟩, .string ⟨#[56, 50]⟩, .int .i64 5, .string ⟨#[51, 49]⟩, .string ⟨#[57]⟩, .int .i64 5]
  intro i c hi j u hj
  rcases i with _ | _ | i
  · simp only [Pl.ex, List.getElem?_cons_zero, Option.some.injEq] at hi
    subst hi
    rcases j with _ | _ | _ | j
    · simp only [codeC, List.getElem?_cons_zero, Option.some.injEq] at hj; subst hj; exact B.cell 0 rfl
    · simp only [codeC, List.getElem?_cons_succ, List.getElem?_cons_zero, Option.some.injEq] at hj; subst hj; exact B.cell 1 rfl
    · simp only [codeC, List.getElem?_cons_succ, List.getElem?_cons_zero, Option.some.injEq] at hj; subst hj; exact B.cell 2 rfl
    · simp [codeC] at hj
  · simp only [Pl.ex, List.getElem?_cons_succ, List.getElem?_cons_zero, Option.some.injEq] at hi
    subst hi
    rcases j with _ | _ | _ | j
    · simp only [codeC, List.getElem?_cons_zero, Option.some.injEq] at hj; subst hj; exact B.cell 3 rfl
    · simp only [codeC, List.getElem?_cons_succ, List.getElem?_cons_zero, Option.some.injEq] at hj; subst hj; exact B.cell 4 rfl
    · simp only [codeC, List.getElem?_cons_succ, List.getElem?_cons_zero, Option.some.injEq] at hj; subst hj; exact B.cell 5 rfl
    · simp [codeC] at hj
  · simp [Pl.ex] at hi
theorem ex_small : ∀ c ∈ Pl.ex, c.old.length ≤ 1000 ∧ c.new.length ≤ 1000 := by
  intro c hc
  simp only [Pl.ex, List.mem_cons, List.not_mem_nil, or_false] at hc
  rcases hc with rfl | rfl <;> simp
set_option maxRecDepth 100000 in
set_option maxHeartbeats 2000000 in
theorem kind_any (s : List UInt8) (ph : Int) (w : World) (hsl : s.length ≤ 1000) (x : Pl.Dialled) (e : Int) (hr : Pl.read Pl.ex s ph = (x, e)) (k : Int) (hk : k = if e = 0 then x.kind else -1) :
    Calls Tryz.prog 22 #[.string ⟨s.toArray⟩, .int .i64 ph] w fun e w' => e = .returned (.int .i64 k) ∧ Below w.heap.size w w' := by
  have hR := fun A w0 (h0 : At 3 codeC w0 w0.heap.size A Pl.ex) => read_any Pl.ex A 2 s ph w0 h0 (by decide) (by decide) ex_small hsl
  rw [hr] at hR
  simp only [readV] at hR
  have hx := example_any w
  obtain ⟨xk, xn, xc, xu⟩ := x
  by_cases he : e = 0
  · subst he
    simp only [if_true] at hk
    subst hk
    clear hr
    go_enter Tryz.func22, Tryz.ntmps22
    go_wp2_with (first
      | (go_at_call 20; refine hx.mono ?_; rintro _ w1 ⟨A, rfl, hb1, hA1⟩)
      | (go_at_call 14; refine (hR _ _ hA1).mono ?_; rintro _ w2 ⟨rfl, hb2⟩))
    go_ret
    exact ⟨rfl, bNew (bCall hb1 hb2) _⟩
  · have hk : k = -1 := by rw [hk, if_neg he]
    subst hk
    have t1 : (e != 0) = true := by simp [he]
    clear hr
    go_enter Tryz.func22, Tryz.ntmps22
    go_wp2_with (first
      | (go_at_call 20; refine hx.mono ?_; rintro _ w1 ⟨A, rfl, hb1, hA1⟩)
      | (go_at_call 14; refine (hR _ _ hA1).mono ?_; rintro _ w2 ⟨rfl, hb2⟩))
    go_ret
    exact ⟨rfl, bNew (bCall hb1 hb2) _⟩
set_option maxRecDepth 100000 in
set_option maxHeartbeats 2000000 in
theorem reads_any (s : List UInt8) (n c u : Int) (w : World) (hsl : s.length ≤ 1000) (hr : Pl.read Pl.ex s 2 = (⟨2, n, c, u⟩, 0)) :
    Calls Tryz.prog 21 #[.string ⟨s.toArray⟩, .int .i64 n, .int .i64 c, .int .i64 u] w fun e w' => e = .returned (.bool true) ∧ Below w.heap.size w w' := by
  have hR := fun A w0 (h0 : At 3 codeC w0 w0.heap.size A Pl.ex) => read_any Pl.ex A 2 s 2 w0 h0 (by decide) (by decide) ex_small hsl
  rw [hr] at hR
  simp only [readV] at hR
  have hx := example_any w
  clear hr
  go_enter Tryz.func21, Tryz.ntmps21
  go_wp2_with (first
    | (go_at_call 20; refine hx.mono ?_; rintro _ w1 ⟨A, rfl, hb1, hA1⟩)
    | (go_at_call 14; refine (hR _ _ hA1).mono ?_; rintro _ w2 ⟨rfl, hb2⟩))
  go_ret
  exact ⟨rfl, bNew (bCall hb1 hb2) _⟩
end Go.Proofs.YtpifllonlchhhaaGreatDoor
namespace Go.Proofs.YtpifllonlchhhaaGreatDoor
set_option linter.unusedVariables false
set_option linter.unusedSimpArgs false
open Go.RowKit
def writeV (r : List UInt8 × Int) : Value := .tuple #[.string ⟨r.1.toArray⟩, .int .i64 r.2]
theorem trim_zeros (s : List UInt8) : Lib.trimS s [48] = [] ↔ s = Pl.zeros s.length := by
  rw [trim_digits]
  simp [Pl.zeros, List.eq_replicate_iff]
set_option maxRecDepth 100000 in
set_option maxHeartbeats 4000000 in
theorem write_any (p : List Pl.Cd) (A : Option Addr) (cap : Nat) (n ph : Int) (w : World) (hA : At 3 codeC w w.heap.size A p) (hn : p.length ≤ cap) (hl : p.length ≤ 1000) (hs : ∀ c ∈ p, c.old.length ≤ 1000 ∧ c.new.length ≤ 1000) (hE : Env w) :
    Calls Tryz.prog 10 #[.slice A p.length cap, .int .i64 n, .int .i64 ph] w fun e w' => e = .returned (writeV (Pl.write p n ph)) ∧ Below w.heap.size w w' := by
  by_cases hall : Pl.valid p = true ∧ Pl.isPhase ph = true ∧ Pl.within n 0 99999999 = true
  · obtain ⟨h1, h2, h3⟩ := hall
    obtain ⟨n0, n1⟩ := within_true h3
    have h8 : (Pl.eight n.toNat).length ≤ 8 := by rw [Pl.eight_len]; omega
    have h8' : 8 ≤ (Pl.eight n.toNat).length := by rw [Pl.eight_len]; omega
    have hfin : Pl.write p n ph = match p.find? (fun c => c.new.isPrefixOf (Pl.eight n.toNat)) with
      | none => ([], 120)
      | some c => if ph ≠ 1 then (Pl.eight n.toNat, 0) else
        let cut := (8 - Pl.room c).toNat
        if ((Pl.eight n.toNat).take cut).drop c.new.length = Pl.zeros (cut - c.new.length) then (c.old ++ (Pl.eight n.toNat).drop cut, 0) else ([], 120) := by
      unfold Pl.write; rw [h1, h2, h3]; rfl
    have heig := fun W hW => eight_any n n0 n1 W hW
    generalize Pl.eight n.toNat = s at *
    have HE8 : Kp (∀ W, Env W → Calls Tryz.prog 28 #[.int .i64 n] W fun e w' => e = .returned (.string ⟨s.toArray⟩) ∧ Below W.heap.size W w') := ⟨heig⟩
    have HF : Kp _ := ⟨hfin⟩
    have HV : Kp _ := ⟨h1⟩
    clear hfin heig
    go_enter Tryz.func10, Tryz.ntmps10
    go_wp2_with (first
      | (go_at_call 18; refine (valid_any p _ cap _ hA hn hl hs).mono ?_; rintro e w1 ⟨rfl, hb1⟩)
      | (go_at_call 27; refine (isWithin_any _ _ _ _).mono ?_; rintro e w' ⟨rfl, rfl⟩)
      | (go_at_call 26; refine (isPhase_any _ _).mono ?_; rintro e w' ⟨rfl, rfl⟩)
      | (go_at_call 28; refine (HE8.out _ (hE.below hb1)).mono ?_; rintro e w2 ⟨rfl, hb2⟩))
    have hb := bCall hb1 hb2
    clear hb1 hb2 HE8 h1 h2 h3
    go_loopw [29] (fun i wr => ∃ k : Nat, k ≤ p.length ∧ i = .int .i64 k ∧ Kp (p.find? (fun c => c.new.isPrefixOf s) = (p.drop k).find? (fun c => c.new.isPrefixOf s)) ∧ Below w.heap.size w wr) (fun i _ => p.length - (intOf i).toNat)
    case atStart => exact ⟨0, Nat.zero_le _, rfl, ⟨rfl⟩, hb⟩
    case round =>
      obtain ⟨k, hk, rfl, hf, hbr⟩ := hrel
      by_cases hlt : k < p.length
      · obtain ⟨b, off, rfl, hbB, hcell⟩ := hA (by omega)
        have hck : p[k]? = some p[k] := List.getElem?_eq_getElem hlt
        have c0 := (hbr.cell (p := ⟨b, off + k * 3, none⟩) hbB).trans (hcell k _ hck 0 _ rfl)
        have c1 := (hbr.cell (p := ⟨b, off + k * 3 + 1, none⟩) hbB).trans (hcell k _ hck 1 _ rfl)
        have c2 := (hbr.cell (p := ⟨b, off + k * 3 + 2, none⟩) hbB).trans (hcell k _ hck 2 _ rfl)
        have hfine := Pl.valid_fine HV.out (List.getElem_mem hlt)
        have hdrop : (p.drop k).find? (fun c => c.new.isPrefixOf s) = if (p[k]).new.isPrefixOf s then some p[k] else (p.drop (k + 1)).find? (fun c => c.new.isPrefixOf s) := by
          rw [List.drop_eq_getElem_cons hlt, List.find?_cons]
          cases (p[k]).new.isPrefixOf s <;> rfl
        have HD : Kp _ := ⟨hdrop⟩
        clear hdrop hck hcell hA
        generalize p[k] = c at *
        obtain ⟨o, nw, l⟩ := c
        obtain ⟨dold, dnew, o1, o4, nn1, nn5, l1, l7, fit, ap⟩ := hfine
        simp only [Pl.room] at c0 c1 c2 o1 o4 nn1 nn5 l1 l7 fit HD
        cases hpre : nw.isPrefixOf s
        · have HP : Kp _ := ⟨hpre⟩
          go_wp2_with (go_at_call 29; refine (HasPrefix_any _ _ _).mono ?_; rintro e w' ⟨rfl, rfl⟩)
          go_roundw
          case rel => exact ⟨k + 1, by omega, by go_num, ⟨by rw [hf.out, HD.out, HP.out]; simp⟩, bNew hbr _⟩
          case measure => simp [intOf]; omega
        · have HP : Kp _ := ⟨hpre⟩
          have hph : (ph != 1) = true ∨ (ph != 1) = false := by cases (ph != 1) <;> simp
          rcases hph with hph | hph
          · go_wp2_with (go_at_call 29; refine (HasPrefix_any _ _ _).mono ?_; rintro e w' ⟨rfl, rfl⟩)
            go_ret2
            exact ⟨by
              have : ph ≠ 1 := by simpa using hph
              rw [HF.out, hf.out, HD.out, HP.out]; simp [writeV, this], bNew hbr _⟩
          · have hph1 : ph = 1 := by simpa using hph
            obtain ⟨cut, ecut, hcut1, hcut2⟩ : ∃ cut : Nat, l - (o.length : Int) = 8 - (cut : Int) ∧ nw.length ≤ cut ∧ cut ≤ 8 := ⟨(8 - (l - (o.length : Int))).toNat, by omega, by omega, by omega⟩
            have hgoal : Pl.write p n ph = if Lib.trimS ((s.drop nw.length).take (cut - nw.length)) [48] = [] then (o ++ s.drop cut, 0) else ([], 120) := by
              rw [HF.out, hf.out, HD.out, HP.out]
              have e1 : (8 - Pl.room ⟨o, nw, l⟩).toNat = cut := by simp only [Pl.room]; omega
              simp only [if_true, e1]
              rw [if_neg (by omega), List.drop_take]
              have e2 : ((s.drop nw.length).take (cut - nw.length)).length = cut - nw.length := by simp; omega
              by_cases hz : Lib.trimS ((s.drop nw.length).take (cut - nw.length)) [48] = []
              · rw [if_pos hz, if_pos (by have := (trim_zeros _).1 hz; rw [e2] at this; exact this)]
              · rw [if_neg hz, if_neg (fun h => hz ((trim_zeros _).2 (by rw [e2]; exact h)))]
            have HG : Kp _ := ⟨hgoal⟩
            have EC : Kp _ := ⟨ecut⟩
            have hXl : ((s.drop nw.length).take (cut - nw.length)).length ≤ 1000000 := by simp; omega
            have XL : Kp _ := ⟨hXl⟩
            clear hgoal ecut hXl HD hf fit
            go_wp2_with (first
              | (go_at_call 29; refine (HasPrefix_any _ _ _).mono ?_; rintro e w' ⟨rfl, rfl⟩)
              | (go_at_call 30; refine (room_any _ _ _ (by omega) (by omega) _).mono ?_; rintro e w4 ⟨rfl, hb4⟩; rw [EC.out]; have q0 := ((Bx.mk wr 29 #[.string ⟨o.toArray⟩, .string ⟨nw.toArray⟩, .int .i64 l]).call hb4).cell 0 rfl; have q1 := ((Bx.mk wr 29 #[.string ⟨o.toArray⟩, .string ⟨nw.toArray⟩, .int .i64 l]).call hb4).cell 1 rfl))
            have e1 : (8 : Int) - (8 - (cut : Int)) = cut := by omega
            have e2 : 8 - (8 - cut) = cut := by omega
            simp only [e1, e2]
            clear e1 e2
            refine (Trim_any _ [48] _ XL.out (by decide) (by decide)).mono ?_
            rintro e w5 ⟨rfl, hb5⟩
            generalize Lib.trimS ((s.drop nw.length).take (cut - nw.length)) [48] = z at *
            have B5 := (((Bx.mk wr 29 #[.string ⟨o.toArray⟩, .string ⟨nw.toArray⟩, .int .i64 l]).call hb4)).call hb5
            have hbf := bCall (bCall (bNew hbr _) hb4) hb5
            clear hb4 hb5 q0 q1
            by_cases hz : z = []
            · subst hz
              go_wp2
              have g0 := fun d os => (B5.again d os).cell 0 rfl
              refine wp_region_quiet_below (by kernel_rfl) (by kernel_rfl) ?_
              repeat (go_big_quiet_step (fail))
              refine wpQuiet_nil ?_
              rintro _ ⟨q, rfl⟩
              go_wp2
              go_ret2
              exact ⟨by rw [HG.out]; simp [writeV]; exact List.take_of_length_le (by simp), bAgain hbf _ _⟩
            · have hz2 : z.isEmpty = false := by simpa using hz
              go_wp2
              go_ret2
              exact ⟨by rw [HG.out, if_neg hz]; simp [writeV], hbf⟩
      · go_wp2
        go_ret2
        obtain rfl : k = p.length := by omega
        exact ⟨by rw [HF.out, hf.out]; simp [writeV], hbr⟩
  · have hc : Pl.valid p = false ∨ (Pl.valid p = true ∧ Pl.isPhase ph = false) ∨ (Pl.valid p = true ∧ Pl.isPhase ph = true ∧ Pl.within n 0 99999999 = false) := by
      cases h1 : Pl.valid p <;> cases h2 : Pl.isPhase ph <;> cases h3 : Pl.within n 0 99999999 <;> simp_all
    have HF : Kp (Pl.write p n ph = ([], 120)) := ⟨by unfold Pl.write; rcases hc with h | ⟨h, h'⟩ | ⟨h, h', h''⟩ <;> simp [*]⟩
    clear hall
    rcases hc with h1 | ⟨h1, h2⟩ | ⟨h1, h2, h3⟩
    all_goals
      go_enter Tryz.func10, Tryz.ntmps10
      go_wp2_with (first
        | (go_at_call 18; refine (valid_any p _ cap _ hA hn hl hs).mono ?_; rintro e w1 ⟨rfl, hb1⟩)
        | (go_at_call 27; refine (isWithin_any _ _ _ _).mono ?_; rintro e w' ⟨rfl, rfl⟩)
        | (go_at_call 26; refine (isPhase_any _ _).mono ?_; rintro e w' ⟨rfl, rfl⟩))
      go_ret2
      exact ⟨by rw [HF.out]; rfl, hb1⟩
end Go.Proofs.YtpifllonlchhhaaGreatDoor
namespace Go.Proofs.YtpifllonlchhhaaGreatDoor
set_option linter.unusedVariables false
set_option linter.unusedSimpArgs false
open Go.RowKit
/-- what a walk carries along: from the beginning's world to the present one -/
structure St (w W : World) (A : Option Addr) (p : List Pl.Cd) : Prop where
  hb : Below w.heap.size w W
  hA : At 3 codeC W W.heap.size A p
  hE : Env W
theorem St.call {w W W' : World} {A : Option Addr} {p : List Pl.Cd} (h : St w W A p) (hb : Below W.heap.size W W') : St w W' A p := ⟨bCall h.hb hb, (h.hA.below hb).more hb.size, h.hE.below hb⟩
theorem St.new {w W : World} {A : Option Addr} {p : List Pl.Cd} (h : St w W A p) (o : Obj) : St w (W.alloc o) A p := h.call ((Below.refl W.heap.size W).alloc (Nat.le_refl _) o)
theorem ex_write (n ph : Int) (r : List UInt8 × Int) (h : Pl.write Pl.ex n ph = r) {w W : World} {A : Option Addr} (st : St w W A Pl.ex) :
    Calls Tryz.prog 10 #[.slice A 2 2, .int .i64 n, .int .i64 ph] W fun e w' => e = .returned (.tuple #[.string ⟨r.1.toArray⟩, .int .i64 r.2]) ∧ Below W.heap.size W w' := by
  have := write_any Pl.ex A 2 n ph W st.hA (by decide) (by decide) ex_small st.hE
  rw [h] at this
  exact this
theorem ex_range (n ph : Int) (r : Int × Int × Int) (h : Pl.range Pl.ex n ph = r) {w W : World} {A : Option Addr} (st : St w W A Pl.ex) :
    Calls Tryz.prog 12 #[.slice A 2 2, .int .i64 n, .int .i64 ph] W fun e w' => e = .returned (.tuple #[.agg #[.int .i64 r.1, .int .i64 r.2.1], .int .i64 r.2.2]) ∧ Below W.heap.size W w' := by
  have := range_any Pl.ex A 2 n ph W st.hA (by decide) (by decide) ex_small
  rw [h] at this
  exact this
theorem ex_same (s t : List UInt8) (b : Bool) (h : Pl.same Pl.ex s t = b) (hs : s.length ≤ 1000) (ht : t.length ≤ 1000) {w W : World} {A : Option Addr} (st : St w W A Pl.ex) :
    Calls Tryz.prog 16 #[.slice A 2 2, .string ⟨s.toArray⟩, .string ⟨t.toArray⟩] W fun e w' => e = .returned (.bool b) ∧ Below W.heap.size W w' := by
  have := same_any Pl.ex A 2 s t W st.hA (by decide) (by decide) ex_small hs ht
  rw [h] at this
  exact this
theorem ex_valid {w W : World} {A : Option Addr} (st : St w W A Pl.ex) :
    Calls Tryz.prog 18 #[.slice A 2 2] W fun e w' => e = .returned (.bool true) ∧ Below W.heap.size W w' :=
  valid_any Pl.ex A 2 W st.hA (by decide) (by decide) ex_small
theorem bad_valid (w : World) :
    Calls Tryz.prog 18 #[.slice (some ⟨w.heap.size, 0, none⟩) 1 1] (w.alloc (.cells #[.string ⟨#[50]⟩, .string ⟨#[50, 49]⟩, .int .i64 4] 29)) fun e w' => e = .returned (.bool false) ∧ Below (w.alloc (.cells #[.string ⟨#[50]⟩, .string ⟨#[50, 49]⟩, .int .i64 4] 29)).heap.size (w.alloc (.cells #[.string ⟨#[50]⟩, .string ⟨#[50, 49]⟩, .int .i64 4] 29)) w' := by
  have B := Bx.mk w 29 #[.string ⟨#[50]⟩, .string ⟨#[50, 49]⟩, .int .i64 4]
  refine valid_any [⟨[50], [50, 49], 4⟩] _ 1 _ (fun _ => ⟨w.heap.size, 0, rfl, by rw [alloc_size]; omega, ?_⟩) (by decide) (by decide) (fun c hc => by rw [List.mem_singleton] at hc; subst hc; simp)
  intro i c hi j u hj
  rcases i with _ | i
  · simp only [List.getElem?_cons_zero, Option.some.injEq] at hi
    subst hi
    rcases j with _ | _ | _ | j
    · simp only [codeC, List.getElem?_cons_zero, Option.some.injEq] at hj; subst hj; exact B.cell 0 rfl
    · simp only [codeC, List.getElem?_cons_succ, List.getElem?_cons_zero, Option.some.injEq] at hj; subst hj; exact B.cell 1 rfl
    · simp only [codeC, List.getElem?_cons_succ, List.getElem?_cons_zero, Option.some.injEq] at hj; subst hj; exact B.cell 2 rfl
    · simp [codeC] at hj
  · simp at hi
set_option maxRecDepth 100000 in
set_option maxHeartbeats 8000000 in
theorem sane_any (w : World) (hE : Env w) : Calls Tryz.prog 4 #[] w fun e w' => e = .returned (.bool true) ∧ Below w.heap.size w w' := by
  go_enter Tryz.func4, Tryz.ntmps4
  go_wp2_with fail
  refine (example_any w).mono ?_
  rintro _ w0 ⟨A, rfl, hb, hA⟩
  have st : St w w0 A Pl.ex := ⟨hb, hA, hE.below hb⟩
  clear hb hA hE
  go_wp2_with fail
  refine (ex_write 82001234 1 ([50, 49, 50, 51, 52], 0) (by kernel_rfl) st).mono ?_
  rintro _ w1 ⟨rfl, hb⟩
  replace st := st.call hb
  clear hb
  go_wp2_with fail
  refine (ex_write 82991234 2 ([56, 50, 57, 57, 49, 50, 51, 52], 0) (by kernel_rfl) st).mono ?_
  rintro _ w2 ⟨rfl, hb⟩
  replace st := st.call hb
  clear hb
  go_wp2_with fail
  refine (ex_write 82991234 1 ([], 120) (by kernel_rfl) st).mono ?_
  rintro _ w3 ⟨rfl, hb⟩
  replace st := st.call hb
  clear hb
  go_wp2_with fail
  refine (ex_range 0 1 (82000000, 82010000, 0) (by kernel_rfl) st).mono ?_
  rintro _ w4 ⟨rfl, hb⟩
  replace st := st.call hb
  clear hb
  have B01 := Bx.mk w4 40 #[.int .i64 82000000, .int .i64 82010000]
  replace st := st.new (.cells #[.int .i64 82000000, .int .i64 82010000] 40)
  go_wp2_with fail
  refine (ex_range 1 1 (90000000, 90001000, 0) (by kernel_rfl) st).mono ?_
  rintro _ w5 ⟨rfl, hb⟩
  replace st := st.call hb
  replace B01 := B01.call hb
  clear hb
  replace B01 := B01.new (.cells #[.int .i64 90000000, .int .i64 90001000] 40)
  have B11 := Bx.mk w5 40 #[.int .i64 90000000, .int .i64 90001000]
  replace st := st.new (.cells #[.int .i64 90000000, .int .i64 90001000] 40)
  go_wp2_with fail
  refine (ex_range 0 3 (82000000, 83000000, 0) (by kernel_rfl) st).mono ?_
  rintro _ w6 ⟨rfl, hb⟩
  replace st := st.call hb
  replace B01 := B01.call hb
  replace B11 := B11.call hb
  clear hb
  replace B01 := B01.new (.cells #[.int .i64 82000000, .int .i64 83000000] 40)
  replace B11 := B11.new (.cells #[.int .i64 82000000, .int .i64 83000000] 40)
  have B03 := Bx.mk w6 40 #[.int .i64 82000000, .int .i64 83000000]
  replace st := st.new (.cells #[.int .i64 82000000, .int .i64 83000000] 40)
  go_wp2_with fail
  refine (ex_range 1 3 (90000000, 100000000, 0) (by kernel_rfl) st).mono ?_
  rintro _ w7 ⟨rfl, hb⟩
  replace st := st.call hb
  replace B01 := B01.call hb
  replace B11 := B11.call hb
  replace B03 := B03.call hb
  clear hb
  replace B01 := B01.new (.cells #[.int .i64 90000000, .int .i64 100000000] 40)
  replace B11 := B11.new (.cells #[.int .i64 90000000, .int .i64 100000000] 40)
  replace B03 := B03.new (.cells #[.int .i64 90000000, .int .i64 100000000] 40)
  have B13 := Bx.mk w7 40 #[.int .i64 90000000, .int .i64 100000000]
  replace st := st.new (.cells #[.int .i64 90000000, .int .i64 100000000] 40)
  go_wp2_with fail
  refine (reads_any [50, 49, 50, 51, 52] 82001234 0 5 _ (by decide) (by kernel_rfl)).mono ?_
  rintro _ w8 ⟨rfl, hb⟩
  replace st := st.call hb
  replace B01 := B01.call hb
  replace B11 := B11.call hb
  replace B03 := B03.call hb
  replace B13 := B13.call hb
  clear hb
  go_wp2_with fail
  refine (reads_any [56, 50, 48, 48, 49, 50, 51, 52] 82001234 0 8 _ (by decide) (by kernel_rfl)).mono ?_
  rintro _ w9 ⟨rfl, hb⟩
  replace st := st.call hb
  replace B01 := B01.call hb
  replace B11 := B11.call hb
  replace B03 := B03.call hb
  replace B13 := B13.call hb
  clear hb
  go_wp2_with fail
  refine (reads_any [50, 49, 50, 51, 52, 53] 82001234 0 5 _ (by decide) (by kernel_rfl)).mono ?_
  rintro _ w10 ⟨rfl, hb⟩
  replace st := st.call hb
  replace B01 := B01.call hb
  replace B11 := B11.call hb
  replace B03 := B03.call hb
  replace B13 := B13.call hb
  clear hb
  go_wp2_with fail
  refine (reads_any [51, 49, 48, 48, 55] 90000007 1 5 _ (by decide) (by kernel_rfl)).mono ?_
  rintro _ w11 ⟨rfl, hb⟩
  replace st := st.call hb
  replace B01 := B01.call hb
  replace B11 := B11.call hb
  replace B03 := B03.call hb
  replace B13 := B13.call hb
  clear hb
  go_wp2_with fail
  refine (kind_any [56, 50, 48, 48, 49, 50, 51] 2 _ (by decide) ⟨1, 0, 0, 0⟩ 0 (by kernel_rfl) 1 (by decide)).mono ?_
  rintro _ w12 ⟨rfl, hb⟩
  replace st := st.call hb
  replace B01 := B01.call hb
  replace B11 := B11.call hb
  replace B03 := B03.call hb
  replace B13 := B13.call hb
  clear hb
  go_wp2_with fail
  refine (kind_any [51] 2 _ (by decide) ⟨1, 0, 0, 0⟩ 0 (by kernel_rfl) 1 (by decide)).mono ?_
  rintro _ w13 ⟨rfl, hb⟩
  replace st := st.call hb
  replace B01 := B01.call hb
  replace B11 := B11.call hb
  replace B03 := B03.call hb
  replace B13 := B13.call hb
  clear hb
  go_wp2_with fail
  refine (kind_any [53] 2 _ (by decide) ⟨0, 0, 0, 0⟩ 0 (by kernel_rfl) 0 (by decide)).mono ?_
  rintro _ w14 ⟨rfl, hb⟩
  replace st := st.call hb
  replace B01 := B01.call hb
  replace B11 := B11.call hb
  replace B03 := B03.call hb
  replace B13 := B13.call hb
  clear hb
  go_wp2_with fail
  refine (kind_any [] 2 _ (by decide) ⟨1, 0, 0, 0⟩ 0 (by kernel_rfl) 1 (by decide)).mono ?_
  rintro _ w15 ⟨rfl, hb⟩
  replace st := st.call hb
  replace B01 := B01.call hb
  replace B11 := B11.call hb
  replace B03 := B03.call hb
  replace B13 := B13.call hb
  clear hb
  go_wp2_with fail
  refine (kind_any [50, 49, 50, 51, 52] 3 _ (by decide) ⟨0, 0, 0, 0⟩ 0 (by kernel_rfl) 0 (by decide)).mono ?_
  rintro _ w16 ⟨rfl, hb⟩
  replace st := st.call hb
  replace B01 := B01.call hb
  replace B11 := B11.call hb
  replace B03 := B03.call hb
  replace B13 := B13.call hb
  clear hb
  go_wp2_with fail
  refine (kind_any [56, 50, 48, 48, 49, 50, 51, 52] 1 _ (by decide) ⟨0, 0, 0, 0⟩ 0 (by kernel_rfl) 0 (by decide)).mono ?_
  rintro _ w17 ⟨rfl, hb⟩
  replace st := st.call hb
  replace B01 := B01.call hb
  replace B11 := B11.call hb
  replace B03 := B03.call hb
  replace B13 := B13.call hb
  clear hb
  go_wp2_with fail
  refine (kind_any [50, 120] 2 _ (by decide) ⟨0, 0, 0, 0⟩ 120 (by kernel_rfl) (-1) (by decide)).mono ?_
  rintro _ w18 ⟨rfl, hb⟩
  replace st := st.call hb
  replace B01 := B01.call hb
  replace B11 := B11.call hb
  replace B03 := B03.call hb
  replace B13 := B13.call hb
  clear hb
  have B010 := B01.cell 0 rfl
  have B011 := B01.cell 1 rfl
  have B110 := B11.cell 0 rfl
  have B111 := B11.cell 1 rfl
  have B030 := B03.cell 0 rfl
  have B031 := B03.cell 1 rfl
  have B130 := B13.cell 0 rfl
  have B131 := B13.cell 1 rfl
  go_wp2_with fail
  refine (ex_same [50, 49, 50, 51, 52] [56, 50, 48, 48, 49, 50, 51, 52] true (by kernel_rfl) (by decide) (by decide) st).mono ?_
  rintro _ w19 ⟨rfl, hb⟩
  replace st := st.call hb
  clear hb
  go_wp2_with fail
  refine (ex_same [50, 49, 50, 51, 52] [56, 50, 48, 48, 49, 50, 51, 53] false (by kernel_rfl) (by decide) (by decide) st).mono ?_
  rintro _ w20 ⟨rfl, hb⟩
  replace st := st.call hb
  clear hb
  go_wp2_with fail
  refine (ex_valid st).mono ?_
  rintro _ w21 ⟨rfl, hb⟩
  replace st := st.call hb
  clear hb
  go_wp2_with fail
  refine (bad_valid _).mono ?_
  rintro _ w99 ⟨rfl, hb⟩
  replace st := (st.new _).call hb
  clear hb
  go_wp2_with fail
  go_ret
  exact ⟨rfl, st.hb⟩
end Go.Proofs.YtpifllonlchhhaaGreatDoor
