/- all, Valid of package plan. Valid of package dialtoneref12. -/
import Derived.Test.YtpifllonlchhhaaGreatDoorP01
namespace Go.Proofs.YtpifllonlchhhaaGreatDoor
set_option linter.unusedVariables false
set_option linter.unusedSimpArgs false
open Go.RowKit
set_option maxRecDepth 100000 in
set_option maxHeartbeats 2000000 in
theorem all_any (p : List Pl.Cd) (A : Option Addr) (cap : Nat) (w : World) (hA : At 3 codeC w w.heap.size A p) (hn : p.length ≤ cap) (hl : p.length ≤ 1000) :
    Calls Tryz.prog 48 #[.slice A p.length cap, .func (.func 46) #[] #[]] w fun e w' => e = .returned (.bool (Pl.allPairs p)) ∧ Below w.heap.size w w' := by
  go_enter Tryz.func48, Tryz.ntmps48
  go_wp2
  go_loopw [11] (fun i wr => ∃ k : Nat, k ≤ p.length ∧ i = .int .i64 k ∧ Hid (Pl.pairsTo p k = true) ∧ Below w.heap.size w wr) (fun i _ => p.length - (intOf i).toNat)
  case atStart => exact ⟨0, Nat.zero_le _, rfl, Lib.hid (Pl.pairsTo_zero p), bStart _⟩
  case round =>
    obtain ⟨k, hk, rfl, hp, hb⟩ := hrel
    by_cases hlt : k < p.length
    · obtain ⟨b, off, rfl, hbB, hcell⟩ := hA (by omega)
      have hck : p[k]? = some p[k] := List.getElem?_eq_getElem hlt
      have c0 : wr.cell? ⟨b, off + k * 3, none⟩ = some (.string ⟨(p[k]).old.toArray⟩) := (hb.cell (p := ⟨b, _, none⟩) hbB).trans (hcell k _ hck 0 _ rfl)
      have c1 : wr.cell? ⟨b, off + k * 3 + 1, none⟩ = some (.string ⟨(p[k]).new.toArray⟩) := (hb.cell (p := ⟨b, _, none⟩) hbB).trans (hcell k _ hck 1 _ rfl)
      have c2 : wr.cell? ⟨b, off + k * 3 + 2, none⟩ = some (.int .i64 (p[k]).len) := (hb.cell (p := ⟨b, _, none⟩) hbB).trans (hcell k _ hck 2 _ rfl)
      clear hck
      go_wp2
      obtain ⟨wo, rfl⟩ : ∃ wo : World, wo = wr := ⟨_, rfl⟩
      go_loopw [20] (fun j wr => ∃ m : Nat, m ≤ k ∧ j = .int .i64 m ∧ Hid ((p.take m).all (fun b => Pl.differ p[k] b) = true) ∧ Below (wo.alloc (.cells #[.string ⟨(p[k]).old.toArray⟩, .string ⟨(p[k]).new.toArray⟩, .int .i64 (p[k]).len] 29)).heap.size (wo.alloc (.cells #[.string ⟨(p[k]).old.toArray⟩, .string ⟨(p[k]).new.toArray⟩, .int .i64 (p[k]).len] 29)) wr) (fun j _ => k - (intOf j).toNat)
      case atStart => exact ⟨0, Nat.zero_le _, rfl, Lib.hid (by simp), Below.refl _ _⟩
      case round =>
        obtain ⟨m, hm, rfl, hp2, hb2⟩ := hrel
        have hbb := bCall (bNew hb _) hb2
        have a0 : wr.cell? ⟨wo.heap.size, 0, none⟩ = some (.string ⟨(p[k]).old.toArray⟩) := ((bcell hb2).1 _ _ (by simp)).trans (by simp)
        have a1 : wr.cell? ⟨wo.heap.size, 1, none⟩ = some (.string ⟨(p[k]).new.toArray⟩) := ((bcell hb2).1 _ _ (by simp)).trans (by simp)
        have a2 : wr.cell? ⟨wo.heap.size, 2, none⟩ = some (.int .i64 (p[k]).len) := ((bcell hb2).1 _ _ (by simp)).trans (by simp)
        by_cases hlm : m < k
        · have hcm : p[m]? = some p[m] := List.getElem?_eq_getElem (by omega)
          have d0 : wr.cell? ⟨b, off + m * 3, none⟩ = some (.string ⟨(p[m]).old.toArray⟩) := (hbb.cell (p := ⟨b, _, none⟩) hbB).trans (hcell m _ hcm 0 _ rfl)
          have d1 : wr.cell? ⟨b, off + m * 3 + 1, none⟩ = some (.string ⟨(p[m]).new.toArray⟩) := (hbb.cell (p := ⟨b, _, none⟩) hbB).trans (hcell m _ hcm 1 _ rfl)
          have d2 : wr.cell? ⟨b, off + m * 3 + 2, none⟩ = some (.int .i64 (p[m]).len) := (hbb.cell (p := ⟨b, _, none⟩) hbB).trans (hcell m _ hcm 2 _ rfl)
          have hsz : wo.heap.size < wr.heap.size := by have := hb2.size; simp at this; omega
          clear hcm c0 c1 c2
          cases hd : Pl.differ p[k] p[m]
          · go_wp2_with (go_at_call 46; refine (differ_any p[k] p[m] _).mono ?_; rintro e w1 ⟨rfl, hb3⟩)
            go_ret
            exact ⟨ret_bool (Pl.allPairs_bad p k m hlt hlm hd).symm, bCall (bNew hbb _) hb3⟩
          · have HD := Lib.hid hd
            go_wp2_with (go_at_call 46; refine (differ_any p[k] p[m] _).mono ?_; rintro e w1 ⟨rfl, hb3⟩)
            go_roundw
            case rel =>
              refine ⟨m + 1, by omega, by go_num, Lib.hid ?_, bCall (bNew hb2 _) hb3⟩
              rw [Pl.take_snoc p m (by omega), List.all_append, hp2.out]
              simp [HD.out]
            case measure => simp [intOf]; omega
        · go_wp2
          go_roundw
          case rel =>
            refine ⟨k + 1, by omega, by go_num, Lib.hid ?_, hbb⟩
            obtain rfl : m = k := by omega
            rw [Pl.pairsTo_succ p m hlt, hp.out, hp2.out]; rfl
          case measure => simp [intOf]; omega
    · go_wp2
      go_ret
      obtain rfl : k = p.length := by omega
      exact ⟨ret_bool hp.out.symm, hb⟩
set_option maxRecDepth 100000 in
set_option maxHeartbeats 2000000 in
/-- plan.Valid -/
theorem valid_any (p : List Pl.Cd) (A : Option Addr) (cap : Nat) (w : World) (hA : At 3 codeC w w.heap.size A p) (hn : p.length ≤ cap) (hl : p.length ≤ 1000) (hs : ∀ c ∈ p, c.old.length ≤ 1000 ∧ c.new.length ≤ 1000) :
    Calls Tryz.prog 18 #[.slice A p.length cap] w fun e w' => e = .returned (.bool (Pl.valid p)) ∧ Below w.heap.size w w' := by
  go_enter Tryz.func18, Tryz.ntmps18
  go_wp2
  go_loopw [8] (fun i wr => ∃ k : Nat, k ≤ p.length ∧ i = .int .i64 k ∧ Hid ((p.take k).all Pl.isCode = true) ∧ Below w.heap.size w wr) (fun i _ => p.length - (intOf i).toNat)
  case atStart => exact ⟨0, Nat.zero_le _, rfl, Lib.hid (by simp), bStart _⟩
  case round =>
    obtain ⟨k, hk, rfl, hp, hb⟩ := hrel
    by_cases hlt : k < p.length
    · obtain ⟨b, off, rfl, hbB, hcell⟩ := hA (by omega)
      have hck : p[k]? = some p[k] := List.getElem?_eq_getElem hlt
      have c0 : wr.cell? ⟨b, off + k * 3, none⟩ = some (.string ⟨(p[k]).old.toArray⟩) := (hb.cell (p := ⟨b, _, none⟩) hbB).trans (hcell k _ hck 0 _ rfl)
      have c1 : wr.cell? ⟨b, off + k * 3 + 1, none⟩ = some (.string ⟨(p[k]).new.toArray⟩) := (hb.cell (p := ⟨b, _, none⟩) hbB).trans (hcell k _ hck 1 _ rfl)
      have c2 : wr.cell? ⟨b, off + k * 3 + 2, none⟩ = some (.int .i64 (p[k]).len) := (hb.cell (p := ⟨b, _, none⟩) hbB).trans (hcell k _ hck 2 _ rfl)
      obtain ⟨s1, s2⟩ := hs p[k] (List.getElem_mem hlt)
      clear hck
      cases hd : Pl.isCode p[k]
      · have hfin : Pl.valid p = false := by
          unfold Pl.valid
          have : p.all Pl.isCode = false := by simp only [List.all_eq_false]; exact ⟨p[k], List.getElem_mem hlt, by simp [hd]⟩
          rw [this]; rfl
        have HF := Lib.hid hfin
        clear hfin
        go_wp2_with (go_at_call 45; refine (isCode_any (p[k]).old (p[k]).new (p[k]).len s1 s2 _).mono ?_; rintro e w1 ⟨rfl, hb3⟩)
        go_ret
        exact ⟨ret_bool HF.out.symm, bCall (bNew hb _) hb3⟩
      · have HD := Lib.hid hd
        go_wp2_with (go_at_call 45; refine (isCode_any (p[k]).old (p[k]).new (p[k]).len s1 s2 _).mono ?_; rintro e w1 ⟨rfl, hb3⟩)
        go_roundw
        case rel =>
          refine ⟨k + 1, by omega, by go_num, Lib.hid ?_, bCall (bNew hb _) hb3⟩
          rw [Pl.take_snoc p k hlt, List.all_append, hp.out]
          simp [HD.out]
        case measure => simp [intOf]; omega
    · obtain rfl : k = p.length := by omega
      have hpa : p.all Pl.isCode = true := by have := hp.out; rwa [List.take_of_length_le (Nat.le_refl _)] at this
      have HP := Lib.hid hpa
      have hAw := hA.below hb
      clear hpa hp
      by_cases h20 : p.length ≤ 20
      · have HF : Hid (Pl.valid p = Pl.allPairs p) := by unfold Pl.valid; rw [HP.out]; simp [h20]; exact Lib.hid trivial
        go_wp2_with (go_at_call 48; refine (all_any p A cap _ (hAw.more hb.size) hn hl).mono ?_; rintro e w1 ⟨rfl, hb3⟩)
        go_ret
        exact ⟨ret_bool HF.out.symm, bCall hb hb3⟩
      · have HF : Hid (Pl.valid p = false) := by unfold Pl.valid; rw [HP.out]; simp [h20]; exact Lib.hid trivial
        go_wp2
        go_ret
        exact ⟨ret_bool HF.out.symm, hb⟩
end Go.Proofs.YtpifllonlchhhaaGreatDoor
namespace Go.Proofs.YtpifllonlchhhaaGreatDoor
set_option linter.unusedVariables false
set_option linter.unusedSimpArgs false
open Go.RowKit
theorem differ_cases (a b : Pl.Cd) : (Pl.apart a.old b.old = false ∧ Pl.differ a b = false) ∨ (Pl.apart a.old b.old = true ∧ Pl.apart a.new b.new = false ∧ Pl.differ a b = false) ∨ (Pl.apart a.old b.old = true ∧ Pl.apart a.new b.new = true ∧ Pl.apart a.old b.new = false ∧ Pl.differ a b = false) ∨ (Pl.apart a.old b.old = true ∧ Pl.apart a.new b.new = true ∧ Pl.apart a.old b.new = true ∧ Pl.apart a.new b.old = false ∧ Pl.differ a b = false) ∨ (Pl.apart a.old b.old = true ∧ Pl.apart a.new b.new = true ∧ Pl.apart a.old b.new = true ∧ Pl.apart a.new b.old = true ∧ Pl.differ a b = true) := by
  rw [differ_eq]
  cases Pl.apart a.old b.old <;> cases Pl.apart a.new b.new <;> cases Pl.apart a.old b.new <;> cases Pl.apart a.new b.old <;> simp
theorem valid_bad (p : List Pl.Cd) (k m : Nat) (h : k < p.length) (hm : m < k) (hd : Pl.differ p[k] p[m] = false) : Pl.valid p = false := by
  unfold Pl.valid; rw [Pl.allPairs_bad p k m h hm hd]; simp
set_option maxRecDepth 100000 in
set_option maxHeartbeats 4000000 in
theorem refValid_any (p : List Pl.Cd) (A : Option Addr) (cap : Nat) (w : World) (hA : At 3 codeC w w.heap.size A p) (hn : p.length ≤ cap) (hs : ∀ c ∈ p, c.old.length ≤ 1000 ∧ c.new.length ≤ 1000 ∧ -9223372036854775808 ≤ c.len ∧ c.len ≤ 9223372036854775807) :
    Calls Tryz.prog 19 #[.slice A p.length cap] w fun e w' => e = .returned (.bool (Pl.valid p)) ∧ Below w.heap.size w w' := by
  by_cases h20 : p.length ≤ 20
  · go_enter Tryz.func19, Tryz.ntmps19
    go_wp2
    go_loopw [3] (fun i wr => ∃ k : Nat, k ≤ p.length ∧ i = .int .i64 k ∧ Hid ((p.take k).all Pl.isCode = true ∧ Pl.pairsTo p k = true) ∧ Below w.heap.size w wr) (fun i _ => p.length - (intOf i).toNat)
    case atStart => exact ⟨0, Nat.zero_le _, rfl, Lib.hid ⟨by simp, Pl.pairsTo_zero p⟩, bStart _⟩
    case round =>
      obtain ⟨k, hk, rfl, hp, hb⟩ := hrel
      by_cases hlt : k < p.length
      · obtain ⟨b, off, rfl, hbB, hcell⟩ := hA (by omega)
        have hck : p[k]? = some p[k] := List.getElem?_eq_getElem hlt
        have c0 : wr.cell? ⟨b, off + k * 3, none⟩ = some (.string ⟨(p[k]).old.toArray⟩) := (hb.cell (p := ⟨b, _, none⟩) hbB).trans (hcell k _ hck 0 _ rfl)
        have c1 : wr.cell? ⟨b, off + k * 3 + 1, none⟩ = some (.string ⟨(p[k]).new.toArray⟩) := (hb.cell (p := ⟨b, _, none⟩) hbB).trans (hcell k _ hck 1 _ rfl)
        have c2 : wr.cell? ⟨b, off + k * 3 + 2, none⟩ = some (.int .i64 (p[k]).len) := (hb.cell (p := ⟨b, _, none⟩) hbB).trans (hcell k _ hck 2 _ rfl)
        obtain ⟨s1, s2, s3, s4⟩ := hs p[k] (List.getElem_mem hlt)
        cases hd : Pl.isCode p[k]
        · have hfin : Pl.valid p = false := by
            unfold Pl.valid
            have : p.all Pl.isCode = false := by simp only [List.all_eq_false]; exact ⟨p[k], List.getElem_mem hlt, by simp [hd]⟩
            rw [this]; rfl
          have HF := Lib.hid hfin
          clear hfin hck
          go_wp2_with (go_at_call 49; refine (one_any (p[k]).old (p[k]).new (p[k]).len s1 s2 s3 s4 _).mono ?_; rintro e w1 ⟨rfl, hb3⟩)
          go_ret
          exact ⟨ret_bool HF.out.symm, bCall hb hb3⟩
        · have HD := Lib.hid hd
          clear hck
          go_wp2_with (go_at_call 49; refine (one_any (p[k]).old (p[k]).new (p[k]).len s1 s2 s3 s4 _).mono ?_; rintro e w1 ⟨rfl, hb3⟩)
          have hb1 := bCall hb hb3
          clear c0 c1 c2 hd
          go_loopw [4] (fun j wr => ∃ m : Nat, m ≤ k ∧ j = .int .i64 m ∧ Hid ((p.take m).all (fun b => Pl.differ p[k] b) = true) ∧ Below w.heap.size w wr) (fun j _ => k - (intOf j).toNat)
          case atStart => exact ⟨0, Nat.zero_le _, rfl, Lib.hid (by simp), hb1⟩
          case round =>
            obtain ⟨m, hm, rfl, hp2, hb2⟩ := hrel
            by_cases hlm : m < k
            · have hck : p[k]? = some p[k] := List.getElem?_eq_getElem hlt
              have hcm : p[m]? = some p[m] := List.getElem?_eq_getElem (by omega)
              have d0 := fun d os => cell_regrown ((hb2.cell (p := ⟨b, off + k * 3, none⟩) hbB).trans (hcell k _ hck 0 _ rfl)) d os
              have d1 := fun d os => cell_regrown ((hb2.cell (p := ⟨b, off + k * 3 + 1, none⟩) hbB).trans (hcell k _ hck 1 _ rfl)) d os
              have e0 := fun d os => cell_regrown ((hb2.cell (p := ⟨b, off + m * 3, none⟩) hbB).trans (hcell m _ hcm 0 _ rfl)) d os
              have e1 := fun d os => cell_regrown ((hb2.cell (p := ⟨b, off + m * 3 + 1, none⟩) hbB).trans (hcell m _ hcm 1 _ rfl)) d os
              have hkn : (k : Int) < p.length := by omega
              have hmn : (m : Int) < p.length := by omega
              clear hck hcm
              have hdc := differ_cases p[k] p[m]
              rcases hdc with ⟨h1, hd⟩ | ⟨h1, h2, hd⟩ | ⟨h1, h2, h3, hd⟩ | ⟨h1, h2, h3, h4, hd⟩ | ⟨h1, h2, h3, h4, hd⟩
              all_goals
                have HD2 := Lib.hid hd
                clear hd
                go_wp2
                refine wp_region_quiet_below (by kernel_rfl) (by kernel_rfl) ?_
                repeat (go_big_quiet_step (first | (go_at_call 50; exact Calls.regrown_of (calls_below (apart_any _ _ _)))))
                refine wpQuiet_nil ?_
                rintro _ ⟨q, rfl⟩
                go_wp2
              iterate 4
                · go_ret
                  exact ⟨ret_bool (valid_bad p k m hlt hlm HD2.out).symm, bAgain hb2 _ _⟩
              · go_roundw
                case rel =>
                  refine ⟨m + 1, by omega, by go_num, Lib.hid ?_, bAgain hb2 _ _⟩
                  rw [Pl.take_snoc p m (by omega), List.all_append, hp2.out]
                  simp [HD2.out]
                case measure => simp [intOf]; omega
            · go_wp2
              go_roundw
              case rel =>
                refine ⟨k + 1, by omega, by go_num, Lib.hid ⟨?_, ?_⟩, hb2⟩
                · rw [Pl.take_snoc p k hlt, List.all_append, hp.out.1]
                  simp [HD.out]
                · obtain rfl : m = k := by omega
                  rw [Pl.pairsTo_succ p m hlt, hp.out.2, hp2.out]; rfl
              case measure => simp [intOf]; omega
      · go_wp2
        go_ret
        obtain rfl : k = p.length := by omega
        refine ⟨ret_bool ?_, hb⟩
        have := hp.out.1
        rw [List.take_of_length_le (Nat.le_refl _)] at this
        unfold Pl.valid
        rw [this, Pl.allPairs_eq, hp.out.2]; simp [h20]
  · have HF : Hid (Pl.valid p = false) := by unfold Pl.valid; simp [h20]; exact Lib.hid trivial
    go_enter Tryz.func19, Tryz.ntmps19
    go_wp2
    go_ret
    exact ⟨ret_bool HF.out.symm, bStart _⟩
end Go.Proofs.YtpifllonlchhhaaGreatDoor
