/- completed of package dialtonelaw12: what is the beginning of a number becomes one. -/
import Derived.Test.YtppdcjbnijbcdaaGreatDoorLawK
namespace Go.Proofs.YtppdcjbnijbcdaaGreatDoor
set_option linter.unusedVariables false
set_option linter.unusedSimpArgs false
open Go.RowKit
def MoreAt (p : List Pl.Cd) (ph : Int) (s : List UInt8) : Prop := Pl.Okay p ph s ∧ (Pl.read p s ph).1.kind = 1
theorem more_next {p : List Pl.Cd} {ph : Int} {s : List UInt8} (h : MoreAt p ph s) (d : Nat) (hd : d < 10) : Pl.Okay p ph (s ++ [48 + UInt8.ofNat d]) :=
  ⟨h.1.v, Pl.digits_app.2 ⟨h.1.d, Pl.dig_byte d hd⟩, by have := (Pl.more_step h.1 h.2).1; simp; omega, h.1.ph⟩
set_option maxRecDepth 100000 in
set_option maxHeartbeats 4000000 in
theorem completed_any {w0 w : World} {A : Option Addr} {cap : Nat} {p : List Pl.Cd} (sv0 : Sv w0 w A cap p) (s : List UInt8) (ph : Int) (hs : Kp (MoreAt p ph s)) :
    Calls Tryz.prog 28 #[.slice A p.length cap, .string ⟨s.toArray⟩, .int .i64 ph] w fun e w' => e = .returned (.bool true) ∧ Below w.heap.size w w' := by
  have sv : Sv w w A cap p := ⟨bStart w, sv0.hA, sv0.hE, sv0.hv, sv0.hc, sv0.hm⟩
  clear sv0
  go_enter Tryz.func28, Tryz.ntmps28
  go_wp2
  go_loopw [1, 7, 8, 9, 10, 11, 12] (fun s1 s7 s8 s9 s10 s11 s12 wr => ∃ (k : Nat) (u : List UInt8), s1 = .string ⟨u.toArray⟩ ∧ s7 = .int .i64 k ∧ k ≤ u.length ∧ Kp (MoreAt p ph u) ∧ Sv w wr A cap p) (fun s1 s7 s8 s9 s10 s11 s12 _ => 8 - (intOf s7).toNat)
  case atStart => exact ⟨0, s, rfl, rfl, Nat.zero_le _, hs, sv⟩
  case round =>
    clear hs sv
    obtain ⟨k, u, rfl, rfl, hk, hu, sv⟩ := hrel
    have hms := Pl.more_step hu.out.1 hu.out.2
    have h8 : k < 8 := by omega
    have ul : u.length < 8 := hms.1
    have t0 : decide ((k : Int) < 8) = true := by simp; omega
    obtain ⟨d0, hd0, hne0⟩ := hms.2
    replace hne0 := Kp.mk hne0
    go_wp2
    go_loopw [1, 8, 9, 10, 11, 12] (fun s1 s8 s9 s10 s11 s12 wr => ∃ c : Nat, s9 = .int .i64 c ∧ c ≤ 10 ∧ Sv w wr A cap p ∧ ((s8 = .bool false ∧ s1 = .string ⟨u.toArray⟩ ∧ c ≤ d0 ∧ Kp (∀ d, d < c → (Pl.read p (u ++ [48 + UInt8.ofNat d]) ph).1.kind = 0)) ∨ (s8 = .bool true ∧ ∃ v : List UInt8, s1 = .string ⟨v.toArray⟩ ∧ v.length = u.length + 1 ∧ Kp (MoreAt p ph v)))) (fun s1 s8 s9 s10 s11 s12 _ => 10 - (intOf s9).toNat)
    case atStart => exact ⟨0, rfl, Nat.zero_le _, sv, .inl ⟨rfl, rfl, Nat.zero_le _, ⟨fun d h => by omega⟩⟩⟩
    case round =>
      clear sv
      obtain ⟨c, rfl, hc, sv, hor⟩ := hrel
      rcases hor with ⟨rfl, rfl, hcd, hno⟩ | ⟨rfl, v, rfl, hvl, hv⟩
      · have hc10 : c < 10 := by omega
        have t1 : decide ((c : Int) < 10) = true := by simp; omega
        have okc := more_next hu.out c hc10
        have hkd := Pl.read_kind okc
        have hr0 := (Pl.read_zero okc).1
        have hl9 : (u ++ [48 + UInt8.ofNat c]).length ≤ 1000 := by simp; omega
        obtain ⟨⟨⟨dk, dn, dc, du⟩, de⟩, q⟩ := exK (Pl.read p (u ++ [48 + UInt8.ofNat c]) ph)
        rw [q.out] at hkd hr0
        simp only at hkd hr0
        subst hr0
        have hne : Kp (c = d0 → dk ≠ 0) := ⟨fun h => by subst h; have := hne0.out; rw [q.out] at this; exact this⟩
        replace okc := Kp.mk okc
        rcases hkd with rfl | rfl | rfl
        · have hcd2 : c < d0 := by
            rcases Nat.lt_or_ge c d0 with h | h
            · exact h
            · exact absurd rfl (hne.out (by omega))
          clear hne hne0 okc
          go_wp2_with fail
          refine (v_read (sv.new _) hl9 q).mono ?_
          rintro _ w1 ⟨rfl, hb⟩
          replace sv := ((sv.new _).call hb).new (.cells #[.int .i64 0, .int .i64 dn, .int .i64 dc, .int .i64 du] 44)
          clear hb
          go_wp2
          go_roundw
          case rel => exact ⟨c + 1, by go_num, by omega, sv, .inl ⟨rfl, rfl, by omega, ⟨fun d h => by
            rcases Nat.lt_or_ge d c with h1 | h1
            · exact hno.out d h1
            · obtain rfl : d = c := by omega
              rw [q.out]⟩⟩⟩
          case measure => simp [intOf]; omega
        · clear hne
          go_wp2_with fail
          refine (v_read (sv.new _) hl9 q).mono ?_
          rintro _ w1 ⟨rfl, hb⟩
          replace sv := ((sv.new _).call hb).new (.cells #[.int .i64 1, .int .i64 dn, .int .i64 dc, .int .i64 du] 44)
          clear hb
          go_wp2
          go_roundw
          case rel => exact ⟨c + 1, by go_num, by omega, sv, .inr ⟨rfl, u ++ [48 + UInt8.ofNat c], by simp, by simp, ⟨okc.out, by rw [q.out]⟩⟩⟩
          case measure => simp [intOf]; omega
        · clear hne
          go_wp2_with fail
          refine (v_read (sv.new _) hl9 q).mono ?_
          rintro _ w1 ⟨rfl, hb⟩
          replace sv := ((sv.new _).call hb).new (.cells #[.int .i64 2, .int .i64 dn, .int .i64 dc, .int .i64 du] 44)
          clear hb
          go_wp2
          go_ret; exact ⟨rfl, sv.hb⟩
      · by_cases hc10 : c < 10
        · have t1 : decide ((c : Int) < 10) = true := by simp; omega
          go_wp2
          go_roundw
          case rel => exact ⟨k + 1, v, rfl, by go_num, by omega, hv, sv⟩
          case measure => simp [intOf]; omega
        · have t1 : decide ((c : Int) < 10) = false := by simp; omega
          go_wp2
          go_roundw
          case rel => exact ⟨k + 1, v, rfl, by go_num, by omega, hv, sv⟩
          case measure => simp [intOf]; omega
end Go.Proofs.YtppdcjbnijbcdaaGreatDoor
