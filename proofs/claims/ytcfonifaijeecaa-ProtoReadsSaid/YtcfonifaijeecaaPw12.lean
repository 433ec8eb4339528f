/-
  The walk of the page's varint.
-/
import Derived.Test.YtcfonifaijeecaaPw7
namespace Go.Proofs.Ytcfonifaijeecaa
open Go.RowKit

/-- What the page's varint hands back. -/
def RvPage (w : World) (l : List UInt8) : VR → Ending → World → Prop
  | .ok v rest, e, w' => w' = w ∧ W64 v ∧ ∃ k : Nat, k ≤ l.length ∧ rest = l.drop k ∧ e = .returned (.tuple #[.int .u64 (v : Int), .int .i64 (k : Int), .int .i64 0])
  | .bad j, e, w' => w' = w ∧ e = .returned (.tuple #[.int .u64 0, .int .i64 0, .int .i64 (j : Int)])

theorem or_step' (k acc x : Nat) (hk : k ≤ 9) (hx : x < 256) (h9 : k = 9 → x ≤ 1) (ha : acc < 2 ^ (7 * k)) :
    bits .or .u64 (acc : Int) (IntKind.u64.wrap (IntKind.u64.wrap (bits .and .u8 (x : Int) 127) * 2 ^ (7 * k))) = ((acc + x % 128 * 2 ^ (7 * k) : Nat) : Int) ∧ W64 (acc + x % 128 * 2 ^ (7 * k)) ∧ acc + x % 128 * 2 ^ (7 * k) < 2 ^ (7 * (k + 1)) := by
  have e1 : bits .and .u8 (x : Int) 127 = ((x % 128 : Nat) : Int) := by
    have := u8_and_nat x 127 hx (by omega)
    rw [nat_mask7] at this
    exact this
  have hp : 0 < 2 ^ (7 * k) := Nat.two_pow_pos _
  have hm : x % 128 * 2 ^ (7 * k) ≤ 127 * 2 ^ (7 * k) := Nat.mul_le_mul_right _ (by omega)
  have hlt : x % 128 * 2 ^ (7 * k) + 2 ^ (7 * k) ≤ 18446744073709551616 := by
    by_cases h : k = 9
    · have h1 := h9 h
      have h2 : 2 ^ (7 * k) = 9223372036854775808 := by rw [h]
      rw [h2]
      omega
    · have h2 : 2 ^ (7 * k) ≤ 2 ^ 56 := Nat.pow_le_pow_right (by omega) (by omega)
      have h3 : (2 : Nat) ^ 56 = 72057594037927936 := rfl
      rw [h3] at h2
      omega
  have e2 : (IntKind.u64.wrap ((x % 128 : Nat) : Int)) = ((x % 128 : Nat) : Int) := by rw [IntKind.wrap_u64]; omega
  have e3 : IntKind.u64.wrap (((x % 128 : Nat) : Int) * 2 ^ (7 * k)) = ((x % 128 * 2 ^ (7 * k) : Nat) : Int) := by
    rw [show (((x % 128 : Nat) : Int) * 2 ^ (7 * k)) = ((x % 128 * 2 ^ (7 * k) : Nat) : Int) from by simp, IntKind.wrap_u64]
    omega
  rw [e1, e2, e3, u64_or_nat _ _ (by omega) (by omega), Nat.or_comm, nat_join (7 * k) _ _ (Nat.mul_mod_left _ _) ha]
  refine ⟨by rw [Nat.add_comm], by unfold W64; omega, ?_⟩
  rw [show 7 * (k + 1) = 7 * k + 7 from by omega, Nat.pow_add]
  omega
set_option maxRecDepth 100000 in
set_option maxHeartbeats 800000 in
theorem pvarint_walk (w : World) (A : Option Addr) (c : Nat) (l : List UInt8) (hl : l.length ≤ 1000000) (hrd : Rd w (.slice A l.length c) 1 l.length (bvs l)) :
    Calls Try.prog 29 #[.slice A l.length c] w (RvPage w l (rv l)) := by
  go_enter Try.func29, Try.ntmps29
  go_wp2_with fail
  go_loop [5, 10] (fun n i => ∃ k acc : Nat, i = .int .i64 k ∧ n = .int .u64 acc ∧ k ≤ 9 ∧ k ≤ l.length ∧ acc < 2 ^ (7 * k) ∧ rvF (l.drop k) k acc = rv l) (fun _ i => 10 - (intOf i).toNat)
  case atStart => exact ⟨0, 0, rfl, rfl, by omega, by omega, by simp, by rw [rv_eq]; rfl⟩
  case round =>
    obtain ⟨k, acc, rfl, rfl, hk, hkl, hacc, hrv⟩ := hrel
    have HA := hide hacc
    have HV := hide hrv
    clear hacc hrv
    by_cases hlt : k < l.length
    · rcases hrd.cases with ⟨_, h0, _⟩ | ⟨b, o, sp, c', hA, hb, _, _, _, hsp, hcl⟩
      · omega
      injection hA with hA _ hc'
      subst hA hc'
      obtain rfl : sp = none := hsp (by omega)
      have hcx : w.cell? ⟨b, o + k, none⟩ = some (.int .u8 (l[k].toNat : Int)) := hcl k _ (by simp [bvs, bv, List.getElem?_eq_getElem hlt])
      have hxl : l[k].toNat < 256 := UInt8.toNat_lt _
      obtain ⟨x, hx⟩ : ∃ x, x = l[k].toNat := ⟨_, rfl⟩
      rw [← hx] at hcx hxl
      have HX := hide hx
      clear hx hcl hsp
      have hge : decide ((k : Int) < (l.length : Int)) = true := by simp; omega
      go_upto_region 5 with fail
      go_cut [28] (fun s wx => s = .bool (badB k x) ∧ wx = w)
      case first =>
        have e9 : ((k : Int) == 9) = decide (k = 9) := by rw [Bool.eq_iff_iff]; simp; omega
        have e1 : decide (1 < (x : Int)) = decide (1 < x) := by rw [Bool.eq_iff_iff]; simp; omega
        have e0 : decide (0 < (k : Int)) = decide (0 < k) := by rw [Bool.eq_iff_iff]; simp
        have ez : ((x : Int) == 0) = decide (x = 0) := by rw [Bool.eq_iff_iff]; simp
        have ez' : (x == 0) = decide (x = 0) := by rw [Bool.eq_iff_iff]; simp
        have ew : badB k x = ((decide (k = 9) && decide (1 < x)) || (decide (0 < k) && decide (x = 0))) := by unfold badB; rfl
        cases h9 : decide (k = 9) <;> cases h1 : decide (1 < x) <;> cases h0 : decide (0 < k) <;> cases hx0 : decide (x = 0)
        all_goals (rw [h9] at e9; rw [h1] at e1; rw [h0] at e0; rw [hx0] at ez ez'; rw [h9, h1, h0, hx0] at ew; have EW := hide ew; clear ew h9)
        all_goals go_wp2_with fail
        all_goals (go_meet; refine ⟨?_, rfl⟩; rw [EW.out]; rfl)
      case rest =>
        obtain ⟨rfl, rfl⟩ := hcut
        cases hbad : badB k x
        · obtain ⟨o1, o2, o3⟩ := or_step' k acc x hk hxl (bad_nine k x hk hbad) HA.out
          have O2 := hide o2
          have O3 := hide o3
          clear o2 o3
          by_cases h128 : x < 128
          · have HR := hide (rv_ok l k acc x hlt HX.out hbad h128 HV.out)
            have hv : (acc : Int) + (x : Int) % 128 * 2 ^ (7 * k) = ((acc + x * 2 ^ (7 * k) : Nat) : Int) := by
              have : (x : Int) % 128 = x := by omega
              rw [this]
              simp
            have O := O2.out
            rw [show x % 128 = x from by omega] at O
            have HV' := hide hv
            have HO := hide O
            clear hv O
            go_wp2_with fail
            go_ret3
            rw [HR.out]
            exact ⟨rfl, HO.out, k + 1, by omega, rfl, congrArg (fun z => Ending.returned (Value.tuple #[Value.int .u64 z, Value.int .i64 ((k + 1 : Nat) : Int), Value.int .i64 0])) HV'.out⟩
          · have HR := hide (rv_on l k acc x hlt HX.out hbad h128 HV.out)
            have h9 := bad_nine k x hk hbad
            have hv : (acc : Int) + (x : Int) % 128 * 2 ^ (7 * k) = ((acc + (x - 128) * 2 ^ (7 * k) : Nat) : Int) := by
              have : (x : Int) % 128 = ((x - 128 : Nat) : Int) := by omega
              rw [this]
              simp
            have O := O3.out
            rw [show x % 128 = x - 128 from by omega] at O
            have HV' := hide hv
            have HO := hide O
            have H9 := hide h9
            clear hv O h9
            go_wp2_with fail
            go_round
            case rel => exact ⟨k + 1, acc + (x - 128) * 2 ^ (7 * k), by go_num, congrArg (Value.int .u64) HV'.out, by have := H9.out; omega, by omega, HO.out, HR.out⟩
            case measure => simp [intOf]; omega
        · have HR := hide (rv_bad l k acc x hlt HX.out hbad HV.out)
          go_wp2_with fail
          go_ret3
          rw [HR.out]
          exact ⟨rfl, rfl⟩
    · have hge : decide ((k : Int) < (l.length : Int)) = false := by simp; omega
      have HR := hide (rv_end l k acc hlt HV.out)
      go_wp2_with fail
      go_ret3
      rw [HR.out]
      exact ⟨rfl, rfl⟩
end Go.Proofs.Ytcfonifaijeecaa
