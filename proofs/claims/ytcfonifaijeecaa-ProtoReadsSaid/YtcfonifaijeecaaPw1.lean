/-
  The walks of the numbers' bytes: Varint, of the program and of the page: the bytes are 'vb n'.
-/
import Derived.Test.YtcfonifaijeecaaRows
import Derived.Test.YtcfonifaijeecaaVb
import Derived.Test.YtcfonifaijeecaaNum
import Derived.WalkLawsBesides
namespace Go.Proofs.Ytcfonifaijeecaa
open Go.RowKit

theorem tyB : RowTy Try.prog 27 5 1 1 := rowTy_of (z := .int .u8 0) Try.underlying27 (by kernel_rfl) rfl (by decide)


theorem bvs_snoc (l : List UInt8) (m : Nat) (h : m < 256) : bvs (l ++ [UInt8.ofNat m]) = bvs l ++ [.int .u8 (m : Int)] := by
  simp only [bvs, List.map_append, List.map_cons, List.map_nil, bv, UInt8.toNat_ofNat']
  rw [Nat.mod_eq_of_lt (by omega)]
theorem byte_or (m : Nat) : bits .or .u8 ((m : Int) % 256) 128 = ((m % 128 + 128 : Nat) : Int) := by
  have e : ∀ a, a < 256 → a ||| 128 = a % 128 + 128 := by decide +kernel
  rw [u8_or _ _ (by omega) (by omega) (by omega) (by omega), show ((m : Int) % 256).toNat = m % 256 from by omega, show (128 : Int).toNat = 128 from rfl, e _ (by omega)]
  omega
theorem vb_step (l : List UInt8) (n m f : Nat) (h : 128 ≤ m) (hv : l ++ vbF (f + 1) m = vb n) : (l ++ [UInt8.ofNat (m % 128 + 128)]) ++ vbF f (m / 128) = vb n := by
  rw [← hv]
  simp only [vbF]
  rw [if_neg (by omega)]
  simp
theorem vb_last (l : List UInt8) (n m f : Nat) (h : m < 128) (hv : l ++ vbF f m = vb n) : bvs l ++ [.int .u8 (m : Int)] = bvs (vb n) := by
  rw [← hv]
  have : vbF f m = [UInt8.ofNat m] := by cases f <;> simp [vbF, h]
  rw [this, bvs_snoc l m (by omega)]
theorem vb_less (m f : Nat) (h : m < 2 ^ (7 * (f + 1) + 1)) : m / 128 < 2 ^ (7 * f + 1) := by
  rw [show 7 * (f + 1) + 1 = (7 * f + 1) + 7 from by omega, Nat.pow_add] at h
  omega

set_option maxRecDepth 100000 in
set_option maxHeartbeats 400000 in
theorem varint_any (n : Nat) (w : World) (hn : W64 n) : Calls Try.prog 16 #[.int .u64 n] w (ResB 5 w (vb n)) := by
  go_enter Try.func16, Try.ntmps16
  go_wp2_with fail
  go_loopw [0, 3] (fun x v wr => ∃ (m f : Nat) (l : List UInt8), x = .int .u64 (m : Int) ∧ l ++ vbF f m = vb n ∧ l.length + f = 9 ∧ m < 2 ^ (7 * f + 1) ∧ St w NoB wr [.row v 5 1 l.length (bvs l)]) (fun x _ _ => (intOf x).toNat)
  case atStart => exact ⟨n, 9, [], rfl, (vb_eq n).symm, rfl, hn, (St.init w NoB).row (Below.refl _ _) (World.ownsRow_nil _ _ _ _)⟩
  case round =>
    obtain ⟨m, f, l, rfl, hl, hf, hm, hS⟩ := hrel
    have HL := hide hl
    clear hl
    have HM := hide hm
    clear hm hn
    by_cases h : m < 128
    · go_wp2_with (at_builtin; refine wl_append1 rfl rfl tyB hS 0 rfl rfl (us := [_]) rfl rfl ?_ ?_ (by decide) ?_)
      case refine_1 => simp [Value.oneCell']
      case refine_2 => simp; omega
      clear hS
      intro A1 c1 w1 hS
      go_wp2_with fail
      go_ret
      exact resB_of hS 0 rfl (vb_last l n m f h HL.out)
    · go_wp2_with (at_builtin; refine wl_append1 rfl rfl tyB hS 0 rfl rfl (us := [_]) rfl rfl ?_ ?_ (by decide) ?_)
      case refine_1 => simp [Value.oneCell']
      case refine_2 => simp; omega
      clear hS
      intro A1 c1 w1 hS
      go_wp2_with fail
      go_roundw
      case rel =>
        cases f with
        | zero =>
          have := HM.out
          omega
        | succ f =>
          refine ⟨m / 128, f, l ++ [UInt8.ofNat (m % 128 + 128)], by go_num, vb_step l n m f (by omega) HL.out, by simp; omega, vb_less m f HM.out, ?_⟩
          rw [byte_or, ← bvs_snoc l (m % 128 + 128) (by omega)] at hS
          simpa using hS
      case measure => simp [intOf]; omega

set_option maxRecDepth 100000 in
set_option maxHeartbeats 400000 in
theorem rvarint_any (n : Nat) (w : World) (hn : W64 n) : Calls Try.prog 17 #[.int .u64 n] w (ResB 5 w (vb n)) := by
  go_enter Try.func17, Try.ntmps17
  go_wp2_with fail
  go_loopw [0, 3] (fun x v wr => ∃ (m f : Nat) (l : List UInt8), x = .int .u64 (m : Int) ∧ l ++ vbF f m = vb n ∧ l.length + f = 9 ∧ m < 2 ^ (7 * f + 1) ∧ St w NoB wr [.row v 5 1 l.length (bvs l)]) (fun x _ _ => (intOf x).toNat)
  case atStart => exact ⟨n, 9, [], rfl, (vb_eq n).symm, rfl, hn, (St.init w NoB).row (Below.refl _ _) (World.ownsRow_nil _ _ _ _)⟩
  case round =>
    obtain ⟨m, f, l, rfl, hl, hf, hm, hS⟩ := hrel
    have HL := hide hl
    clear hl
    have HM := hide hm
    clear hm hn
    by_cases h : m < 128
    · go_wp2_with (at_builtin; refine wl_append1 rfl rfl tyB hS 0 rfl rfl (us := [_]) rfl rfl ?_ ?_ (by decide) ?_)
      case refine_1 => simp [Value.oneCell']
      case refine_2 => simp; omega
      clear hS
      intro A1 c1 w1 hS
      go_wp2_with fail
      go_ret
      exact resB_of hS 0 rfl (vb_last l n m f h HL.out)
    · go_wp2_with (at_builtin; refine wl_append1 rfl rfl tyB hS 0 rfl rfl (us := [_]) rfl rfl ?_ ?_ (by decide) ?_)
      case refine_1 => simp [Value.oneCell']
      case refine_2 => simp; omega
      clear hS
      intro A1 c1 w1 hS
      go_wp2_with fail
      go_roundw
      case rel =>
        cases f with
        | zero =>
          have := HM.out
          omega
        | succ f =>
          refine ⟨m / 128, f, l ++ [UInt8.ofNat (m % 128 + 128)], by go_num, vb_step l n m f (by omega) HL.out, by simp; omega, vb_less m f HM.out, ?_⟩
          rw [byte_or, ← bvs_snoc l (m % 128 + 128) (by omega)] at hS
          simpa using hS
      case measure => simp [intOf]; omega
end Go.Proofs.Ytcfonifaijeecaa
