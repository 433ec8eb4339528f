/-
  Layer 8: the law's awake.
-/
import Derived.Test.YtbogjebipnmckaaDoorDe
import Derived.Test.YtbogjebipnmckaaDoorDg
namespace Go.Proofs.YtbogjebipnmckaaDoor
open Go.RowKit
set_option linter.unusedSimpArgs false

def d2 (n : Nat) : List UInt8 := [UInt8.ofNat (48 + n / 10), UInt8.ofNat (48 + n % 10)]
def d4 (n : Nat) : List UInt8 := [UInt8.ofNat (48 + n / 1000), UInt8.ofNat (48 + n / 100 % 10), UInt8.ofNat (48 + n / 10 % 10), UInt8.ofNat (48 + n % 10)]
theorem dec1 {n : Nat} (h : n < 10) : Lib.decDigits n = [UInt8.ofNat (48 + n)] := by rw [Lib.decDigits, dif_pos h]
theorem decS {n : Nat} (h : ¬ n < 10) : Lib.decDigits n = Lib.decDigits (n / 10) ++ [UInt8.ofNat (48 + n % 10)] := by rw [Lib.decDigits, dif_neg h]
theorem padT_2 (n : Nat) (h : n < 100) : padT 2 n = d2 n := by
  unfold padT d2
  by_cases h1 : n < 10
  · rw [dec1 h1, Nat.div_eq_of_lt h1, Nat.mod_eq_of_lt h1]
    rfl
  · rw [decS h1, dec1 (show n / 10 < 10 by omega)]
    rfl
theorem padT_4 (n : Nat) (h : n < 10000) : padT 4 n = d4 n := by
  unfold padT d4
  by_cases h1 : n < 10
  · rw [dec1 h1, show n / 1000 = 0 by omega, show n / 100 = 0 by omega, show n / 10 = 0 by omega, Nat.mod_eq_of_lt h1]
    rfl
  · by_cases h2 : n / 10 < 10
    · rw [decS h1, dec1 h2, show n / 1000 = 0 by omega, show n / 100 = 0 by omega, Nat.mod_eq_of_lt h2]
      rfl
    · by_cases h3 : n / 10 / 10 < 10
      · rw [decS h1, decS h2, dec1 h3, show n / 1000 = 0 by omega, show n / 100 % 10 = n / 10 / 10 by omega]
        rfl
      · rw [decS h1, decS h2, decS h3, dec1 (show n / 10 / 10 / 10 < 10 by omega), show n / 1000 = n / 10 / 10 / 10 by omega, show n / 100 = n / 10 / 10 by omega]
        rfl
theorem prtT_eq (y m d h i s : Nat) (h1 : y < 10000) (h2 : m < 100) (h3 : d < 100) (h4 : h < 100) (h5 : i < 100) (h6 : s < 100) :
    prtT y m d h i s = d4 y ++ [45] ++ d2 m ++ [45] ++ d2 d ++ [84] ++ d2 h ++ [58] ++ d2 i ++ [58] ++ d2 s ++ [90] := by
  unfold prtT
  rw [padT_4 y h1, padT_2 m h2, padT_2 d h3, padT_2 h h4, padT_2 i h5, padT_2 s h6]
def wakeL : List UInt8 := [50, 48, 48, 48, 45, 48, 51, 45, 48, 49, 84, 48, 48, 58, 48, 48, 58, 48, 48, 90]
theorem wake_par : parV wakeL = .tuple #[.int .i64 951868800, .bool true] := by kernel_rfl
theorem wake_print : printT 951868800 = wakeL := by
  unfold printT
  rw [if_pos (by decide)]
  have e : (951868800 : Int).toNat = 951868800 := rfl
  rw [e]
  unfold prt
  have ey : dY 951868800 = 2000 := by
    unfold dY dD
    exact (yOf_eq (y := 2000) (by decide) (by unfold yrs; decide) (by unfold yrs; decide)).symm
  have el : dL 951868800 = 60 := by
    unfold dL
    rw [ey]
    unfold dD yrs
    rfl
  have em : dM 951868800 = 2 := by
    unfold dM
    rw [ey, el]
    kernel_rfl
  have et : dT 951868800 = 1 := by
    unfold dT
    rw [ey, el, em]
    kernel_rfl
  rw [ey, em, et, prtT_eq _ _ _ _ _ _ (by decide) (by decide) (by decide) (by decide) (by decide) (by decide)]
  rfl
set_option maxRecDepth 100000 in
set_option maxHeartbeats 800000 in
theorem awake_any (w : World) (ht : Tb w) : Calls Tryd.prog 9 #[] w fun e w' => e = .returned (.bool true) ∧ Below w.heap.size w w' := by
  have h1 := fun W => parse_any wakeL W
  rw [wake_par, strOf_eq, wakeL] at h1
  have h2 := fun W h => print_any 951868800 W h
  rw [wake_print, strOf_eq, wakeL] at h2
  have H1 := hide h1
  have H2 := hide h2
  have h3 := fun W => leap_any 2000 W
  have h4 := fun W => leap_any 1900 W
  rw [show lpY 2000 = true by unfold lpY; rfl] at h3
  rw [show lpY 1900 = false by unfold lpY; rfl] at h4
  have H3 := hide h3
  have H4 := hide h4
  clear h1 h2 h3 h4
  have HT := hide ht
  have HB := hide (Below.refl w.heap.size w)
  clear ht
  go_enter Tryd.func9, Tryd.ntmps9
  go_wp2_with (first
    | (go_at_call 10; (with_reducible refine (H1.out _).mono ?_); rintro e w' ⟨rfl, hb⟩; have HB := hide (HB.out.trans (hb.mono HB.out.size)); have HT := hide (HT.out.on hb); clear hb)
    | (go_at_call 14; (with_reducible refine (H2.out _ HT.out).mono ?_); rintro e w' ⟨rfl, hb⟩; have HB := hide (HB.out.trans (hb.mono HB.out.size)); have HT := hide (HT.out.on hb); clear hb)
    | (go_at_call 16; (with_reducible refine (H3.out _).mono ?_); rintro e w' ⟨rfl, rfl⟩)
    | (go_at_call 16; (with_reducible refine (H4.out _).mono ?_); rintro e w' ⟨rfl, rfl⟩))
  go_ret
  exact ⟨rfl, HB.out⟩
end Go.Proofs.YtbogjebipnmckaaDoor
