/-
  Layer 7: the heap: Init, Pop; Clone.
-/
import Derived.Test.YtjamoifenkdneaaTp
namespace Go.Proofs.Ytjamoifenkdneaa
open Go.RowKit
set_option linter.unusedSimpArgs false

theorem dn_length : ∀ (f : Nat) (l : List Tm) (i n : Nat), (dn f l i n).length = l.length
  | 0, _, _, _ => rfl
  | f + 1, l, i, n => by
    rw [dn]
    by_cases h : n ≤ 2 * i + 1
    · rw [if_pos h]
    · rw [if_neg h]
      generalize (if 2 * i + 2 < n ∧ ltA l (2 * i + 2) (2 * i + 1) = true then 2 * i + 2 else 2 * i + 1) = j
      split
      · rw [dn_length f, swp_length]
      · rfl
theorem dn_mem : ∀ (f : Nat) (l : List Tm) (i n : Nat) {x : Tm}, x ∈ dn f l i n → x ∈ l
  | 0, _, _, _, _, h => h
  | f + 1, l, i, n, x, h => by
    rw [dn] at h
    by_cases h0 : n ≤ 2 * i + 1
    · rw [if_pos h0] at h
      exact h
    · rw [if_neg h0] at h
      revert h
      generalize (if 2 * i + 2 < n ∧ ltA l (2 * i + 2) (2 * i + 1) = true then 2 * i + 2 else 2 * i + 1) = j
      intro h
      split at h
      · exact swp_mem (dn_mem f _ _ _ h)
      · exact h
/-- What Init makes: from place k - 1 down to the first. -/
def hpI : Nat → List Tm → Nat → List Tm
  | 0, l, _ => l
  | k + 1, l, n => hpI k (dn n l k n) n
theorem hpI_length : ∀ (k : Nat) (l : List Tm) (n : Nat), (hpI k l n).length = l.length
  | 0, _, _ => rfl
  | k + 1, l, n => by rw [hpI, hpI_length k, dn_length]
theorem hpI_mem : ∀ (k : Nat) (l : List Tm) (n : Nat) {x : Tm}, x ∈ hpI k l n → x ∈ l
  | 0, _, _, _, h => h
  | k + 1, l, n, x, h => by
    rw [hpI] at h
    exact dn_mem _ _ _ _ (hpI_mem k _ _ h)
set_option maxRecDepth 100000 in
set_option maxHeartbeats 1600000 in
theorem init_any {w0 w : World} {H : List Chunk} (g b n c : Nat) (l : List Tm) (rest : List Value) (hok : ∀ x ∈ l, TmOK w0 x) (hn : n ≤ l.length) (hc : n ≤ c) (hm : c ≤ maxLen) (hN : n ≤ 1000000) (hS : St w0 NoB w (PC g b n c l rest H)) :
    Calls Try.prog 38 #[hpV g] w fun e w' => e = .returned (.tuple #[]) ∧ St w0 NoB w' (PC g b n c (hpI (n / 2) l n) rest H) := by
  have HS0 := hide hS
  have HOK := hide hok
  obtain ⟨m0, _, _, _⟩ := m_run hS
  have HL := hide (fun W => pLen_any (some ⟨b, 0, none⟩) n c W)
  clear hS hok
  unfold hpV
  obtain ⟨h, hh⟩ : ∃ h : Nat, h = n / 2 := ⟨_, rfl⟩
  have e2 : (n : Int) / 2 = (h : Int) := by omega
  have hb : h ≤ 1000000 := by omega
  have hhn : h ≤ n := by omega
  rw [← hh]
  clear hh
  go_enter Try.func38, Try.ntmps38
  go_wp2_with (go_at_call 39; (with_reducible refine (HL.out _).mono ?_); rintro e w1 ⟨rfl, rfl⟩)
  go_loopw [3] (fun s wr => ∃ (k : Nat) (l' : List Tm), k ≤ h ∧ s = .int .i64 ((k : Int) - 1) ∧ Hid (hpI k l' n = hpI h l n ∧ l'.length = l.length ∧ (∀ x ∈ l', TmOK w0 x) ∧ St w0 NoB wr (PC g b n c l' rest H))) (fun s _ => (intOf s + 1).toNat)
  case atStart => exact ⟨h, l, Nat.le_refl _, rfl, hide ⟨rfl, rfl, HOK.out, HS0.out⟩⟩
  case round =>
    obtain ⟨k, l', hk, rfl, HX⟩ := hrel
    cases k with
    | zero =>
      have d : decide ((0 : Int) ≤ ((0 : Nat) : Int) - 1) = false := rfl
      have HE : Hid (l' = hpI h l n) := hide HX.out.1
      go_wp2_with fail
      go_end0
      refine ⟨rfl, ?_⟩
      rw [← HE.out]
      exact HX.out.2.2.2
    | succ k =>
      have e1 : ((k + 1 : Nat) : Int) - 1 = (k : Int) := by omega
      rw [e1]
      have d : decide ((0 : Int) ≤ (k : Int)) = true := by simp
      have HD := hide (down_any g b n c l' rest k n HX.out.2.2.1 (Nat.le_refl n) (by have := HX.out.2.1; omega) hc hm hN (by omega) HX.out.2.2.2)
      have HK := hide hk
      have kb : k ≤ 1000000 := by omega
      clear e1 hk
      unfold hpV at HD
      go_wp2_with (go_at_call 50; (with_reducible refine HD.out.mono ?_); rintro e w1 ⟨⟨bb, rfl⟩, hS1⟩; have HS1 := hide hS1; clear hS1)
      go_roundw
      case rel => exact ⟨k, dn n l' k n, by have := HK.out; omega, rfl, hide ⟨HX.out.1, by rw [dn_length]; exact HX.out.2.1, fun x hx => HX.out.2.2.1 x (dn_mem _ _ _ _ hx), HS1.out⟩⟩
      case measure => (simp [intOf]) <;> omega
set_option maxRecDepth 100000 in
set_option maxHeartbeats 1600000 in
theorem pPop_any {w0 w : World} {H : List Chunk} (g b n c : Nat) (l : List Tm) (rest : List Value) (x : Tm) (hx : l[n]? = some x) (hN : n ≤ 1000000) (hS : St w0 NoB w (PC g b (n + 1) c l rest H)) (hc : n + 1 ≤ c) (hm : c ≤ maxLen) :
    Calls Try.prog 72 #[.pointer (some ⟨g, 0, none⟩)] w fun e w' => e = .returned (.iface 24 x.val) ∧ St w0 NoB w' (PC g b n c l rest H) := by
  have hln : n + 1 ≤ l.length := (List.getElem?_eq_some_iff.1 hx).1
  have hr := rd_pile hS hln hc hm
  obtain ⟨b', o', e', hb8, hcc⟩ := tm_at hr (k := n) (by rw [List.getElem?_take_of_lt (Nat.lt_succ_self n)]; exact hx)
  injection e' with e'
  injection e' with e1' e2'
  subst e1' e2'
  obtain ⟨c0, c1, c2, c3⟩ := hcc _ (Below.refl _ _)
  have g0 : w.cell? ⟨g, 0, none⟩ = some (.slice (some ⟨b, 0, none⟩) (n + 1) c) := hS.cell 0 rfl 0
  have gl := World.block_lt_of_cell? _ _ g0
  have gl : g < w.heap.size := gl
  have HS0 := hide hS
  have HS := hide (hS.skip (.cells #[.int .i64 x.k, .int .i64 x.n, .string (strOf x.s), .slice x.A x.l.length x.c] 24))
  have fr := HS.out.free 0 rfl 0
  have ga : (w.alloc (.cells #[.int .i64 x.k, .int .i64 x.n, .string (strOf x.s), .slice x.A x.l.length x.c] 24)).cell? ⟨g, 0, none⟩ = some (.slice (some ⟨b, 0, none⟩) (n + 1) c) := HS.out.cell 0 rfl 0
  rw [Nat.zero_add] at c0 c1 c2 c3
  have ek : ((n + 1 : Nat) : Int) - 1 = (n : Int) := by omega
  unfold maxLen at hm
  have hcb : (c : Int) ≤ 9223372036854775807 := by omega
  have hnc : (n : Int) ≤ (c : Int) := by omega
  clear hS hr hcc hx hln
  unfold Tm.val
  unfold Tm.row at *
  go_enter Try.func72, Try.ntmps72
  go_wp2_with fail
  go_ret
  exact ⟨rfl, (HS0.out.setCell 0 rfl 0 (.slice (some ⟨b, 0, none⟩) n c)).skip _⟩
end Go.Proofs.Ytjamoifenkdneaa
