/-
  The walk of layer 2's awake.
-/
import Derived.Test.YtdihedhhkcakoaaKh
namespace Go.Proofs.Ytdihedhhkcakoaa
open Go.RowKit

theorem red_small (n : Nat) (h : n < 4294967296) : Red [n, 0, 0, 0, 0] := ⟨rfl, fun k x hx => by
  match k, hx with
  | 0, hx => injection hx with hx; unfold T51; split <;> omega
  | 1, hx => injection hx with hx; unfold T51; split <;> omega
  | 2, hx => injection hx with hx; unfold T51; split <;> omega
  | 3, hx => injection hx with hx; unfold T51; split <;> omega
  | 4, hx => injection hx with hx; unfold T51; split <;> omega⟩
@[irreducible] def awL : List UInt8 := leB 32 ((2 + (Pq - 3)) % Pq)
theorem awL_get : awL[0]? = some 236 ∧ awL[1]? = some 255 ∧ awL[31]? = some 127 := by unfold awL Pq; decide +kernel
theorem aw_cells {W : World} {A : Option Addr} {k : Nat} (h : Rd W (.slice A 32 k) 1 32 (bvs awL)) :
    ∃ b o, A = some ⟨b, o, none⟩ ∧ W.cell? ⟨b, o, none⟩ = some (.int .u8 236) ∧ W.cell? ⟨b, o + 1, none⟩ = some (.int .u8 255) ∧ W.cell? ⟨b, o + 31, none⟩ = some (.int .u8 127) := by
  rcases h.cases with ⟨_, h0, _⟩ | ⟨b, o, sp, c', hv, _, _, _, _, h4, _⟩
  · cases h0
  · injection hv with hv1 _ _
    have := h4 (by decide)
    subst this hv1
    exact ⟨b, o, rfl, rd_at h (bvs_get awL_get.1), rd_at h (bvs_get awL_get.2.1), rd_at h (bvs_get awL_get.2.2)⟩
set_option maxRecDepth 100000 in
set_option maxHeartbeats 800000 in
theorem awake_any (w : World) : Calls Try.prog 9 #[] w fun e w' => e = .returned (.bool true) ∧ Below w.heap.size w w' := by
  have H2 := hide (fun W => small_walk 2 W (by omega))
  have H3 := hide (fun W => small_walk 3 W (by omega))
  have HS := hide (fun W => sub_walk 2 0 0 0 0 3 0 0 0 0 W (red_small 2 (by omega)) (red_small 3 (by omega)))
  rw [ev_small 2 (by omega), ev_small 3 (by omega)] at HS
  go_enter Try.func9, Try.ntmps9
  go_wp2_with (first
    | (have _q := hb3; go_at_call 11; refine (bytes32 p q s t u _ (red_low hred)).mono ?_; rintro r w4 ⟨A, k, rfl, hb4, hr4⟩; rw [hev, show leB 32 ((2 + (Pq - 3)) % Pq) = awL from by unfold awL; rfl] at hr4; obtain ⟨b, o, rfl, c0, c1, c31⟩ := aw_cells hr4)
    | (have _q := hb2; go_at_call 19; refine (HS.out _).mono ?_; rintro r w3 ⟨p, q, s, t, u, hev, hred, rfl, hb3⟩)
    | (have _q := hb1; go_at_call 14; refine (H3.out _).mono ?_; rintro r w2 ⟨rfl, hb2⟩)
    | (go_at_call 14; refine (H2.out _).mono ?_; rintro r w1 ⟨rfl, hb1⟩))
  go_ret
  exact ⟨rfl, (((hb1.trans (hb2.mono hb1.size)).trans (hb3.mono (Nat.le_trans hb1.size hb2.size))).trans (hb4.mono (Nat.le_trans (Nat.le_trans hb1.size hb2.size) hb3.size)))⟩
end Go.Proofs.Ytdihedhhkcakoaa
