/-
  Layer 1: the walks of sha.Sum, awake, ShaNil.
-/
import Derived.Test.YtabdbddmmbccjaaHg
namespace Go.Proofs.Ytabdbddmmbccjaa
open Go.RowKit
set_option linter.unusedSimpArgs false

set_option maxRecDepth 100000 in
set_option maxHeartbeats 800000 in
theorem sumf_any (A : Option Addr) (m c : Nat) (l : List UInt8) (w : World) (hl : l.length = m) (hm : m ≤ 900000) (hr : Rd w (.slice A m c) 1 m (bvs l)) :
    Calls Try.prog 9 #[.slice A m c] w (Sum64 w (shaL l)) := by
  have HR := hide hr
  have HL := hide hl
  clear hr hl
  go_enter Try.func9, Try.ntmps9
  go_wp2_with (first
    | (have _q := q2; go_at_call 13; refine (sum_ro g A2 c2 l _ (by rw [HL.out]; exact hm) (hS2.sat 0 _ rfl) (hS2.rd 1 rfl)).mono ?_; rintro e w3 ⟨B, d, rfl, hb3, hr3⟩)
    | (have _q := hb1; go_at_call 12; refine (write_msg (H := []) g none 0 [] A c m l _ HL.out (by simp; omega) hS1 (HR.out.below hb1) (rd_far HR.out (hg1.resolve_right (fun x => x)))).mono ?_; rintro e w2 ⟨rfl, A2, c2, hS2⟩; have q2 : True := trivial)
    | (go_at_call 11; refine (new_any w (St.init w NoB)).mono ?_; rintro e w1 ⟨g, rfl, hS1, hb1⟩; have hg1 := hS1.own 0 _ g rfl rfl))
  go_ret
  exact ⟨B, d, rfl, bnx hS2.below hb3, hr3.base_le hS2.below.size⟩
theorem abc_sum : (shaL [97, 98, 99]).take 8 = [221, 175, 53, 161, 147, 97, 122, 186] := by decide +kernel
theorem rd_some {w : World} {B : Option Addr} {n d : Nat} {l : List UInt8} (h : Rd w (.slice B n d) 1 n (bvs l)) (hn : 0 < n) : ∃ b o, B = some ⟨b, o, none⟩ := by
  rcases h.cases with ⟨_, h0, _⟩ | ⟨b, o, sp, c', hv, _, _, _, _, h4, _⟩
  · omega
  · injection hv with hv1 _ _
    have := h4 (by omega)
    subst this hv1
    exact ⟨b, o, rfl⟩
set_option maxRecDepth 100000 in
set_option maxHeartbeats 800000 in
theorem awake_any (w : World) : Calls Try.prog 8 #[] w fun e w' => e = .returned (.bool true) ∧ Below w.heap.size w w' := by
  have HR1 := hide (show Rd (w.alloc (.cells #[.int .u8 97, .int .u8 98, .int .u8 99] 5 (3, 4))) (.slice (some ⟨w.heap.size, 0, none⟩) 3 3) 1 3 (bvs [97, 98, 99]) from rd_mark w [.int .u8 97, .int .u8 98, .int .u8 99] 5 (3, 4) 3 rfl (by decide))
  go_enter Try.func8, Try.ntmps8
  have hcv := Go.Joins.run_convert_bytes_const_at (P := Try.prog) w 22 5 #[.int .u8 97, .int .u8 98, .int .u8 99] 3 3 w.heap.size rfl Try.underlying22 Try.underlying5
  go_wp2_with (go_at_call 9; refine (sumf_any _ 3 3 [97, 98, 99] _ rfl (by decide) HR1.out).mono ?_; rintro e w1 ⟨B, d, rfl, hb1, ho1⟩; have hr1 := rd_own ho1; obtain ⟨b, o, rfl⟩ := rd_some hr1 (by decide); have hcap := rd_cap hr1; have hr2 := rd_take hr1 8 (by decide); rw [abc_sum] at hr2; have cv := run_str Try.underlying22 Try.underlying5 Try.underlying9 hr2)
  go_ret
  exact ⟨rfl, bnx ((Below.refl _ _).alloc (Nat.le_refl _) _) hb1⟩
set_option maxRecDepth 100000 in
set_option maxHeartbeats 800000 in
theorem write_nil (B : Value) (w : World) : Calls Try.prog 12 #[.pointer none, B] w fun e w' => e = .returned (.tuple #[]) ∧ w = w' := by
  go_enter Try.func12, Try.ntmps12
  go_wp2_with fail
  exact bodyPost_ret (results_none rfl _ _ _) rfl ⟨rfl, rfl⟩
set_option maxRecDepth 100000 in
set_option maxHeartbeats 800000 in
theorem sum_nil (w : World) : Calls Try.prog 13 #[.pointer none] w fun e w' => e = .returned (.slice none 0 0) ∧ w = w' := by
  go_enter Try.func13, Try.ntmps13
  go_wp2_with fail
  go_ret
  exact ⟨rfl, rfl⟩
set_option maxRecDepth 100000 in
set_option maxHeartbeats 800000 in
theorem shaNil_walk (A : Option Addr) (m c : Nat) (w : World) :
    Calls Try.prog 5 #[.slice A m c] w fun e w' => e = .returned (.bool true) ∧ Below w.heap.size w w' := by
  go_enter Try.func5, Try.ntmps5
  go_wp2_with (first
    | (have _q := hb1; go_at_call 8; refine (awake_any _).mono ?_; rintro e w2 ⟨rfl, hb2⟩)
    | (go_at_call 9; refine (sumf_any none 0 0 [] _ rfl (by decide) (rd_nil _ 1)).mono ?_; rintro e w1 ⟨B, d, rfl, hb1, hr1⟩)
    | (go_at_call 13; refine (sum_nil _).mono ?_; rintro e w0 ⟨rfl, rfl⟩)
    | (go_at_call 12; refine (write_nil _ _).mono ?_; rintro e w0 ⟨rfl, rfl⟩))
  go_ret
  exact ⟨rfl, bnx hb1 hb2⟩
end Go.Proofs.Ytabdbddmmbccjaa
