/-
  The walks of Bytes, of the page's Int and Raw, and of what every program must know.
-/
import Derived.Test.YtcfonifaijeecaaPw4
namespace Go.Proofs.Ytcfonifaijeecaa
open Go.RowKit

set_option maxRecDepth 100000 in
set_option maxHeartbeats 400000 in
theorem bytes_any {w : World} (g : Nat) (v : Value) (l : List UInt8) (hl : l.length ≤ 1000000) (hc : w.cell? ⟨g, 0, none⟩ = some v) (hr : Rd w v 1 l.length (bvs l)) :
    Calls Try.prog 15 #[.pointer (some ⟨g, 0, none⟩)] w (ResB 5 w l) := by
  have hS := St.init w NoB
  have HL := hide hl
  have HR := hide hr
  clear hl hr
  go_enter Try.func15, Try.ntmps15
  go_wp2_with (at_builtin; refine wl_append0 rfl rfl tyB hS rfl rfl HR.out (one_bvs _) (by have := HL.out; omega) (by decide) ?_; intro A c w1 hS1)
  go_ret
  exact resB_of hS1 0 rfl rfl
set_option maxRecDepth 100000 in
set_option maxHeartbeats 400000 in
theorem bytes_nil (w : World) : Calls Try.prog 15 #[.pointer none] w fun e w' => e = .returned (.slice none 0 0) ∧ w = w' := by
  go_enter Try.func15, Try.ntmps15
  go_wp2
  go_ret
  exact ⟨rfl, rfl⟩

set_option maxRecDepth 100000 in
set_option maxHeartbeats 400000 in
theorem rint_no (num : Int) (n : Nat) (w : World) (hm : mayB num = false) : Calls Try.prog 14 #[.int .i64 num, .int .u64 n] w fun e w' => e = .returned (.slice none 0 0) ∧ w = w' := by
  go_enter Try.func14, Try.ntmps14
  go_wp2_with (go_at_call 27; refine (rmay_any _ _).mono ?_; rintro e w' ⟨rfl, rfl⟩)
  go_ret
  exact ⟨rfl, rfl⟩
set_option maxRecDepth 100000 in
set_option maxHeartbeats 800000 in
theorem rint_yes (num : Int) (n : Nat) (w : World) (hn : W64 n) (hm : mayB num = true) : Calls Try.prog 14 #[.int .i64 num, .int .u64 n] w (ResB 5 w (vb (8 * num.toNat) ++ vb n)) := by
  obtain ⟨m1, m2⟩ := mayB_of num hm
  obtain ⟨t, ht⟩ : ∃ t, t = vb (8 * num.toNat) := ⟨_, rfl⟩
  obtain ⟨u, hu⟩ : ∃ u, u = vb n := ⟨_, rfl⟩
  have htl : t.length ≤ 10 := by rw [ht]; exact (vb_len _).1
  have hul : u.length ≤ 10 := by rw [hu]; exact (vb_len _).1
  obtain ⟨k, rfl⟩ := Int.eq_ofNat_of_zero_le (show 0 ≤ num from by omega)
  have T : ∀ W, Calls Try.prog 17 #[.int .u64 (8 * (k : Int))] W (ResB 5 W t) := fun W => by rw [ht]; exact rvarint_any (8 * k) W (by unfold W64; omega)
  have U : ∀ W, Calls Try.prog 17 #[.int .u64 n] W (ResB 5 W u) := fun W => by rw [hu]; exact rvarint_any n W hn
  rw [← ht, ← hu]
  have TT := hide T
  have UU := hide U
  have HL := hide (show t.length + u.length ≤ 20 by omega)
  clear T U ht hu hn htl hul
  go_enter Try.func14, Try.ntmps14
  go_wp2_with (go_at_call 27; refine (rmay_any _ _).mono ?_; rintro e w' ⟨rfl, rfl⟩)
  refine (TT.out _).mono ?_
  rintro e w1 ⟨A1, c1, rfl, hb1, ho1⟩
  have hS1 := (St.init w NoB).row hb1 ho1
  go_wp2_with fail
  refine (UU.out _).mono ?_
  rintro e w2 ⟨A2, c2, rfl, hb2, ho2⟩
  have hS2 := hS1.row hb2 ho2
  go_wp2_with (at_builtin; refine wl_append rfl rfl tyB hS2 1 rfl rfl rfl (hS2.rd 0 rfl) (one_bvs _) ?_ (by decide) ?_; (have := HL.out; omega); intro A3 c3 w3 hS3)
  go_ret
  exact resB_of hS3 1 rfl (bvs_append _ _).symm

set_option maxRecDepth 100000 in
set_option maxHeartbeats 400000 in
theorem rraw_no (num : Int) (A : Option Addr) (n c : Nat) (w : World) (hm : mayB num = false) : Calls Try.prog 12 #[.int .i64 num, .slice A n c] w fun e w' => e = .returned (.slice none 0 0) ∧ w = w' := by
  go_enter Try.func12, Try.ntmps12
  go_wp2_with (go_at_call 27; refine (rmay_any _ _).mono ?_; rintro e w' ⟨rfl, rfl⟩)
  go_ret
  exact ⟨rfl, rfl⟩
set_option maxRecDepth 100000 in
set_option maxHeartbeats 400000 in
theorem rraw_long (num : Int) (A : Option Addr) (n c : Nat) (w : World) (hm : mayB num = true) (hn : 65536 < n) : Calls Try.prog 12 #[.int .i64 num, .slice A n c] w fun e w' => e = .returned (.slice none 0 0) ∧ w = w' := by
  have hn' : (65536 : Int) < (n : Int) := by omega
  clear hn
  go_enter Try.func12, Try.ntmps12
  go_wp2_with (go_at_call 27; refine (rmay_any _ _).mono ?_; rintro e w' ⟨rfl, rfl⟩)
  go_ret
  exact ⟨rfl, rfl⟩
set_option maxRecDepth 100000 in
set_option maxHeartbeats 800000 in
theorem rraw_yes (num : Int) (A : Option Addr) (c : Nat) (b : List UInt8) (w : World) (hm : mayB num = true) (hb : b.length ≤ 65536) (hr : Rd w (.slice A b.length c) 1 b.length (bvs b)) :
    Calls Try.prog 12 #[.int .i64 num, .slice A b.length c] w (ResB 5 w (vb (8 * num.toNat + 2) ++ (vb b.length ++ b))) := by
  obtain ⟨m1, m2⟩ := mayB_of num hm
  obtain ⟨t, ht⟩ : ∃ t, t = vb (8 * num.toNat + 2) := ⟨_, rfl⟩
  obtain ⟨u, hu⟩ : ∃ u, u = vb b.length := ⟨_, rfl⟩
  have htl : t.length ≤ 10 := by rw [ht]; exact (vb_len _).1
  have hul : u.length ≤ 10 := by rw [hu]; exact (vb_len _).1
  obtain ⟨k, rfl⟩ := Int.eq_ofNat_of_zero_le (show 0 ≤ num from by omega)
  have T : ∀ W, Calls Try.prog 17 #[.int .u64 (8 * (k : Int) + 2)] W (ResB 5 W t) := fun W => by rw [ht]; exact rvarint_any (8 * k + 2) W (by unfold W64; omega)
  have U : ∀ W, Calls Try.prog 17 #[.int .u64 (b.length : Nat)] W (ResB 5 W u) := fun W => by rw [hu]; exact rvarint_any b.length W (by unfold W64; omega)
  rw [← ht, ← hu]
  have TT := hide T
  have UU := hide U
  have RR := hide hr
  have HL := hide (show t.length + u.length + b.length ≤ 100000 by omega)
  have hb' : ¬ (65536 : Int) < (b.length : Int) := by omega
  clear T U ht hu htl hul hr hb
  go_enter Try.func12, Try.ntmps12
  go_wp2_with (go_at_call 27; refine (rmay_any _ _).mono ?_; rintro e w' ⟨rfl, rfl⟩)
  refine (TT.out _).mono ?_
  rintro e w1 ⟨A1, c1, rfl, hb1, ho1⟩
  have hS1 := (St.init w NoB).row hb1 ho1
  go_wp2_with fail
  refine (UU.out _).mono ?_
  rintro e w2 ⟨A2, c2, rfl, hb2, ho2⟩
  have hS2 := hS1.row hb2 ho2
  go_wp2_with (first
    | (at_builtin; refine wl_append (s := .tmp 17) (x := .tmp 21) rfl rfl tyB hS2 1 rfl rfl rfl (hS2.rd 0 rfl) (one_bvs _) ?_ (by decide) ?_; (have := HL.out; omega); intro A3 c3 w3 hS3)
    | (at_builtin; refine wl_append (s := .tmp 22) (x := .tmp 23) rfl rfl tyB hS3 1 rfl rfl rfl (RR.out.st hS3) (one_bvs _) ?_ (by decide) ?_; (have := HL.out; omega); intro A4 c4 w4 hS4))
  go_ret
  exact resB_of hS4 1 rfl (by simp [bvs_append])

/-- What every program must know is so. -/
theorem putI_known : vb (8 * (1 : Int).toNat) ++ vb 300 = [8, 172, 2] := by
  simp only [vb_eq]
  decide +kernel
theorem slit : (ByteArray.mk #[8, 172, 2]).toList = [8, 172, 2] := by
  rw [ByteArray.toList_eq]
set_option maxRecDepth 100000 in
set_option maxHeartbeats 800000 in
theorem awake_any (w : World) : Calls Try.prog 10 #[] w fun e w' => e = .returned (.bool true) ∧ Below w.heap.size w w' := by
  have hS0 : St w NoB (w.alloc (.cells #[.slice none 0 0] 29)) (MsgC w.heap.size (.slice none 0 0) [] []) := by
    have h := ((St.init w NoB).alloc #[.slice none 0 0] 29).row (Below.refl _ _) (World.ownsRow_nil _ _ 5 1)
    exact h.pick [1, 0] _ (by decide) ⟨rfl, fun i c hc => by
      match i, hc with
      | 0, hc => exact ⟨1, rfl, hc⟩
      | 1, hc => exact ⟨0, rfl, hc⟩⟩
  have G := hide (int_yes w.heap.size (.slice none 0 0) [] 1 300 (by unfold W64; omega) (by decide) (by simp) hS0)
  have e1 := slit
  clear hS0
  go_enter Try.func10, Try.ntmps10
  go_wp2_with (go_at_call 13; refine G.out.mono ?_; rintro e w1 ⟨rfl, v1, hS1⟩)
  rw [List.nil_append, putI_known] at hS1
  refine (bytes_any _ v1 _ (by simp) (hS1.cell 0 rfl 0) (hS1.rd 1 rfl)).mono ?_
  rintro e w2 ⟨A, c, rfl, hb2, ho2⟩
  have hS2 := hS1.row hb2 ho2
  have cv : (convert 27 9 (.slice A 3 c)).run Try.prog w2 = .ok (.string (strOf [8, 172, 2])) w2 := run_str Try.underlying27 Try.underlying5 Try.underlying9 (hS2.rd 0 rfl)
  have e2 : (zag 2 == 1) = true := by decide
  go_wp2_with (first
    | (go_at_call 18; refine (zig_any (-1) _ (by unfold I64; omega)).mono ?_; rintro e w' ⟨rfl, rfl⟩)
    | (go_at_call 20; refine (zag_any 2 _ (by unfold W64; omega)).mono ?_; rintro e w' ⟨rfl, rfl⟩))
  go_ret
  exact ⟨rfl, hS2.below⟩
end Go.Proofs.Ytcfonifaijeecaa
