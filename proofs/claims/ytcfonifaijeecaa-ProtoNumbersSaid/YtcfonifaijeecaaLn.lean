/-
  The walk of 'ProtoNumbers'.
-/
import Derived.Test.YtcfonifaijeecaaLc
namespace Go.Proofs.Ytcfonifaijeecaa
open Go.RowKit

theorem vb_last_lt (n : Nat) (hn : W64 n) (c : UInt8) (h : (vb n).getLast? = some c) : c.toNat < 128 := by
  rw [vb_eq] at h
  exact vbF_last 9 n hn c h
def cnt (f m : Nat) : Nat := if m = 0 then 0 else (vbF f m).length
theorem cnt_zero (f : Nat) : cnt f 0 = 0 := rfl
theorem cnt_step (f m : Nat) (hm : m < 2 ^ (7 * f + 1)) : ∃ f', m / 128 < 2 ^ (7 * f' + 1) ∧ (vbF f m).length = 1 + cnt f' (m / 128) := by
  cases f with
  | zero =>
    have : m < 2 := hm
    have h0 : m / 128 = 0 := by omega
    exact ⟨0, by rw [h0]; omega, by rw [h0, cnt_zero]; simp [vbF]⟩
  | succ f =>
    have hm' : m / 128 < 2 ^ (7 * f + 1) := by
      rw [show 7 * (f + 1) + 1 = (7 * f + 1) + 7 from by omega, Nat.pow_add] at hm
      omega
    refine ⟨f, hm', ?_⟩
    simp only [vbF]
    by_cases h : m < 128
    · have h0 : m / 128 = 0 := by omega
      rw [if_pos h, h0, cnt_zero]; simp
    · rw [if_neg h]
      unfold cnt
      rw [if_neg (by omega), List.length_cons]
      omega
/-- The loop that counts the sevens of bits. -/
def CntR (n L : Nat) (k x : Value) : Prop := ∃ j m f : Nat, k = .int .i64 (j : Int) ∧ x = .int .u64 (m : Int) ∧ m < 2 ^ (7 * f + 1) ∧ j + cnt f m = L ∧ j ≤ 20 ∧ n = n

set_option maxRecDepth 100000 in
set_option maxHeartbeats 800000 in
theorem numbers_walk (n : Nat) (m : Int) (w : World) (hn : W64 n) (hm : I64 m) :
    Calls Try.prog 5 #[.int .u64 n, .int .i64 m] w fun e w' => e = .returned (.bool true) ∧ Below w.heap.size w w' := by
  have hl := vb_len n
  obtain ⟨k, hk⟩ : ∃ k, (vb n).length = k + 1 := ⟨(vb n).length - 1, by omega⟩
  have hk9 : k ≤ 9 := by omega
  obtain ⟨x, hx, hx1⟩ : ∃ x : Nat, (bvs (vb n))[k]? = some (.int .u8 (x : Int)) ∧ x < 128 := by
    have hlt : k < (vb n).length := by omega
    refine ⟨(vb n)[k].toNat, by simp [bvs, bv, List.getElem?_eq_getElem hlt], ?_⟩
    have : (vb n).getLast? = some (vb n)[k] := by rw [List.getLast?_eq_getElem?, hk, Nat.add_sub_cancel, List.getElem?_eq_getElem hlt]
    exact vb_last_lt n hn _ this
  have VT : ∀ W, Calls Try.prog 16 #[.int .u64 n] W fun e w' => ∃ g c, e = .returned (.slice (some ⟨g, 0, none⟩) (k + 1) c) ∧ k + 1 ≤ c ∧ w'.cell? ⟨g, k, none⟩ = some (.int .u8 (x : Int)) ∧
      Below W.heap.size W w' ∧ w'.ownsRow W.heap.size 5 1 (.slice (some ⟨g, 0, none⟩) (k + 1) c) (k + 1) (bvs (vb n)) := by
    intro W
    refine (varint_any n W hn).mono ?_
    rintro e w' ⟨A, c, rfl, hb, ho⟩
    rw [hk] at ho ⊢
    obtain ⟨g, c', e, h1, h2, h3, h4, _⟩ := ((St.init W NoB).row hb ho).rowOpen 0 rfl (by omega)
    injection e with e1 _ e3
    subst e1 e3
    exact ⟨g, c, rfl, h1, h3 k _ hx, hb, ho⟩
  have FT : ∀ (A : Option Addr) (c : Nat) (W : World), Rd W (.slice A (1 + (k + 1)) c) 1 (1 + (k + 1)) (bvs (8 :: vb n)) → Calls Try.prog 22 #[.slice A (1 + (k + 1)) c] W fun e w' => ∃ b o d,
      e = .returned (.tuple #[.slice (some ⟨b, o, none⟩) 1 d, .int .i64 0]) ∧ w'.cell? ⟨b, o, none⟩ = some (.int .i64 1) ∧ w'.cell? ⟨b, o + 1, none⟩ = some (.bool false) ∧ w'.cell? ⟨b, o + 2, none⟩ = some (.int .u64 n) ∧ Below W.heap.size W w' := by
    intro A c W hr
    have h := fields_any W A (1 + (k + 1)) c (8 :: vb n) (by rw [List.length_cons, hk]; omega) (by rw [List.length_cons, hk]; omega) hr
    rw [fds_number n hn] at h
    refine h.mono ?_
    rintro e w' ⟨xs, B, d, rfl, hF, hmap, hb⟩
    simp only [FsR.lst, List.map_eq_singleton_iff] at hmap
    obtain ⟨y, rfl, hy⟩ := hmap
    rcases hF.rd.cases with ⟨_, h0, _⟩ | ⟨b, o, sp, c', e, _, _, _, _, hsp, hc⟩
    · simp at h0
    injection e with e1 _ e3
    subst e1 e3
    obtain rfl : sp = none := hsp (by simp)
    have c0 := hc 0 (.int .i64 1) (by simp [cellsF, FdL.cells, hy])
    have c1 := hc 1 (.bool false) (by simp [cellsF, FdL.cells, hy])
    have c2 := hc 2 (.int .u64 n) (by simp [cellsF, FdL.cells, hy])
    exact ⟨b, o, d, rfl, c0, c1, c2, hb⟩
  obtain ⟨z, hz⟩ : ∃ z, z = zig m := ⟨_, rfl⟩
  have Z1 : ∀ W, Calls Try.prog 18 #[.int .i64 m] W fun e w' => e = .returned (.int .u64 (z : Int)) ∧ W = w' := fun W => by rw [hz]; exact zig_any m W hm
  have Z2 : ∀ W, Calls Try.prog 20 #[.int .u64 (z : Int)] W fun e w' => e = .returned (.int .i64 m) ∧ W = w' := fun W => by
    have := zag_any z W (by rw [hz]; exact zig_w64 m hm)
    rwa [show zag z = m from by rw [hz, zag_zig]] at this
  obtain ⟨y, hy⟩ : ∃ y, y = zag n := ⟨_, rfl⟩
  have Z3 : ∀ W, Calls Try.prog 20 #[.int .u64 (n : Int)] W fun e w' => e = .returned (.int .i64 y) ∧ W = w' := fun W => by rw [hy]; exact zag_any n W hn
  have Z4 : ∀ W, Calls Try.prog 18 #[.int .i64 y] W fun e w' => e = .returned (.int .u64 (n : Int)) ∧ W = w' := fun W => by
    have := zig_any y W (by rw [hy]; exact zag_i64 n hn)
    rwa [show zig y = n from by rw [hy, zig_zag]] at this
  have hz1 : bits BinOp.and IntKind.u64 (z : Int) 1 = if m < 0 then 1 else 0 := by
    have h64 : z < 18446744073709551616 := by rw [hz]; exact zig_w64 m hm
    have e := u64_and_nat z 1 h64 (by omega)
    rw [nat_mask1] at e
    rw [show (1 : Int) = ((1 : Nat) : Int) from rfl, e]
    have := zig_odd m
    rw [← hz] at this
    split <;> omega
  obtain ⟨f0, hf0, hf1⟩ := cnt_step 9 n hn
  rw [← vb_eq, hk] at hf1
  have HV := hide VT
  have HF := hide FT
  have H1 := hide Z1
  have H2 := hide Z2
  have H3 := hide Z3
  have H4 := hide Z4
  have HZ := hide hz1
  have HC := hide (show CntR n (k + 1) (.int .i64 1) (.int .u64 ((n : Int) / 128)) from ⟨1, n / 128, f0, rfl, by simp, hf0, hf1.symm, by omega, rfl⟩)
  clear VT FT Z1 Z2 Z3 Z4 hz1 hf0 hf1 hz hy hn hm hl hk hx
  go_enter Try.func5, Try.ntmps5
  go_wp2_with (go_at_call 16; refine (HV.out _).mono ?_; rintro e w1 ⟨g, c, rfl, hkc, hcx, hb1, ho1⟩; have hS1 := (St.init w NoB).row hb1 ho1)
  go_loop [6, 7] (fun a b => CntR n (k + 1) a b) (fun _ b => (intOf b).toNat)
  case atStart => exact HC.out
  case round =>
    obtain ⟨j, mm, f, rfl, rfl, hf, hj, hj20, _⟩ := hrel
    have HFF := hide hf
    have HJ := hide hj
    clear hf hj
    by_cases h0 : mm = 0
    · subst h0
      have hjk : j = k + 1 := HJ.out
      subst hjk
      clear HJ HFF
      have hx2 : decide (127 < (x : Int)) = false := by simp; omega
      cases hneg : decide (m < 0)
      all_goals
        have hz1 := HZ.out
        simp only [decide_eq_false_iff_not, decide_eq_true_eq] at hneg
        first | rw [if_pos hneg] at hz1 | rw [if_neg hneg] at hz1
        go_wp2_with (first
          | (at_builtin; refine wl_append rfl rfl tyB (hS1.lit [.int .u8 8] 5 1 1 rfl (by decide)) 0 rfl rfl rfl ((hS1.lit [.int .u8 8] 5 1 1 rfl (by decide)).rd 1 rfl) (one_bvs _) (by omega) (by decide) ?_; intro A4 c4 w4 hS4; simp only [List.set_cons_zero] at hS4)
          | (go_at_call 22; refine (HF.out A4 c4 _ (hS4.rd 0 rfl)).mono ?_; rintro e w5 ⟨b, o, d, rfl, hc0, hc1, hc2, hb5⟩; have hS5 := hS4.call hb5)
          | (go_at_call 18; ((with_reducible refine (H1.out _).mono ?_); rintro e w6 ⟨rfl, rfl⟩))
          | (go_at_call 20; ((with_reducible refine (H2.out _).mono ?_); rintro e w6 ⟨rfl, rfl⟩))
          | (go_at_call 20; ((with_reducible refine (H3.out _).mono ?_); rintro e w6 ⟨rfl, rfl⟩))
          | (go_at_call 18; ((with_reducible refine (H4.out _).mono ?_); rintro e w6 ⟨rfl, rfl⟩))
          | (go_at_call 10; refine (awake_any _).mono ?_; rintro e w7 ⟨rfl, hb7⟩))
        go_ret
        refine ⟨?_, (hS5.call hb7).below⟩
        simp
        try omega
    · have hpos : decide ((0 : Int) < (mm : Int)) = true := by simp; omega
      go_wp2_with fail
      go_round
      case rel =>
        obtain ⟨f', hf', hl'⟩ := cnt_step f mm HFF.out
        refine ⟨j + 1, mm / 128, f', by go_num, by simp, hf', ?_, ?_, rfl⟩
        · have := HJ.out
          unfold cnt at this
          rw [if_neg h0] at this
          omega
        · have := HJ.out
          unfold cnt at this
          rw [if_neg h0] at this
          omega
      case measure => simp [intOf]; omega
end Go.Proofs.Ytcfonifaijeecaa
