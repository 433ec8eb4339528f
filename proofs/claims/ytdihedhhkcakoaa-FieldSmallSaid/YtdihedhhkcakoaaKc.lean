/-
  The walk of layer 2's Bytes.
-/
import Derived.Test.YtdihedhhkcakoaaKb
namespace Go.Proofs.Ytdihedhhkcakoaa
open Go.RowKit

theorem stop_ {p : Prop} (h : Hid p) : p := h.out
theorem least_any (a b c d e : Nat) (w : World) (hb : Low [a, b, c, d, e]) :
    Calls Try.prog 31 #[(.agg #[.int .u64 (a : Int), .int .u64 (b : Int), .int .u64 (c : Int), .int .u64 (d : Int), .int .u64 (e : Int)])] w fun r w' => ∃ a' b' c' d' e' : Nat, fv T51 [a', b', c', d', e'] = ev [a, b, c, d, e] ∧ (∀ x ∈ [a', b', c', d', e'], x < T51) ∧ r = .returned (.agg #[.int .u64 (a' : Int), .int .u64 (b' : Int), .int .u64 (c' : Int), .int .u64 (d' : Int), .int .u64 (e' : Int)]) ∧ Below w.heap.size w w' := least_walk a b c d e w hb
theorem glue (k x y : Nat) (hk : k ≤ 64) (hx : x < 2 ^ k) : bits .or .u64 (x : Int) (IntKind.u64.wrap ((y : Int) * ((2 ^ k : Nat) : Int))) = ((x + y % 2 ^ (64 - k) * 2 ^ k : Nat) : Int) := by
  have e1 : 2 ^ (64 - k) * 2 ^ k = 18446744073709551616 := by rw [← Nat.pow_add, show 64 - k + k = 64 from by omega]
  have e2 : y * 2 ^ k % 18446744073709551616 = y % 2 ^ (64 - k) * 2 ^ k := by rw [← e1, Nat.mul_mod_mul_right]
  have e3 : y % 2 ^ (64 - k) * 2 ^ k < 18446744073709551616 := by rw [← e2]; exact Nat.mod_lt _ (by omega)
  have e4 : IntKind.u64.wrap ((y : Int) * ((2 ^ k : Nat) : Int)) = ((y % 2 ^ (64 - k) * 2 ^ k : Nat) : Int) := by
    rw [← e2, IntKind.wrap_u64]
    rfl
  have e5 : 2 ^ k ≤ 18446744073709551616 := Nat.pow_le_pow_right (n := 2) (by omega) hk
  rw [e4, u64_or_nat _ _ (by omega) e3, Nat.or_comm, Nat.mul_comm _ (2 ^ k), ← Nat.two_pow_add_eq_or_of_lt hx, Nat.add_comm]
@[irreducible] def g0 (a b : Nat) : Nat := a + b % 8192 * 2251799813685248
@[irreducible] def g1 (b c : Nat) : Nat := b / 8192 + c % 67108864 * 274877906944
@[irreducible] def g2 (c d : Nat) : Nat := c / 67108864 + d % 549755813888 * 33554432
@[irreducible] def g3 (d e : Nat) : Nat := d / 549755813888 + e % 4503599627370496 * 4096
theorem g_words (a b c d e : Nat) (ha : a < T51) (hb : b < T51) (hc : c < T51) (hd : d < T51) (he : e < T51) : Words [g0 a b, g1 b c, g2 c d, g3 d e] := by
  unfold T51 at *
  intro x hx
  simp only [List.mem_cons, List.not_mem_nil, or_false] at hx
  unfold g0 g1 g2 g3 at hx
  omega
theorem hor (T m P W S x0 x1 Y : Nat) (h1 : T = m * P) (h2 : S * m = W) : S * (x0 + m * x1 + T * Y) = x0 * S + W * (x1 + Y * P) := by
  subst h1 h2
  simp only [Nat.mul_add]
  rw [Nat.mul_comm S x0, ← Nat.mul_assoc S m x1, show S * (m * P * Y) = S * m * (Y * P) from by rw [Nat.mul_comm Y P]; simp only [Nat.mul_assoc]]
  omega
theorem g_sum (a b0 b1 c0 c1 d0 d1 e T P Q R W m1 m2 m3 : Nat) (h1 : T = m1 * P) (h2 : T * m1 = W) (h3 : T = m2 * Q) (h4 : P * m2 = W) (h5 : T = m3 * R) (h6 : Q * m3 = W) :
    a + T * (b0 + m1 * b1 + T * (c0 + m2 * c1 + T * (d0 + m3 * d1 + T * e))) = (a + b0 * T) + W * ((b1 + c0 * P) + W * ((c1 + d0 * Q) + W * (d1 + e * R))) := by
  rw [hor T m1 P W T b0 b1 _ h1 h2, Nat.mul_comm _ P, hor T m2 Q W P c0 c1 _ h3 h4, Nat.mul_comm _ Q, hor T m3 R W Q d0 d1 _ h5 h6]
  simp only [Nat.add_assoc]
theorem g_val (a b c d e : Nat) (he : e < T51) : lv [g0 a b, g1 b c, g2 c d, g3 d e] = fv T51 [a, b, c, d, e] := by
  have := g_sum a (b % 8192) (b / 8192) (c % 67108864) (c / 67108864) (d % 549755813888) (d / 549755813888) e T51 274877906944 33554432 4096 18446744073709551616 8192 67108864 549755813888 (by decide) (by decide) (by decide) (by decide) (by decide) (by decide)
  rw [Nat.mod_add_div, Nat.mod_add_div, Nat.mod_add_div] at this
  simp only [lv, fv, Nat.mul_zero, Nat.add_zero]
  rw [this]
  unfold g0 g1 g2 g3
  rw [Nat.mod_eq_of_lt (show e < 4503599627370496 from by unfold T51 at he; omega)]
theorem gl0 (a b : Nat) (h : a < T51) : bits .or .u64 (a : Int) (IntKind.u64.wrap ((b : Int) * 2251799813685248)) = ((g0 a b : Nat) : Int) := by unfold g0; exact glue 51 a b (by omega) h
theorem gl1 (b c : Nat) (h : b < T51) : bits .or .u64 ((b : Int) / 8192) (IntKind.u64.wrap ((c : Int) * 274877906944)) = ((g1 b c : Nat) : Int) := by
  unfold g1
  exact glue 38 (b / 8192) c (by omega) (by unfold T51 at h; omega)
theorem gl2 (b c : Nat) (h : b < T51) : bits .or .u64 ((b : Int) / 67108864) (IntKind.u64.wrap ((c : Int) * 33554432)) = ((g2 b c : Nat) : Int) := by
  unfold g2
  exact glue 25 (b / 67108864) c (by omega) (by unfold T51 at h; omega)
theorem gl3 (b c : Nat) (h : b < T51) : bits .or .u64 ((b : Int) / 549755813888) (IntKind.u64.wrap ((c : Int) * 4096)) = ((g3 b c : Nat) : Int) := by
  unfold g3
  exact glue 12 (b / 549755813888) c (by omega) (by unfold T51 at h; omega)
theorem ixw0 (x y z u : Nat) (W : World) : (Instr.index 51 (.agg #[.int .u64 (x : Int), .int .u64 (y : Int), .int .u64 (z : Int), .int .u64 (u : Int)]) (.int .i64 ((0 : Nat) : Int))).run Try.prog W = .ok (.int .u64 (x : Int)) W := by kernel_rfl
theorem ixw1 (x y z u : Nat) (W : World) : (Instr.index 51 (.agg #[.int .u64 (x : Int), .int .u64 (y : Int), .int .u64 (z : Int), .int .u64 (u : Int)]) (.int .i64 ((1 : Nat) : Int))).run Try.prog W = .ok (.int .u64 (y : Int)) W := by kernel_rfl
theorem ixw2 (x y z u : Nat) (W : World) : (Instr.index 51 (.agg #[.int .u64 (x : Int), .int .u64 (y : Int), .int .u64 (z : Int), .int .u64 (u : Int)]) (.int .i64 ((2 : Nat) : Int))).run Try.prog W = .ok (.int .u64 (z : Int)) W := by kernel_rfl
theorem ixw3 (x y z u : Nat) (W : World) : (Instr.index 51 (.agg #[.int .u64 (x : Int), .int .u64 (y : Int), .int .u64 (z : Int), .int .u64 (u : Int)]) (.int .i64 ((3 : Nat) : Int))).run Try.prog W = .ok (.int .u64 (u : Int)) W := by kernel_rfl
theorem ixw (x y z u k v : Nat) (h : [x, y, z, u][k]? = some v) (W : World) : (Instr.index 51 (.agg #[.int .u64 (x : Int), .int .u64 (y : Int), .int .u64 (z : Int), .int .u64 (u : Int)]) (.int .i64 (k : Int))).run Try.prog W = .ok (.int .u64 (v : Int)) W := by
  match k, h with
  | 0, h => injection h with h; rw [← h]; exact ixw0 x y z u W
  | 1, h => injection h with h; rw [← h]; exact ixw1 x y z u W
  | 2, h => injection h with h; rw [← h]; exact ixw2 x y z u W
  | 3, h => injection h with h; rw [← h]; exact ixw3 x y z u W
theorem bvs_snoc (l : List UInt8) (m : Nat) (h : m < 256) : bvs (l ++ [UInt8.ofNat m]) = bvs l ++ [.int .u8 (m : Int)] := by
  simp only [bvs, List.map_append, List.map_cons, List.map_nil, bv, UInt8.toNat_ofNat']
  rw [Nat.mod_eq_of_lt (by omega)]
theorem tyB : RowTy Try.prog 22 5 1 1 := rowTy_of (z := .int .u8 0) Try.underlying22 (by kernel_rfl) rfl (by decide)
def SpRel (w : World) (xs : List Nat) (v i : Value) (wr : World) : Prop :=
  ∃ (k : Nat) (B : Option Addr) (d : Nat) (l : List UInt8), k ≤ 4 ∧ i = .int .i64 (k : Int) ∧ v = .slice B l.length d ∧ l = spB (xs.take k) ∧ St w NoB wr [.row (.slice B l.length d) 5 1 l.length (bvs l)]
def SpRel2 (w : World) (T : List UInt8) (v x i : Value) (wr : World) : Prop :=
  ∃ (j f y : Nat) (B : Option Addr) (d : Nat) (l : List UInt8), i = .int .i64 (j : Int) ∧ x = .int .u64 (y : Int) ∧ j + f = 8 ∧ v = .slice B l.length d ∧ l ++ leB f y = T ∧ St w NoB wr [.row (.slice B l.length d) 5 1 l.length (bvs l)]
set_option maxRecDepth 100000 in
set_option maxHeartbeats 800000 in
theorem bytes_walk (a b c d e : Nat) (w : World) (hb : Low [a, b, c, d, e]) :
    Calls Try.prog 11 #[(.agg #[.int .u64 (a : Int), .int .u64 (b : Int), .int .u64 (c : Int), .int .u64 (d : Int), .int .u64 (e : Int)])] w (ResB 5 w (leB 32 (ev [a, b, c, d, e]))) := by
  have HC := hide (fun W => least_any a b c d e W hb)
  have hS0 := ((St.init w NoB).alloc #[.int .u64 (a : Int), .int .u64 (b : Int), .int .u64 (c : Int), .int .u64 (d : Int), .int .u64 (e : Int)] 27)
  have HS0 := hide hS0
  clear hS0 hb
  go_enter Try.func11, Try.ntmps11
  go_wp2_with (go_at_call 31; refine (HC.out _).mono ?_; rintro r w1 ⟨a1, b1, c1, d1, e1, hev, hlow, rfl, hb1⟩; have ha := hlow a1 (by simp); have hb := hlow b1 (by simp); have hc := hlow c1 (by simp); have hd := hlow d1 (by simp); have he := hlow e1 (by simp); have HW := hide (g_words a1 b1 c1 d1 e1 ha hb hc hd he); have HV := hide (g_val a1 b1 c1 d1 e1 he); have q0 := gl0 a1 b1 ha; have q1 := gl1 b1 c1 hb; have q2 := gl2 c1 d1 hc; have q3 := gl3 d1 e1 hd; obtain ⟨x0, h0⟩ : ∃ x, x = g0 a1 b1 := ⟨_, rfl⟩; obtain ⟨x1, h1⟩ : ∃ x, x = g1 b1 c1 := ⟨_, rfl⟩; obtain ⟨x2, h2⟩ : ∃ x, x = g2 c1 d1 := ⟨_, rfl⟩; obtain ⟨x3, h3⟩ : ∃ x, x = g3 d1 e1 := ⟨_, rfl⟩; rw [← h0, ← h1, ← h2, ← h3] at HW HV; rw [← h0] at q0; rw [← h1] at q1; rw [← h2] at q2; rw [← h3] at q3; clear h0 h1 h2 h3 ha hb hc hd he hlow)
  have HS1 := hide ((((HS0.out.call hb1).skip (.cells #[.int .u64 (a1 : Int), .int .u64 (b1 : Int), .int .u64 (c1 : Int), .int .u64 (d1 : Int), .int .u64 (e1 : Int)] 25)).row (Below.refl _ _) (World.ownsRow_nil _ _ 5 1)).pickL (H' := [.row (.slice none 0 0) 5 1 0 []]) [0] (by decide) rfl)
  have HEV := hide hev
  clear q0 q1 q2 q3 HS0 hev HC
  obtain ⟨ws, hws⟩ : ∃ ws, ws = [x0, x1, x2, x3] := ⟨_, rfl⟩
  have HWS := hide hws
  have hwl : ws.length = 4 := by rw [hws]; rfl
  rw [← hws] at HW HV
  have HWL := hide hwl
  clear hws hwl
  go_loopw [4, 37] (fun v i wr => SpRel w ws v i wr) (fun _ i _ => 4 - (intOf i).toNat)
  case atStart => exact ⟨0, none, 0, [], by omega, rfl, rfl, rfl, HS1.out⟩
  case round =>
    obtain ⟨k, B, d', l, hk, rfl, rfl, hl, hS⟩ := hrel
    by_cases hlt : k < 4
    · obtain ⟨x, hx⟩ : ∃ x, ws[k]? = some x := ⟨ws[k]'(by rw [HWL.out]; exact hlt), List.getElem?_eq_getElem _⟩
      have hix := ixw x0 x1 x2 x3 k x (by rw [← HWS.out]; exact hx)
      have hT := spB_take ws k x hx
      rw [← hl] at hT
      have HT := hide hT
      have hll : l.length = 8 * k := by rw [hl, spB_len, List.length_take, HWL.out]; omega
      have HLL := hide hll
      have HSK := hide hS
      have dk : decide ((k : Int) < 4) = true := by simp; omega
      clear hS hT hl hx hll
      go_wp2_with fail
      go_loopw [4, 6, 40] (fun v x i wr => SpRel2 w (spB (ws.take (k + 1))) v x i wr) (fun _ _ i _ => 8 - (intOf i).toNat)
      case atStart => exact ⟨0, 8, x, B, d', l, rfl, rfl, rfl, rfl, HT.out.symm, HSK.out⟩
      case round =>
        obtain ⟨j, f, y, B2, d2, l2, rfl, rfl, hjf, rfl, hl2, hS2⟩ := hrel
        have HL2 := hide hl2
        have hbd : l2.length ≤ 8 * k + 8 := by
          have := congrArg List.length hl2
          rw [spB_len, List.length_append, List.length_take, HWL.out] at this
          omega
        clear hl2 HSK hix
        by_cases hj : j < 8
        · go_wp2_with (at_builtin; refine wl_append1 rfl rfl tyB hS2 0 rfl rfl (us := [_]) rfl rfl ?_ ?_ (by decide) ?_; (intro u hu; simp only [List.mem_singleton] at hu; subst hu; rfl); (simp only [List.length_singleton]; omega); intro B3 d3 w3 hS3)
          go_roundw
          case rel =>
            cases f with
            | zero => omega
            | succ f =>
              refine ⟨j + 1, f, y / 256, B3, d3, l2 ++ [UInt8.ofNat (y % 256)], by go_num, by simp, by omega, by simp, ?_, ?_⟩
              · rw [← HL2.out]
                simp [leB]
              · rw [bvs_snoc _ _ (by omega), List.length_append, List.length_singleton]
                exact hS3
          case measure => simp [intOf]; omega
        · obtain rfl : f = 0 := by omega
          have h8 : j = 8 := by omega
          subst h8
          have hfin := HL2.out
          simp only [leB, List.append_nil] at hfin
          have HFIN := hide hfin
          clear hfin
          go_wp2_with fail
          go_roundw
          case rel => exact ⟨k + 1, B2, d2, l2, by omega, by go_num, rfl, HFIN.out, hS2⟩
          case measure => simp [intOf]; omega
    · obtain rfl : k = 4 := by omega
      have hfin : l = leB 32 (ev [a, b, c, d, e]) := by
        rw [hl, List.take_of_length_le (by rw [HWL.out]; omega), spB_eq ws HW.out, HWL.out, HV.out, HEV.out]
      have HFIN := hide hfin
      clear hl hfin
      go_wp2_with fail
      go_ret
      exact resB_of hS 0 rfl (by rw [HFIN.out])
end Go.Proofs.Ytdihedhhkcakoaa
