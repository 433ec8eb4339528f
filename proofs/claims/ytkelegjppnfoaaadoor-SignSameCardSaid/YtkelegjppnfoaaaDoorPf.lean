/-
  Joined of texts of mine, in build order: Sa, Sb, Sc, Sd, Se, Sf, Sg, Sh, Si, Sj, Ha, Hb. Each says what it proves at its own head.
-/
import Derived.Test.YtkelegjppnfoaaaDoorRows
import Derived.Laws.Bits64b
import Derived.Laws.Externs
import Derived.Deep.DeepCutAuto
import Derived.Deep.LoopGhost
import Derived.Test.YtkelegjppnfoaaaDoorPe
set_option linter.unusedSimpArgs false
set_option linter.unusedVariables false

/-
  The walks of layer 3: words' sums, differences, products (Go's own library).
-/
namespace Go.Proofs.YtkelegjppnfoaaaDoor.S3
open Go.RowKit

theorem sub64_run0 (x y : Nat) (w : World) : (callFunc 62 #[.int .u64 (x : Int), .int .u64 (y : Int), .int .u64 ((0 : Nat) : Int)]).run Tryd.prog w =
    .ok (.value (.tuple #[.int .u64 (((x + 18446744073709551616 - y - 0) % 18446744073709551616 : Nat) : Int), .int .u64 ((if x < y + 0 then 1 else 0 : Nat) : Int)])) w := by kernel_rfl
theorem sub64_run1 (x y : Nat) (w : World) : (callFunc 62 #[.int .u64 (x : Int), .int .u64 (y : Int), .int .u64 ((1 : Nat) : Int)]).run Tryd.prog w =
    .ok (.value (.tuple #[.int .u64 (((x + 18446744073709551616 - y - 1) % 18446744073709551616 : Nat) : Int), .int .u64 ((if x < y + 1 then 1 else 0 : Nat) : Int)])) w := by kernel_rfl
theorem sub64_run (x y b : Nat) (hb : b ≤ 1) (w : World) : (callFunc 62 #[.int .u64 (x : Int), .int .u64 (y : Int), .int .u64 (b : Int)]).run Tryd.prog w =
    .ok (.value (.tuple #[.int .u64 (((x + 18446744073709551616 - y - b) % 18446744073709551616 : Nat) : Int), .int .u64 ((if x < y + b then 1 else 0 : Nat) : Int)])) w := by
  have : b = 0 ∨ b = 1 := by omega
  rcases this with h | h
  · rw [h]; exact sub64_run0 x y w
  · rw [h]; exact sub64_run1 x y w
theorem sub_any (x y b : Nat) (hb : b ≤ 1) : ∀ w, (callFunc 62 #[.int .u64 (x : Int), .int .u64 (y : Int), .int .u64 (b : Int)]).run Tryd.prog w = .ok (.value (.tuple #[.int .u64 (sbD x y b : Int), .int .u64 (sbB x y b : Int)])) w := fun w => by
  have := sub64_run x y b hb w
  unfold sbD sbB
  exact this
/-- A number of four words, as a value. -/
def numA (xs : List Nat) : Value := .agg (uvs xs).toArray

/-- One number less another. -/
def LessRel (w : World) (g2 g3 : Nat) (H : List Chunk) (xs ys : List Nat) (bo i : Value) (wr : World) : Prop :=
  ∃ (k b : Nat) (cur : List Nat), k ≤ 4 ∧ i = .int .i64 (k : Int) ∧ bo = .int .u64 (b : Int) ∧ b ≤ 1 ∧ cur.length = 4 ∧ Words cur ∧ cur.drop k = xs.drop k ∧
    lv (cur.take k) + lv (ys.take k) + 0 = lv (xs.take k) + b * 18446744073709551616 ^ k ∧ St w NoB wr (.cells g2 (uvs cur).toArray 56 :: .cells g3 (uvs ys).toArray 56 :: H)
theorem less_step (xs ys cur : List Nat) (k b x y : Nat) (hk : k < 4) (hl : cur.length = 4) (hx : xs[k]? = some x) (hy : ys[k]? = some y) (hx2 : x < 18446744073709551616) (hy2 : y < 18446744073709551616) (hb : b ≤ 1)
    (h : lv (cur.take k) + lv (ys.take k) + 0 = lv (xs.take k) + b * 18446744073709551616 ^ k) :
    lv ((cur.set k (sbD x y b)).take (k + 1)) + lv (ys.take (k + 1)) + 0 = lv (xs.take (k + 1)) + sbB x y b * 18446744073709551616 ^ (k + 1) := by
  obtain ⟨h1, _, _⟩ := sb_spec x y b hx2 hy2 hb
  rw [lv_take_set cur k _ (by omega), lv_take hx, lv_take hy, Nat.pow_succ]
  have h2 := congrArg (· * 18446744073709551616 ^ k) h1
  simp only [Nat.add_mul] at h2
  rw [show sbB x y b * (18446744073709551616 ^ k * 18446744073709551616) = sbB x y b * 18446744073709551616 * 18446744073709551616 ^ k from by rw [Nat.mul_comm (18446744073709551616 ^ k), Nat.mul_assoc]]
  omega
set_option maxRecDepth 100000 in
set_option maxHeartbeats 800000 in
theorem less_walk (xs ys : List Nat) (w : World) (hxl : xs.length = 4) (hyl : ys.length = 4) (hxw : Words xs) (hyw : Words ys) :
    Calls Tryd.prog 47 #[numA xs, numA ys] w fun e w' => ∃ rs : List Nat, rs.length = 4 ∧ Words rs ∧ ∃ b : Nat, b ≤ 1 ∧ lv rs + lv ys = lv xs + b * 18446744073709551616 ^ 4 ∧
      e = .returned (.tuple #[numA rs, .bool (decide (0 < b))]) ∧ Below w.heap.size w w' := by
  unfold numA
  have hS0 := (((St.init w NoB).alloc (uvs xs).toArray 56).alloc (uvs ys).toArray 56).alloc #[.int .u64 0, .int .u64 0, .int .u64 0, .int .u64 0] 56
  have HS0 := hide hS0
  have HXL := hide hxl
  have HYL := hide hyl
  have HXW := hide hxw
  have HYW := hide hyw
  clear hS0 hxl hyl hxw hyw
  go_enter Tryd.func47, Tryd.ntmps47
  go_wp2_with fail
  go_loopw [6, 8] (fun b i wr => LessRel w w.heap.size (w.heap.size + 1) [.cells (w.heap.size + 1 + 1) #[.int .u64 0, .int .u64 0, .int .u64 0, .int .u64 0] 56] xs ys b i wr) (fun _ i _ => 4 - (intOf i).toNat)
  case atStart =>
    have hS := HS0.out
    simp only [size_alloc1] at hS
    exact ⟨0, 0, xs, by omega, rfl, rfl, by omega, HXL.out, HXW.out, rfl, rfl, hS.rot3⟩
  case round =>
    obtain ⟨k, b, cur, hk, rfl, rfl, hb, hcl, hcw, hcd, hval, hS⟩ := hrel
    by_cases hlt : k < 4
    · obtain ⟨x, hx⟩ := lim_get xs HXL.out k hlt
      obtain ⟨y, hy⟩ := lim_get ys HYL.out k hlt
      have hcx : cur[k]? = some x := by
        have := congrArg (·[0]?) hcd
        simpa [List.getElem?_drop, hx] using this
      have hx2 := words_get HXW.out hx
      have hy2 := words_get HYW.out hy
      have hstep := hide (less_step xs ys cur k b x y hlt hcl hx hy hx2 hy2 hb hval)
      obtain ⟨_, hd1, hd2⟩ := sb_spec x y b hx2 hy2 hb
      have hS' := hS.drew
      have hHS := hide hS'
      have cn : ∀ z, From wr.drew z → z.cell? ⟨w.heap.size, k, none⟩ = some (.int .u64 (x : Int)) := fun z hz => by
        rw [hz.cell (p := ⟨w.heap.size, k, none⟩) (Chunk.lt (hHS.out.sat 0 _ rfl) rfl), hHS.out.cell 0 rfl k]
        exact uvs_get hcx
      have cm : ∀ z, From wr.drew z → z.cell? ⟨w.heap.size + 1, k, none⟩ = some (.int .u64 (y : Int)) := fun z hz => by
        rw [hz.cell (p := ⟨w.heap.size + 1, k, none⟩) (Chunk.lt (hHS.out.sat 1 _ rfl) rfl), hHS.out.cell 1 rfl k]
        exact uvs_get hy
      have hsub := sub_any x y b hb
      have D1 := hide hd1
      have HCD := hide hcd
      have HCW := hide hcw
      have HCL := hide hcl
      clear hS hS' hx hy hcx hx2 hy2 hval hd1 hcd hcw hcl
      go_wp2_with fail
      refine wp_region_M (fun i => i == 13) (From wr.drew) (by kernel_rfl) ?_
      (refine wpM_take (i := 0) (v := ?_) rfl (by kernel_rfl) (by kernel_rfl) (by kernel_rfl) (fun _ _ _ h => h) (From.refl _) rfl (by kernel_rfl) (Or.inl ⟨by first | kernel_rfl | rfl, ?_⟩) ?_; rotate_left; (intro wx hx; go_simp) <;> (with_reducible rfl); (try simp only [Act.put, nq1, nq2, nq3, nq4, nq5, nq6])); (refine wpM_take (i := 1) (v := ?_) rfl (by kernel_rfl) (by kernel_rfl) (by kernel_rfl) (fun _ _ _ h => h) (From.refl _) rfl (by kernel_rfl) (Or.inl ⟨by first | kernel_rfl | rfl, ?_⟩) ?_; rotate_left; (intro wx hx; go_simp) <;> (with_reducible rfl); (try simp only [Act.put, nq1, nq2, nq3, nq4, nq5, nq6])); (refine wpM_take (i := 2) (v := ?_) rfl (by kernel_rfl) (by kernel_rfl) (by kernel_rfl) (fun _ _ _ h => h) (From.refl _) rfl (by kernel_rfl) (Or.inl ⟨by first | kernel_rfl | rfl, ?_⟩) ?_; rotate_left; (intro wx hx; go_simp) <;> (with_reducible rfl); (try simp only [Act.put, nq1, nq2, nq3, nq4, nq5, nq6])); (refine wpM_take (i := 3) (v := ?_) rfl (by kernel_rfl) (by kernel_rfl) (by kernel_rfl) (fun _ _ _ h => h) (From.refl _) rfl (by kernel_rfl) (Or.inl ⟨by first | kernel_rfl | rfl, ?_⟩) ?_; rotate_left; (intro wx hx; go_simp) <;> (with_reducible rfl); (try simp only [Act.put, nq1, nq2, nq3, nq4, nq5, nq6])); (refine wpM_take (i := 4) (v := ?_) rfl (by kernel_rfl) (by kernel_rfl) (by kernel_rfl) (fun _ _ _ h => h) (From.refl _) rfl (by kernel_rfl) (Or.inl ⟨by first | kernel_rfl | rfl, ?_⟩) ?_; rotate_left; (intro wx hx; go_simp) <;> (with_reducible rfl); (try simp only [Act.put, nq1, nq2, nq3, nq4, nq5, nq6])); (refine wpM_take (i := 5) (v := ?_) rfl (by kernel_rfl) (by kernel_rfl) (by kernel_rfl) (fun _ _ _ h => h) (From.refl _) rfl (by kernel_rfl) (Or.inl ⟨by first | kernel_rfl | rfl, ?_⟩) ?_; rotate_left; (intro wx hx; go_simp) <;> (with_reducible rfl); (try simp only [Act.put, nq1, nq2, nq3, nq4, nq5, nq6])); (refine wpM_take (i := 6) (v := ?_) rfl (by kernel_rfl) (by kernel_rfl) (by kernel_rfl) (fun _ _ _ h => h) (From.refl _) rfl (by kernel_rfl) (Or.inl ⟨by first | kernel_rfl | rfl, ?_⟩) ?_; rotate_left; (intro wx hx; go_simp) <;> (with_reducible rfl); (try simp only [Act.put, nq1, nq2, nq3, nq4, nq5, nq6])); (refine wpM_take (i := 7) (v := ?_) rfl (by kernel_rfl) (by kernel_rfl) (by kernel_rfl) (fun _ _ _ h => h) (From.refl _) rfl (by kernel_rfl) (Or.inl ⟨by first | kernel_rfl | rfl, ?_⟩) ?_; rotate_left; (intro wx hx; go_simp) <;> (with_reducible rfl); (try simp only [Act.put, nq1, nq2, nq3, nq4, nq5, nq6])); (refine wpM_take (i := 8) (v := ?_) rfl (by kernel_rfl) (by kernel_rfl) (by kernel_rfl) (fun _ _ _ h => h) (From.refl _) rfl (by kernel_rfl) (Or.inl ⟨by first | kernel_rfl | rfl, ?_⟩) ?_; rotate_left; (intro wx hx; go_simp) <;> (with_reducible rfl); (try simp only [Act.put, nq1, nq2, nq3, nq4, nq5, nq6])); (refine wpM_take (i := 9) (v := ?_) rfl (by kernel_rfl) (by kernel_rfl) (by kernel_rfl) (fun _ _ _ h => h) (From.refl _) rfl (by kernel_rfl) (Or.inl ⟨by first | kernel_rfl | rfl, ?_⟩) ?_; rotate_left; (intro wx hx; go_simp) <;> (with_reducible rfl); (try simp only [Act.put, nq1, nq2, nq3, nq4, nq5, nq6])); (refine wpM_take (i := 10) (v := ?_) rfl (by kernel_rfl) (by kernel_rfl) (by kernel_rfl) (fun _ _ _ h => h) (From.refl _) rfl (by kernel_rfl) (Or.inl ⟨by first | kernel_rfl | rfl, ?_⟩) ?_; rotate_left; (intro wx hx; go_simp) <;> (with_reducible rfl); (try simp only [Act.put, nq1, nq2, nq3, nq4, nq5, nq6]))
      (refine wpM_takeU (i := 11) (v := ?_) rfl (by kernel_rfl) (by kernel_rfl) (by kernel_rfl) (fun _ _ _ h => h) (From.refl _) rfl (Or.inl ⟨by first | kernel_rfl | rfl, ?_⟩) ?_; rotate_left; (intro wx; go_simp) <;> (with_reducible rfl); (try simp only [Act.put, nq1, nq2, nq3, nq4, nq5, nq6])); (refine wpM_takeU (i := 12) (v := ?_) rfl (by kernel_rfl) (by kernel_rfl) (by kernel_rfl) (fun _ _ _ h => h) (From.refl _) rfl (Or.inl ⟨by first | kernel_rfl | rfl, ?_⟩) ?_; rotate_left; (intro wx; go_simp) <;> (with_reducible rfl); (try simp only [Act.put, nq1, nq2, nq3, nq4, nq5, nq6]))
      (refine wpM_late (i := 13) (by kernel_rfl) rfl rfl ?_; intro K hK; (try simp only [Act.put, nq1, nq2, nq3, nq4, nq5, nq6]))
      refine step_store rfl rfl tyU64 hHS.out 0 rfl k (by rw [List.size_toArray, uvs_len, HCL.out]; exact hlt) rfl (v := .int .u64 (sbD x y b : Nat)) rfl rfl ?_
      intro w2 hS2
      refine hK _ _ ?_
      clear hK K
      (try simp only [Act.put, nq1, nq2, nq3, nq4, nq5, nq6])
      (refine wpAny_take (i := 14) (v := ?_) rfl (by kernel_rfl) (by kernel_rfl) (by kernel_rfl) (fun _ _ _ h => h) (Or.inl ⟨by first | kernel_rfl | rfl, ?_⟩) ?_; rotate_left; (intro wx; go_simp) <;> (with_reducible rfl); (try simp only [Act.put, nq1, nq2, nq3, nq4, nq5, nq6]))
      refine wpAny_done (by kernel_rfl) ?_ _
      go_wp2_with fail
      go_roundw
      case rel =>
        rw [uvs_set] at hS2
        refine ⟨k + 1, sbB x y b, cur.set k (sbD x y b), by omega, by go_num, rfl, hd2, by rw [List.length_set]; exact HCL.out, words_set HCW.out k _ D1.out, ?_, hstep.out, hS2⟩
        rw [drop_set_succ, ← List.drop_drop, HCD.out, List.drop_drop]
      case measure => simp [intOf]; omega
    · obtain rfl : k = 4 := by omega
      match cur, hcl with
      | [a0, a1, a2, a3], _ =>
        have hS' : St w NoB wr [.cells w.heap.size #[.int .u64 (a0 : Int), .int .u64 (a1 : Int), .int .u64 (a2 : Int), .int .u64 (a3 : Int)] 56, .cells (w.heap.size + 1) (uvs ys).toArray 56, .cells (w.heap.size + 1 + 1) #[.int .u64 0, .int .u64 0, .int .u64 0, .int .u64 0] 56] := hS
        have n0 : wr.cell? ⟨w.heap.size, 0, none⟩ = some (.int .u64 (a0 : Int)) := hS'.cell 0 rfl 0
        have n1 : wr.cell? ⟨w.heap.size, 1, none⟩ = some (.int .u64 (a1 : Int)) := hS'.cell 0 rfl 1
        have n2 : wr.cell? ⟨w.heap.size, 2, none⟩ = some (.int .u64 (a2 : Int)) := hS'.cell 0 rfl 2
        have n3 : wr.cell? ⟨w.heap.size, 3, none⟩ = some (.int .u64 (a3 : Int)) := hS'.cell 0 rfl 3
        have r0 : wr.cell? ⟨w.heap.size + 1 + 1, 0, none⟩ = some (.int .u64 0) := hS'.cell 2 rfl 0
        have r1 : wr.cell? ⟨w.heap.size + 1 + 1, 1, none⟩ = some (.int .u64 0) := hS'.cell 2 rfl 1
        have r2 : wr.cell? ⟨w.heap.size + 1 + 1, 2, none⟩ = some (.int .u64 0) := hS'.cell 2 rfl 2
        have r3 : wr.cell? ⟨w.heap.size + 1 + 1, 3, none⟩ = some (.int .u64 0) := hS'.cell 2 rfl 3
        have f0 := hS'.free 2 rfl 0
        have f1 := hS'.free 2 rfl 1
        have f2 := hS'.free 2 rfl 2
        have f3 := hS'.free 2 rfl 3
        have HS := hide ((((hS'.setCell 2 rfl 0 (.int .u64 (a0 : Int))).setCell 2 rfl 1 (.int .u64 (a1 : Int))).setCell 2 rfl 2 (.int .u64 (a2 : Int))).setCell 2 rfl 3 (.int .u64 (a3 : Int)))
        have HV := hide hval
        have HW := hide hcw
        clear hS hS' hval hcd hcw
        go_wp2_with fail
        refine bodyPost_ret (results_cell_tmp_row rfl _ _ (w.heap.size + 1 + 1) _ _ _ _ rfl (HS.out.heap 2 rfl) Tryd.underlying56 rfl (by kernel_rfl)) rfl ?_
        refine ⟨[a0, a1, a2, a3], rfl, HW.out, b, hb, ?_, ?_, HS.out.below⟩
        · have := HV.out
          rw [List.take_of_length_le (by simp), List.take_of_length_le (by rw [HYL.out]; omega), List.take_of_length_le (by rw [HXL.out]; omega)] at this
          omega
        · rfl
end Go.Proofs.YtkelegjppnfoaaaDoor.S3

/-
  The walks of layer 3: the order of the curve; twice a number and a bit.
-/
namespace Go.Proofs.YtkelegjppnfoaaaDoor.S3
open Go.RowKit

/-- The order of the curve. -/
@[irreducible] def o0 : Nat := 6346243789798364141
@[irreducible] def o1 : Nat := 1503914060200516822
@[irreducible] def o2 : Nat := 0
@[irreducible] def o3 : Nat := 1152921504606846976
@[irreducible] def Lq : Nat := 7237005577332262213973186563042994240857116359379907606001950938285454250989
theorem ord_words : Words [o0, o1, o2, o3] := by unfold o0 o1 o2 o3 Words; decide
theorem lv_ord : lv [o0, o1, o2, o3] = Lq := by unfold o0 o1 o2 o3 Lq; decide
theorem Lq_lt : 2 * Lq < 18446744073709551616 ^ 4 ∧ 0 < Lq := by unfold Lq; decide
theorem enOrder (args : Array Value) (w : World) : (callFunc 48 args).run Tryd.prog w = .ok (.enter 48 args) w := by kernel_rfl
theorem enLess (args : Array Value) (w : World) : (callFunc 47 args).run Tryd.prog w = .ok (.enter 47 args) w := by kernel_rfl
set_option maxRecDepth 100000 in
set_option maxHeartbeats 800000 in
theorem order_any (w : World) : Calls Tryd.prog 48 #[] w fun e w' => e = .returned (.agg #[.int .u64 (o0 : Int), .int .u64 (o1 : Int), .int .u64 (o2 : Int), .int .u64 (o3 : Int)]) ∧ Below w.heap.size w w' := by
  have hS := (St.init w NoB).alloc #[.int .u64 6346243789798364141, .int .u64 1503914060200516822, .int .u64 0, .int .u64 1152921504606846976] 56
  have HS := hide hS
  clear hS
  go_enter Tryd.func48, Tryd.ntmps48
  go_wp2_with fail
  refine bodyPost_ret (results_cell_row rfl _ _ w.heap.size _ _ _ _ rfl (HS.out.heap 0 rfl) Tryd.underlying56 rfl (by kernel_rfl)) rfl ?_
  exact ⟨by unfold o0 o1 o2 o3; rfl, HS.out.below⟩
/-- One number less another, word by word. -/
theorem less_any (a0 a1 a2 a3 b0 b1 b2 b3 : Nat) (w : World) (ha : Words [a0, a1, a2, a3]) (hb : Words [b0, b1, b2, b3]) :
    Calls Tryd.prog 47 #[.agg #[.int .u64 (a0 : Int), .int .u64 (a1 : Int), .int .u64 (a2 : Int), .int .u64 (a3 : Int)], .agg #[.int .u64 (b0 : Int), .int .u64 (b1 : Int), .int .u64 (b2 : Int), .int .u64 (b3 : Int)]] w fun e w' =>
      ∃ r0 r1 r2 r3 b : Nat, Words [r0, r1, r2, r3] ∧ b ≤ 1 ∧ lv [r0, r1, r2, r3] + lv [b0, b1, b2, b3] = lv [a0, a1, a2, a3] + b * 18446744073709551616 ^ 4 ∧
        e = .returned (.tuple #[.agg #[.int .u64 (r0 : Int), .int .u64 (r1 : Int), .int .u64 (r2 : Int), .int .u64 (r3 : Int)], .bool (decide (0 < b))]) ∧ Below w.heap.size w w' := by
  refine (less_walk [a0, a1, a2, a3] [b0, b1, b2, b3] w rfl rfl ha hb).mono ?_
  rintro e w' ⟨rs, hrl, hrw, b, hb1, hv, rfl, hbl⟩
  match rs, hrl with
  | [r0, r1, r2, r3], _ => exact ⟨r0, r1, r2, r3, b, hrw, hb1, hv, rfl, hbl⟩

/-- A word doubled, with a bit behind; the bit that goes over. -/
@[irreducible] def dbW (x b : Nat) : Nat := 2 * x % 18446744073709551616 + b
@[irreducible] def dbH (x : Nat) : Nat := x / 9223372036854775808
theorem db_spec (x b : Nat) (hx : x < 18446744073709551616) (hb : b ≤ 1) : dbW x b + dbH x * 18446744073709551616 = 2 * x + b ∧ dbW x b < 18446744073709551616 ∧ dbH x ≤ 1 := by
  unfold dbW dbH
  omega
theorem or_db (x b : Nat) (hx : x < 18446744073709551616) (hb : b ≤ 1) : bits .or .u64 (IntKind.u64.wrap ((x : Int) * 2)) (b : Int) = ((dbW x b : Nat) : Int) := by
  have e : IntKind.u64.wrap ((x : Int) * 2) = ((2 * x % 18446744073709551616 : Nat) : Int) := by rw [IntKind.wrap_u64]; omega
  rw [e, u64_or_nat _ _ (by omega) (by omega)]
  unfold dbW
  congr 1
  have h1 : 2 * x % 18446744073709551616 % 2 = 0 := by omega
  have := nat_join 1 (2 * x % 18446744073709551616) b h1 (by omega)
  exact this
theorem bcell {W w1 : World} (hb : Below W.heap.size W w1) : (∀ b o, b < W.heap.size → w1.cell? ⟨b, o, none⟩ = W.cell? ⟨b, o, none⟩) ∧ (∀ b o, b < W.heap.size → w1.frozen? ⟨b, o, none⟩ = W.frozen? ⟨b, o, none⟩) :=
  ⟨fun b o h => hb.cell (p := ⟨b, o, none⟩) h, fun b o h => hb.frozen (p := ⟨b, o, none⟩) h⟩
def NextRel (w : World) (g : Nat) (H : List Chunk) (xs : List Nat) (bit : Nat) (bv i : Value) (wr : World) : Prop :=
  ∃ (k b : Nat) (cur : List Nat), k ≤ 4 ∧ i = .int .i64 (k : Int) ∧ bv = .int .u64 (b : Int) ∧ b ≤ 1 ∧ cur.length = 4 ∧ Words cur ∧ cur.drop k = xs.drop k ∧
    lv (cur.take k) + b * 18446744073709551616 ^ k = 2 * lv (xs.take k) + bit ∧ St w NoB wr (.cells g (uvs cur).toArray 56 :: H)
theorem next_step (xs cur : List Nat) (k b bit x : Nat) (hk : k < 4) (hl : cur.length = 4) (hx : xs[k]? = some x) (hx2 : x < 18446744073709551616) (hb : b ≤ 1)
    (h : lv (cur.take k) + b * 18446744073709551616 ^ k = 2 * lv (xs.take k) + bit) :
    lv ((cur.set k (dbW x b)).take (k + 1)) + dbH x * 18446744073709551616 ^ (k + 1) = 2 * lv (xs.take (k + 1)) + bit := by
  obtain ⟨h1, _, _⟩ := db_spec x b hx2 hb
  rw [lv_take_set cur k _ (by omega), lv_take hx, Nat.pow_succ]
  have h2 := congrArg (· * 18446744073709551616 ^ k) h1
  simp only [Nat.add_mul] at h2
  rw [show dbH x * (18446744073709551616 ^ k * 18446744073709551616) = dbH x * 18446744073709551616 * 18446744073709551616 ^ k from by rw [Nat.mul_comm (18446744073709551616 ^ k), Nat.mul_assoc]]
  rw [Nat.mul_assoc 2 x] at h2
  omega
def ResNum (w : World) (v : Nat) (e : Ending) (w' : World) : Prop := ∃ rs : List Nat, rs.length = 4 ∧ Words rs ∧ lv rs = v ∧ e = .returned (numA rs) ∧ Below w.heap.size w w'
theorem next_end (xs cur rs : List Nat) (b bo bit : Nat) (hx : lv xs < Lq) (hbit : bit ≤ 1) (hc : Words cur) (hcl : cur.length = 4) (hr : Words rs) (hrl : rs.length = 4)
    (h : lv cur + b * 18446744073709551616 ^ 4 = 2 * lv xs + bit) (h2 : lv rs + Lq = lv cur + bo * 18446744073709551616 ^ 4) (hbo : bo ≤ 1) :
    (0 < bo → lv cur = (2 * lv xs + bit) % Lq) ∧ (bo = 0 → lv rs = (2 * lv xs + bit) % Lq) := by
  have hL := Lq_lt
  have h3 := lv_lt cur hc
  have h4 := lv_lt rs hr
  rw [hcl] at h3
  rw [hrl] at h4
  generalize hB : 18446744073709551616 ^ 4 = B at *
  have hb0 : b = 0 := by
    rcases Nat.eq_zero_or_pos b with h | h
    · exact h
    · have : B ≤ b * B := Nat.le_mul_of_pos_left B h
      omega
  subst hb0
  refine ⟨fun hp => ?_, fun hp => ?_⟩
  · have : bo = 1 := by omega
    subst this
    rw [Nat.mod_eq_of_lt (by omega)]
    omega
  · subst hp
    have e : 2 * lv xs + bit = lv rs + Lq := by omega
    rw [e, Nat.add_mod_right, Nat.mod_eq_of_lt (by omega)]
set_option maxRecDepth 100000 in
set_option maxHeartbeats 800000 in
theorem next_walk (xs : List Nat) (bit : Nat) (w : World) (hxl : xs.length = 4) (hxw : Words xs) (hx : lv xs < Lq) (hbit : bit ≤ 1) :
    Calls Tryd.prog 51 #[numA xs, .int .u64 (bit : Int)] w (ResNum w ((2 * lv xs + bit) % Lq)) := by
  have EN := next_end xs
  unfold numA
  have hS0 := ((St.init w NoB).alloc (uvs xs).toArray 56).alloc #[.int .u64 0, .int .u64 0, .int .u64 0, .int .u64 0] 56
  have HS0 := hide hS0
  have HXL := hide hxl
  have HXW := hide hxw
  have HEN := hide EN
  have HX := hide hx
  clear hS0 hxl hxw EN hx
  go_enter Tryd.func51, Tryd.ntmps51
  go_wp2_with fail
  go_loopw [1, 8] (fun b i wr => NextRel w w.heap.size [.cells (w.heap.size + 1) #[.int .u64 0, .int .u64 0, .int .u64 0, .int .u64 0] 56] xs bit b i wr) (fun _ i _ => 4 - (intOf i).toNat)
  case atStart =>
    have hS := HS0.out
    simp only [size_alloc1] at hS
    exact ⟨0, bit, xs, by omega, rfl, rfl, hbit, HXL.out, HXW.out, rfl, by simp [lv], hS.swap⟩
  case round =>
    obtain ⟨k, b, cur, hk, rfl, rfl, hb, hcl, hcw, hcd, hval, hS⟩ := hrel
    by_cases hlt : k < 4
    · obtain ⟨x, hx⟩ := lim_get xs HXL.out k hlt
      have hcx : cur[k]? = some x := by
        have := congrArg (·[0]?) hcd
        simpa [List.getElem?_drop, hx] using this
      have hx2 := words_get HXW.out hx
      have hstep := hide (next_step xs cur k b bit x hlt hcl hx hx2 hb hval)
      obtain ⟨_, hd1, hd2⟩ := db_spec x b hx2 hb
      have hS' := hS.drew
      have hHS := hide hS'
      have cn : ∀ z, From wr.drew z → z.cell? ⟨w.heap.size, k, none⟩ = some (.int .u64 (x : Int)) := fun z hz => by
        rw [hz.cell (p := ⟨w.heap.size, k, none⟩) (Chunk.lt (hHS.out.sat 0 _ rfl) rfl), hHS.out.cell 0 rfl k]
        exact uvs_get hcx
      have hor := or_db x b hx2 hb
      have hsh : (x : Int) / 9223372036854775808 = ((dbH x : Nat) : Int) := by unfold dbH; omega
      have D1 := hide hd1
      have HCD := hide hcd
      have HCW := hide hcw
      have HCL := hide hcl
      clear hS hS' hx hcx hx2 hval hd1 hcd hcw hcl
      go_wp2_with fail
      refine wp_region_M (fun i => i == 12) (From wr.drew) (by kernel_rfl) ?_
      (refine wpM_take (i := 0) (v := ?_) rfl (by kernel_rfl) (by kernel_rfl) (by kernel_rfl) (fun _ _ _ h => h) (From.refl _) rfl (by kernel_rfl) (Or.inl ⟨by first | kernel_rfl | rfl, ?_⟩) ?_; rotate_left; (intro wx hx; go_simp) <;> (with_reducible rfl); (try simp only [Act.put, nq1, nq2, nq3, nq4, nq5, nq6])); (refine wpM_take (i := 1) (v := ?_) rfl (by kernel_rfl) (by kernel_rfl) (by kernel_rfl) (fun _ _ _ h => h) (From.refl _) rfl (by kernel_rfl) (Or.inl ⟨by first | kernel_rfl | rfl, ?_⟩) ?_; rotate_left; (intro wx hx; go_simp) <;> (with_reducible rfl); (try simp only [Act.put, nq1, nq2, nq3, nq4, nq5, nq6])); (refine wpM_take (i := 2) (v := ?_) rfl (by kernel_rfl) (by kernel_rfl) (by kernel_rfl) (fun _ _ _ h => h) (From.refl _) rfl (by kernel_rfl) (Or.inl ⟨by first | kernel_rfl | rfl, ?_⟩) ?_; rotate_left; (intro wx hx; go_simp) <;> (with_reducible rfl); (try simp only [Act.put, nq1, nq2, nq3, nq4, nq5, nq6])); (refine wpM_take (i := 3) (v := ?_) rfl (by kernel_rfl) (by kernel_rfl) (by kernel_rfl) (fun _ _ _ h => h) (From.refl _) rfl (by kernel_rfl) (Or.inl ⟨by first | kernel_rfl | rfl, ?_⟩) ?_; rotate_left; (intro wx hx; go_simp) <;> (with_reducible rfl); (try simp only [Act.put, nq1, nq2, nq3, nq4, nq5, nq6])); (refine wpM_take (i := 4) (v := ?_) rfl (by kernel_rfl) (by kernel_rfl) (by kernel_rfl) (fun _ _ _ h => h) (From.refl _) rfl (by kernel_rfl) (Or.inl ⟨by first | kernel_rfl | rfl, ?_⟩) ?_; rotate_left; (intro wx hx; go_simp) <;> (with_reducible rfl); (try simp only [Act.put, nq1, nq2, nq3, nq4, nq5, nq6])); (refine wpM_take (i := 5) (v := ?_) rfl (by kernel_rfl) (by kernel_rfl) (by kernel_rfl) (fun _ _ _ h => h) (From.refl _) rfl (by kernel_rfl) (Or.inl ⟨by first | kernel_rfl | rfl, ?_⟩) ?_; rotate_left; (intro wx hx; go_simp) <;> (with_reducible rfl); (try simp only [Act.put, nq1, nq2, nq3, nq4, nq5, nq6])); (refine wpM_take (i := 6) (v := ?_) rfl (by kernel_rfl) (by kernel_rfl) (by kernel_rfl) (fun _ _ _ h => h) (From.refl _) rfl (by kernel_rfl) (Or.inl ⟨by first | kernel_rfl | rfl, ?_⟩) ?_; rotate_left; (intro wx hx; go_simp) <;> (with_reducible rfl); (try simp only [Act.put, nq1, nq2, nq3, nq4, nq5, nq6]))
      (refine wpM_takeU (i := 7) (v := ?_) rfl (by kernel_rfl) (by kernel_rfl) (by kernel_rfl) (fun _ _ _ h => h) (From.refl _) rfl (Or.inl ⟨by first | kernel_rfl | rfl, ?_⟩) ?_; rotate_left; (intro wx; go_simp) <;> (with_reducible rfl); (try simp only [Act.put, nq1, nq2, nq3, nq4, nq5, nq6]))
      (refine wpM_take (i := 8) (v := ?_) rfl (by kernel_rfl) (by kernel_rfl) (by kernel_rfl) (fun _ _ _ h => h) (From.refl _) rfl (by kernel_rfl) (Or.inl ⟨by first | kernel_rfl | rfl, ?_⟩) ?_; rotate_left; (intro wx hx; go_simp) <;> (with_reducible rfl); (try simp only [Act.put, nq1, nq2, nq3, nq4, nq5, nq6])); (refine wpM_take (i := 9) (v := ?_) rfl (by kernel_rfl) (by kernel_rfl) (by kernel_rfl) (fun _ _ _ h => h) (From.refl _) rfl (by kernel_rfl) (Or.inl ⟨by first | kernel_rfl | rfl, ?_⟩) ?_; rotate_left; (intro wx hx; go_simp) <;> (with_reducible rfl); (try simp only [Act.put, nq1, nq2, nq3, nq4, nq5, nq6]))
      (refine wpM_takeU (i := 10) (v := ?_) rfl (by kernel_rfl) (by kernel_rfl) (by kernel_rfl) (fun _ _ _ h => h) (From.refl _) rfl (Or.inl ⟨by first | kernel_rfl | rfl, ?_⟩) ?_; rotate_left; (intro wx; go_simp) <;> (with_reducible rfl); (try simp only [Act.put, nq1, nq2, nq3, nq4, nq5, nq6])); (refine wpM_takeU (i := 11) (v := ?_) rfl (by kernel_rfl) (by kernel_rfl) (by kernel_rfl) (fun _ _ _ h => h) (From.refl _) rfl (Or.inl ⟨by first | kernel_rfl | rfl, ?_⟩) ?_; rotate_left; (intro wx; go_simp) <;> (with_reducible rfl); (try simp only [Act.put, nq1, nq2, nq3, nq4, nq5, nq6]))
      (refine wpM_late (i := 12) (by kernel_rfl) rfl rfl ?_; intro K hK; (try simp only [Act.put, nq1, nq2, nq3, nq4, nq5, nq6]))
      refine step_store rfl rfl tyU64 hHS.out 0 rfl k (by rw [List.size_toArray, uvs_len, HCL.out]; exact hlt) rfl (v := .int .u64 (dbW x b : Nat)) rfl rfl ?_
      intro w2 hS2
      refine hK _ _ ?_
      clear hK K
      (try simp only [Act.put, nq1, nq2, nq3, nq4, nq5, nq6])
      (refine wpAny_take (i := 13) (v := ?_) rfl (by kernel_rfl) (by kernel_rfl) (by kernel_rfl) (fun _ _ _ h => h) (Or.inl ⟨by first | kernel_rfl | rfl, ?_⟩) ?_; rotate_left; (intro wx; go_simp) <;> (with_reducible rfl); (try simp only [Act.put, nq1, nq2, nq3, nq4, nq5, nq6]))
      refine wpAny_done (by kernel_rfl) ?_ _
      go_wp2_with fail
      go_roundw
      case rel =>
        rw [uvs_set] at hS2
        refine ⟨k + 1, dbH x, cur.set k (dbW x b), by omega, by go_num, rfl, hd2, by rw [List.length_set]; exact HCL.out, words_set HCW.out k _ D1.out, ?_, hstep.out, hS2⟩
        rw [drop_set_succ, ← List.drop_drop, HCD.out, List.drop_drop]
      case measure => simp [intOf]; omega
    · obtain rfl : k = 4 := by omega
      match cur, hcl with
      | [a0, a1, a2, a3], hcl =>
        have hS' : St w NoB wr [.cells w.heap.size #[.int .u64 (a0 : Int), .int .u64 (a1 : Int), .int .u64 (a2 : Int), .int .u64 (a3 : Int)] 56, .cells (w.heap.size + 1) #[.int .u64 0, .int .u64 0, .int .u64 0, .int .u64 0] 56] := hS
        have HV := hide hval
        have HW := hide hcw
        have HCL := hide hcl
        have hz0 : w.heap.size < wr.heap.size := Chunk.lt (hS'.sat 0 _ rfl) rfl
        have hz1 : w.heap.size + 1 < wr.heap.size := Chunk.lt (hS'.sat 1 _ rfl) rfl
        have hz0a : w.heap.size ≤ wr.heap.size := by omega
        have hz0b : w.heap.size < wr.heap.size + 1 := by omega
        clear hS hval hcd hcw hcl
        go_upto_region 6 with fail
        go_cut [6, 7] (fun p q wx => ∃ g6 r0 r1 r2 r3 bo : Nat, p = .pointer (some ⟨g6, 0, none⟩) ∧ q = .bool (decide (0 < bo)) ∧ Words [r0, r1, r2, r3] ∧ bo ≤ 1 ∧ lv [r0, r1, r2, r3] + lv [o0, o1, o2, o3] = lv [a0, a1, a2, a3] + bo * 18446744073709551616 ^ 4 ∧
          St w NoB wx [.cells g6 #[.int .u64 (r0 : Int), .int .u64 (r1 : Int), .int .u64 (r2 : Int), .int .u64 (r3 : Int)] 56, .cells w.heap.size #[.int .u64 (a0 : Int), .int .u64 (a1 : Int), .int .u64 (a2 : Int), .int .u64 (a3 : Int)] 56, .cells (w.heap.size + 1) #[.int .u64 0, .int .u64 0, .int .u64 0, .int .u64 0] 56])
        case first =>
          have hS1 := hS'.drew
          have hSd := hide hS1
          have n0 : ∀ z, From wr.drew z → z.cell? ⟨w.heap.size, 0, none⟩ = some (.int .u64 (a0 : Int)) := fun z hz => by
            rw [hz.cell (p := ⟨w.heap.size, 0, none⟩) (Chunk.lt (hSd.out.sat 0 _ rfl) rfl)]; exact hSd.out.cell 0 rfl 0
          have n1 : ∀ z, From wr.drew z → z.cell? ⟨w.heap.size, 1, none⟩ = some (.int .u64 (a1 : Int)) := fun z hz => by
            rw [hz.cell (p := ⟨w.heap.size, 1, none⟩) (Chunk.lt (hSd.out.sat 0 _ rfl) rfl)]; exact hSd.out.cell 0 rfl 1
          have n2 : ∀ z, From wr.drew z → z.cell? ⟨w.heap.size, 2, none⟩ = some (.int .u64 (a2 : Int)) := fun z hz => by
            rw [hz.cell (p := ⟨w.heap.size, 2, none⟩) (Chunk.lt (hSd.out.sat 0 _ rfl) rfl)]; exact hSd.out.cell 0 rfl 2
          have n3 : ∀ z, From wr.drew z → z.cell? ⟨w.heap.size, 3, none⟩ = some (.int .u64 (a3 : Int)) := fun z hz => by
            rw [hz.cell (p := ⟨w.heap.size, 3, none⟩) (Chunk.lt (hSd.out.sat 0 _ rfl) rfl)]; exact hSd.out.cell 0 rfl 3
          refine wp_region_M (fun i => i == 7) (From wr.drew) (by kernel_rfl) ?_
          (refine wpM_take (i := 0) (v := ?_) rfl (by kernel_rfl) (by kernel_rfl) (by kernel_rfl) (fun _ _ _ h => h) (From.refl _) rfl (by kernel_rfl) (Or.inl ⟨by first | kernel_rfl | rfl, ?_⟩) ?_; rotate_left; (intro wx hx; go_simp) <;> (with_reducible rfl); (try simp only [Act.put, nq1, nq2, nq3, nq4, nq5, nq6]))
          refine wpM_two (i := 1) (j := 6) (by kernel_rfl) rfl rfl rfl rfl ?_ ?_ <;> intro K hK <;> (try simp only [Act.put, nq1, nq2, nq3, nq4, nq5, nq6])
          · refine step_call rfl rfl enOrder rfl (order_any _) ?_
            rintro e w2 ⟨rfl, hb2⟩
            have hS1 := hS1.call hb2
            refine ⟨_, rfl, hK (From w2) _ _ (From.next hb2) (From.refl _) ?_⟩
            clear hK K
            (try simp only [Act.put, nq1, nq2, nq3, nq4, nq5, nq6])
            refine wpM_two (i := 2) (j := 6) (by kernel_rfl) rfl rfl rfl rfl ?_ ?_ <;> intro K hK <;> (try simp only [Act.put, nq1, nq2, nq3, nq4, nq5, nq6])
            · refine step_call rfl rfl enLess rfl (less_any a0 a1 a2 a3 _ _ _ _ _ HW.out ord_words) ?_
              rintro e w3 ⟨r0, r1, r2, r3, bo, hrw, hbo, hrv, rfl, hb3⟩
              have hS1 := hS1.call hb3
              refine ⟨_, rfl, hK (From w3) _ _ (From.next hb3) (From.refl _) ?_⟩
              clear hK K
              (try simp only [Act.put, nq1, nq2, nq3, nq4, nq5, nq6])
              (refine wpM_takeU (i := 3) (v := ?_) rfl (by kernel_rfl) (by kernel_rfl) (by kernel_rfl) (fun _ _ _ h => h) (From.refl _) rfl (Or.inl ⟨by first | kernel_rfl | rfl, ?_⟩) ?_; rotate_left; (intro wx; go_simp) <;> (with_reducible rfl); (try simp only [Act.put, nq1, nq2, nq3, nq4, nq5, nq6])); (refine wpM_takeU (i := 4) (v := ?_) rfl (by kernel_rfl) (by kernel_rfl) (by kernel_rfl) (fun _ _ _ h => h) (From.refl _) rfl (Or.inl ⟨by first | kernel_rfl | rfl, ?_⟩) ?_; rotate_left; (intro wx; go_simp) <;> (with_reducible rfl); (try simp only [Act.put, nq1, nq2, nq3, nq4, nq5, nq6])); (refine wpM_takeU (i := 5) (v := ?_) rfl (by kernel_rfl) (by kernel_rfl) (by kernel_rfl) (fun _ _ _ h => h) (From.refl _) rfl (Or.inl ⟨by first | kernel_rfl | rfl, ?_⟩) ?_; rotate_left; (intro wx; go_simp) <;> (with_reducible rfl); (try simp only [Act.put, nq1, nq2, nq3, nq4, nq5, nq6]))
              (refine wpM_one (i := 6) (by kernel_rfl) rfl rfl ?_; intro K hK; (try simp only [Act.put, nq1, nq2, nq3, nq4, nq5, nq6]))
              refine step_alloc (zs := #[.int .u64 0, .int .u64 0, .int .u64 0, .int .u64 0]) (e := 56) rfl (fun _ => by go_simp) hS1 ?_
              intro g6 wa hS1 hba
              refine hK (From wa) _ _ (From.next hba) (From.refl _) ?_
              clear hK K
              (try simp only [Act.put, nq1, nq2, nq3, nq4, nq5, nq6])
              (refine wpM_late (i := 7) (by kernel_rfl) rfl rfl ?_; intro K hK; (try simp only [Act.put, nq1, nq2, nq3, nq4, nq5, nq6]))
              refine step_storeRow rfl rfl hS1 0 rfl rfl (cs := #[.int .u64 (r0 : Int), .int .u64 (r1 : Int), .int .u64 (r2 : Int), .int .u64 (r3 : Int)]) rfl (by kernel_rfl) rfl (by kernel_rfl) ?_
              intro w5 hS5
              refine hK _ _ ?_
              clear hK K
              (try simp only [Act.put, nq1, nq2, nq3, nq4, nq5, nq6])
              (refine wpAny_take (i := 8) (v := ?_) rfl (by kernel_rfl) (by kernel_rfl) (by kernel_rfl) (fun _ _ _ h => h) (Or.inl ⟨by first | kernel_rfl | rfl, ?_⟩) ?_; rotate_left; (intro wx; go_simp) <;> (with_reducible rfl); (try simp only [Act.put, nq1, nq2, nq3, nq4, nq5, nq6]))
              refine wpAny_done (by kernel_rfl) ?_ _
              go_wp2_with fail
              go_meet
              exact ⟨g6, r0, r1, r2, r3, bo, rfl, rfl, hrw, hbo, hrv, hS5⟩
            · refine step_alloc (zs := #[.int .u64 0, .int .u64 0, .int .u64 0, .int .u64 0]) (e := 56) rfl (fun _ => by go_simp) hS1 ?_
              intro g6 wa hS1 hba
              refine hK (From wa) _ _ (From.next hba) (From.refl _) ?_
              clear hK K
              (try simp only [Act.put, nq1, nq2, nq3, nq4, nq5, nq6])
              (refine wpM_one (i := 2) (by kernel_rfl) rfl rfl ?_; intro K hK; (try simp only [Act.put, nq1, nq2, nq3, nq4, nq5, nq6]))
              refine step_call rfl rfl enLess rfl (less_any a0 a1 a2 a3 _ _ _ _ _ HW.out ord_words) ?_
              rintro e w3 ⟨r0, r1, r2, r3, bo, hrw, hbo, hrv, rfl, hb3⟩
              have hS1 := hS1.call hb3
              refine ⟨_, rfl, hK (From w3) _ _ (From.next hb3) (From.refl _) ?_⟩
              clear hK K
              (try simp only [Act.put, nq1, nq2, nq3, nq4, nq5, nq6])
              (refine wpM_takeU (i := 3) (v := ?_) rfl (by kernel_rfl) (by kernel_rfl) (by kernel_rfl) (fun _ _ _ h => h) (From.refl _) rfl (Or.inl ⟨by first | kernel_rfl | rfl, ?_⟩) ?_; rotate_left; (intro wx; go_simp) <;> (with_reducible rfl); (try simp only [Act.put, nq1, nq2, nq3, nq4, nq5, nq6])); (refine wpM_takeU (i := 4) (v := ?_) rfl (by kernel_rfl) (by kernel_rfl) (by kernel_rfl) (fun _ _ _ h => h) (From.refl _) rfl (Or.inl ⟨by first | kernel_rfl | rfl, ?_⟩) ?_; rotate_left; (intro wx; go_simp) <;> (with_reducible rfl); (try simp only [Act.put, nq1, nq2, nq3, nq4, nq5, nq6])); (refine wpM_takeU (i := 5) (v := ?_) rfl (by kernel_rfl) (by kernel_rfl) (by kernel_rfl) (fun _ _ _ h => h) (From.refl _) rfl (Or.inl ⟨by first | kernel_rfl | rfl, ?_⟩) ?_; rotate_left; (intro wx; go_simp) <;> (with_reducible rfl); (try simp only [Act.put, nq1, nq2, nq3, nq4, nq5, nq6]))
              (refine wpM_late (i := 7) (by kernel_rfl) rfl rfl ?_; intro K hK; (try simp only [Act.put, nq1, nq2, nq3, nq4, nq5, nq6]))
              refine step_storeRow rfl rfl hS1 0 rfl rfl (cs := #[.int .u64 (r0 : Int), .int .u64 (r1 : Int), .int .u64 (r2 : Int), .int .u64 (r3 : Int)]) rfl (by kernel_rfl) rfl (by kernel_rfl) ?_
              intro w5 hS5
              refine hK _ _ ?_
              clear hK K
              (try simp only [Act.put, nq1, nq2, nq3, nq4, nq5, nq6])
              (refine wpAny_take (i := 8) (v := ?_) rfl (by kernel_rfl) (by kernel_rfl) (by kernel_rfl) (fun _ _ _ h => h) (Or.inl ⟨by first | kernel_rfl | rfl, ?_⟩) ?_; rotate_left; (intro wx; go_simp) <;> (with_reducible rfl); (try simp only [Act.put, nq1, nq2, nq3, nq4, nq5, nq6]))
              refine wpAny_done (by kernel_rfl) ?_ _
              go_wp2_with fail
              go_meet
              exact ⟨g6, r0, r1, r2, r3, bo, rfl, rfl, hrw, hbo, hrv, hS5⟩
          · refine step_alloc (zs := #[.int .u64 0, .int .u64 0, .int .u64 0, .int .u64 0]) (e := 56) rfl (fun _ => by go_simp) hS1 ?_
            intro g6 wa hS1 hba
            refine hK (From wa) _ _ (From.next hba) (From.refl _) ?_
            clear hK K
            (try simp only [Act.put, nq1, nq2, nq3, nq4, nq5, nq6])
            (refine wpM_one (i := 1) (by kernel_rfl) rfl rfl ?_; intro K hK; (try simp only [Act.put, nq1, nq2, nq3, nq4, nq5, nq6]))
            refine step_call rfl rfl enOrder rfl (order_any _) ?_
            rintro e w2 ⟨rfl, hb2⟩
            have hS1 := hS1.call hb2
            refine ⟨_, rfl, hK (From w2) _ _ (From.next hb2) (From.refl _) ?_⟩
            clear hK K
            (try simp only [Act.put, nq1, nq2, nq3, nq4, nq5, nq6])
            (refine wpM_one (i := 2) (by kernel_rfl) rfl rfl ?_; intro K hK; (try simp only [Act.put, nq1, nq2, nq3, nq4, nq5, nq6]))
            refine step_call rfl rfl enLess rfl (less_any a0 a1 a2 a3 _ _ _ _ _ HW.out ord_words) ?_
            rintro e w3 ⟨r0, r1, r2, r3, bo, hrw, hbo, hrv, rfl, hb3⟩
            have hS1 := hS1.call hb3
            refine ⟨_, rfl, hK (From w3) _ _ (From.next hb3) (From.refl _) ?_⟩
            clear hK K
            (try simp only [Act.put, nq1, nq2, nq3, nq4, nq5, nq6])
            (refine wpM_takeU (i := 3) (v := ?_) rfl (by kernel_rfl) (by kernel_rfl) (by kernel_rfl) (fun _ _ _ h => h) (From.refl _) rfl (Or.inl ⟨by first | kernel_rfl | rfl, ?_⟩) ?_; rotate_left; (intro wx; go_simp) <;> (with_reducible rfl); (try simp only [Act.put, nq1, nq2, nq3, nq4, nq5, nq6])); (refine wpM_takeU (i := 4) (v := ?_) rfl (by kernel_rfl) (by kernel_rfl) (by kernel_rfl) (fun _ _ _ h => h) (From.refl _) rfl (Or.inl ⟨by first | kernel_rfl | rfl, ?_⟩) ?_; rotate_left; (intro wx; go_simp) <;> (with_reducible rfl); (try simp only [Act.put, nq1, nq2, nq3, nq4, nq5, nq6])); (refine wpM_takeU (i := 5) (v := ?_) rfl (by kernel_rfl) (by kernel_rfl) (by kernel_rfl) (fun _ _ _ h => h) (From.refl _) rfl (Or.inl ⟨by first | kernel_rfl | rfl, ?_⟩) ?_; rotate_left; (intro wx; go_simp) <;> (with_reducible rfl); (try simp only [Act.put, nq1, nq2, nq3, nq4, nq5, nq6]))
            (refine wpM_late (i := 7) (by kernel_rfl) rfl rfl ?_; intro K hK; (try simp only [Act.put, nq1, nq2, nq3, nq4, nq5, nq6]))
            refine step_storeRow rfl rfl hS1 0 rfl rfl (cs := #[.int .u64 (r0 : Int), .int .u64 (r1 : Int), .int .u64 (r2 : Int), .int .u64 (r3 : Int)]) rfl (by kernel_rfl) rfl (by kernel_rfl) ?_
            intro w5 hS5
            refine hK _ _ ?_
            clear hK K
            (try simp only [Act.put, nq1, nq2, nq3, nq4, nq5, nq6])
            (refine wpAny_take (i := 8) (v := ?_) rfl (by kernel_rfl) (by kernel_rfl) (by kernel_rfl) (fun _ _ _ h => h) (Or.inl ⟨by first | kernel_rfl | rfl, ?_⟩) ?_; rotate_left; (intro wx; go_simp) <;> (with_reducible rfl); (try simp only [Act.put, nq1, nq2, nq3, nq4, nq5, nq6]))
            refine wpAny_done (by kernel_rfl) ?_ _
            go_wp2_with fail
            go_meet
            exact ⟨g6, r0, r1, r2, r3, bo, rfl, rfl, hrw, hbo, hrv, hS5⟩
        case rest =>
          obtain ⟨g6, r0, r1, r2, r3, bo, rfl, rfl, hrw, hbo, hrv, hS6⟩ := hcut
          obtain ⟨hE1, hE2⟩ := HEN.out [a0, a1, a2, a3] [r0, r1, r2, r3] b bo bit HX.out hbit HW.out HCL.out hrw rfl (by
            have := HV.out
            rw [List.take_of_length_le (by simp), List.take_of_length_le (by rw [HXL.out]; omega)] at this
            exact this) (by rw [← lv_ord]; exact hrv) hbo
          have HE1 := hide hE1
          have HE2 := hide hE2
          have HRW := hide hrw
          have hne : g6 ≠ w.heap.size + 1 := fun h => hS6.apart 0 2 _ _ g6 (by omega) rfl rfl rfl (by rw [h]; rfl)
          have hne2 : w.heap.size ≠ w.heap.size + 1 := by omega
          clear hE1 hE2 hrv hrw
          by_cases hbo0 : bo = 0
          · subst hbo0
            have qr0 : wc.cell? ⟨g6, 0, none⟩ = some (.int .u64 (r0 : Int)) := hS6.cell 0 rfl 0
            have qr1 : wc.cell? ⟨g6, 1, none⟩ = some (.int .u64 (r1 : Int)) := hS6.cell 0 rfl 1
            have qr2 : wc.cell? ⟨g6, 2, none⟩ = some (.int .u64 (r2 : Int)) := hS6.cell 0 rfl 2
            have qr3 : wc.cell? ⟨g6, 3, none⟩ = some (.int .u64 (r3 : Int)) := hS6.cell 0 rfl 3
            have z0 : wc.cell? ⟨w.heap.size + 1, 0, none⟩ = some (.int .u64 0) := hS6.cell 2 rfl 0
            have z1 : wc.cell? ⟨w.heap.size + 1, 1, none⟩ = some (.int .u64 0) := hS6.cell 2 rfl 1
            have z2 : wc.cell? ⟨w.heap.size + 1, 2, none⟩ = some (.int .u64 0) := hS6.cell 2 rfl 2
            have z3 : wc.cell? ⟨w.heap.size + 1, 3, none⟩ = some (.int .u64 0) := hS6.cell 2 rfl 3
            have f0 := hS6.free 2 rfl 0
            have f1 := hS6.free 2 rfl 1
            have f2 := hS6.free 2 rfl 2
            have f3 := hS6.free 2 rfl 3
            have HS := hide ((((hS6.setCell 2 rfl 0 (.int .u64 (r0 : Int))).setCell 2 rfl 1 (.int .u64 (r1 : Int))).setCell 2 rfl 2 (.int .u64 (r2 : Int))).setCell 2 rfl 3 (.int .u64 (r3 : Int)))
            clear hS6
            go_wp2_with fail
            refine bodyPost_ret (results_cell_row rfl _ _ (w.heap.size + 1) _ _ _ _ rfl (HS.out.heap 2 rfl) Tryd.underlying56 rfl (by kernel_rfl)) rfl ?_
            exact ⟨[r0, r1, r2, r3], rfl, HRW.out, HE2.out (by trivial), rfl, HS.out.below⟩
          · have hdb : decide (0 < bo) = true := by simp; omega
            have qa0 : wc.cell? ⟨w.heap.size, 0, none⟩ = some (.int .u64 (a0 : Int)) := hS6.cell 1 rfl 0
            have qa1 : wc.cell? ⟨w.heap.size, 1, none⟩ = some (.int .u64 (a1 : Int)) := hS6.cell 1 rfl 1
            have qa2 : wc.cell? ⟨w.heap.size, 2, none⟩ = some (.int .u64 (a2 : Int)) := hS6.cell 1 rfl 2
            have qa3 : wc.cell? ⟨w.heap.size, 3, none⟩ = some (.int .u64 (a3 : Int)) := hS6.cell 1 rfl 3
            have z0 : wc.cell? ⟨w.heap.size + 1, 0, none⟩ = some (.int .u64 0) := hS6.cell 2 rfl 0
            have z1 : wc.cell? ⟨w.heap.size + 1, 1, none⟩ = some (.int .u64 0) := hS6.cell 2 rfl 1
            have z2 : wc.cell? ⟨w.heap.size + 1, 2, none⟩ = some (.int .u64 0) := hS6.cell 2 rfl 2
            have z3 : wc.cell? ⟨w.heap.size + 1, 3, none⟩ = some (.int .u64 0) := hS6.cell 2 rfl 3
            have f0 := hS6.free 2 rfl 0
            have f1 := hS6.free 2 rfl 1
            have f2 := hS6.free 2 rfl 2
            have f3 := hS6.free 2 rfl 3
            have HS := hide ((((hS6.setCell 2 rfl 0 (.int .u64 (a0 : Int))).setCell 2 rfl 1 (.int .u64 (a1 : Int))).setCell 2 rfl 2 (.int .u64 (a2 : Int))).setCell 2 rfl 3 (.int .u64 (a3 : Int)))
            clear hS6
            go_wp2_with fail
            refine bodyPost_ret (results_cell_row rfl _ _ (w.heap.size + 1) _ _ _ _ rfl (HS.out.heap 2 rfl) Tryd.underlying56 rfl (by kernel_rfl)) rfl ?_
            exact ⟨[a0, a1, a2, a3], rfl, HW.out, HE1.out (by omega), rfl, HS.out.below⟩
end Go.Proofs.YtkelegjppnfoaaaDoor.S3

/-
  The walks of layer 3: words as bytes.
-/
namespace Go.Proofs.YtkelegjppnfoaaaDoor.S3
open Go.RowKit

theorem tyB : RowTy Tryd.prog 22 5 1 1 := rowTy_of (z := .int .u8 0) Tryd.underlying22 (by kernel_rfl) rfl (by decide)
theorem bvs_snoc (l : List UInt8) (m : Nat) (h : m < 256) : bvs (l ++ [UInt8.ofNat m]) = bvs l ++ [.int .u8 (m : Int)] := by
  simp only [bvs, List.map_append, List.map_cons, List.map_nil, bv, UInt8.toNat_ofNat']
  rw [Nat.mod_eq_of_lt (by omega)]
def SpRel (w : World) (xs : List Nat) (v i : Value) (wr : World) : Prop :=
  ∃ (k : Nat) (B : Option Addr) (d : Nat) (l : List UInt8), k ≤ xs.length ∧ i = .int .i64 (k : Int) ∧ v = .slice B l.length d ∧ l = spB (xs.take k) ∧ St w NoB wr [.row (.slice B l.length d) 5 1 l.length (bvs l)]
def SpRel2 (w : World) (T : List UInt8) (v x i : Value) (wr : World) : Prop :=
  ∃ (j f y : Nat) (B : Option Addr) (d : Nat) (l : List UInt8), i = .int .i64 (j : Int) ∧ x = .int .u64 (y : Int) ∧ j + f = 8 ∧ v = .slice B l.length d ∧ l ++ leB f y = T ∧ St w NoB wr [.row (.slice B l.length d) 5 1 l.length (bvs l)]
set_option maxRecDepth 100000 in
set_option maxHeartbeats 800000 in
theorem spelt_walk (A : Option Addr) (n c : Nat) (xs : List Nat) (w : World) (hn : xs.length = n) (hn2 : n ≤ 100) (hr : Rd w (.slice A n c) 1 n (uvs xs)) :
    Calls Tryd.prog 39 #[.slice A n c] w (ResB 5 w (spB xs)) := by
  have HN := hide hn
  have HR := hide hr
  have HS0 := hide ((St.init w NoB).row (Below.refl _ _) (World.ownsRow_nil _ _ 5 1))
  clear hn hr
  go_enter Tryd.func39, Tryd.ntmps39
  go_wp2_with fail
  go_loopw [3, 8] (fun v i wr => SpRel w xs v i wr) (fun _ i _ => n - (intOf i).toNat)
  case atStart => exact ⟨0, none, 0, [], by omega, rfl, rfl, rfl, HS0.out⟩
  case round =>
    obtain ⟨k, B, d, l, hk, rfl, rfl, hl, hS⟩ := hrel
    rw [HN.out] at hk
    by_cases hlt : k < n
    · obtain ⟨x, hx⟩ : ∃ x, xs[k]? = some x := ⟨xs[k]'(by rw [HN.out]; exact hlt), List.getElem?_eq_getElem _⟩
      rcases HR.out.cases with ⟨_, h0, _⟩ | ⟨b, o, sp, c', hA, hb, _, _, _, hsp, hc⟩
      · omega
      injection hA with hA1 _ hA3
      subst hA1 hA3
      obtain rfl : sp = none := hsp (by omega)
      replace hb := hb (by omega)
      have hcx : wr.cell? ⟨b, o + k, none⟩ = some (.int .u64 (x : Int)) := by
        rw [hS.below.cell (p := ⟨b, o + k, none⟩) hb]
        exact hc k _ (by simp only [uvs, List.getElem?_map, hx]; rfl)
      have hT := spB_take xs k x hx
      rw [← hl] at hT
      have HT := hide hT
      have hll : l.length = 8 * k := by rw [hl, spB_len, List.length_take, HN.out]; omega
      have HLL := hide hll
      have HSK := hide hS
      clear hS hT hl hx hc hsp hll
      go_wp2_with fail
      go_loopw [3, 5, 12] (fun v x i wr => SpRel2 w (spB (xs.take (k + 1))) v x i wr) (fun _ _ i _ => 8 - (intOf i).toNat)
      case atStart => exact ⟨0, 8, x, B, d, l, rfl, rfl, rfl, rfl, HT.out.symm, HSK.out⟩
      case round =>
        obtain ⟨j, f, y, B2, d2, l2, rfl, rfl, hjf, rfl, hl2, hS2⟩ := hrel
        have HL2 := hide hl2
        have hbd : l2.length ≤ 8 * k + 8 := by
          have := congrArg List.length hl2
          rw [spB_len, List.length_append, List.length_take, HN.out] at this
          omega
        clear hl2 HSK
        by_cases hj : j < 8
        · go_wp2_with (at_builtin; refine wl_append1 rfl rfl tyB hS2 0 rfl rfl (us := [_]) rfl rfl ?_ ?_ (by decide) ?_; (intro u hu; simp only [List.mem_singleton] at hu; subst hu; rfl); (simp only [List.length_singleton]; omega); intro B3 d3 w3 hS3)
          go_roundw
          case rel =>
            cases f with
            | zero => omega
            | succ f =>
              refine ⟨j + 1, f, y / 256, B3, d3, l2 ++ [UInt8.ofNat (y % 256)], by go_num, by simp, by omega, by simp, ?_, ?_⟩
              · rw [← HL2.out]
                simp [leB]
              · rw [bvs_snoc _ _ (by omega), List.length_append, List.length_singleton]
                exact hS3
          case measure => simp [intOf]; omega
        · obtain rfl : f = 0 := by omega
          have h8 : j = 8 := by omega
          subst h8
          have hfin := HL2.out
          simp only [leB, List.append_nil] at hfin
          have HFIN := hide hfin
          clear hfin
          go_wp2_with fail
          go_roundw
          case rel => exact ⟨k + 1, B2, d2, l2, by rw [HN.out]; omega, by go_num, rfl, HFIN.out, hS2⟩
          case measure => simp [intOf]; omega
    · obtain rfl : k = n := by omega
      have hfin : l = spB xs := by rw [hl, ← HN.out, List.take_length]
      have HFIN := hide hfin
      clear hl hfin
      go_wp2_with fail
      go_ret
      exact resB_of hS 0 rfl (by rw [HFIN.out])
set_option maxRecDepth 100000 in
set_option maxHeartbeats 800000 in
theorem bytes_walk (a0 a1 a2 a3 : Nat) (w : World) (ha : Words [a0, a1, a2, a3]) :
    Calls Tryd.prog 52 #[.agg #[.int .u64 (a0 : Int), .int .u64 (a1 : Int), .int .u64 (a2 : Int), .int .u64 (a3 : Int)]] w (ResB 5 w (leB 32 (lv [a0, a1, a2, a3]))) := by
  have e : leB 32 (lv [a0, a1, a2, a3]) = spB [a0, a1, a2, a3] := (spB_eq _ ha).symm
  rw [e]
  have S := fun w1 => spelt_walk (some ⟨w.heap.size, 0, none⟩) 4 4 [a0, a1, a2, a3] w1 rfl (by omega)
  have HS0 := hide ((St.init w NoB).alloc (uvs [a0, a1, a2, a3]).toArray 56)
  have HS := hide S
  clear S e ha
  go_enter Tryd.func52, Tryd.ntmps52
  go_wp2_with (go_at_call 39; refine (HS.out _ (rd_cells HS0.out 0 rfl 4 (by rfl) (by decide))).mono ?_; rintro e w2 ⟨B, d, rfl, hb, ho⟩)
  go_ret
  exact ⟨B, d, rfl, ((Below.refl _ _).alloc (Nat.le_refl _) _).trans (hb.mono (by simp)), ho.base_le (by simp)⟩
end Go.Proofs.YtkelegjppnfoaaaDoor.S3

/-
  The walks of layer 3: the number of 32 bytes; is it below the order?
-/
namespace Go.Proofs.YtkelegjppnfoaaaDoor.S3
open Go.RowKit

theorem enFrom (args : Array Value) (w : World) : (callFunc 36 args).run Tryd.prog w = .ok (.enter 36 args) w := by kernel_rfl
theorem pow_split (i : Nat) : 256 ^ i = 18446744073709551616 ^ (i / 8) * 256 ^ (i % 8) := by
  rw [show (18446744073709551616 : Nat) = 256 ^ 8 from by decide, ← Nat.pow_mul, ← Nat.pow_add]
  congr 1
  omega
/-- The word that a byte goes into is below the byte's place. -/
theorem from_word (cur : List Nat) (i x : Nat) (hx : cur[i / 8]? = some x) (hv : lv cur < 256 ^ i) : x < 256 ^ (i % 8) := by
  have h1 := lv_get_le cur (i / 8) x hx
  have h2 := pow_split i
  rw [h2] at hv
  have h3 : x * 18446744073709551616 ^ (i / 8) < 256 ^ (i % 8) * 18446744073709551616 ^ (i / 8) := by rw [Nat.mul_comm (256 ^ (i % 8))]; omega
  exact Nat.lt_of_mul_lt_mul_right h3
theorem from_lt (x c i : Nat) (hx : x < 256 ^ (i % 8)) (hc : c < 256) : x + c * 256 ^ (i % 8) < 18446744073709551616 := by
  have h8 : i % 8 < 8 := Nat.mod_lt _ (by omega)
  have h1 : c * 256 ^ (i % 8) + 256 ^ (i % 8) ≤ 256 ^ (i % 8 + 1) := by
    rw [Nat.pow_succ, ← Nat.succ_mul, Nat.mul_comm (256 ^ (i % 8))]
    exact Nat.mul_le_mul_right _ (by omega)
  have h2 : 256 ^ (i % 8 + 1) ≤ 256 ^ 8 := Nat.pow_le_pow_right (by omega) (by omega)
  have h3 : (256 : Nat) ^ 8 = 18446744073709551616 := by decide
  omega
theorem from_step (cur : List Nat) (l : List UInt8) (i x : Nat) (c : UInt8) (hx : cur[i / 8]? = some x) (hc : l[i]? = some c) (hv : lv cur = bval (l.take i)) :
    lv (cur.set (i / 8) (x + c.toNat * 256 ^ (i % 8))) = bval (l.take (i + 1)) := by
  have h1 := lv_set cur (i / 8) x (x + c.toNat * 256 ^ (i % 8)) hx
  rw [bval_take hc, pow_split i, ← hv]
  rw [Nat.add_mul] at h1
  rw [show c.toNat * 256 ^ (i % 8) * 18446744073709551616 ^ (i / 8) = c.toNat * (18446744073709551616 ^ (i / 8) * 256 ^ (i % 8)) from by rw [Nat.mul_assoc, Nat.mul_comm (256 ^ (i % 8))]] at h1
  omega
theorem from_or (x c i : Nat) (hx : x < 256 ^ (i % 8)) (hc : c < 256) :
    bits .or .u64 (x : Int) (IntKind.u64.wrap ((c : Int) * 2 ^ (i % 8 * 8))) = ((x + c * 256 ^ (i % 8) : Nat) : Int) := by
  have hlt := from_lt x c i hx hc
  have e2 : (2 : Nat) ^ (i % 8 * 8) = 256 ^ (i % 8) := by rw [Nat.mul_comm, Nat.pow_mul]
  have e : IntKind.u64.wrap ((c : Int) * 2 ^ (i % 8 * 8)) = ((c * 256 ^ (i % 8) : Nat) : Int) := by
    rw [show ((c : Int) * 2 ^ (i % 8 * 8)) = ((c * 2 ^ (i % 8 * 8) : Nat) : Int) from by simp, e2, IntKind.wrap_u64]
    omega
  rw [e, u64_or_nat _ _ (by omega) (by omega), Nat.or_comm]
  have := nat_join (i % 8 * 8) (c * 256 ^ (i % 8)) x (by rw [e2]; exact Nat.mul_mod_left _ _) (by rw [e2]; exact hx)
  rw [this, Nat.add_comm]

def FromRel (w : World) (g : Nat) (H : List Chunk) (l : List UInt8) (i : Value) (wr : World) : Prop :=
  ∃ (k : Nat) (cur : List Nat), k ≤ 32 ∧ i = .int .i64 (k : Int) ∧ cur.length = 4 ∧ Words cur ∧ lv cur = bval (l.take k) ∧ St w NoB wr (.cells g (uvs cur).toArray 56 :: H)
def ResFrom (w : World) (l : List UInt8) (e : Ending) (w' : World) : Prop :=
  ∃ a0 a1 a2 a3 : Nat, Words [a0, a1, a2, a3] ∧ lv [a0, a1, a2, a3] = bval l ∧ e = .returned (.agg #[.int .u64 (a0 : Int), .int .u64 (a1 : Int), .int .u64 (a2 : Int), .int .u64 (a3 : Int)]) ∧ Below w.heap.size w w'
set_option maxRecDepth 100000 in
set_option maxHeartbeats 800000 in
theorem from_walk (A : Option Addr) (c : Nat) (l : List UInt8) (w : World) (hl : l.length = 32) (hr : Rd w (.slice A 32 c) 1 32 (bvs l)) :
    Calls Tryd.prog 36 #[.slice A 32 c] w (ResFrom w l) := by
  rcases hr.cases with ⟨_, h0, _⟩ | ⟨b, o, sp, c', hA, hb, hnc, hcm, _, hsp, hc⟩
  · omega
  injection hA with hA1 _ hA3
  subst hA1 hA3
  obtain rfl : sp = none := hsp (by omega)
  replace hb := hb (by omega)
  have HC := hide hc
  have HL := hide hl
  have HS0 := hide (((St.init w NoB).alloc #[.int .u64 0, .int .u64 0, .int .u64 0, .int .u64 0] 56).alloc #[.int .u64 0, .int .u64 0, .int .u64 0, .int .u64 0] 56)
  clear hr hc hl hsp
  unfold maxLen at hcm
  go_enter Tryd.func36, Tryd.ntmps36
  go_wp2_with fail
  go_loopw [9] (fun i wr => FromRel w (w.heap.size + 1) [.cells w.heap.size #[.int .u64 0, .int .u64 0, .int .u64 0, .int .u64 0] 56] l i wr) (fun i _ => 32 - (intOf i).toNat)
  case atStart =>
    have hS := HS0.out
    simp only [size_alloc1] at hS
    exact ⟨0, [0, 0, 0, 0], by omega, rfl, rfl, by unfold Words; decide, rfl, hS⟩
  case round =>
    obtain ⟨k, cur, hk, rfl, hcl, hcw, hval, hS⟩ := hrel
    by_cases hlt : k < 32
    · obtain ⟨x, hx⟩ := lim_get cur hcl (k / 8) (by omega)
      obtain ⟨ch, hch⟩ : ∃ ch, l[k]? = some ch := ⟨l[k]'(by rw [HL.out]; exact hlt), List.getElem?_eq_getElem _⟩
      have hvl : lv cur < 256 ^ k := by
        rw [hval]
        have := bval_lt (l.take k)
        rwa [List.length_take, HL.out, Nat.min_eq_left (by omega)] at this
      have hxw := from_word cur k x hx hvl
      have hch2 := UInt8.toNat_lt ch
      have hor := from_or x ch.toNat k hxw hch2
      have hlt2 := from_lt x ch.toNat k hxw hch2
      have hstep := hide (from_step cur l k x ch hx hch hval)
      obtain ⟨y, hy⟩ : ∃ y, y = x + ch.toNat * 256 ^ (k % 8) := ⟨_, rfl⟩
      rw [← hy] at hor hlt2 hstep
      have hS' := hS.drew
      have hHS := hide hS'
      have hcb : wr.cell? ⟨b, o + k, none⟩ = some (.int .u8 (ch.toNat : Int)) := by
        rw [hS.below.cell (p := ⟨b, o + k, none⟩) hb]
        exact HC.out k _ (by simp only [bvs, List.getElem?_map, hch]; rfl)
      obtain ⟨cn, hcn⟩ : ∃ cn, cn = ch.toNat := ⟨_, rfl⟩
      rw [← hcn] at hor hcb hch2
      have cx : ∀ z, From wr.drew z → z.cell? ⟨w.heap.size + 1, k / 8, none⟩ = some (.int .u64 (x : Int)) := fun z hz => by
        rw [hz.cell (p := ⟨w.heap.size + 1, k / 8, none⟩) (Chunk.lt (hHS.out.sat 0 _ rfl) rfl), hHS.out.cell 0 rfl (k / 8)]
        exact uvs_get hx
      obtain ⟨q, hq⟩ : ∃ q, q = k / 8 := ⟨_, rfl⟩
      obtain ⟨r, hr⟩ : ∃ r, r = k % 8 * 8 := ⟨_, rfl⟩
      have hq4 : q < 4 := by omega
      have htd : (k : Int).tdiv 8 = (q : Int) := by rw [Int.tdiv_eq_ediv_of_nonneg (by omega)]; omega
      have htm : (k : Int).tmod 8 = ((k % 8 : Nat) : Int) := by rw [Int.tmod_eq_emod_of_nonneg (by omega)]; omega
      have hwr : IntKind.i64.wrap ((k : Int).tmod 8 * 8) = (r : Int) := by rw [htm, IntKind.wrap_i64]; omega
      have hwc : IntKind.u64.wrap (cn : Int) = (cn : Int) := by rw [IntKind.wrap_u64]; omega
      have hr64 : r < 64 := by omega
      have hq4i : (q : Int) < 4 := by omega
      have hr64i : (r : Int) < 64 := by omega
      have hwq : IntKind.i64.wrap (q : Int) = (q : Int) := by rw [IntKind.wrap_i64]; omega
      have hwr2 : IntKind.i64.wrap (r : Int) = (r : Int) := by rw [IntKind.wrap_i64]; omega
      rw [← hr] at hor
      rw [← hq] at cx hstep
      clear htm
      have D1 := hide hlt2
      have HCW := hide hcw
      have HCL := hide hcl
      have HQ := hide hq
      have HR := hide hr
      clear hS hS' hx hxw hval hcw hcl hvl hlt2 hy hcn hch hq hr
      go_wp2_with fail
      refine wp_region_M (fun i => i == 12) (From wr.drew) (by kernel_rfl) ?_
      (refine wpM_takeU (i := 0) (v := ?_) rfl (by kernel_rfl) (by kernel_rfl) (by kernel_rfl) (fun _ _ _ h => h) (From.refl _) rfl (Or.inl ⟨by first | kernel_rfl | rfl, ?_⟩) ?_; rotate_left; (intro wx; go_simp) <;> (with_reducible rfl); (try simp only [Act.put, nq1, nq2, nq3, nq4, nq5, nq6])); (refine wpM_takeU (i := 1) (v := ?_) rfl (by kernel_rfl) (by kernel_rfl) (by kernel_rfl) (fun _ _ _ h => h) (From.refl _) rfl (Or.inl ⟨by first | kernel_rfl | rfl, ?_⟩) ?_; rotate_left; (intro wx; go_simp) <;> (with_reducible rfl); (try simp only [Act.put, nq1, nq2, nq3, nq4, nq5, nq6]))
      (refine wpM_take (i := 2) (v := ?_) rfl (by kernel_rfl) (by kernel_rfl) (by kernel_rfl) (fun _ _ _ h => h) (From.refl _) rfl (by kernel_rfl) (Or.inl ⟨by first | kernel_rfl | rfl, ?_⟩) ?_; rotate_left; (intro wx hx; go_simp) <;> (with_reducible rfl); (try simp only [Act.put, nq1, nq2, nq3, nq4, nq5, nq6])); (refine wpM_take (i := 3) (v := ?_) rfl (by kernel_rfl) (by kernel_rfl) (by kernel_rfl) (fun _ _ _ h => h) (From.refl _) rfl (by kernel_rfl) (Or.inl ⟨by first | kernel_rfl | rfl, ?_⟩) ?_; rotate_left; (intro wx hx; go_simp) <;> (with_reducible rfl); (try simp only [Act.put, nq1, nq2, nq3, nq4, nq5, nq6]))
      (refine wpM_takeU (i := 4) (v := ?_) rfl (by kernel_rfl) (by kernel_rfl) (by kernel_rfl) (fun _ _ _ h => h) (From.refl _) rfl (Or.inl ⟨by first | kernel_rfl | rfl, ?_⟩) ?_; rotate_left; (intro wx; go_simp) <;> (with_reducible rfl); (try simp only [Act.put, nq1, nq2, nq3, nq4, nq5, nq6])); (refine wpM_takeU (i := 5) (v := ?_) rfl (by kernel_rfl) (by kernel_rfl) (by kernel_rfl) (fun _ _ _ h => h) (From.refl _) rfl (Or.inl ⟨by first | kernel_rfl | rfl, ?_⟩) ?_; rotate_left; (intro wx; go_simp) <;> (with_reducible rfl); (try simp only [Act.put, nq1, nq2, nq3, nq4, nq5, nq6])); (refine wpM_takeU (i := 6) (v := ?_) rfl (by kernel_rfl) (by kernel_rfl) (by kernel_rfl) (fun _ _ _ h => h) (From.refl _) rfl (Or.inl ⟨by first | kernel_rfl | rfl, ?_⟩) ?_; rotate_left; (intro wx; go_simp) <;> (with_reducible rfl); (try simp only [Act.put, nq1, nq2, nq3, nq4, nq5, nq6])); (refine wpM_takeU (i := 7) (v := ?_) rfl (by kernel_rfl) (by kernel_rfl) (by kernel_rfl) (fun _ _ _ h => h) (From.refl _) rfl (Or.inl ⟨by first | kernel_rfl | rfl, ?_⟩) ?_; rotate_left; (intro wx; go_simp) <;> (with_reducible rfl); (try simp only [Act.put, nq1, nq2, nq3, nq4, nq5, nq6])); (refine wpM_takeU (i := 8) (v := ?_) rfl (by kernel_rfl) (by kernel_rfl) (by kernel_rfl) (fun _ _ _ h => h) (From.refl _) rfl (Or.inl ⟨by first | kernel_rfl | rfl, ?_⟩) ?_; rotate_left; (intro wx; go_simp) <;> (with_reducible rfl); (try simp only [Act.put, nq1, nq2, nq3, nq4, nq5, nq6])); (refine wpM_takeU (i := 9) (v := ?_) rfl (by kernel_rfl) (by kernel_rfl) (by kernel_rfl) (fun _ _ _ h => h) (From.refl _) rfl (Or.inl ⟨by first | kernel_rfl | rfl, ?_⟩) ?_; rotate_left; (intro wx; go_simp) <;> (with_reducible rfl); (try simp only [Act.put, nq1, nq2, nq3, nq4, nq5, nq6])); (refine wpM_takeU (i := 10) (v := ?_) rfl (by kernel_rfl) (by kernel_rfl) (by kernel_rfl) (fun _ _ _ h => h) (From.refl _) rfl (Or.inl ⟨by first | kernel_rfl | rfl, ?_⟩) ?_; rotate_left; (intro wx; go_simp) <;> (with_reducible rfl); (try simp only [Act.put, nq1, nq2, nq3, nq4, nq5, nq6])); (refine wpM_takeU (i := 11) (v := ?_) rfl (by kernel_rfl) (by kernel_rfl) (by kernel_rfl) (fun _ _ _ h => h) (From.refl _) rfl (Or.inl ⟨by first | kernel_rfl | rfl, ?_⟩) ?_; rotate_left; (intro wx; go_simp) <;> (with_reducible rfl); (try simp only [Act.put, nq1, nq2, nq3, nq4, nq5, nq6]))
      (refine wpM_late (i := 12) (by kernel_rfl) rfl rfl ?_; intro K hK; (try simp only [Act.put, nq1, nq2, nq3, nq4, nq5, nq6]))
      refine step_store rfl rfl tyU64 hHS.out 0 rfl q (by rw [List.size_toArray, uvs_len, HCL.out]; exact hq4) rfl (v := .int .u64 (y : Int)) rfl rfl ?_
      intro w2 hS2
      refine hK _ _ ?_
      clear hK K
      (try simp only [Act.put, nq1, nq2, nq3, nq4, nq5, nq6])
      refine wpAny_done (by kernel_rfl) ?_ _
      go_wp2_with fail
      go_roundw
      case rel =>
        rw [uvs_set] at hS2
        exact ⟨k + 1, cur.set q y, by omega, by go_num, by rw [List.length_set]; exact HCL.out, words_set HCW.out q _ D1.out, hstep.out, hS2⟩
      case measure => simp [intOf]; omega
    · obtain rfl : k = 32 := by omega
      match cur, hcl with
      | [a0, a1, a2, a3], _ =>
        have hS' : St w NoB wr [.cells (w.heap.size + 1) #[.int .u64 (a0 : Int), .int .u64 (a1 : Int), .int .u64 (a2 : Int), .int .u64 (a3 : Int)] 56, .cells w.heap.size #[.int .u64 0, .int .u64 0, .int .u64 0, .int .u64 0] 56] := hS
        have n0 : wr.cell? ⟨w.heap.size + 1, 0, none⟩ = some (.int .u64 (a0 : Int)) := hS'.cell 0 rfl 0
        have n1 : wr.cell? ⟨w.heap.size + 1, 1, none⟩ = some (.int .u64 (a1 : Int)) := hS'.cell 0 rfl 1
        have n2 : wr.cell? ⟨w.heap.size + 1, 2, none⟩ = some (.int .u64 (a2 : Int)) := hS'.cell 0 rfl 2
        have n3 : wr.cell? ⟨w.heap.size + 1, 3, none⟩ = some (.int .u64 (a3 : Int)) := hS'.cell 0 rfl 3
        have r0 : wr.cell? ⟨w.heap.size, 0, none⟩ = some (.int .u64 0) := hS'.cell 1 rfl 0
        have r1 : wr.cell? ⟨w.heap.size, 1, none⟩ = some (.int .u64 0) := hS'.cell 1 rfl 1
        have r2 : wr.cell? ⟨w.heap.size, 2, none⟩ = some (.int .u64 0) := hS'.cell 1 rfl 2
        have r3 : wr.cell? ⟨w.heap.size, 3, none⟩ = some (.int .u64 0) := hS'.cell 1 rfl 3
        have f0 := hS'.free 1 rfl 0
        have f1 := hS'.free 1 rfl 1
        have f2 := hS'.free 1 rfl 2
        have f3 := hS'.free 1 rfl 3
        have HS := hide ((((hS'.setCell 1 rfl 0 (.int .u64 (a0 : Int))).setCell 1 rfl 1 (.int .u64 (a1 : Int))).setCell 1 rfl 2 (.int .u64 (a2 : Int))).setCell 1 rfl 3 (.int .u64 (a3 : Int)))
        have HV := hide hval
        have HW := hide hcw
        clear hS hS' hval hcw
        go_wp2_with fail
        refine bodyPost_ret (results_cell_row rfl _ _ w.heap.size _ _ _ _ rfl (HS.out.heap 1 rfl) Tryd.underlying56 rfl (by kernel_rfl)) rfl ?_
        exact ⟨a0, a1, a2, a3, HW.out, by rw [HV.out, ← HL.out, List.take_length], rfl, HS.out.below⟩
end Go.Proofs.YtkelegjppnfoaaaDoor.S3

/-
  The walks of layer 3: May, Reduce.
-/
namespace Go.Proofs.YtkelegjppnfoaaaDoor.S3
open Go.RowKit

/-- A number that is told: below the order or not. -/
def mayS (l : List UInt8) : Bool := decide (l.length = 32) && decide (bval l < Lq)
theorem less_bit (a r : List Nat) (bo : Nat) (hr : Words r) (hrl : r.length = 4) (hbo : bo ≤ 1) (ha : lv a < 18446744073709551616 ^ 4) (h : lv r + Lq = lv a + bo * 18446744073709551616 ^ 4) : decide (0 < bo) = decide (lv a < Lq) := by
  have h4 := lv_lt r hr
  have hL := Lq_lt
  rw [hrl] at h4
  generalize 18446744073709551616 ^ 4 = B at *
  rw [Bool.eq_iff_iff, decide_eq_true_eq, decide_eq_true_eq]
  have : bo = 0 ∨ bo = 1 := by omega
  rcases this with rfl | rfl <;> omega
set_option maxRecDepth 100000 in
set_option maxHeartbeats 800000 in
theorem may_walk (A : Option Addr) (n c : Nat) (l : List UInt8) (w : World) (hl : l.length = n) (hr : Rd w (.slice A n c) 1 n (bvs l)) :
    Calls Tryd.prog 17 #[.slice A n c] w fun e w' => e = .returned (.bool (mayS l)) ∧ Below w.heap.size w w' := by
  by_cases h32 : n = 32
  · subst h32
    have hm : mayS l = decide (bval l < Lq) := by unfold mayS; rw [hl]; simp
    rw [hm]
    have HR := hide hr
    have HL := hide hl
    clear hm hr hl
    go_enter Tryd.func17, Tryd.ntmps17
    go_wp2_with (first
      | (go_at_call 36; refine (from_walk A c l _ HL.out HR.out).mono ?_; rintro e w1 ⟨a0, a1, a2, a3, haw, hav, rfl, hb1⟩; have HAV := hide hav; clear hav)
      | (go_at_call 48; refine (order_any _).mono ?_; rintro e w2 ⟨rfl, hb2⟩)
      | (go_at_call 47; refine (less_any a0 a1 a2 a3 _ _ _ _ _ haw ord_words).mono ?_; rintro e w3 ⟨r0, r1, r2, r3, bo, hrw, hbo, hrv, rfl, hb3⟩; have HRV := hide hrv; clear hrv))
    go_ret
    have hB := lv_lt _ haw
    have hd := less_bit [a0, a1, a2, a3] [r0, r1, r2, r3] bo hrw rfl hbo hB (by rw [← lv_ord]; exact HRV.out)
    rw [HAV.out] at hd
    refine ⟨congrArg (fun z => Ending.returned (Value.bool z)) hd, ?_⟩
    have hb12 := hb1.trans (hb2.mono hb1.size)
    have hb13 := hb12.trans (hb3.mono hb12.size)
    exact hb13.trans ((Below.refl _ _).alloc (by first | exact hb13.size | omega) _)
  · have hm : mayS l = false := by unfold mayS; rw [hl, decide_eq_false h32]; rfl
    have hne : ((n : Int) != 32) = true := by simp; omega
    have hne2 : ((n : Int) == 32) = false := by simp; omega
    rw [hm]
    clear hm hr hl
    go_enter Tryd.func17, Tryd.ntmps17
    go_wp2_with fail
    go_ret
    exact ⟨rfl, Below.refl _ _⟩

theorem enNext (args : Array Value) (w : World) : (callFunc 51 args).run Tryd.prog w = .ok (.enter 51 args) w := by kernel_rfl
theorem next_any (a0 a1 a2 a3 bit : Nat) (w : World) (ha : Words [a0, a1, a2, a3]) (hx : lv [a0, a1, a2, a3] < Lq) (hbit : bit ≤ 1) :
    Calls Tryd.prog 51 #[.agg #[.int .u64 (a0 : Int), .int .u64 (a1 : Int), .int .u64 (a2 : Int), .int .u64 (a3 : Int)], .int .u64 (bit : Int)] w fun e w' =>
      ∃ r0 r1 r2 r3 : Nat, Words [r0, r1, r2, r3] ∧ lv [r0, r1, r2, r3] = (2 * lv [a0, a1, a2, a3] + bit) % Lq ∧ e = .returned (.agg #[.int .u64 (r0 : Int), .int .u64 (r1 : Int), .int .u64 (r2 : Int), .int .u64 (r3 : Int)]) ∧ Below w.heap.size w w' := by
  refine (next_walk [a0, a1, a2, a3] bit w rfl ha hx hbit).mono ?_
  rintro e w' ⟨rs, hrl, hrw, hv, rfl, hb⟩
  match rs, hrl with
  | [r0, r1, r2, r3], _ => exact ⟨r0, r1, r2, r3, hrw, hv, rfl, hb⟩

def AtI (m : Nat) (i : Value) : Prop := (m = 0 ∧ i = .int .i64 (-1)) ∨ ∃ p : Nat, m = p + 1 ∧ i = .int .i64 (p : Int)
theorem atI_pred (p : Nat) : AtI p (.int .i64 ((p : Int) - 1)) := by
  cases p with
  | zero => exact .inl ⟨rfl, rfl⟩
  | succ p => exact .inr ⟨p, rfl, by simp⟩
def RedRel (w : World) (g : Nat) (X : Nat) (wr : World) : Prop :=
  ∃ a0 a1 a2 a3 : Nat, Words [a0, a1, a2, a3] ∧ lv [a0, a1, a2, a3] = X % Lq ∧ St w NoB wr [.cells g #[.int .u64 (a0 : Int), .int .u64 (a1 : Int), .int .u64 (a2 : Int), .int .u64 (a3 : Int)] 56]
theorem red_step (X c k : Nat) (hk : k < 8) : (2 * ((X * 2 ^ (7 - k) + c / 2 ^ (k + 1)) % Lq) + c / 2 ^ k % 2) % Lq = (X * 2 ^ (8 - k) + c / 2 ^ k) % Lq := by
  have e : X * 2 ^ (8 - k) + c / 2 ^ k = 2 * (X * 2 ^ (7 - k) + c / 2 ^ (k + 1)) + c / 2 ^ k % 2 := by
    rw [show 8 - k = (7 - k) + 1 from by omega, Nat.pow_succ, Nat.pow_succ, ← Nat.div_div_eq_div_mul, Nat.mul_add, ← Nat.mul_assoc X]
    have := Nat.div_add_mod (c / 2 ^ k) 2
    omega
  rw [e, Nat.add_mod, Nat.mul_mod_mod, ← Nat.add_mod]
theorem red_byte (l : List UInt8) (p : Nat) (c : UInt8) (h : l[p]? = some c) : bval (l.drop (p + 1)) * 256 + c.toNat = bval (l.drop p) := by
  have hlt := (List.getElem?_eq_some_iff.1 h).1
  have hc := (List.getElem?_eq_some_iff.1 h).2
  rw [List.drop_eq_getElem_cons hlt, hc, bval]
  omega
theorem red_bit (c k : Nat) (hc : c < 256) : bits .and .u8 ((c / 2 ^ k : Nat) : Int) 1 = ((c / 2 ^ k % 2 : Nat) : Int) := by
  have h1 : c / 2 ^ k < 256 := Nat.lt_of_le_of_lt (Nat.div_le_self _ _) hc
  have := u8_and_nat (c / 2 ^ k) 1 h1 (by omega)
  rw [nat_mask1] at this
  exact this
set_option maxRecDepth 100000 in
set_option maxHeartbeats 1600000 in
theorem reduce_walk (A : Option Addr) (n c : Nat) (l : List UInt8) (w : World) (hl : l.length = n) (hn : n ≤ 64) (hr : Rd w (.slice A n c) 1 n (bvs l)) :
    Calls Tryd.prog 25 #[.slice A n c] w (ResB 5 w (leB 32 (bval l % Lq))) := by
  have HR := hide hr
  have HL := hide hl
  have HS0 := hide ((St.init w NoB).alloc #[.int .u64 0, .int .u64 0, .int .u64 0, .int .u64 0] 56)
  have hL := Lq_lt
  have HLQ := hide hL.2
  have hat : AtI n (.int .i64 ((n : Int) - 1)) := by
    cases n with
    | zero => exact .inl ⟨rfl, rfl⟩
    | succ p => exact .inr ⟨p, rfl, by simp⟩
  have HAT := hide hat
  clear hr hl hL hat
  go_enter Tryd.func25, Tryd.ntmps25
  go_wp2_with fail
  go_loopw [4] (fun i wr => ∃ m : Nat, m ≤ n ∧ AtI m i ∧ RedRel w w.heap.size (bval (l.drop m)) wr) (fun i _ => (intOf i + 1).toNat)
  case atStart =>
    refine ⟨n, Nat.le_refl _, HAT.out, 0, 0, 0, 0, by unfold Words; decide, ?_, HS0.out⟩
    rw [List.drop_eq_nil_of_le (by rw [HL.out]; exact Nat.le_refl _)]
    rfl
  case round =>
    obtain ⟨m, hm, hi, a0, a1, a2, a3, haw, hav, hS⟩ := hrel
    rcases hi with ⟨rfl, rfl⟩ | ⟨p, rfl, rfl⟩
    · have HAV := hide hav
      have HS := hide hS
      have hc0 : wr.cell? ⟨w.heap.size, 0, none⟩ = some (.int .u64 (a0 : Int)) := hS.cell 0 rfl 0
      have hc1 : wr.cell? ⟨w.heap.size, 1, none⟩ = some (.int .u64 (a1 : Int)) := hS.cell 0 rfl 1
      have hc2 : wr.cell? ⟨w.heap.size, 2, none⟩ = some (.int .u64 (a2 : Int)) := hS.cell 0 rfl 2
      have hc3 : wr.cell? ⟨w.heap.size, 3, none⟩ = some (.int .u64 (a3 : Int)) := hS.cell 0 rfl 3
      clear hav hS
      go_wp2_with (go_at_call 52; refine (bytes_walk a0 a1 a2 a3 _ haw).mono ?_; rintro e w2 ⟨B, d, rfl, hb, ho⟩)
      go_ret
      have hav := HAV.out
      rw [List.drop_zero] at hav
      rw [← hav]
      exact ⟨B, d, rfl, HS.out.below.trans (hb.mono HS.out.below.size), ho.base_le HS.out.below.size⟩
    · obtain ⟨ch, hch⟩ : ∃ ch, l[p]? = some ch := ⟨l[p]'(by rw [HL.out]; omega), List.getElem?_eq_getElem _⟩
      have hrb := red_byte l p ch hch
      have hch2 := UInt8.toNat_lt ch
      obtain ⟨cn, hcn⟩ : ∃ cn, cn = ch.toNat := ⟨_, rfl⟩
      rw [← hcn] at hrb hch2
      obtain ⟨X, hX⟩ : ∃ X, X = bval (l.drop (p + 1)) := ⟨_, rfl⟩
      rw [← hX] at hrb hav
      rcases HR.out.cases with ⟨_, h0, _⟩ | ⟨b, o, sp, c', hA, hb, hnc, hcm, _, hsp, hc⟩
      · omega
      injection hA with hA1 _ hA3
      subst hA1 hA3
      obtain rfl : sp = none := hsp (by omega)
      replace hb := hb (by omega)
      have hcb : w.cell? ⟨b, o + p, none⟩ = some (.int .u8 (cn : Int)) := hc p _ (by simp only [bvs, List.getElem?_map, hch]; rw [hcn]; rfl)
      have HRB := hide hrb
      have HCB := hide hcb
      have HRR := hide (show RedRel w w.heap.size (X * 2 ^ (8 - 8) + cn / 2 ^ 8) wr from ⟨a0, a1, a2, a3, haw, by rw [hav, show cn / 2 ^ 8 = 0 from by omega]; simp, hS⟩)
      clear hrb hX hcn hch hc hsp hav hS haw hcb
      unfold maxLen at hcm
      go_wp2_with fail
      go_loopw [5] (fun k wr => ∃ j : Nat, j ≤ 8 ∧ AtI j k ∧ RedRel w w.heap.size (X * 2 ^ (8 - j) + cn / 2 ^ j) wr) (fun k _ => (intOf k + 1).toNat)
      case atStart => exact ⟨8, Nat.le_refl _, .inr ⟨7, rfl, rfl⟩, HRR.out⟩
      case round =>
        obtain ⟨j, hj, hk, b0, b1, b2, b3, hbw, hbv, hS2⟩ := hrel
        clear HRR
        rcases hk with ⟨rfl, rfl⟩ | ⟨k, rfl, rfl⟩
        · have HBV := hide hbv
          clear hbv
          have HS2 := hide hS2
          clear hS2
          go_wp2_with fail
          go_roundw
          case rel =>
            refine ⟨p, by omega, atI_pred p, b0, b1, b2, b3, hbw, ?_, HS2.out⟩
            rw [HBV.out, ← HRB.out]
            simp
          case measure => simp [intOf]; try omega
        · obtain ⟨d, hd⟩ : ∃ d, d = cn / 2 ^ k % 2 := ⟨_, rfl⟩
          have hd1 : d ≤ 1 := by omega
          have hst := red_step X cn k (by omega)
          rw [show 8 - (k + 1) = 7 - k from by omega] at hbv
          rw [← hbv, ← hd] at hst
          have hbl : lv [b0, b1, b2, b3] < Lq := by rw [hbv]; exact Nat.mod_lt _ HLQ.out
          have he : bits .and .u8 ((cn : Int) / 2 ^ k) 1 = (d : Int) := by
            have := red_bit cn k hch2
            rw [hd, ← this]
            simp
          have hwd : IntKind.u64.wrap (d : Int) = (d : Int) := by rw [IntKind.wrap_u64]; omega
          have hk8 : k < 8 := by omega
          have hp1 : p < n := by omega
          have hp2 : (p : Int) < (n : Int) := by omega
          have hS' := hS2.drew
          have hHS := hide hS'
          have n0 : ∀ z, From wr.drew z → z.cell? ⟨w.heap.size, 0, none⟩ = some (.int .u64 (b0 : Int)) := fun z hz => by
            rw [hz.cell (p := ⟨w.heap.size, 0, none⟩) (Chunk.lt (hHS.out.sat 0 _ rfl) rfl)]; exact hHS.out.cell 0 rfl 0
          have n1 : ∀ z, From wr.drew z → z.cell? ⟨w.heap.size, 1, none⟩ = some (.int .u64 (b1 : Int)) := fun z hz => by
            rw [hz.cell (p := ⟨w.heap.size, 1, none⟩) (Chunk.lt (hHS.out.sat 0 _ rfl) rfl)]; exact hHS.out.cell 0 rfl 1
          have n2 : ∀ z, From wr.drew z → z.cell? ⟨w.heap.size, 2, none⟩ = some (.int .u64 (b2 : Int)) := fun z hz => by
            rw [hz.cell (p := ⟨w.heap.size, 2, none⟩) (Chunk.lt (hHS.out.sat 0 _ rfl) rfl)]; exact hHS.out.cell 0 rfl 2
          have n3 : ∀ z, From wr.drew z → z.cell? ⟨w.heap.size, 3, none⟩ = some (.int .u64 (b3 : Int)) := fun z hz => by
            rw [hz.cell (p := ⟨w.heap.size, 3, none⟩) (Chunk.lt (hHS.out.sat 0 _ rfl) rfl)]; exact hHS.out.cell 0 rfl 3
          have cb : ∀ z, From wr.drew z → z.cell? ⟨b, o + p, none⟩ = some (.int .u8 (cn : Int)) := fun z hz => by
            have hbz := hHS.out.below.trans (hz.mono hHS.out.below.size)
            rw [hbz.cell (p := ⟨b, o + p, none⟩) hb]; exact HCB.out
          have HST := hide hst
          have HBL := hide hbl
          clear hS' hS2 hst hbl hbv hd
          go_wp2_with fail
          refine wp_region_M (fun i => i == 10) (From wr.drew) (by kernel_rfl) ?_
          (refine wpM_take (i := 0) (v := ?_) rfl (by kernel_rfl) (by kernel_rfl) (by kernel_rfl) (fun _ _ _ h => h) (From.refl _) rfl (by kernel_rfl) (Or.inl ⟨by first | kernel_rfl | rfl, ?_⟩) ?_; rotate_left; (intro wx hx; go_simp) <;> (with_reducible rfl); (try simp only [Act.put, nq1, nq2, nq3, nq4, nq5, nq6]))
          (refine wpM_takeU (i := 1) (v := ?_) rfl (by kernel_rfl) (by kernel_rfl) (by kernel_rfl) (fun _ _ _ h => h) (From.refl _) rfl (Or.inl ⟨by first | kernel_rfl | rfl, ?_⟩) ?_; rotate_left; (intro wx; go_simp) <;> (with_reducible rfl); (try simp only [Act.put, nq1, nq2, nq3, nq4, nq5, nq6])); (refine wpM_takeU (i := 2) (v := ?_) rfl (by kernel_rfl) (by kernel_rfl) (by kernel_rfl) (fun _ _ _ h => h) (From.refl _) rfl (Or.inl ⟨by first | kernel_rfl | rfl, ?_⟩) ?_; rotate_left; (intro wx; go_simp) <;> (with_reducible rfl); (try simp only [Act.put, nq1, nq2, nq3, nq4, nq5, nq6])); (refine wpM_takeU (i := 3) (v := ?_) rfl (by kernel_rfl) (by kernel_rfl) (by kernel_rfl) (fun _ _ _ h => h) (From.refl _) rfl (Or.inl ⟨by first | kernel_rfl | rfl, ?_⟩) ?_; rotate_left; (intro wx; go_simp) <;> (with_reducible rfl); (try simp only [Act.put, nq1, nq2, nq3, nq4, nq5, nq6]))
          (refine wpM_take (i := 4) (v := ?_) rfl (by kernel_rfl) (by kernel_rfl) (by kernel_rfl) (fun _ _ _ h => h) (From.refl _) rfl (by kernel_rfl) (Or.inl ⟨by first | kernel_rfl | rfl, ?_⟩) ?_; rotate_left; (intro wx hx; go_simp) <;> (with_reducible rfl); (try simp only [Act.put, nq1, nq2, nq3, nq4, nq5, nq6]))
          (refine wpM_takeU (i := 5) (v := ?_) rfl (by kernel_rfl) (by kernel_rfl) (by kernel_rfl) (fun _ _ _ h => h) (From.refl _) rfl (Or.inl ⟨by first | kernel_rfl | rfl, ?_⟩) ?_; rotate_left; (intro wx; go_simp) <;> (with_reducible rfl); (try simp only [Act.put, nq1, nq2, nq3, nq4, nq5, nq6])); (refine wpM_takeU (i := 6) (v := ?_) rfl (by kernel_rfl) (by kernel_rfl) (by kernel_rfl) (fun _ _ _ h => h) (From.refl _) rfl (Or.inl ⟨by first | kernel_rfl | rfl, ?_⟩) ?_; rotate_left; (intro wx; go_simp) <;> (with_reducible rfl); (try simp only [Act.put, nq1, nq2, nq3, nq4, nq5, nq6])); (refine wpM_takeU (i := 7) (v := ?_) rfl (by kernel_rfl) (by kernel_rfl) (by kernel_rfl) (fun _ _ _ h => h) (From.refl _) rfl (Or.inl ⟨by first | kernel_rfl | rfl, ?_⟩) ?_; rotate_left; (intro wx; go_simp) <;> (with_reducible rfl); (try simp only [Act.put, nq1, nq2, nq3, nq4, nq5, nq6])); (refine wpM_takeU (i := 8) (v := ?_) rfl (by kernel_rfl) (by kernel_rfl) (by kernel_rfl) (fun _ _ _ h => h) (From.refl _) rfl (Or.inl ⟨by first | kernel_rfl | rfl, ?_⟩) ?_; rotate_left; (intro wx; go_simp) <;> (with_reducible rfl); (try simp only [Act.put, nq1, nq2, nq3, nq4, nq5, nq6]))
          (refine wpM_one (i := 9) (by kernel_rfl) rfl rfl ?_; intro K hK; (try simp only [Act.put, nq1, nq2, nq3, nq4, nq5, nq6]))
          refine step_call rfl rfl enNext rfl (next_any b0 b1 b2 b3 d _ hbw HBL.out hd1) ?_
          rintro e w2 ⟨r0, r1, r2, r3, hrw, hrv, rfl, hb2⟩
          have hS3 := hHS.out.call hb2
          refine ⟨_, rfl, hK (From w2) _ _ (From.next hb2) (From.refl _) ?_⟩
          clear hK K
          (try simp only [Act.put, nq1, nq2, nq3, nq4, nq5, nq6])
          (refine wpM_late (i := 10) (by kernel_rfl) rfl rfl ?_; intro K hK; (try simp only [Act.put, nq1, nq2, nq3, nq4, nq5, nq6]))
          refine step_storeRow rfl rfl hS3 0 rfl rfl (cs := #[.int .u64 (r0 : Int), .int .u64 (r1 : Int), .int .u64 (r2 : Int), .int .u64 (r3 : Int)]) rfl (by kernel_rfl) rfl (by kernel_rfl) ?_
          intro w5 hS5
          refine hK _ _ ?_
          clear hK K
          (try simp only [Act.put, nq1, nq2, nq3, nq4, nq5, nq6])
          refine wpAny_done (by kernel_rfl) ?_ _
          go_wp2_with fail
          go_roundw
          case rel => exact ⟨k, by omega, atI_pred k, r0, r1, r2, r3, hrw, by rw [hrv]; exact HST.out, hS5⟩
          case measure => simp [intOf]; try omega
end Go.Proofs.YtkelegjppnfoaaaDoor.S3

/-
  The walk of layer 3's MulAdd.
-/
namespace Go.Proofs.YtkelegjppnfoaaaDoor.S3
open Go.RowKit

theorem mad_aux (C P o ca t s : Nat) (hP : P ≤ C * C) (ho : o ≤ C) (hca : ca ≤ C) (e : s + t * (C + 1) = P + o + ca) : t < C + 1 := by
  have h1 : t * (C + 1) < (C + 1) * (C + 1) := by
    rw [Nat.add_mul C 1 (C + 1), Nat.mul_add C C 1]
    omega
  exact Nat.lt_of_mul_lt_mul_right h1
theorem mad_sum (s2 h c1 c2 B P o ca l s1 : Nat) (m1 : l + h * B = P) (a1 : s1 + c1 * B = l + o + 0) (b1 : s2 + c2 * B = s1 + ca + 0) : s2 + (h + c1 + c2) * B = P + o + ca := by
  rw [Nat.add_mul, Nat.add_mul]
  omega
/-- A word of a product, added into a word that is there, with what goes over. -/
theorem mad_spec (x y o ca : Nat) (hx : x < 18446744073709551616) (hy : y < 18446744073709551616) (ho : o < 18446744073709551616) (hca : ca < 18446744073709551616) :
    adS (adS (muL x y) o 0) ca 0 + (muH x y + adC (muL x y) o 0 + adC (adS (muL x y) o 0) ca 0) * 18446744073709551616 = x * y + o + ca ∧ adS (adS (muL x y) o 0) ca 0 < 18446744073709551616 ∧
      muH x y + adC (muL x y) o 0 < 18446744073709551616 ∧ muH x y + adC (muL x y) o 0 + adC (adS (muL x y) o 0) ca 0 < 18446744073709551616 := by
  obtain ⟨m1, m2, m3⟩ := mu_spec x y hx hy
  obtain ⟨a1, a2, a3⟩ := ad_spec (muL x y) o 0 m2 ho (Nat.zero_le 1)
  obtain ⟨b1, b2, b3⟩ := ad_spec (adS (muL x y) o 0) ca 0 a2 hca (Nat.zero_le 1)
  have hxy : x * y ≤ 18446744073709551615 * 18446744073709551615 := Nat.mul_le_mul (by omega) (by omega)
  generalize x * y = P at *
  generalize adS (adS (muL x y) o 0) ca 0 = s2 at *
  generalize adC (adS (muL x y) o 0) ca 0 = c2 at *
  generalize adS (muL x y) o 0 = s1 at *
  generalize adC (muL x y) o 0 = c1 at *
  generalize muL x y = l at *
  generalize muH x y = h at *
  clear hx hy
  have HXY := hide hxy
  clear hxy
  have e1 : s2 + (h + c1 + c2) * 18446744073709551616 = P + o + ca := mad_sum s2 h c1 c2 18446744073709551616 P o ca l s1 m1 a1 b1
  have h4 := mad_aux 18446744073709551615 P o ca (h + c1 + c2) s2 HXY.out (by omega) (by omega) (by omega)
  refine ⟨e1, b2, by omega, by omega⟩
/-- The inner loop's step. -/
theorem mad_step (os ys : List Nat) (i k x y o T ca s ca' : Nat) (ho : os[i + k]? = some o) (hy : ys[k]? = some y) (hs : s + ca' * 18446744073709551616 = x * y + o + ca)
    (h : lv os + ca * 18446744073709551616 ^ (i + k) = T + x * lv (ys.take k) * 18446744073709551616 ^ i) :
    lv (os.set (i + k) s) + ca' * 18446744073709551616 ^ (i + k + 1) = T + x * lv (ys.take (k + 1)) * 18446744073709551616 ^ i := by
  have h1 := lv_set os (i + k) o s ho
  rw [lv_take hy, Nat.mul_add, Nat.add_mul, Nat.pow_succ]
  have e : x * (y * 18446744073709551616 ^ k) * 18446744073709551616 ^ i = x * y * 18446744073709551616 ^ (i + k) := by
    rw [Nat.pow_add, ← Nat.mul_assoc, Nat.mul_assoc (x * y), Nat.mul_comm (18446744073709551616 ^ k)]
  rw [e, show ca' * (18446744073709551616 ^ (i + k) * 18446744073709551616) = ca' * 18446744073709551616 * 18446744073709551616 ^ (i + k) from by rw [Nat.mul_comm (18446744073709551616 ^ (i + k)), Nat.mul_assoc]]
  have h2 := congrArg (· * 18446744073709551616 ^ (i + k)) hs
  simp only [Nat.add_mul] at h2
  omega
/-- What goes over is carried on. -/
theorem car_step (os : List Nat) (k o T ca s ca' : Nat) (ho : os[k]? = some o) (hs : s + ca' * 18446744073709551616 = o + ca) (h : lv os + ca * 18446744073709551616 ^ k = T) :
    lv (os.set k s) + ca' * 18446744073709551616 ^ (k + 1) = T := by
  have h1 := lv_set os k o s ho
  rw [Nat.pow_succ, show ca' * (18446744073709551616 ^ k * 18446744073709551616) = ca' * 18446744073709551616 * 18446744073709551616 ^ k from by rw [Nat.mul_comm (18446744073709551616 ^ k), Nat.mul_assoc]]
  have h2 := congrArg (· * 18446744073709551616 ^ k) hs
  simp only [Nat.add_mul] at h2
  omega
theorem mad_bound (xs ys zs : List Nat) (i : Nat) (hx : Words xs) (hy : Words ys) (hz : Words zs) (hxl : xs.length = 4) (hyl : ys.length = 4) (hzl : zs.length = 4) :
    lv zs + lv (xs.take i) * lv ys < 18446744073709551616 ^ 8 := by
  have h1 := lv_lt (xs.take i) fun x h => hx x (List.mem_of_mem_take h)
  have h2 := lv_lt ys hy
  have h3 := lv_lt zs hz
  have h4 : (18446744073709551616 : Nat) ^ (xs.take i).length ≤ 18446744073709551616 ^ 4 := Nat.pow_le_pow_right (by omega) (by rw [List.length_take]; omega)
  rw [hyl] at h2
  rw [hzl] at h3
  have h5 : lv (xs.take i) * lv ys ≤ (18446744073709551616 ^ 4 - 1) * (18446744073709551616 ^ 4 - 1) := Nat.mul_le_mul (by omega) (by omega)
  have h6 : (18446744073709551616 : Nat) ^ 8 = 18446744073709551616 ^ 4 * 18446744073709551616 ^ 4 := by rw [← Nat.pow_add]
  rw [h6]
  generalize hB : (18446744073709551616 : Nat) ^ 4 = B at *
  have hB1 : 2 ≤ B := by rw [← hB]; decide
  have h7 : (B - 1) * (B - 1) + (B - 1) < B * B := by
    obtain ⟨c, rfl⟩ : ∃ c, B = c + 1 := ⟨B - 1, by omega⟩
    simp only [Nat.add_sub_cancel]
    rw [Nat.add_mul, Nat.mul_add]
    omega
  omega

/-- What is held through it. -/
def MaH (g7 g8 g9 g10 : Nat) (xs ys zs os : List Nat) : List Chunk :=
  [.cells g7 (uvs xs).toArray 56, .cells g8 (uvs ys).toArray 56, .cells g9 (uvs zs).toArray 56, .cells g10 (uvs os).toArray 58]
def MaRel (w : World) (g7 g8 g9 g10 : Nat) (xs ys zs : List Nat) (T k : Nat) (cav : Value) (wr : World) : Prop :=
  ∃ (os : List Nat) (ca : Nat), os.length = 8 ∧ Words os ∧ cav = .int .u64 (ca : Int) ∧ ca < 18446744073709551616 ∧ lv os + ca * 18446744073709551616 ^ k = T ∧ St w NoB wr (MaH g7 g8 g9 g10 xs ys zs os)
set_option maxRecDepth 100000 in
set_option maxHeartbeats 1600000 in
theorem muladd_walk (A B C : Option Addr) (ca cb cc : Nat) (a b c : List UInt8) (w : World) (hla : a.length = 32) (hlb : b.length = 32) (hlc : c.length = 32)
    (ha : Rd w (.slice A 32 ca) 1 32 (bvs a)) (hb : Rd w (.slice B 32 cb) 1 32 (bvs b)) (hc : Rd w (.slice C 32 cc) 1 32 (bvs c)) :
    Calls Tryd.prog 15 #[.slice A 32 ca, .slice B 32 cb, .slice C 32 cc] w (ResB 5 w (leB 32 ((bval a * bval b + bval c) % Lq))) := by
  have HA := hide ha
  have HB := hide hb
  have HC := hide hc
  have LA := hide hla
  have LB := hide hlb
  have LC := hide hlc
  clear ha hb hc hla hlb hlc
  go_enter Tryd.func15, Tryd.ntmps15
  go_upto_region 5 with (first
    | (go_at_call 36; ((with_reducible refine (from_walk A ca a _ LA.out HA.out).mono ?_); rintro e w1 ⟨x0, x1, x2, x3, hxw, hxv, rfl, hb1⟩; have HXV := hide hxv; clear hxv))
    | (go_at_call 36; ((with_reducible refine (from_walk B cb b _ LB.out (HB.out.below hb1)).mono ?_); rintro e w2 ⟨y0, y1, y2, y3, hyw, hyv, rfl, hb2⟩; have HYV := hide hyv; clear hyv; have hb12 := hb1.trans (hb2.mono hb1.size)))
    | (go_at_call 36; ((with_reducible refine (from_walk C cc c _ LC.out (HC.out.below hb12)).mono ?_); rintro e w3 ⟨z0, z1, z2, z3, hzw, hzv, rfl, hb3⟩; have HZV := hide hzv; clear hzv; have hb13 := hb12.trans (hb3.mono hb12.size))))
  have hS0 := ((((St.init w NoB).call hb13).alloc (uvs [x0, x1, x2, x3]).toArray 56).alloc (uvs [y0, y1, y2, y3]).toArray 56).alloc (uvs [z0, z1, z2, z3]).toArray 56
  have hS1 := hS0.alloc (uvs [0, 0, 0, 0, 0, 0, 0, 0]).toArray 58
  simp only [size_alloc1] at hS1
  have hS2 := hS1.pickL (H' := MaH w3.heap.size (w3.heap.size + 1) (w3.heap.size + 1 + 1) (w3.heap.size + 1 + 1 + 1) [x0, x1, x2, x3] [y0, y1, y2, y3] [z0, z1, z2, z3] [0, 0, 0, 0, 0, 0, 0, 0]) [3, 2, 1, 0] (by decide) rfl
  obtain ⟨g7, hg7⟩ : ∃ g7, g7 = w3.heap.size := ⟨_, rfl⟩
  obtain ⟨g8, hg8⟩ : ∃ g8, g8 = w3.heap.size + 1 := ⟨_, rfl⟩
  obtain ⟨g9, hg9⟩ : ∃ g9, g9 = w3.heap.size + 1 + 1 := ⟨_, rfl⟩
  obtain ⟨g10, hg10⟩ : ∃ g10, g10 = w3.heap.size + 1 + 1 + 1 := ⟨_, rfl⟩
  rw [← hg10, ← hg9, ← hg8, ← hg7] at hS2 ⊢
  have hS3 := hS2.drew
  clear hS0 hS1 hS2 hb1 hb2 hb3 hb12 hb13 hg7 hg8 hg9 hg10
  refine wp_region_MF (fun i => i == 2) (by kernel_rfl) ?_
  (refine wpM_takeU (i := 0) (v := ?_) rfl (by kernel_rfl) (by kernel_rfl) (by kernel_rfl) (fun _ _ _ h => h) (From.refl _) rfl (Or.inl ⟨by first | kernel_rfl | rfl, ?_⟩) ?_; rotate_left; (intro wx; go_simp) <;> (with_reducible rfl); (try simp only [Act.put, nq1, nq2, nq3, nq4, nq5, nq6])); (refine wpM_takeU (i := 1) (v := ?_) rfl (by kernel_rfl) (by kernel_rfl) (by kernel_rfl) (fun _ _ _ h => h) (From.refl _) rfl (Or.inl ⟨by first | kernel_rfl | rfl, ?_⟩) ?_; rotate_left; (intro wx; go_simp) <;> (with_reducible rfl); (try simp only [Act.put, nq1, nq2, nq3, nq4, nq5, nq6]))
  (refine wpM_late (i := 2) (by kernel_rfl) rfl rfl ?_; intro K hK; (try simp only [Act.put, nq1, nq2, nq3, nq4, nq5, nq6]))
  unfold MaH at hS3
  refine step_copy rfl rfl Tryd.underlying59 tyU64 hS3 3 rfl (dn := 8) (dc := 8) (m := 4) (ys := uvs [z0, z1, z2, z3]) rfl rfl (rd_cells hS3 2 rfl 4 rfl (by decide)) (by omega) (by omega) (by decide) (uvs_one _) ?_
  intro w4 hS4
  refine hK _ _ ?_
  clear hK K hS3
  (try simp only [Act.put, nq1, nq2, nq3, nq4, nq5, nq6])
  refine wpAny_done (by kernel_rfl) ?_ _
  have hS5 : St w NoB w4 (MaH g7 g8 g9 g10 [x0, x1, x2, x3] [y0, y1, y2, y3] [z0, z1, z2, z3] [z0, z1, z2, z3, 0, 0, 0, 0]) := hS4
  obtain ⟨xs, hxs⟩ : ∃ xs, xs = [x0, x1, x2, x3] := ⟨_, rfl⟩
  obtain ⟨ys, hys⟩ : ∃ ys, ys = [y0, y1, y2, y3] := ⟨_, rfl⟩
  obtain ⟨zs, hzs⟩ : ∃ zs, zs = [z0, z1, z2, z3] := ⟨_, rfl⟩
  have hxl : xs.length = 4 := by rw [hxs]; rfl
  have hyl : ys.length = 4 := by rw [hys]; rfl
  have hzl : zs.length = 4 := by rw [hzs]; rfl
  have hos : Words [z0, z1, z2, z3, 0, 0, 0, 0] := by
    intro v hv
    have h4 := hzw
    rw [show [z0, z1, z2, z3, 0, 0, 0, 0] = [z0, z1, z2, z3] ++ [0, 0, 0, 0] from rfl] at hv
    rcases List.mem_append.1 hv with h | h
    · exact h4 v h
    · simp only [List.mem_cons, List.not_mem_nil, or_false, or_self] at h; omega
  have hov : lv [z0, z1, z2, z3, 0, 0, 0, 0] = lv [z0, z1, z2, z3] := by simp [lv]
  rw [← hxs] at hxw HXV hS5
  rw [← hys] at hyw HYV hS5
  rw [← hzs] at hzw HZV hS5 hov
  have HS5 := hide hS5
  have HOV := hide hov
  have HOS := hide hos
  have HXL := hide hxl
  have HYL := hide hyl
  have HZL := hide hzl
  have HXW := hide hxw
  have HYW := hide hyw
  have HZW := hide hzw
  clear hS5 hS4 hxs hys hzs hxl hyl hzl hxw hyw hzw hos hov
  go_wp2_with fail
  go_loopw [40] (fun i wr => ∃ k : Nat, k ≤ 4 ∧ i = .int .i64 (k : Int) ∧ MaRel w g7 g8 g9 g10 xs ys zs (lv zs + lv (xs.take k) * lv ys) 8 (.int .u64 0) wr) (fun i _ => 4 - (intOf i).toNat)
  case atStart => exact ⟨0, by omega, rfl, _, 0, rfl, HOS.out, rfl, by omega, by rw [HOV.out]; simp [lv], HS5.out⟩
  case round =>
    obtain ⟨i, hi, rfl, os, c0, hol, how, hc0, _, hov, hS⟩ := hrel
    obtain rfl : c0 = 0 := by injection hc0 with _ h; omega
    clear hc0 HS5
    have HOV2 := hide (show lv os = lv zs + lv (xs.take i) * lv ys by rw [← hov]; simp)
    by_cases hlt : i < 4
    · obtain ⟨x, hx⟩ := lim_get xs HXL.out i hlt
      have hxx := words_get HXW.out hx
      have hbd := mad_bound xs ys zs (i + 1) HXW.out HYW.out HZW.out HXL.out HYL.out HZL.out
      rw [lv_take hx] at hbd
      have HBD := hide hbd
      have HX := hide hx
      have HXX := hide hxx
      have HOL := hide hol
      have HOW := hide how
      have HS := hide hS
      have hi4 : (i : Int) < 4 := by omega
      clear hbd hx hxx hol how hS hov
      go_wp2_with fail
      go_loopw [12, 43] (fun cv kv wr => ∃ k : Nat, k ≤ 4 ∧ kv = .int .i64 (k : Int) ∧ MaRel w g7 g8 g9 g10 xs ys zs (lv os + x * lv (ys.take k) * 18446744073709551616 ^ i) (i + k) cv wr) (fun _ kv _ => 4 - (intOf kv).toNat)
      case atStart => exact ⟨0, by omega, rfl, os, 0, HOL.out, HOW.out, rfl, by omega, by simp [lv], HS.out⟩
      case round =>
        obtain ⟨k, hk, rfl, os2, ca, hol2, how2, rfl, hcaw, hov2, hS2⟩ := hrel
        by_cases hlt2 : k < 4
        · obtain ⟨y, hy⟩ := lim_get ys HYL.out k hlt2
          obtain ⟨o, ho⟩ : ∃ o, os2[i + k]? = some o := ⟨os2[i + k]'(by omega), List.getElem?_eq_getElem _⟩
          have hyy := words_get HYW.out hy
          have hoo := words_get how2 ho
          obtain ⟨p1, p2, p3, p4⟩ := mad_spec x y o ca HXX.out hyy hoo hcaw
          have hstep := hide (mad_step os2 ys i k x y o _ ca _ _ ho hy p1 hov2)
          have hmul := fun W => mul_any x y W HXX.out hyy
          have HMUL := hide hmul
          clear hmul p1 hov2
          generalize muH x y = hiw at *
          generalize muL x y = low at *
          have A1 := add0_any low o
          have A2 := add0_any (adS low o 0) ca
          generalize adS (adS low o 0) ca 0 = s2 at *
          generalize adC (adS low o 0) ca 0 = c2 at *
          generalize adS low o 0 = s1 at *
          generalize adC low o 0 = c1 at *
          have hw1 : IntKind.u64.wrap ((hiw : Int) + (c1 : Int)) = ((hiw + c1 : Nat) : Int) := by rw [IntKind.wrap_u64]; omega
          have hw2 : IntKind.u64.wrap (((hiw + c1 : Nat) : Int) + (c2 : Int)) = ((hiw + c1 + c2 : Nat) : Int) := by rw [IntKind.wrap_u64]; omega
          have P2 := hide p2
          have P4 := hide p4
          have HW2 := hide how2
          have HL2 := hide hol2
          have HS2 := hide hS2
          have hS3 := hide hS2.drew
          have cx : ∀ z, From wr.drew z → z.cell? ⟨g7, i, none⟩ = some (.int .u64 (x : Int)) := fun z hz => by
            rw [hz.cell (p := ⟨g7, i, none⟩) (Chunk.lt (hS3.out.sat 0 _ rfl) rfl), hS3.out.cell 0 rfl i]
            exact uvs_get HX.out
          have cy : ∀ z, From wr.drew z → z.cell? ⟨g8, k, none⟩ = some (.int .u64 (y : Int)) := fun z hz => by
            rw [hz.cell (p := ⟨g8, k, none⟩) (Chunk.lt (hS3.out.sat 1 _ rfl) rfl), hS3.out.cell 1 rfl k]
            exact uvs_get hy
          have co : wr.drew.cell? ⟨g10, i + k, none⟩ = some (.int .u64 (o : Int)) := by
            rw [hS3.out.cell 3 rfl (i + k)]
            exact uvs_get ho
          have fo := hS3.out.free 3 rfl (i + k)
          have hk4 : (k : Int) < 4 := by omega
          have hik8 : (i : Int) + (k : Int) < 8 := by omega
          have hikn : ((i : Int) + (k : Int)).toNat = i + k := by omega
          clear p2 p3 p4 how2 hol2 hS2 ho hy hyy hoo hcaw
          go_wp2_with fail
          refine wp_region_F (by kernel_rfl) ?_
          (refine wpG_take (i := 0) (v := ?_) rfl (by kernel_rfl) (by kernel_rfl) (by kernel_rfl) (fun _ _ _ h => h) (From.refl _) (Or.inl ⟨by first | kernel_rfl | rfl, ?_⟩) ?_; rotate_left; (intro wx hx; go_simp) <;> (with_reducible rfl); (try simp only [Act.put, nq1, nq2, nq3, nq4, nq5, nq6])); (refine wpG_take (i := 1) (v := ?_) rfl (by kernel_rfl) (by kernel_rfl) (by kernel_rfl) (fun _ _ _ h => h) (From.refl _) (Or.inl ⟨by first | kernel_rfl | rfl, ?_⟩) ?_; rotate_left; (intro wx hx; go_simp) <;> (with_reducible rfl); (try simp only [Act.put, nq1, nq2, nq3, nq4, nq5, nq6])); (refine wpG_take (i := 2) (v := ?_) rfl (by kernel_rfl) (by kernel_rfl) (by kernel_rfl) (fun _ _ _ h => h) (From.refl _) (Or.inl ⟨by first | kernel_rfl | rfl, ?_⟩) ?_; rotate_left; (intro wx hx; go_simp) <;> (with_reducible rfl); (try simp only [Act.put, nq1, nq2, nq3, nq4, nq5, nq6])); (refine wpG_take (i := 3) (v := ?_) rfl (by kernel_rfl) (by kernel_rfl) (by kernel_rfl) (fun _ _ _ h => h) (From.refl _) (Or.inl ⟨by first | kernel_rfl | rfl, ?_⟩) ?_; rotate_left; (intro wx hx; go_simp) <;> (with_reducible rfl); (try simp only [Act.put, nq1, nq2, nq3, nq4, nq5, nq6])); (refine wpG_take (i := 4) (v := ?_) rfl (by kernel_rfl) (by kernel_rfl) (by kernel_rfl) (fun _ _ _ h => h) (From.refl _) (Or.inl ⟨by first | kernel_rfl | rfl, ?_⟩) ?_; rotate_left; (intro wx hx; go_simp) <;> (with_reducible rfl); (try simp only [Act.put, nq1, nq2, nq3, nq4, nq5, nq6])); (refine wpG_take (i := 5) (v := ?_) rfl (by kernel_rfl) (by kernel_rfl) (by kernel_rfl) (fun _ _ _ h => h) (From.refl _) (Or.inl ⟨by first | kernel_rfl | rfl, ?_⟩) ?_; rotate_left; (intro wx hx; go_simp) <;> (with_reducible rfl); (try simp only [Act.put, nq1, nq2, nq3, nq4, nq5, nq6]))
          (refine wpG_one (i := 6) (by kernel_rfl) rfl ?_; intro K hK; (try simp only [Act.put, nq1, nq2, nq3, nq4, nq5, nq6]))
          refine step_call rfl rfl enMul rfl (HMUL.out _) ?_
          rintro e w5 ⟨rfl, rfl⟩
          refine ⟨_, rfl, hK (From wr.drew) _ _ (fun _ h => h) (From.refl _) ?_⟩
          clear hK K
          (try simp only [Act.put, nq1, nq2, nq3, nq4, nq5, nq6])
          (refine wpG_take (i := 7) (v := ?_) rfl (by kernel_rfl) (by kernel_rfl) (by kernel_rfl) (fun _ _ _ h => h) (From.refl _) (Or.inl ⟨by first | kernel_rfl | rfl, ?_⟩) ?_; rotate_left; (intro wx hx; go_simp) <;> (with_reducible rfl); (try simp only [Act.put, nq1, nq2, nq3, nq4, nq5, nq6])); (refine wpG_take (i := 8) (v := ?_) rfl (by kernel_rfl) (by kernel_rfl) (by kernel_rfl) (fun _ _ _ h => h) (From.refl _) (Or.inl ⟨by first | kernel_rfl | rfl, ?_⟩) ?_; rotate_left; (intro wx hx; go_simp) <;> (with_reducible rfl); (try simp only [Act.put, nq1, nq2, nq3, nq4, nq5, nq6])); (refine wpG_take (i := 9) (v := ?_) rfl (by kernel_rfl) (by kernel_rfl) (by kernel_rfl) (fun _ _ _ h => h) (From.refl _) (Or.inl ⟨by first | kernel_rfl | rfl, ?_⟩) ?_; rotate_left; (intro wx hx; go_simp) <;> (with_reducible rfl); (try simp only [Act.put, nq1, nq2, nq3, nq4, nq5, nq6])); (refine wpG_take (i := 10) (v := ?_) rfl (by kernel_rfl) (by kernel_rfl) (by kernel_rfl) (fun _ _ _ h => h) (From.refl _) (Or.inl ⟨by first | kernel_rfl | rfl, ?_⟩) ?_; rotate_left; (intro wx hx; go_simp) <;> (with_reducible rfl); (try simp only [Act.put, nq1, nq2, nq3, nq4, nq5, nq6])); (refine wpG_take (i := 11) (v := ?_) rfl (by kernel_rfl) (by kernel_rfl) (by kernel_rfl) (fun _ _ _ h => h) (From.refl _) (Or.inl ⟨by first | kernel_rfl | rfl, ?_⟩) ?_; rotate_left; (intro wx hx; go_simp) <;> (with_reducible rfl); (try simp only [Act.put, nq1, nq2, nq3, nq4, nq5, nq6]))
          refine wpG_done (by kernel_rfl) ?_ _
          go_wp2_with fail
          go_roundw
          case rel =>
            have hw3 : IntKind.u64.wrap ((hiw : Int) + (c1 : Int) + (c2 : Int)) = ((hiw + c1 + c2 : Nat) : Int) := by
              have := P4.out
              rw [IntKind.wrap_u64]; omega
            refine ⟨k + 1, by omega, by go_num, os2.set (i + k) s2, hiw + c1 + c2, by rw [List.length_set]; exact HL2.out, words_set HW2.out _ _ P2.out, congrArg (Value.int .u64) hw3, P4.out, hstep.out, ?_⟩
            have := (HS2.out.setCell 3 rfl (i + k) (.int .u64 (s2 : Int))).drew
            rw [uvs_set] at this
            exact this
          case measure => simp [intOf]; try omega
        · obtain rfl : k = 4 := by omega
          have HS2 := hide hS2
          have HL2 := hide hol2
          have HW2 := hide how2
          have hT : lv os2 + ca * 18446744073709551616 ^ (i + 4) = lv zs + lv (xs.take (i + 1)) * lv ys := by
            have e4 : ys.take 4 = ys := List.take_of_length_le (by rw [HYL.out]; exact Nat.le_refl _)
            rw [hov2, HOV2.out, lv_take HX.out, Nat.add_mul, e4, Nat.add_assoc, Nat.mul_right_comm x]
          have HTT := hide hT
          clear hS2 hol2 how2 hT hov2
          go_wp2_with fail
          go_loopw [12, 17] (fun cv kv wr => ∃ k : Nat, k ≤ 8 ∧ i + 4 ≤ k ∧ kv = .int .i64 (k : Int) ∧ MaRel w g7 g8 g9 g10 xs ys zs (lv zs + lv (xs.take (i + 1)) * lv ys) k cv wr) (fun _ kv _ => 8 - (intOf kv).toNat)
          case atStart => exact ⟨i + 4, by omega, by omega, by go_num, os2, ca, HL2.out, HW2.out, rfl, hcaw, HTT.out, HS2.out⟩
          case round =>
            obtain ⟨k, hk8, hki, rfl, os3, cb', hol3, how3, rfl, hcbw, hov3, hS3⟩ := hrel
            clear HS2 HL2 HW2 HTT
            by_cases hlt3 : k < 8
            · obtain ⟨o, ho⟩ : ∃ o, os3[k]? = some o := ⟨os3[k]'(by omega), List.getElem?_eq_getElem _⟩
              have hoo := words_get how3 ho
              obtain ⟨a1, a2, a3⟩ := ad_spec o cb' 0 hoo hcbw (Nat.zero_le 1)
              have hstep := hide (car_step os3 k o _ cb' _ _ ho (by rw [Nat.add_zero] at a1; exact a1) hov3)
              have A1 := add0_any o cb'
              generalize adS o cb' 0 = s1 at *
              generalize adC o cb' 0 = c1 at *
              have HS3 := hide hS3
              have HL3 := hide hol3
              have HW3 := hide how3
              have AA2 := hide a2
              have co : wr.cell? ⟨g10, k, none⟩ = some (.int .u64 (o : Int)) := by
                rw [hS3.cell 3 rfl k]
                exact uvs_get ho
              have fo := hS3.free 3 rfl k
              clear hS3 hol3 how3 hov3 ho hoo a1 a2
              go_wp2_with fail
              go_roundw
              case rel =>
                refine ⟨k + 1, by omega, by omega, by go_num, os3.set k s1, c1, by rw [List.length_set]; exact HL3.out, words_set HW3.out _ _ AA2.out, rfl, by omega, hstep.out, ?_⟩
                have := HS3.out.setCell 3 rfl k (.int .u64 (s1 : Int))
                rw [uvs_set] at this
                exact this
              case measure => simp [intOf]; try omega
            · obtain rfl : k = 8 := by omega
              have hc0 : cb' = 0 := by
                have h1 := HBD.out
                rw [← lv_take HX.out, ← hov3] at h1
                rcases Nat.eq_zero_or_pos cb' with h | h
                · exact h
                · have : 18446744073709551616 ^ 8 ≤ cb' * 18446744073709551616 ^ 8 := Nat.le_mul_of_pos_left _ h
                  omega
              have HC0 := hide hc0
              have HS3 := hide hS3
              have HL3 := hide hol3
              have HW3 := hide how3
              have HO3 := hide hov3
              clear hS3 hol3 how3 hov3 hc0
              go_wp2_with fail
              go_roundw
              case rel => exact ⟨i + 1, by omega, by go_num, os3, 0, HL3.out, HW3.out, rfl, by omega, by rw [← HO3.out, HC0.out], HS3.out⟩
              case measure => simp [intOf]; try omega
    · obtain rfl : i = 4 := by omega
      have hv8 : lv os < 256 ^ 64 := by
        have := lv_lt os how
        rw [hol] at this
        rw [show (256 : Nat) ^ 64 = 18446744073709551616 ^ 8 from by decide]
        exact this
      have SP := fun W => spelt_walk (some ⟨g10, 0, none⟩) 8 8 os W hol (by omega)
      have hsp := spB_eq os how
      rw [hol, show 8 * 8 = 64 from rfl] at hsp
      have RD := fun (W : World) (A : Option Addr) (c : Nat) => reduce_walk A 64 c (leB 64 (lv os)) W (leB_len 64 _) (Nat.le_refl 64)
      rw [bval_leB, Nat.mod_eq_of_lt hv8] at RD
      have hfin : lv os = bval a * bval b + bval c := by
        rw [HOV2.out, List.take_of_length_le (by rw [HXL.out]; exact Nat.le_refl _), HXV.out, HYV.out, HZV.out, Nat.add_comm]
      rw [hfin] at RD hsp
      have HSP := hide SP
      have HRD := hide RD
      have HSPE := hide hsp
      have HS := hide hS
      clear SP RD hsp hS hv8 hfin how hov
      go_wp2_with (first
        | (go_at_call 39; refine (HSP.out _ (rd_cells HS.out 3 rfl 8 (by rw [uvs_len]; exact hol) (by decide))).mono ?_; rintro e w5 ⟨B5, d5, rfl, hb5, ho5⟩; rw [HSPE.out] at ho5 ⊢; rw [leB_len] at ho5 ⊢; have hS5 := HS.out.row hb5 ho5)
        | (go_at_call 25; refine (HRD.out _ B5 d5 (hS5.rd 0 rfl)).mono ?_; rintro e w6 ⟨B6, d6, rfl, hb6, ho6⟩; have hS6 := hS5.row hb6 ho6))
      go_ret
      exact resB_of hS6 0 rfl rfl
end Go.Proofs.YtkelegjppnfoaaaDoor.S3

/-
  The walks of layer 3: Clamp, Add, full, awake.
-/
namespace Go.Proofs.YtkelegjppnfoaaaDoor.S3
open Go.RowKit

theorem infoB : (Tryd.prog.info? 5).map (fun i => (i.zero, i.size, i.bytes)) = some (some (.int .u8 0), 1, 1) := by kernel_rfl
/-- The bits of a key's first byte; of its last one. -/
@[irreducible] def clA (c : Nat) : Nat := c &&& 248
@[irreducible] def clB (c : Nat) : Nat := (c &&& 127) ||| 64
theorem clA_lt (c : Nat) (h : c < 256) : clA c < 256 := by unfold clA; exact Nat.lt_of_le_of_lt Nat.and_le_left h
theorem clB_lt (c : Nat) (h : c < 256) : clB c < 256 := by unfold clB; exact Nat.or_lt_two_pow (n := 8) (Nat.lt_of_le_of_lt Nat.and_le_left h) (by omega)
theorem clA_eq (c : Nat) (h : c < 256) : bits .and .u8 (c : Int) 248 = (clA c : Int) := by unfold clA; exact u8_and_nat c 248 h (by omega)
theorem clB_eq (c : Nat) (h : c < 256) : bits .or .u8 (bits .and .u8 (c : Int) 127) 64 = (clB c : Int) := by
  have e1 : bits .and .u8 (c : Int) 127 = ((c &&& 127 : Nat) : Int) := u8_and_nat c 127 h (by omega)
  have hlt : c &&& 127 < 256 := Nat.lt_of_le_of_lt Nat.and_le_left h
  rw [e1, u8_or _ _ (by omega) (by omega) (by omega) (by omega)]
  unfold clB
  rfl
@[irreducible] def clampL (l : List UInt8) : List UInt8 := (l.set 0 (UInt8.ofNat (clA ((l.getD 0 0).toNat)))).set 31 (UInt8.ofNat (clB ((l.getD 31 0).toNat)))
theorem clampL_eq (l : List UInt8) (a b : UInt8) (ha : l[0]? = some a) (hb : l[31]? = some b) : clampL l = (l.set 0 (UInt8.ofNat (clA a.toNat))).set 31 (UInt8.ofNat (clB b.toNat)) := by
  unfold clampL
  rw [List.getD_eq_getElem?_getD, List.getD_eq_getElem?_getD, ha, hb]
  rfl
theorem clampL_len (l : List UInt8) : (clampL l).length = l.length := by unfold clampL; simp
set_option maxRecDepth 100000 in
set_option maxHeartbeats 800000 in
theorem clamp_walk (A : Option Addr) (c : Nat) (l : List UInt8) (w : World) (hl : l.length = 32) (hr : Rd w (.slice A 32 c) 1 32 (bvs l)) :
    Calls Tryd.prog 22 #[.slice A 32 c] w (ResB 5 w (clampL l)) := by
  obtain ⟨a, ha⟩ : ∃ a, l[0]? = some a := ⟨l[0], List.getElem?_eq_getElem _⟩
  obtain ⟨b, hb⟩ : ∃ b, l[31]? = some b := ⟨l[31], List.getElem?_eq_getElem _⟩
  have e := clampL_eq l a b ha hb
  have a2 := UInt8.toNat_lt a
  have b2 := UInt8.toNat_lt b
  have ga := bvs_get ha
  have gb := bvs_get hb
  obtain ⟨an, han⟩ : ∃ an, an = a.toNat := ⟨_, rfl⟩
  obtain ⟨bn, hbn⟩ : ∃ bn, bn = b.toNat := ⟨_, rfl⟩
  rw [← han] at e a2 ga
  rw [← hbn] at e b2 gb
  have eA := clA_eq an a2
  have eB := clB_eq bn b2
  have hS := St.init w NoB
  have HR := hide hr
  have HE := hide e
  have HL := hide hl
  have GA := hide ga
  have GB := hide gb
  have LA := hide (clA_lt an a2)
  have LB := hide (clB_lt bn b2)
  clear hr e hl ga gb ha hb han hbn
  go_enter Tryd.func22, Tryd.ntmps22
  go_wp2_with (at_builtin; refine wl_append0 rfl rfl tyB hS rfl rfl HR.out (one_bvs _) (by omega) (by decide) ?_; intro A1 c1 w1 hS1; obtain ⟨g, c1', hv, hc1, hcm, hcs, hfr, _⟩ := hS1.rowOpen 0 rfl (by omega); injection hv with hv1 _ hv3; subst hv1 hv3; have k0 := hcs 0 _ GA.out; have k31 := hcs 31 _ GB.out; have f0 := hfr 0; have f31 := hfr 31; have HS1 := hide hS1; clear hS1 hcs hfr)
  go_ret
  have h2 := (HS1.out.rowSet 0 rfl 0 (.int .u8 (clA an : Nat)) (by omega)).rowSet 0 rfl 31 (.int .u8 (clB bn : Nat)) (by omega)
  rw [bvs_set _ _ _ LA.out, bvs_set _ _ _ LB.out, ← HE.out] at h2
  have h3 := resB_of (l := clampL l) h2 0 rfl rfl
  exact h3
set_option maxRecDepth 100000 in
set_option maxHeartbeats 400000 in
theorem clamp_nil (A : Option Addr) (n c : Nat) (w : World) (hn : n ≠ 32) : Calls Tryd.prog 22 #[.slice A n c] w fun e w' => e = .returned (.slice none 0 0) ∧ w = w' := by
  have hne : ((n : Int) != 32) = true := by simp; omega
  have hne2 : ((n : Int) == 32) = false := by simp; omega
  go_enter Tryd.func22, Tryd.ntmps22
  go_wp2
  go_ret
  exact ⟨rfl, rfl⟩
set_option maxRecDepth 100000 in
set_option maxHeartbeats 400000 in
theorem muladd_nil (A B C : Option Addr) (n1 n2 n3 c1 c2 c3 : Nat) (w : World) (hn : n1 ≠ 32 ∨ n2 ≠ 32 ∨ n3 ≠ 32) :
    Calls Tryd.prog 15 #[.slice A n1 c1, .slice B n2 c2, .slice C n3 c3] w fun e w' => e = .returned (.slice none 0 0) ∧ w = w' := by
  have d1 : ∀ n : Nat, ((n : Int) != 32) = !decide (n = 32) := fun n => by rw [bne, Bool.eq_iff_iff]; simp; omega
  have e1 := d1 n1
  have e2 := d1 n2
  have e3 := d1 n3
  by_cases h1 : n1 = 32
  · by_cases h2 : n2 = 32
    · have h3 : n3 ≠ 32 := by omega
      subst h1 h2
      rw [decide_eq_false h3] at e3
      clear d1 e1 e2 hn
      go_enter Tryd.func15, Tryd.ntmps15
      go_wp2
      go_ret
      exact ⟨rfl, rfl⟩
    · subst h1
      rw [decide_eq_false h2] at e2
      clear d1 e1 e3 hn
      go_enter Tryd.func15, Tryd.ntmps15
      go_wp2
      go_ret
      exact ⟨rfl, rfl⟩
  · rw [decide_eq_false h1] at e1
    clear d1 e2 e3 hn
    go_enter Tryd.func15, Tryd.ntmps15
    go_wp2
    go_ret
    exact ⟨rfl, rfl⟩
theorem one_list : bval (1 :: List.replicate 31 0) = 1 := by
  rw [bval, bval_zeros]; rfl
/-- Bytes made 32: zeros behind, cut. -/
@[irreducible] def fullL (l : List UInt8) : List UInt8 := (l ++ List.replicate 32 0).take 32
theorem fullL_len (l : List UInt8) : (fullL l).length = 32 := by unfold fullL; rw [List.length_take, List.length_append, List.length_replicate]; omega
end Go.Proofs.YtkelegjppnfoaaaDoor.S3

/-
  The walk of layer 3's awake.
-/
namespace Go.Proofs.YtkelegjppnfoaaaDoor.S3
open Go.RowKit

theorem enMay (args : Array Value) (w : World) : (callFunc 17 args).run Tryd.prog w = .ok (.enter 17 args) w := by kernel_rfl
@[irreducible] def aw0 : List UInt8 := [237, 211, 245, 92, 26, 99, 18, 88, 214, 156, 247, 162, 222, 249, 222, 20]
@[irreducible] def aw1 : List UInt8 := (aw0 ++ List.replicate 16 0).set 31 16
@[irreducible] def aw2 : List UInt8 := aw1.set 0 236
@[irreducible] def zz : List UInt8 := List.replicate 32 0
theorem aw1_val : bval aw1 = Lq := by unfold aw1 aw0 Lq; decide +kernel
theorem aw2_may : mayS aw2 = true := by unfold aw2 aw1 aw0 mayS Lq; decide +kernel
theorem aw1_red : leB 32 (bval aw1 % Lq) = zz := by rw [aw1_val, Nat.mod_self, leB_zero]; unfold zz; rfl
theorem aw0_len : aw0.length = 16 := by unfold aw0; rfl
theorem aw1_len : aw1.length = 32 := by unfold aw1 aw0; rfl
theorem aw2_len : aw2.length = 32 := by unfold aw2; rw [List.length_set]; exact aw1_len
theorem zz_len : zz.length = 32 := by unfold zz; rfl
end Go.Proofs.YtkelegjppnfoaaaDoor.S3

/-
  The walk of ScalarClamps.
-/
namespace Go.Proofs.YtkelegjppnfoaaaDoor.S3
open Go.RowKit

theorem rd_mid {w : World} {b o n c : Nat} {l : List UInt8} (h : Rd w (.slice (some ⟨b, o, none⟩) n c) 1 n (bvs l)) (i j : Nat) (hij : i ≤ j) (hj : j ≤ n) :
    Rd w (.slice (some ⟨b, o + i, none⟩) (j - i) (c - i)) 1 (j - i) (bvs ((l.drop i).take (j - i))) := by
  obtain ⟨A', c', e, h1, h2, h3, h4, h5⟩ := h
  injection e with e1 _ e3
  subst e1 e3
  rw [length_bvs] at h1
  refine ⟨_, _, rfl, by rw [length_bvs, List.length_take, List.length_drop]; omega, by omega, by omega, (fun h => by cases h), ?_⟩
  intro b' o' sp' hA
  injection hA with hA
  injection hA with k1 k2 k3
  subst k1 k2 k3
  refine ⟨fun _ => rfl, fun k u hu => ?_⟩
  obtain ⟨x, hx, rfl⟩ : ∃ x, ((l.drop i).take (j - i))[k]? = some x ∧ u = .int .u8 (x.toNat : Int) := by
    simp only [bvs, List.getElem?_map, Option.map_eq_some_iff] at hu
    obtain ⟨x, h1, h2⟩ := hu
    exact ⟨x, h1, h2.symm⟩
  have hk : k < j - i := by
    have := (List.getElem?_eq_some_iff.1 hx).1
    rw [List.length_take] at this
    omega
  rw [List.getElem?_take_of_lt hk, List.getElem?_drop] at hx
  have := (h5 b o none rfl).2 (i + k) _ (bvs_get hx)
  rwa [show o + (i + k) = o + i + k from by omega] at this

theorem clA_facts : ∀ x : Fin 256, (x.val &&& 248) &&& 7 = 0 ∧ (x.val &&& 248) ||| 7 = x.val ||| 7 ∧ (x.val &&& 248) &&& 248 = x.val &&& 248 := by decide +kernel
theorem clB_facts : ∀ x : Fin 256, 64 ≤ (x.val &&& 127) ||| 64 ∧ (x.val &&& 127) ||| 64 ≤ 127 ∧ ((x.val &&& 127) ||| 64) &&& 63 = x.val &&& 63 ∧ (((x.val &&& 127) ||| 64) &&& 127) ||| 64 = (x.val &&& 127) ||| 64 := by decide +kernel
theorem clA_and7 (c : Nat) (h : c < 256) : bits .and .u8 (clA c : Int) 7 = 0 := by
  rw [show bits .and .u8 (clA c : Int) 7 = ((clA c &&& 7 : Nat) : Int) from u8_and_nat _ 7 (clA_lt c h) (by omega)]
  unfold clA
  rw [(clA_facts ⟨c, h⟩).1]
  rfl
theorem clA_or7 (c : Nat) (h : c < 256) : bits .or .u8 (clA c : Int) 7 = bits .or .u8 (c : Int) 7 := by
  have h1 := clA_lt c h
  rw [u8_or _ _ (by omega) (by omega) (by omega) (by omega), u8_or _ _ (by omega) (by omega) (by omega) (by omega)]
  have := (clA_facts ⟨c, h⟩).2.1
  unfold clA
  show (((c &&& 248) ||| 7 : Nat) : Int) = ((c ||| 7 : Nat) : Int)
  rw [this]
theorem clB_ge (c : Nat) (h : c < 256) : 64 ≤ clB c ∧ clB c ≤ 127 := by unfold clB; exact ⟨(clB_facts ⟨c, h⟩).1, (clB_facts ⟨c, h⟩).2.1⟩
theorem clB_and63 (c : Nat) (h : c < 256) : bits .and .u8 (clB c : Int) 63 = bits .and .u8 (c : Int) 63 := by
  rw [show bits .and .u8 (clB c : Int) 63 = ((clB c &&& 63 : Nat) : Int) from u8_and_nat _ 63 (clB_lt c h) (by omega), show bits .and .u8 (c : Int) 63 = ((c &&& 63 : Nat) : Int) from u8_and_nat _ 63 h (by omega)]
  unfold clB
  rw [(clB_facts ⟨c, h⟩).2.2.1]
theorem clA_twice (c : Nat) (h : c < 256) : clA (clA c) = clA c := by unfold clA; exact (clA_facts ⟨c, h⟩).2.2
theorem clB_twice (c : Nat) (h : c < 256) : clB (clB c) = clB c := by unfold clB; exact (clB_facts ⟨c, h⟩).2.2.2
theorem clamp_get (l : List UInt8) (h : l.length = 32) : (clampL l)[0]? = some (UInt8.ofNat (clA (l.getD 0 0).toNat)) ∧ (clampL l)[31]? = some (UInt8.ofNat (clB (l.getD 31 0).toNat)) := by
  unfold clampL
  constructor
  · rw [List.getElem?_set_ne (by omega), List.getElem?_set_self (by omega)]
  · rw [List.getElem?_set_self (by rw [List.length_set]; omega)]
theorem clamp_twice (l : List UInt8) (h : l.length = 32) : clampL (clampL l) = clampL l := by
  obtain ⟨h0, h31⟩ := clamp_get l h
  have ha := UInt8.toNat_lt (l.getD 0 0)
  have hb := UInt8.toNat_lt (l.getD 31 0)
  have e0 : (UInt8.ofNat (clA (l.getD 0 0).toNat)).toNat = clA (l.getD 0 0).toNat := by rw [UInt8.toNat_ofNat', Nat.mod_eq_of_lt (clA_lt _ ha)]
  have e31 : (UInt8.ofNat (clB (l.getD 31 0).toNat)).toNat = clB (l.getD 31 0).toNat := by rw [UInt8.toNat_ofNat', Nat.mod_eq_of_lt (clB_lt _ hb)]
  rw [clampL_eq (clampL l) _ _ h0 h31, e0, e31, clA_twice _ ha, clB_twice _ hb]
  refine List.ext_getElem? fun i => ?_
  by_cases h1 : i = 31
  · subst h1; rw [List.getElem?_set_self (by rw [List.length_set, clampL_len]; omega), h31]
  · rw [List.getElem?_set_ne (by omega)]
    by_cases h2 : i = 0
    · subst h2; rw [List.getElem?_set_self (by rw [clampL_len]; omega), h0]
    · rw [List.getElem?_set_ne (by omega)]
theorem clamp_mid (l : List UInt8) (h : l.length = 32) : ((clampL l).drop 1).take 30 = (l.drop 1).take 30 := by
  refine List.ext_getElem? fun i => ?_
  by_cases hi : i < 30
  · rw [List.getElem?_take_of_lt hi, List.getElem?_take_of_lt hi, List.getElem?_drop, List.getElem?_drop]
    unfold clampL
    rw [List.getElem?_set_ne (by omega), List.getElem?_set_ne (by omega)]
  · rw [List.getElem?_eq_none (by rw [List.length_take]; omega), List.getElem?_eq_none (by rw [List.length_take]; omega)]
theorem rd_at {w : World} {b o n c size : Nat} {xs : List Value} (h : Rd w (.slice (some ⟨b, o, none⟩) n c) size n xs) {j : Nat} {u : Value} (hu : xs[j]? = some u) : w.cell? ⟨b, o + j, none⟩ = some u := by
  obtain ⟨A', c', e, _, _, _, _, h5⟩ := h
  injection e with e1 _ _
  subst e1
  exact (h5 b o none rfl).2 j u hu
theorem enClamp (args : Array Value) (w : World) : (callFunc 22 args).run Tryd.prog w = .ok (.enter 22 args) w := by kernel_rfl
end Go.Proofs.YtkelegjppnfoaaaDoor.S3

/-
  Sum, product and remainder of layer 3 as plain functions on bytes; their laws; the code's functions in these words.
-/
namespace Go.Proofs.YtkelegjppnfoaaaDoor.S3
open Go.RowKit

@[irreducible] def sumL (a b : List UInt8) : List UInt8 := leB 32 ((bval a + bval b) % Lq)
@[irreducible] def madL (a b c : List UInt8) : List UInt8 := leB 32 ((bval a * bval b + bval c) % Lq)
@[irreducible] def redL (a : List UInt8) : List UInt8 := leB 32 (bval a % Lq)
@[irreducible] def z32 : List UInt8 := List.replicate 32 0
theorem sumL_len (a b : List UInt8) : (sumL a b).length = 32 := by unfold sumL; exact leB_len _ _
theorem madL_len (a b c : List UInt8) : (madL a b c).length = 32 := by unfold madL; exact leB_len _ _
theorem redL_len (a : List UInt8) : (redL a).length = 32 := by unfold redL; exact leB_len _ _
theorem z32_len : z32.length = 32 := by unfold z32; rfl
theorem Lq_256 : Lq < 256 ^ 32 := by unfold Lq; decide
theorem bval_mod (n : Nat) : bval (leB 32 (n % Lq)) = n % Lq := by
  rw [bval_leB, Nat.mod_eq_of_lt]
  exact Nat.lt_trans (Nat.mod_lt _ Lq_lt.2) Lq_256
theorem bval_sumL (a b : List UInt8) : bval (sumL a b) = (bval a + bval b) % Lq := by unfold sumL; exact bval_mod _
theorem bval_madL (a b c : List UInt8) : bval (madL a b c) = (bval a * bval b + bval c) % Lq := by unfold madL; exact bval_mod _
theorem bval_redL (a : List UInt8) : bval (redL a) = bval a % Lq := by unfold redL; exact bval_mod _
theorem bval_z32 : bval z32 = 0 := by unfold z32; exact bval_zeros 32
theorem may_of (l : List UInt8) (h : l.length = 32) (hv : bval l < Lq) : mayS l = true := by unfold mayS; rw [decide_eq_true h, decide_eq_true hv]; rfl
theorem may_sumL (a b : List UInt8) : mayS (sumL a b) = true := may_of _ (sumL_len a b) (by rw [bval_sumL]; exact Nat.mod_lt _ Lq_lt.2)
theorem may_madL (a b c : List UInt8) : mayS (madL a b c) = true := may_of _ (madL_len a b c) (by rw [bval_madL]; exact Nat.mod_lt _ Lq_lt.2)
theorem may_redL (a : List UInt8) : mayS (redL a) = true := may_of _ (redL_len a) (by rw [bval_redL]; exact Nat.mod_lt _ Lq_lt.2)
theorem sumL_comm (a b : List UInt8) : sumL b a = sumL a b := by unfold sumL; rw [Nat.add_comm]
theorem madL_comm (a b c : List UInt8) : madL b a c = madL a b c := by unfold madL; rw [Nat.mul_comm]
theorem sumL_assoc (a b c : List UInt8) : sumL a (sumL b c) = sumL (sumL a b) c := by
  rw [show sumL a (sumL b c) = leB 32 ((bval a + bval (sumL b c)) % Lq) from by unfold sumL; rfl, bval_sumL, show sumL (sumL a b) c = leB 32 ((bval (sumL a b) + bval c) % Lq) from by unfold sumL; rfl, bval_sumL, Nat.add_mod_mod, Nat.mod_add_mod, Nat.add_assoc]
theorem madL_z (a b : List UInt8) : madL a b z32 = leB 32 ((bval a * bval b) % Lq) := by unfold madL; rw [bval_z32, Nat.add_zero]
theorem madL_over (x y z : List UInt8) : madL x (sumL y z) z32 = sumL (madL x y z32) (madL x z z32) := by
  rw [madL_z, bval_sumL, show sumL (madL x y z32) (madL x z z32) = leB 32 ((bval (madL x y z32) + bval (madL x z z32)) % Lq) from by unfold sumL; rfl, bval_madL, bval_madL, bval_z32, Nat.add_zero, Nat.add_zero, Nat.mul_mod_mod, Nat.mul_add, ← Nat.add_mod]
theorem madL_assoc (x y z : List UInt8) : madL x (madL y z z32) z32 = madL (madL x y z32) z z32 := by
  rw [madL_z, bval_madL, madL_z (madL x y z32), bval_madL, bval_z32, Nat.add_zero, Nat.add_zero, Nat.mul_mod_mod, Nat.mod_mul_mod, Nat.mul_assoc]
theorem madL_one (x o : List UInt8) (ho : bval o = 1) : madL x o z32 = redL x := by
  rw [madL_z, ho, Nat.mul_one]; unfold redL; rfl
theorem redL_stays (x : List UInt8) (h : x.length = 32) (hm : mayS x = true) : redL x = x := by
  unfold mayS at hm
  rw [Bool.and_eq_true, decide_eq_true_eq, decide_eq_true_eq] at hm
  refine bval_inj (by rw [redL_len, h]) ?_
  rw [bval_redL, Nat.mod_eq_of_lt hm.2]
theorem redL_moves (x : List UInt8) (hm : mayS x = false) : redL x ≠ x := fun e => by
  have := may_redL x
  rw [e, hm] at this
  cases this
theorem redL_halves (x y t : List UInt8) (hx : x.length = 32) (ht : bval t = 256 ^ 32 % Lq) : redL (x ++ y) = madL y t x := by
  unfold redL madL
  rw [bval_append, hx, ht, Nat.add_comm, Nat.mul_comm (256 ^ 32)]
  rw [Nat.add_mod, ← Nat.mul_mod_mod, ← Nat.add_mod]
theorem bval_full (l : List UInt8) (h : l.length ≤ 32) : bval (fullL l) = bval l := by
  unfold fullL
  rw [List.take_append, List.take_of_length_le h, bval_append, List.take_replicate, bval_zeros, Nat.mul_zero, Nat.add_zero]
theorem strOf_ne {a b : List UInt8} (h : a ≠ b) : strOf a ≠ strOf b := fun e => h (by rw [← strOf_toList a, ← strOf_toList b, e])

theorem step_lit {yl : Nat → Option Bool} {o : Oper} {a : Act} {K : Act → World → Prop} {Q : Exit → Act → World → Prop} {E : Prop} (hw : Region.wanted o yl = true) {P : Program} {w : World} {us : List Value} {n : Nat} {e : TypeId}
    (hrun : ∀ w, (execOp a.eval o).run P w = .ok (.value (.slice (some ⟨w.heap.size, 0, none⟩) n n)) (w.alloc (.cells us.toArray e))) (hl : us.length = n) (hn : n ≤ 4294967296)
    (h : ∀ g w', St w NoB w' [.row (.slice (some ⟨g, 0, none⟩) n n) e 1 n us] → K (a.put o.dst (.slice (some ⟨g, 0, none⟩) n n)) w') : if Region.wanted o yl = true then Oper.wp P o a w K Q else E :=
  step_run hw (hrun w) (h w.heap.size _ ((St.init w NoB).lit us e 1 n (by omega) (by unfold maxLen; omega)))

theorem enMulAdd (args : Array Value) (w : World) : (callFunc 15 args).run Tryd.prog w = .ok (.enter 15 args) w := by kernel_rfl
theorem enReduce (args : Array Value) (w : World) : (callFunc 25 args).run Tryd.prog w = .ok (.enter 25 args) w := by kernel_rfl
def Row32 (w : World) (l : List UInt8) (e : Ending) (w' : World) : Prop := ∃ R d, e = .returned (.slice R 32 d) ∧ Below w.heap.size w w' ∧ Rd w' (.slice R 32 d) 1 32 (bvs l)
theorem row32_of {w : World} {l : List UInt8} {e : Ending} {w' : World} (hl : l.length = 32) (h : ResB 5 w l e w') : Row32 w l e w' := by
  obtain ⟨A, c, he, hb, ho⟩ := h
  rw [hl] at he ho
  exact ⟨A, c, he, hb, rd_own ho⟩
theorem madC {W : World} {A B C : Option Addr} {ca cb cc : Nat} {a b c : List UInt8} (hla : a.length = 32) (hlb : b.length = 32) (hlc : c.length = 32) (ha : Rd W (.slice A 32 ca) 1 32 (bvs a)) (hb : Rd W (.slice B 32 cb) 1 32 (bvs b))
    (hc : Rd W (.slice C 32 cc) 1 32 (bvs c)) : Calls Tryd.prog 15 #[.slice A 32 ca, .slice B 32 cb, .slice C 32 cc] W (Row32 W (madL a b c)) :=
  (muladd_walk A B C ca cb cc a b c W hla hlb hlc ha hb hc).mono fun _ _ h => row32_of (madL_len a b c) (by unfold madL; exact h)
theorem redC {W : World} {A : Option Addr} {n ca : Nat} {a : List UInt8} (hla : a.length = n) (hn : n ≤ 64) (ha : Rd W (.slice A n ca) 1 n (bvs a)) :
    Calls Tryd.prog 25 #[.slice A n ca] W (Row32 W (redL a)) :=
  (reduce_walk A n ca a W hla hn ha).mono fun _ _ h => row32_of (redL_len a) (by unfold redL; exact h)
theorem mayC {W : World} {A : Option Addr} {n ca : Nat} {a : List UInt8} {b : Bool} (hm : mayS a = b) (hla : a.length = n) (ha : Rd W (.slice A n ca) 1 n (bvs a)) :
    Calls Tryd.prog 17 #[.slice A n ca] W fun e w' => e = .returned (.bool b) ∧ Below W.heap.size W w' := by
  subst hm
  exact may_walk A n ca a W hla ha
set_option maxRecDepth 100000 in
set_option maxHeartbeats 400000 in
theorem reduce_nil (A : Option Addr) (n c : Nat) (w : World) (hn : 64 < n) : Calls Tryd.prog 25 #[.slice A n c] w fun e w' => e = .returned (.slice none 0 0) ∧ w = w' := by
  have hne : decide (64 < (n : Int)) = true := by simp; omega
  go_enter Tryd.func25, Tryd.ntmps25
  go_wp2
  go_ret
  exact ⟨rfl, rfl⟩
end Go.Proofs.YtkelegjppnfoaaaDoor.S3

/-
  Layer 1: words that are turned and mixed, in plain numbers; the walks of the small functions.
-/
namespace Go.Proofs.YtkelegjppnfoaaaDoor.S1
open Go.RowKit

abbrev W1 : Nat := 18446744073709551616
/-- A word, turned to the right. -/
@[irreducible] def rot (x n : Nat) : Nat := x / 2 ^ n ||| x * 2 ^ (64 - n) % W1
theorem or_lt (a b : Nat) (ha : a < W1) (hb : b < W1) : a ||| b < W1 := Nat.or_lt_two_pow (n := 64) ha hb
theorem xor_lt (a b : Nat) (ha : a < W1) (hb : b < W1) : a ^^^ b < W1 := Nat.xor_lt_two_pow (n := 64) ha hb
theorem and_lt (a b : Nat) (ha : a < W1) : a &&& b < W1 := Nat.lt_of_le_of_lt Nat.and_le_left ha
theorem rot_lt (x n : Nat) (hx : x < W1) : rot x n < W1 := by
  unfold rot
  exact or_lt _ _ (Nat.lt_of_le_of_lt (Nat.div_le_self _ _) hx) (Nat.mod_lt _ (by decide))
@[irreducible] def mix (x a b c : Nat) : Nat := (rot x a ^^^ rot x b) ^^^ rot x c
@[irreducible] def spr (x a b s : Nat) : Nat := (rot x a ^^^ rot x b) ^^^ x / 2 ^ s
theorem mix_lt (x a b c : Nat) (hx : x < W1) : mix x a b c < W1 := by unfold mix; exact xor_lt _ _ (xor_lt _ _ (rot_lt _ _ hx) (rot_lt _ _ hx)) (rot_lt _ _ hx)
theorem spr_lt (x a b s : Nat) (hx : x < W1) : spr x a b s < W1 := by unfold spr; exact xor_lt _ _ (xor_lt _ _ (rot_lt _ _ hx) (rot_lt _ _ hx)) (Nat.lt_of_le_of_lt (Nat.div_le_self _ _) hx)
theorem rot_l (x s : Nat) (hx : x < W1) : bits .or .u64 (IntKind.u64.wrap ((x : Int) * 2 ^ s)) ((x : Int) / 2 ^ (64 - s)) = ((x / 2 ^ (64 - s) ||| x * 2 ^ s % W1 : Nat) : Int) := by
  have e1 : IntKind.u64.wrap ((x : Int) * 2 ^ s) = ((x * 2 ^ s % W1 : Nat) : Int) := by
    rw [IntKind.wrap_u64, show (x : Int) * 2 ^ s = ((x * 2 ^ s : Nat) : Int) from by rw [Int.natCast_mul, Int.natCast_pow]; rfl]
    rfl
  have e2 : (x : Int) / 2 ^ (64 - s) = ((x / 2 ^ (64 - s) : Nat) : Int) := by
    rw [Int.natCast_ediv, Int.natCast_pow]
    rfl
  rw [e1, e2, u64_or_nat _ _ (Nat.mod_lt _ (by decide)) (Nat.lt_of_le_of_lt (Nat.div_le_self _ _) hx), Nat.or_comm]
theorem rot_r (x n : Nat) (hx : x < W1) : bits .or .u64 ((x : Int) / 2 ^ n) (IntKind.u64.wrap ((x : Int) * 2 ^ (64 - n))) = ((rot x n : Nat) : Int) := by
  have e1 : IntKind.u64.wrap ((x : Int) * 2 ^ (64 - n)) = ((x * 2 ^ (64 - n) % W1 : Nat) : Int) := by
    rw [IntKind.wrap_u64, show (x : Int) * 2 ^ (64 - n) = ((x * 2 ^ (64 - n) : Nat) : Int) from by rw [Int.natCast_mul, Int.natCast_pow]; rfl]
    rfl
  have e2 : (x : Int) / 2 ^ n = ((x / 2 ^ n : Nat) : Int) := by
    rw [Int.natCast_ediv, Int.natCast_pow]
    rfl
  rw [e1, e2, u64_or_nat _ _ (Nat.lt_of_le_of_lt (Nat.div_le_self _ _) hx) (Nat.mod_lt _ (by decide))]
  unfold rot
  rfl
set_option maxRecDepth 100000 in
set_option maxHeartbeats 800000 in
theorem rotl_walk (x n : Nat) (w : World) (hx : x < W1) (h1 : 1 ≤ n) (h2 : n ≤ 63) :
    Calls Tryd.prog 77 #[.int .u64 (x : Int), .int .i64 (-(n : Int))] w fun e w' => e = .returned (.int .u64 (rot x n : Int)) ∧ w = w' := by
  have hm : bits .and .u64 (IntKind.u64.wrap (-(n : Int))) 63 = ((64 - n : Nat) : Int) := by
    have e : IntKind.u64.wrap (-(n : Int)) = ((W1 - n : Nat) : Int) := by rw [IntKind.wrap_u64]; unfold W1; omega
    have h := u64_and_nat (W1 - n) 63 (by unfold W1; omega) (by omega)
    rw [show (W1 - n) &&& 63 = (W1 - n) % 64 from Nat.and_two_pow_sub_one_eq_mod _ 6] at h
    rw [e]
    refine h.trans ?_
    unfold W1
    omega
  have hr := rot_l x (64 - n) hx
  obtain ⟨s, hs⟩ : ∃ s, s = 64 - n := ⟨_, rfl⟩
  rw [show 64 - (64 - n) = 64 - s from by omega, ← hs] at hr
  have he : (x / 2 ^ (64 - s) ||| x * 2 ^ s % W1) = rot x n := by unfold rot; rw [show 64 - s = n from by omega, hs]
  rw [he] at hr
  rw [← hs] at hm
  have s1 : 1 ≤ s := by omega
  have s2 : s ≤ 63 := by omega
  have HR := hide hr
  clear hs he hr
  go_enter Tryd.func77, Tryd.ntmps77
  go_wp2_with fail
  go_ret
  exact ⟨congrArg (fun z => Ending.returned (.int .u64 z)) HR.out, rfl⟩
set_option maxRecDepth 100000 in
set_option maxHeartbeats 800000 in
theorem rotated_any (x n : Nat) (w : World) (hx : x < W1) (h1 : 1 ≤ n) (h2 : n ≤ 63) :
    Calls Tryd.prog 70 #[.int .u64 (x : Int), .int .i64 (n : Int)] w fun e w' => e = .returned (.int .u64 (rot x n : Int)) ∧ w = w' := by
  have HC := hide (fun W => rotl_walk x n W hx h1 h2)
  go_enter Tryd.func70, Tryd.ntmps70
  go_wp2_with (go_at_call 77; refine (HC.out _).mono ?_; rintro e w1 ⟨rfl, rfl⟩)
  go_ret
  exact ⟨rfl, rfl⟩
set_option maxRecDepth 100000 in
set_option maxHeartbeats 800000 in
theorem mixes_any (x a b c : Nat) (w : World) (hx : x < W1) (ha : 1 ≤ a ∧ a ≤ 63) (hb : 1 ≤ b ∧ b ≤ 63) (hc : 1 ≤ c ∧ c ≤ 63) :
    Calls Tryd.prog 65 #[.int .u64 (x : Int), .int .i64 (a : Int), .int .i64 (b : Int), .int .i64 (c : Int)] w fun e w' => e = .returned (.int .u64 (mix x a b c : Int)) ∧ w = w' := by
  have x1 := u64_xor_nat (rot x a) (rot x b) (rot_lt x a hx) (rot_lt x b hx)
  have x2 := u64_xor_nat (rot x a ^^^ rot x b) (rot x c) (xor_lt _ _ (rot_lt x a hx) (rot_lt x b hx)) (rot_lt x c hx)
  have HA := hide (fun W => rotated_any x a W hx ha.1 ha.2)
  have HB := hide (fun W => rotated_any x b W hx hb.1 hb.2)
  have HC := hide (fun W => rotated_any x c W hx hc.1 hc.2)
  have he : (rot x a ^^^ rot x b) ^^^ rot x c = mix x a b c := by unfold mix; rfl
  rw [he] at x2
  generalize mix x a b c = y2 at *
  generalize rot x a ^^^ rot x b = y1 at *
  generalize rot x a = r1 at *
  generalize rot x b = r2 at *
  generalize rot x c = r3 at *
  clear he ha hb hc hx
  go_enter Tryd.func65, Tryd.ntmps65
  go_wp2_with (first
    | (have _q := q2; go_at_call 70; refine (HC.out _).mono ?_; rintro e w1 ⟨rfl, rfl⟩; have q3 : True := trivial)
    | (have _q := q1; go_at_call 70; refine (HB.out _).mono ?_; rintro e w1 ⟨rfl, rfl⟩; have q2 : True := trivial)
    | (go_at_call 70; refine (HA.out _).mono ?_; rintro e w1 ⟨rfl, rfl⟩; have q1 : True := trivial))
  go_ret
  exact ⟨rfl, rfl⟩
theorem enRotated (args : Array Value) (w : World) : (callFunc 70 args).run Tryd.prog w = .ok (.enter 70 args) w := by kernel_rfl
set_option maxRecDepth 100000 in
set_option maxHeartbeats 800000 in
theorem spread_any (x a b s : Nat) (w : World) (hx : x < W1) (ha : 1 ≤ a ∧ a ≤ 63) (hb : 1 ≤ b ∧ b ≤ 63) (hs : s ≤ 63) :
    Calls Tryd.prog 69 #[.int .u64 (x : Int), .int .i64 (a : Int), .int .i64 (b : Int), .int .i64 (s : Int)] w fun e w' => e = .returned (.int .u64 (spr x a b s : Int)) ∧ Below w.heap.size w w' := by
  have x1 := u64_xor_nat (rot x a) (rot x b) (rot_lt x a hx) (rot_lt x b hx)
  have x2 := u64_xor_nat (rot x a ^^^ rot x b) (x / 2 ^ s) (xor_lt _ _ (rot_lt x a hx) (rot_lt x b hx)) (Nat.lt_of_le_of_lt (Nat.div_le_self _ _) hx)
  rw [show (((x / 2 ^ s : Nat)) : Int) = (x : Int) / 2 ^ s from by rw [Int.natCast_ediv, Int.natCast_pow]; rfl] at x2
  have HA := hide (fun W => rotated_any x a W hx ha.1 ha.2)
  have HB := hide (fun W => rotated_any x b W hx hb.1 hb.2)
  have he : (rot x a ^^^ rot x b) ^^^ x / 2 ^ s = spr x a b s := by unfold spr; rfl
  rw [he] at x2
  generalize spr x a b s = y2 at *
  generalize rot x a ^^^ rot x b = y1 at *
  generalize rot x a = r1 at *
  generalize rot x b = r2 at *
  clear he ha hb hx
  go_enter Tryd.func69, Tryd.ntmps69
  go_wp2_with fail
  refine wp_region_F (by kernel_rfl) ?_
  (refine wpG_take (i := 0) (v := ?_) rfl (by kernel_rfl) (by kernel_rfl) (by kernel_rfl) (fun _ _ _ h => h) ((From.refl w.drew)) (Or.inl ⟨by first | kernel_rfl | rfl, ?_⟩) ?_; rotate_left; (intro wx hx; go_simp) <;> (with_reducible rfl); (try simp only [Act.put, nq1, nq2, nq3, nq4, nq5, nq6])); (refine wpG_take (i := 1) (v := ?_) rfl (by kernel_rfl) (by kernel_rfl) (by kernel_rfl) (fun _ _ _ h => h) ((From.refl w.drew)) (Or.inl ⟨by first | kernel_rfl | rfl, ?_⟩) ?_; rotate_left; (intro wx hx; go_simp) <;> (with_reducible rfl); (try simp only [Act.put, nq1, nq2, nq3, nq4, nq5, nq6])); (refine wpG_take (i := 3) (v := ?_) rfl (by kernel_rfl) (by kernel_rfl) (by kernel_rfl) (fun _ _ _ h => h) ((From.refl w.drew)) (Or.inl ⟨by first | kernel_rfl | rfl, ?_⟩) ?_; rotate_left; (intro wx hx; go_simp) <;> (with_reducible rfl); (try simp only [Act.put, nq1, nq2, nq3, nq4, nq5, nq6])); (refine wpG_take (i := 4) (v := ?_) rfl (by kernel_rfl) (by kernel_rfl) (by kernel_rfl) (fun _ _ _ h => h) ((From.refl w.drew)) (Or.inl ⟨by first | kernel_rfl | rfl, ?_⟩) ?_; rotate_left; (intro wx hx; go_simp) <;> (with_reducible rfl); (try simp only [Act.put, nq1, nq2, nq3, nq4, nq5, nq6])); (refine wpG_take (i := 7) (v := ?_) rfl (by kernel_rfl) (by kernel_rfl) (by kernel_rfl) (fun _ _ _ h => h) ((From.refl w.drew)) (Or.inl ⟨by first | kernel_rfl | rfl, ?_⟩) ?_; rotate_left; (intro wx hx; go_simp) <;> (with_reducible rfl); (try simp only [Act.put, nq1, nq2, nq3, nq4, nq5, nq6])); (refine wpG_take (i := 8) (v := ?_) rfl (by kernel_rfl) (by kernel_rfl) (by kernel_rfl) (fun _ _ _ h => h) ((From.refl w.drew)) (Or.inl ⟨by first | kernel_rfl | rfl, ?_⟩) ?_; rotate_left; (intro wx hx; go_simp) <;> (with_reducible rfl); (try simp only [Act.put, nq1, nq2, nq3, nq4, nq5, nq6])); (refine wpG_take (i := 9) (v := ?_) rfl (by kernel_rfl) (by kernel_rfl) (by kernel_rfl) (fun _ _ _ h => h) ((From.refl w.drew)) (Or.inl ⟨by first | kernel_rfl | rfl, ?_⟩) ?_; rotate_left; (intro wx hx; go_simp) <;> (with_reducible rfl); (try simp only [Act.put, nq1, nq2, nq3, nq4, nq5, nq6]))
  (refine wpG_one (i := 2) (by kernel_rfl) rfl ?_; intro K hK; (try simp only [Act.put, nq1, nq2, nq3, nq4, nq5, nq6]))
  refine step_call rfl rfl enRotated rfl (HA.out _) ?_
  rintro e v1 ⟨rfl, rfl⟩
  refine ⟨_, rfl, hK (From w.drew) _ _ (fun _ h => h) (From.refl w.drew) ?_⟩
  clear hK K
  (try simp only [Act.put, nq1, nq2, nq3, nq4, nq5, nq6])
  (refine wpG_one (i := 5) (by kernel_rfl) rfl ?_; intro K hK; (try simp only [Act.put, nq1, nq2, nq3, nq4, nq5, nq6]))
  refine step_call rfl rfl enRotated rfl (HB.out _) ?_
  rintro e v2 ⟨rfl, rfl⟩
  refine ⟨_, rfl, hK (From w.drew) _ _ (fun _ h => h) (From.refl w.drew) ?_⟩
  clear hK K
  (try simp only [Act.put, nq1, nq2, nq3, nq4, nq5, nq6])
  (refine wpG_take (i := 6) (v := ?_) rfl (by kernel_rfl) (by kernel_rfl) (by kernel_rfl) (fun _ _ _ h => h) ((From.refl w.drew)) (Or.inl ⟨by first | kernel_rfl | rfl, ?_⟩) ?_; rotate_left; (intro wx hx; go_simp) <;> (with_reducible rfl); (try simp only [Act.put, nq1, nq2, nq3, nq4, nq5, nq6])); (refine wpG_take (i := 10) (v := ?_) rfl (by kernel_rfl) (by kernel_rfl) (by kernel_rfl) (fun _ _ _ h => h) ((From.refl w.drew)) (Or.inl ⟨by first | kernel_rfl | rfl, ?_⟩) ?_; rotate_left; (intro wx hx; go_simp) <;> (with_reducible rfl); (try simp only [Act.put, nq1, nq2, nq3, nq4, nq5, nq6])); (refine wpG_take (i := 11) (v := ?_) rfl (by kernel_rfl) (by kernel_rfl) (by kernel_rfl) (fun _ _ _ h => h) ((From.refl w.drew)) (Or.inl ⟨by first | kernel_rfl | rfl, ?_⟩) ?_; rotate_left; (intro wx hx; go_simp) <;> (with_reducible rfl); (try simp only [Act.put, nq1, nq2, nq3, nq4, nq5, nq6]))
  refine wpG_done (by kernel_rfl) ?_ _
  go_wp2_with fail
  go_ret
  exact ⟨rfl, (Below.refl _ _).drew⟩
end Go.Proofs.YtkelegjppnfoaaaDoor.S1

/-
  Layer 1: the walks of word, behind, begin, constants.
-/
namespace Go.Proofs.YtkelegjppnfoaaaDoor.S1
open Go.RowKit

def h0L : List Nat := [7640891576956012808, 13503953896175478587, 4354685564936845355, 11912009170470909681, 5840696475078001361, 11170449401992604703, 2270897969802886507, 6620516959819538809]
def kL : List Nat := [4794697086780616226, 8158064640168781261, 13096744586834688815, 16840607885511220156, 4131703408338449720, 6480981068601479193, 10538285296894168987, 12329834152419229976, 15566598209576043074, 1334009975649890238, 2608012711638119052, 6128411473006802146, 8268148722764581231, 9286055187155687089, 11230858885718282805, 13951009754708518548, 16472876342353939154, 17275323862435702243, 1135362057144423861, 2597628984639134821, 3308224258029322869, 5365058923640841347, 6679025012923562964, 8573033837759648693, 10970295158949994411, 12119686244451234320, 12683024718118986047, 13788192230050041572, 14330467153632333762, 15395433587784984357, 489312712824947311, 1452737877330783856, 2861767655752347644, 3322285676063803686, 5560940570517711597, 5996557281743188959, 7280758554555802590, 8532644243296465576, 9350256976987008742, 10552545826968843579, 11727347734174303076, 12113106623233404929, 14000437183269869457, 14369950271660146224, 15101387698204529176, 15463397548674623760, 17586052441742319658, 1182934255886127544, 1847814050463011016, 2177327727835720531, 2830643537854262169, 3796741975233480872, 4115178125766777443, 5681478168544905931, 6601373596472566643, 7507060721942968483, 8399075790359081724, 8693463985226723168, 9568029438360202098, 10144078919501101548, 10430055236837252648, 11840083180663258601, 13761210420658862357, 14299343276471374635, 14566680578165727644, 15097957966210449927, 16922976911328602910, 17689382322260857208, 500013540394364858, 748580250866718886, 1242879168328830382, 1977374033974150939, 2944078676154940804, 3659926193048069267, 4368137639120453308, 4836135668995329356, 5532061633213252278, 6448918945643986474, 6902733635092675308, 7801388544844847127]
/-- Bytes as a number, big end first; a number's bytes. -/
def beV (l : List UInt8) : Nat := l.foldl (fun x c => x * 256 + c.toNat) 0
def beL : Nat → Nat → List UInt8
  | 0, _ => []
  | k + 1, x => UInt8.ofNat (x / 2 ^ (8 * k) % 256) :: beL k x
theorem beL_len : ∀ (k x : Nat), (beL k x).length = k
  | 0, _ => rfl
  | k + 1, x => by rw [beL, List.length_cons, beL_len k x]
theorem beV_take {l : List UInt8} {k : Nat} {c : UInt8} (h : l[k]? = some c) : beV (l.take (k + 1)) = beV (l.take k) * 256 + c.toNat := by
  obtain ⟨hk, hc⟩ := List.getElem?_eq_some_iff.1 h
  unfold beV
  rw [List.take_succ_eq_append_getElem hk, List.foldl_append, hc]
  rfl
theorem beV_lt (l : List UInt8) : ∀ k, k ≤ l.length → beV (l.take k) < 256 ^ k
  | 0, _ => by simp [beV]
  | k + 1, h => by
    obtain ⟨c, hc⟩ : ∃ c, l[k]? = some c := ⟨l[k], List.getElem?_eq_getElem (by omega)⟩
    have ih := beV_lt l k (by omega)
    have := c.toNat_lt
    rw [beV_take hc, Nat.pow_succ]
    omega
theorem shl_or (x c : Nat) (hx : x < 72057594037927936) (hc : c < 256) : bits .or .u64 (IntKind.u64.wrap ((x : Int) * 256)) (c : Int) = ((x * 256 + c : Nat) : Int) := by
  have e : IntKind.u64.wrap ((x : Int) * 256) = ((x * 256 : Nat) : Int) := by rw [IntKind.wrap_u64]; omega
  rw [e, u64_or_nat _ _ (by omega) (by omega), Nat.mul_comm x, show (256 : Nat) = 2 ^ 8 from rfl, ← Nat.two_pow_add_eq_or_of_lt hc]
theorem rd_at0 {w : World} {b o n c size : Nat} {xs : List Value} (h : Rd w (.slice (some ⟨b, o, none⟩) n c) size n xs) {j : Nat} {u : Value} (hu : xs[j]? = some u) : w.cell? ⟨b, o + j, none⟩ = some u := by
  obtain ⟨A', c', e, _, _, _, _, h5⟩ := h
  injection e with e1 _ _
  subst e1
  exact (h5 b o none rfl).2 j u hu
def WordRel (l : List UInt8) (x i : Value) : Prop := ∃ k : Nat, k ≤ l.length ∧ i = .int .i64 (k : Int) ∧ x = .int .u64 (beV (l.take k) : Int)
set_option maxRecDepth 100000 in
set_option maxHeartbeats 800000 in
theorem word_any (A : Option Addr) (c n : Nat) (l : List UInt8) (w : World) (hl : l.length = n) (hn : n ≤ 8) (hr : Rd w (.slice A n c) 1 n (bvs l)) :
    Calls Tryd.prog 68 #[.slice A n c] w fun e w' => e = .returned (.int .u64 (beV l : Int)) ∧ w = w' := by
  have HL := hide hl
  have HR := hide hr
  clear hl hr
  have hn2 : n ≤ 9223372036854775807 := by omega
  go_enter Tryd.func68, Tryd.ntmps68
  go_wp2_with fail
  go_loop [3, 8] (fun x i => WordRel l x i) (fun _ i => n - (intOf i).toNat)
  case atStart => exact ⟨0, Nat.zero_le _, rfl, rfl⟩
  case round =>
    obtain ⟨k, hk, rfl, rfl⟩ := hrel
    have hkn : k ≤ n := by rw [← HL.out]; exact hk
    clear hk
    by_cases hlt : k < n
    · obtain ⟨ch, hc⟩ : ∃ c, l[k]? = some c := ⟨l[k]'(by rw [HL.out]; exact hlt), List.getElem?_eq_getElem _⟩
      obtain ⟨b, o, rfl⟩ : ∃ b o, A = some ⟨b, o, none⟩ := by
        rcases HR.out.cases with ⟨_, h0, _⟩ | ⟨b, o, sp, c', hv, _, _, _, _, h4, _⟩
        · omega
        · injection hv with hv1 _ _
          have := h4 (by omega)
          subst this hv1
          exact ⟨b, o, rfl⟩
      have hcell := rd_at0 HR.out (bvs_get hc)
      have hb := beV_lt l k (by rw [HL.out]; exact hkn)
      have hs := shl_or (beV (l.take k)) ch.toNat (Nat.lt_of_lt_of_le hb (Nat.le_trans (Nat.pow_le_pow_right (by omega) (show k ≤ 7 by omega)) (by decide))) ch.toNat_lt
      have HT := hide (beV_take hc)
      rw [← beV_take hc] at hs
      have hwc : IntKind.u64.wrap (ch.toNat : Int) = (ch.toNat : Int) := by have := ch.toNat_lt; rw [IntKind.wrap_u64]; omega
      have dk : decide ((k : Int) < (n : Int)) = true := by simp; omega
      have ik : (k : Int) < (n : Int) := by omega
      clear hc hb
      have HY : Hid (beV (l.take (k + 1)) = beV (l.take (k + 1))) := hide rfl
      obtain ⟨y, hy⟩ : ∃ y, y = beV (l.take (k + 1)) := ⟨_, rfl⟩
      rw [← hy] at hs
      have HYE := hide hy
      clear hy HY
      generalize beV (l.take k) = x at *
      generalize ch.toNat = cn at *
      go_wp2_with fail
      go_round
      case rel => exact ⟨k + 1, by rw [HL.out]; omega, by go_num, by rw [← HYE.out]⟩
      case measure => (simp [intOf]) <;> omega
    · obtain rfl : k = n := by omega
      go_wp2_with fail
      go_ret
      refine ⟨?_, rfl⟩
      show Ending.returned (.int .u64 ((beV (l.take k) : Nat) : Int)) = _
      rw [List.take_of_length_le (by rw [HL.out]; exact Nat.le_refl _)]
theorem tyB : RowTy Tryd.prog 22 5 1 1 := rowTy_of (z := .int .u8 0) Tryd.underlying22 (by kernel_rfl) rfl (by decide)
theorem bvs_snoc (l : List UInt8) (m : Nat) (h : m < 256) : bvs (l ++ [UInt8.ofNat m]) = bvs l ++ [.int .u8 (m : Int)] := by
  simp only [bvs, List.map_append, List.map_cons, List.map_nil, bv, UInt8.toNat_ofNat']
  rw [Nat.mod_eq_of_lt (by omega)]
theorem byte_of (x s : Nat) : IntKind.u8.wrap ((x : Int) / 2 ^ s) = ((x / 2 ^ s % 256 : Nat) : Int) := by
  rw [IntKind.wrap_u8, show (x : Int) / 2 ^ s = ((x / 2 ^ s : Nat) : Int) from by rw [Int.natCast_ediv, Int.natCast_pow]; rfl]
  omega
def BehRel (w0 : World) (M : Nat → Prop) (H : List Chunk) (T : List UInt8) (x : Nat) (v i : Value) (wr : World) : Prop :=
  ∃ (j : Nat) (B : Option Addr) (d n : Nat) (l : List UInt8), j ≤ 8 ∧ i = .int .i64 (8 * (j : Int) - 8) ∧ v = .slice B n d ∧ l.length = n ∧ l ++ beL j x = T ∧ St w0 M wr (.row (.slice B n d) 5 1 n (bvs l) :: H)
set_option maxRecDepth 100000 in
set_option maxHeartbeats 800000 in
theorem behind_any {w0 : World} {M : Nat → Prop} {H : List Chunk} (B : Option Addr) (d n x : Nat) (l : List UInt8) (w : World) (hl : l.length = n) (hn : n ≤ 100000) (hx : x < W1)
    (hS : St w0 M w (.row (.slice B n d) 5 1 n (bvs l) :: H)) :
    Calls Tryd.prog 53 #[.slice B n d, .int .u64 (x : Int)] w fun e w' => ∃ B' d', e = .returned (.slice B' (n + 8) d') ∧ St w0 M w' (.row (.slice B' (n + 8) d') 5 1 (n + 8) (bvs (l ++ beL 8 x)) :: H) := by
  have HS0 := hide hS
  have HL := hide hl
  have HN := hide hn
  clear hS hl hn
  go_enter Tryd.func53, Tryd.ntmps53
  go_wp2_with fail
  go_loopw [0, 5] (fun v i wr => BehRel w0 M H (l ++ beL 8 x) x v i wr) (fun _ i _ => (intOf i + 8).toNat)
  case atStart => exact ⟨8, B, d, n, l, Nat.le_refl _, rfl, rfl, HL.out, rfl, HS0.out⟩
  case round =>
    obtain ⟨j, B2, d2, m, l2, hj, rfl, rfl, hm, hT, hS⟩ := hrel
    have HT := hide hT
    have HM := hide hm
    have HS := hide hS
    have hmb : m ≤ 100008 := by
      have := congrArg List.length hT
      rw [List.length_append, List.length_append, beL_len, beL_len, hm, HL.out] at this
      have := HN.out
      omega
    clear hT hm hS HS0
    cases j with
    | zero =>
      have hTz : l2 = l ++ beL 8 x := by
        have := HT.out
        rwa [beL, List.append_nil] at this
      have hmn : m = n + 8 := by rw [← HM.out, hTz, List.length_append, beL_len, HL.out]
      have HSZ : Hid (St w0 M wr (.row (.slice B2 (n + 8) d2) 5 1 (n + 8) (bvs (l ++ beL 8 x)) :: H)) := hide (by rw [← hmn, ← hTz]; exact HS.out)
      have HMN := hide hmn
      clear hTz hmn
      go_wp2_with fail
      go_ret
      refine ⟨B2, d2, ?_, HSZ.out⟩
      show Ending.returned (.slice B2 m d2) = _
      rw [HMN.out]
    | succ i =>
      have hi : (8 * ((i + 1 : Nat) : Int) - 8) = ((8 * i : Nat) : Int) := by omega
      rw [hi]
      have hby := byte_of x (8 * i)
      have hb2 : x / 2 ^ (8 * i) % 256 < 256 := Nat.mod_lt _ (by decide)
      have hd : decide ((0 : Int) ≤ ((8 * i : Nat) : Int)) = true := by simp; omega
      have hi7 : i ≤ 7 := by omega
      obtain ⟨s, hs⟩ : ∃ s, s = 8 * i := ⟨_, rfl⟩
      rw [← hs] at hby hd hb2 ⊢
      obtain ⟨y, hy⟩ : ∃ y, y = x / 2 ^ s % 256 := ⟨_, rfl⟩
      rw [← hy] at hby hb2
      have hs56 : s ≤ 56 := by omega
      have HY := hide hy
      have HSS := hide hs
      clear hi hy hs hj
      go_wp2_with (at_builtin; refine wl_append1 rfl rfl tyB HS.out 0 rfl rfl (us := [_]) rfl rfl ?_ ?_ (by decide) ?_; (intro u hu; simp only [List.mem_singleton] at hu; subst hu; rfl); (simp only [List.length_singleton]; omega); intro B3 d3 w3 hS3)
      go_roundw
      case rel =>
        refine ⟨i, B3, d3, m + 1, l2 ++ [UInt8.ofNat y], by omega, congrArg (Value.int .i64) (by have := HSS.out; omega), rfl, by rw [List.length_append, HM.out]; rfl, ?_, ?_⟩
        · have := HT.out
          rw [beL, ← HSS.out, ← HY.out] at this
          rw [← this, List.append_assoc]
          rfl
        · rw [bvs_snoc _ _ hb2]
          exact hS3
      case measure => (simp [intOf]) <;> omega
end Go.Proofs.YtkelegjppnfoaaaDoor.S1
