/-
  Joined of texts of mine, in build order: Sa, Sb, Sc, Sd, Se, Ij, CG. Each says what it proves at its own head.
-/
import Derived.Test.YtgahjjdbpjgemaaDoorRows
import Derived.Laws.Bits64b
import Derived.Laws.Externs
import Derived.Deep.DeepCutAuto
import Derived.Deep.LoopGhost
import Derived.Test.YtgahjjdbpjgemaaDoorCards
import Derived.Test.YtgahjjdbpjgemaaDoorTie
import Derived.SevenTiedAt
import Derived.Test.YtgahjjdbpjgemaaDoorPh
set_option linter.unusedSimpArgs false
set_option linter.unusedVariables false

/-
  The walks of layer 3: words' sums, differences, products (Go's own library).
-/
namespace Go.Proofs.YtgahjjdbpjgemaaDoor.S3
open Go.RowKit

theorem sub64_run0 (x y : Nat) (w : World) : (callFunc 77 #[.int .u64 (x : Int), .int .u64 (y : Int), .int .u64 ((0 : Nat) : Int)]).run Tryd.prog w =
    .ok (.value (.tuple #[.int .u64 (((x + 18446744073709551616 - y - 0) % 18446744073709551616 : Nat) : Int), .int .u64 ((if x < y + 0 then 1 else 0 : Nat) : Int)])) w := by kernel_rfl
theorem sub64_run1 (x y : Nat) (w : World) : (callFunc 77 #[.int .u64 (x : Int), .int .u64 (y : Int), .int .u64 ((1 : Nat) : Int)]).run Tryd.prog w =
    .ok (.value (.tuple #[.int .u64 (((x + 18446744073709551616 - y - 1) % 18446744073709551616 : Nat) : Int), .int .u64 ((if x < y + 1 then 1 else 0 : Nat) : Int)])) w := by kernel_rfl
theorem sub64_run (x y b : Nat) (hb : b ≤ 1) (w : World) : (callFunc 77 #[.int .u64 (x : Int), .int .u64 (y : Int), .int .u64 (b : Int)]).run Tryd.prog w =
    .ok (.value (.tuple #[.int .u64 (((x + 18446744073709551616 - y - b) % 18446744073709551616 : Nat) : Int), .int .u64 ((if x < y + b then 1 else 0 : Nat) : Int)])) w := by
  have : b = 0 ∨ b = 1 := by omega
  rcases this with h | h
  · rw [h]; exact sub64_run0 x y w
  · rw [h]; exact sub64_run1 x y w
theorem sub_any (x y b : Nat) (hb : b ≤ 1) : ∀ w, (callFunc 77 #[.int .u64 (x : Int), .int .u64 (y : Int), .int .u64 (b : Int)]).run Tryd.prog w = .ok (.value (.tuple #[.int .u64 (sbD x y b : Int), .int .u64 (sbB x y b : Int)])) w := fun w => by
  have := sub64_run x y b hb w
  unfold sbD sbB
  exact this
/-- A number of four words, as a value. -/
def numA (xs : List Nat) : Value := .agg (uvs xs).toArray

/-- One number less another. -/
def LessRel (w : World) (g2 g3 : Nat) (H : List Chunk) (xs ys : List Nat) (bo i : Value) (wr : World) : Prop :=
  ∃ (k b : Nat) (cur : List Nat), k ≤ 4 ∧ i = .int .i64 (k : Int) ∧ bo = .int .u64 (b : Int) ∧ b ≤ 1 ∧ cur.length = 4 ∧ Words cur ∧ cur.drop k = xs.drop k ∧
    lv (cur.take k) + lv (ys.take k) + 0 = lv (xs.take k) + b * 18446744073709551616 ^ k ∧ St w NoB wr (.cells g2 (uvs cur).toArray 80 :: .cells g3 (uvs ys).toArray 80 :: H)
theorem less_step (xs ys cur : List Nat) (k b x y : Nat) (hk : k < 4) (hl : cur.length = 4) (hx : xs[k]? = some x) (hy : ys[k]? = some y) (hx2 : x < 18446744073709551616) (hy2 : y < 18446744073709551616) (hb : b ≤ 1)
    (h : lv (cur.take k) + lv (ys.take k) + 0 = lv (xs.take k) + b * 18446744073709551616 ^ k) :
    lv ((cur.set k (sbD x y b)).take (k + 1)) + lv (ys.take (k + 1)) + 0 = lv (xs.take (k + 1)) + sbB x y b * 18446744073709551616 ^ (k + 1) := by
  obtain ⟨h1, _, _⟩ := sb_spec x y b hx2 hy2 hb
  rw [lv_take_set cur k _ (by omega), lv_take hx, lv_take hy, Nat.pow_succ]
  have h2 := congrArg (· * 18446744073709551616 ^ k) h1
  simp only [Nat.add_mul] at h2
  rw [show sbB x y b * (18446744073709551616 ^ k * 18446744073709551616) = sbB x y b * 18446744073709551616 * 18446744073709551616 ^ k from by rw [Nat.mul_comm (18446744073709551616 ^ k), Nat.mul_assoc]]
  omega
set_option maxRecDepth 100000 in
set_option maxHeartbeats 800000 in
theorem less_walk (xs ys : List Nat) (w : World) (hxl : xs.length = 4) (hyl : ys.length = 4) (hxw : Words xs) (hyw : Words ys) :
    Calls Tryd.prog 71 #[numA xs, numA ys] w fun e w' => ∃ rs : List Nat, rs.length = 4 ∧ Words rs ∧ ∃ b : Nat, b ≤ 1 ∧ lv rs + lv ys = lv xs + b * 18446744073709551616 ^ 4 ∧
      e = .returned (.tuple #[numA rs, .bool (decide (0 < b))]) ∧ Below w.heap.size w w' := by
  unfold numA
  have hS0 := (((St.init w NoB).alloc (uvs xs).toArray 80).alloc (uvs ys).toArray 80).alloc #[.int .u64 0, .int .u64 0, .int .u64 0, .int .u64 0] 80
  have HS0 := hide hS0
  have HXL := hide hxl
  have HYL := hide hyl
  have HXW := hide hxw
  have HYW := hide hyw
  clear hS0 hxl hyl hxw hyw
  go_enter Tryd.func71, Tryd.ntmps71
  go_wp2_with fail
  go_loopw [6, 8] (fun b i wr => LessRel w w.heap.size (w.heap.size + 1) [.cells (w.heap.size + 1 + 1) #[.int .u64 0, .int .u64 0, .int .u64 0, .int .u64 0] 80] xs ys b i wr) (fun _ i _ => 4 - (intOf i).toNat)
  case atStart =>
    have hS := HS0.out
    simp only [size_alloc1] at hS
    exact ⟨0, 0, xs, by omega, rfl, rfl, by omega, HXL.out, HXW.out, rfl, rfl, hS.rot3⟩
  case round =>
    obtain ⟨k, b, cur, hk, rfl, rfl, hb, hcl, hcw, hcd, hval, hS⟩ := hrel
    by_cases hlt : k < 4
    · obtain ⟨x, hx⟩ := lim_get xs HXL.out k hlt
      obtain ⟨y, hy⟩ := lim_get ys HYL.out k hlt
      have hcx : cur[k]? = some x := by
        have := congrArg (·[0]?) hcd
        simpa [List.getElem?_drop, hx] using this
      have hx2 := words_get HXW.out hx
      have hy2 := words_get HYW.out hy
      have hstep := hide (less_step xs ys cur k b x y hlt hcl hx hy hx2 hy2 hb hval)
      obtain ⟨_, hd1, hd2⟩ := sb_spec x y b hx2 hy2 hb
      have hS' := hS.drew
      have hHS := hide hS'
      have cn : ∀ z, From wr.drew z → z.cell? ⟨w.heap.size, k, none⟩ = some (.int .u64 (x : Int)) := fun z hz => by
        rw [hz.cell (p := ⟨w.heap.size, k, none⟩) (Chunk.lt (hHS.out.sat 0 _ rfl) rfl), hHS.out.cell 0 rfl k]
        exact uvs_get hcx
      have cm : ∀ z, From wr.drew z → z.cell? ⟨w.heap.size + 1, k, none⟩ = some (.int .u64 (y : Int)) := fun z hz => by
        rw [hz.cell (p := ⟨w.heap.size + 1, k, none⟩) (Chunk.lt (hHS.out.sat 1 _ rfl) rfl), hHS.out.cell 1 rfl k]
        exact uvs_get hy
      have hsub := sub_any x y b hb
      have D1 := hide hd1
      have HCD := hide hcd
      have HCW := hide hcw
      have HCL := hide hcl
      clear hS hS' hx hy hcx hx2 hy2 hval hd1 hcd hcw hcl
      go_wp2_with fail
      refine wp_region_M (fun i => i == 13) (From wr.drew) (by kernel_rfl) ?_
      (refine wpM_take (i := 0) (v := ?_) rfl (by kernel_rfl) (by kernel_rfl) (by kernel_rfl) (fun _ _ _ h => h) (From.refl _) rfl (by kernel_rfl) (Or.inl ⟨by first | kernel_rfl | rfl, ?_⟩) ?_; rotate_left; (intro wx hx; go_simp) <;> (with_reducible rfl); (try simp only [Act.put, nq1, nq2, nq3, nq4, nq5, nq6])); (refine wpM_take (i := 1) (v := ?_) rfl (by kernel_rfl) (by kernel_rfl) (by kernel_rfl) (fun _ _ _ h => h) (From.refl _) rfl (by kernel_rfl) (Or.inl ⟨by first | kernel_rfl | rfl, ?_⟩) ?_; rotate_left; (intro wx hx; go_simp) <;> (with_reducible rfl); (try simp only [Act.put, nq1, nq2, nq3, nq4, nq5, nq6])); (refine wpM_take (i := 2) (v := ?_) rfl (by kernel_rfl) (by kernel_rfl) (by kernel_rfl) (fun _ _ _ h => h) (From.refl _) rfl (by kernel_rfl) (Or.inl ⟨by first | kernel_rfl | rfl, ?_⟩) ?_; rotate_left; (intro wx hx; go_simp) <;> (with_reducible rfl); (try simp only [Act.put, nq1, nq2, nq3, nq4, nq5, nq6])); (refine wpM_take (i := 3) (v := ?_) rfl (by kernel_rfl) (by kernel_rfl) (by kernel_rfl) (fun _ _ _ h => h) (From.refl _) rfl (by kernel_rfl) (Or.inl ⟨by first | kernel_rfl | rfl, ?_⟩) ?_; rotate_left; (intro wx hx; go_simp) <;> (with_reducible rfl); (try simp only [Act.put, nq1, nq2, nq3, nq4, nq5, nq6])); (refine wpM_take (i := 4) (v := ?_) rfl (by kernel_rfl) (by kernel_rfl) (by kernel_rfl) (fun _ _ _ h => h) (From.refl _) rfl (by kernel_rfl) (Or.inl ⟨by first | kernel_rfl | rfl, ?_⟩) ?_; rotate_left; (intro wx hx; go_simp) <;> (with_reducible rfl); (try simp only [Act.put, nq1, nq2, nq3, nq4, nq5, nq6])); (refine wpM_take (i := 5) (v := ?_) rfl (by kernel_rfl) (by kernel_rfl) (by kernel_rfl) (fun _ _ _ h => h) (From.refl _) rfl (by kernel_rfl) (Or.inl ⟨by first | kernel_rfl | rfl, ?_⟩) ?_; rotate_left; (intro wx hx; go_simp) <;> (with_reducible rfl); (try simp only [Act.put, nq1, nq2, nq3, nq4, nq5, nq6])); (refine wpM_take (i := 6) (v := ?_) rfl (by kernel_rfl) (by kernel_rfl) (by kernel_rfl) (fun _ _ _ h => h) (From.refl _) rfl (by kernel_rfl) (Or.inl ⟨by first | kernel_rfl | rfl, ?_⟩) ?_; rotate_left; (intro wx hx; go_simp) <;> (with_reducible rfl); (try simp only [Act.put, nq1, nq2, nq3, nq4, nq5, nq6])); (refine wpM_take (i := 7) (v := ?_) rfl (by kernel_rfl) (by kernel_rfl) (by kernel_rfl) (fun _ _ _ h => h) (From.refl _) rfl (by kernel_rfl) (Or.inl ⟨by first | kernel_rfl | rfl, ?_⟩) ?_; rotate_left; (intro wx hx; go_simp) <;> (with_reducible rfl); (try simp only [Act.put, nq1, nq2, nq3, nq4, nq5, nq6])); (refine wpM_take (i := 8) (v := ?_) rfl (by kernel_rfl) (by kernel_rfl) (by kernel_rfl) (fun _ _ _ h => h) (From.refl _) rfl (by kernel_rfl) (Or.inl ⟨by first | kernel_rfl | rfl, ?_⟩) ?_; rotate_left; (intro wx hx; go_simp) <;> (with_reducible rfl); (try simp only [Act.put, nq1, nq2, nq3, nq4, nq5, nq6])); (refine wpM_take (i := 9) (v := ?_) rfl (by kernel_rfl) (by kernel_rfl) (by kernel_rfl) (fun _ _ _ h => h) (From.refl _) rfl (by kernel_rfl) (Or.inl ⟨by first | kernel_rfl | rfl, ?_⟩) ?_; rotate_left; (intro wx hx; go_simp) <;> (with_reducible rfl); (try simp only [Act.put, nq1, nq2, nq3, nq4, nq5, nq6])); (refine wpM_take (i := 10) (v := ?_) rfl (by kernel_rfl) (by kernel_rfl) (by kernel_rfl) (fun _ _ _ h => h) (From.refl _) rfl (by kernel_rfl) (Or.inl ⟨by first | kernel_rfl | rfl, ?_⟩) ?_; rotate_left; (intro wx hx; go_simp) <;> (with_reducible rfl); (try simp only [Act.put, nq1, nq2, nq3, nq4, nq5, nq6]))
      (refine wpM_takeU (i := 11) (v := ?_) rfl (by kernel_rfl) (by kernel_rfl) (by kernel_rfl) (fun _ _ _ h => h) (From.refl _) rfl (Or.inl ⟨by first | kernel_rfl | rfl, ?_⟩) ?_; rotate_left; (intro wx; go_simp) <;> (with_reducible rfl); (try simp only [Act.put, nq1, nq2, nq3, nq4, nq5, nq6])); (refine wpM_takeU (i := 12) (v := ?_) rfl (by kernel_rfl) (by kernel_rfl) (by kernel_rfl) (fun _ _ _ h => h) (From.refl _) rfl (Or.inl ⟨by first | kernel_rfl | rfl, ?_⟩) ?_; rotate_left; (intro wx; go_simp) <;> (with_reducible rfl); (try simp only [Act.put, nq1, nq2, nq3, nq4, nq5, nq6]))
      (refine wpM_late (i := 13) (by kernel_rfl) rfl rfl ?_; intro K hK; (try simp only [Act.put, nq1, nq2, nq3, nq4, nq5, nq6]))
      refine step_store rfl rfl tyU64 hHS.out 0 rfl k (by rw [List.size_toArray, uvs_len, HCL.out]; exact hlt) rfl (v := .int .u64 (sbD x y b : Nat)) rfl rfl ?_
      intro w2 hS2
      refine hK _ _ ?_
      clear hK K
      (try simp only [Act.put, nq1, nq2, nq3, nq4, nq5, nq6])
      (refine wpAny_take (i := 14) (v := ?_) rfl (by kernel_rfl) (by kernel_rfl) (by kernel_rfl) (fun _ _ _ h => h) (Or.inl ⟨by first | kernel_rfl | rfl, ?_⟩) ?_; rotate_left; (intro wx; go_simp) <;> (with_reducible rfl); (try simp only [Act.put, nq1, nq2, nq3, nq4, nq5, nq6]))
      refine wpAny_done (by kernel_rfl) ?_ _
      go_wp2_with fail
      go_roundw
      case rel =>
        rw [uvs_set] at hS2
        refine ⟨k + 1, sbB x y b, cur.set k (sbD x y b), by omega, by go_num, rfl, hd2, by rw [List.length_set]; exact HCL.out, words_set HCW.out k _ D1.out, ?_, hstep.out, hS2⟩
        rw [drop_set_succ, ← List.drop_drop, HCD.out, List.drop_drop]
      case measure => simp [intOf]; omega
    · obtain rfl : k = 4 := by omega
      match cur, hcl with
      | [a0, a1, a2, a3], _ =>
        have hS' : St w NoB wr [.cells w.heap.size #[.int .u64 (a0 : Int), .int .u64 (a1 : Int), .int .u64 (a2 : Int), .int .u64 (a3 : Int)] 80, .cells (w.heap.size + 1) (uvs ys).toArray 80, .cells (w.heap.size + 1 + 1) #[.int .u64 0, .int .u64 0, .int .u64 0, .int .u64 0] 80] := hS
        have n0 : wr.cell? ⟨w.heap.size, 0, none⟩ = some (.int .u64 (a0 : Int)) := hS'.cell 0 rfl 0
        have n1 : wr.cell? ⟨w.heap.size, 1, none⟩ = some (.int .u64 (a1 : Int)) := hS'.cell 0 rfl 1
        have n2 : wr.cell? ⟨w.heap.size, 2, none⟩ = some (.int .u64 (a2 : Int)) := hS'.cell 0 rfl 2
        have n3 : wr.cell? ⟨w.heap.size, 3, none⟩ = some (.int .u64 (a3 : Int)) := hS'.cell 0 rfl 3
        have r0 : wr.cell? ⟨w.heap.size + 1 + 1, 0, none⟩ = some (.int .u64 0) := hS'.cell 2 rfl 0
        have r1 : wr.cell? ⟨w.heap.size + 1 + 1, 1, none⟩ = some (.int .u64 0) := hS'.cell 2 rfl 1
        have r2 : wr.cell? ⟨w.heap.size + 1 + 1, 2, none⟩ = some (.int .u64 0) := hS'.cell 2 rfl 2
        have r3 : wr.cell? ⟨w.heap.size + 1 + 1, 3, none⟩ = some (.int .u64 0) := hS'.cell 2 rfl 3
        have f0 := hS'.free 2 rfl 0
        have f1 := hS'.free 2 rfl 1
        have f2 := hS'.free 2 rfl 2
        have f3 := hS'.free 2 rfl 3
        have HS := hide ((((hS'.setCell 2 rfl 0 (.int .u64 (a0 : Int))).setCell 2 rfl 1 (.int .u64 (a1 : Int))).setCell 2 rfl 2 (.int .u64 (a2 : Int))).setCell 2 rfl 3 (.int .u64 (a3 : Int)))
        have HV := hide hval
        have HW := hide hcw
        clear hS hS' hval hcd hcw
        go_wp2_with fail
        refine bodyPost_ret (results_cell_tmp_row rfl _ _ (w.heap.size + 1 + 1) _ _ _ _ rfl (HS.out.heap 2 rfl) Tryd.underlying80 rfl (by kernel_rfl)) rfl ?_
        refine ⟨[a0, a1, a2, a3], rfl, HW.out, b, hb, ?_, ?_, HS.out.below⟩
        · have := HV.out
          rw [List.take_of_length_le (by simp), List.take_of_length_le (by rw [HYL.out]; omega), List.take_of_length_le (by rw [HXL.out]; omega)] at this
          omega
        · rfl
end Go.Proofs.YtgahjjdbpjgemaaDoor.S3

/-
  The walks of layer 3: the order of the curve; twice a number and a bit.
-/
namespace Go.Proofs.YtgahjjdbpjgemaaDoor.S3
open Go.RowKit

/-- The order of the curve. -/
@[irreducible] def o0 : Nat := 6346243789798364141
@[irreducible] def o1 : Nat := 1503914060200516822
@[irreducible] def o2 : Nat := 0
@[irreducible] def o3 : Nat := 1152921504606846976
@[irreducible] def Lq : Nat := 7237005577332262213973186563042994240857116359379907606001950938285454250989
theorem ord_words : Words [o0, o1, o2, o3] := by unfold o0 o1 o2 o3 Words; decide
theorem lv_ord : lv [o0, o1, o2, o3] = Lq := by unfold o0 o1 o2 o3 Lq; decide
theorem Lq_lt : 2 * Lq < 18446744073709551616 ^ 4 ∧ 0 < Lq := by unfold Lq; decide
theorem enOrder (args : Array Value) (w : World) : (callFunc 72 args).run Tryd.prog w = .ok (.enter 72 args) w := by kernel_rfl
theorem enLess (args : Array Value) (w : World) : (callFunc 71 args).run Tryd.prog w = .ok (.enter 71 args) w := by kernel_rfl
set_option maxRecDepth 100000 in
set_option maxHeartbeats 800000 in
theorem order_any (w : World) : Calls Tryd.prog 72 #[] w fun e w' => e = .returned (.agg #[.int .u64 (o0 : Int), .int .u64 (o1 : Int), .int .u64 (o2 : Int), .int .u64 (o3 : Int)]) ∧ Below w.heap.size w w' := by
  have hS := (St.init w NoB).alloc #[.int .u64 6346243789798364141, .int .u64 1503914060200516822, .int .u64 0, .int .u64 1152921504606846976] 80
  have HS := hide hS
  clear hS
  go_enter Tryd.func72, Tryd.ntmps72
  go_wp2_with fail
  refine bodyPost_ret (results_cell_row rfl _ _ w.heap.size _ _ _ _ rfl (HS.out.heap 0 rfl) Tryd.underlying80 rfl (by kernel_rfl)) rfl ?_
  exact ⟨by unfold o0 o1 o2 o3; rfl, HS.out.below⟩
/-- One number less another, word by word. -/
theorem less_any (a0 a1 a2 a3 b0 b1 b2 b3 : Nat) (w : World) (ha : Words [a0, a1, a2, a3]) (hb : Words [b0, b1, b2, b3]) :
    Calls Tryd.prog 71 #[.agg #[.int .u64 (a0 : Int), .int .u64 (a1 : Int), .int .u64 (a2 : Int), .int .u64 (a3 : Int)], .agg #[.int .u64 (b0 : Int), .int .u64 (b1 : Int), .int .u64 (b2 : Int), .int .u64 (b3 : Int)]] w fun e w' =>
      ∃ r0 r1 r2 r3 b : Nat, Words [r0, r1, r2, r3] ∧ b ≤ 1 ∧ lv [r0, r1, r2, r3] + lv [b0, b1, b2, b3] = lv [a0, a1, a2, a3] + b * 18446744073709551616 ^ 4 ∧
        e = .returned (.tuple #[.agg #[.int .u64 (r0 : Int), .int .u64 (r1 : Int), .int .u64 (r2 : Int), .int .u64 (r3 : Int)], .bool (decide (0 < b))]) ∧ Below w.heap.size w w' := by
  refine (less_walk [a0, a1, a2, a3] [b0, b1, b2, b3] w rfl rfl ha hb).mono ?_
  rintro e w' ⟨rs, hrl, hrw, b, hb1, hv, rfl, hbl⟩
  match rs, hrl with
  | [r0, r1, r2, r3], _ => exact ⟨r0, r1, r2, r3, b, hrw, hb1, hv, rfl, hbl⟩

/-- A word doubled, with a bit behind; the bit that goes over. -/
@[irreducible] def dbW (x b : Nat) : Nat := 2 * x % 18446744073709551616 + b
@[irreducible] def dbH (x : Nat) : Nat := x / 9223372036854775808
theorem db_spec (x b : Nat) (hx : x < 18446744073709551616) (hb : b ≤ 1) : dbW x b + dbH x * 18446744073709551616 = 2 * x + b ∧ dbW x b < 18446744073709551616 ∧ dbH x ≤ 1 := by
  unfold dbW dbH
  omega
theorem or_db (x b : Nat) (hx : x < 18446744073709551616) (hb : b ≤ 1) : bits .or .u64 (IntKind.u64.wrap ((x : Int) * 2)) (b : Int) = ((dbW x b : Nat) : Int) := by
  have e : IntKind.u64.wrap ((x : Int) * 2) = ((2 * x % 18446744073709551616 : Nat) : Int) := by rw [IntKind.wrap_u64]; omega
  rw [e, u64_or_nat _ _ (by omega) (by omega)]
  unfold dbW
  congr 1
  have h1 : 2 * x % 18446744073709551616 % 2 = 0 := by omega
  have := nat_join 1 (2 * x % 18446744073709551616) b h1 (by omega)
  exact this
theorem bcell {W w1 : World} (hb : Below W.heap.size W w1) : (∀ b o, b < W.heap.size → w1.cell? ⟨b, o, none⟩ = W.cell? ⟨b, o, none⟩) ∧ (∀ b o, b < W.heap.size → w1.frozen? ⟨b, o, none⟩ = W.frozen? ⟨b, o, none⟩) :=
  ⟨fun b o h => hb.cell (p := ⟨b, o, none⟩) h, fun b o h => hb.frozen (p := ⟨b, o, none⟩) h⟩
def NextRel (w : World) (g : Nat) (H : List Chunk) (xs : List Nat) (bit : Nat) (bv i : Value) (wr : World) : Prop :=
  ∃ (k b : Nat) (cur : List Nat), k ≤ 4 ∧ i = .int .i64 (k : Int) ∧ bv = .int .u64 (b : Int) ∧ b ≤ 1 ∧ cur.length = 4 ∧ Words cur ∧ cur.drop k = xs.drop k ∧
    lv (cur.take k) + b * 18446744073709551616 ^ k = 2 * lv (xs.take k) + bit ∧ St w NoB wr (.cells g (uvs cur).toArray 80 :: H)
theorem next_step (xs cur : List Nat) (k b bit x : Nat) (hk : k < 4) (hl : cur.length = 4) (hx : xs[k]? = some x) (hx2 : x < 18446744073709551616) (hb : b ≤ 1)
    (h : lv (cur.take k) + b * 18446744073709551616 ^ k = 2 * lv (xs.take k) + bit) :
    lv ((cur.set k (dbW x b)).take (k + 1)) + dbH x * 18446744073709551616 ^ (k + 1) = 2 * lv (xs.take (k + 1)) + bit := by
  obtain ⟨h1, _, _⟩ := db_spec x b hx2 hb
  rw [lv_take_set cur k _ (by omega), lv_take hx, Nat.pow_succ]
  have h2 := congrArg (· * 18446744073709551616 ^ k) h1
  simp only [Nat.add_mul] at h2
  rw [show dbH x * (18446744073709551616 ^ k * 18446744073709551616) = dbH x * 18446744073709551616 * 18446744073709551616 ^ k from by rw [Nat.mul_comm (18446744073709551616 ^ k), Nat.mul_assoc]]
  rw [Nat.mul_assoc 2 x] at h2
  omega
def ResNum (w : World) (v : Nat) (e : Ending) (w' : World) : Prop := ∃ rs : List Nat, rs.length = 4 ∧ Words rs ∧ lv rs = v ∧ e = .returned (numA rs) ∧ Below w.heap.size w w'
theorem next_end (xs cur rs : List Nat) (b bo bit : Nat) (hx : lv xs < Lq) (hbit : bit ≤ 1) (hc : Words cur) (hcl : cur.length = 4) (hr : Words rs) (hrl : rs.length = 4)
    (h : lv cur + b * 18446744073709551616 ^ 4 = 2 * lv xs + bit) (h2 : lv rs + Lq = lv cur + bo * 18446744073709551616 ^ 4) (hbo : bo ≤ 1) :
    (0 < bo → lv cur = (2 * lv xs + bit) % Lq) ∧ (bo = 0 → lv rs = (2 * lv xs + bit) % Lq) := by
  have hL := Lq_lt
  have h3 := lv_lt cur hc
  have h4 := lv_lt rs hr
  rw [hcl] at h3
  rw [hrl] at h4
  generalize hB : 18446744073709551616 ^ 4 = B at *
  have hb0 : b = 0 := by
    rcases Nat.eq_zero_or_pos b with h | h
    · exact h
    · have : B ≤ b * B := Nat.le_mul_of_pos_left B h
      omega
  subst hb0
  refine ⟨fun hp => ?_, fun hp => ?_⟩
  · have : bo = 1 := by omega
    subst this
    rw [Nat.mod_eq_of_lt (by omega)]
    omega
  · subst hp
    have e : 2 * lv xs + bit = lv rs + Lq := by omega
    rw [e, Nat.add_mod_right, Nat.mod_eq_of_lt (by omega)]
set_option maxRecDepth 100000 in
set_option maxHeartbeats 800000 in
theorem next_walk (xs : List Nat) (bit : Nat) (w : World) (hxl : xs.length = 4) (hxw : Words xs) (hx : lv xs < Lq) (hbit : bit ≤ 1) :
    Calls Tryd.prog 56 #[numA xs, .int .u64 (bit : Int)] w (ResNum w ((2 * lv xs + bit) % Lq)) := by
  have EN := next_end xs
  unfold numA
  have hS0 := ((St.init w NoB).alloc (uvs xs).toArray 80).alloc #[.int .u64 0, .int .u64 0, .int .u64 0, .int .u64 0] 80
  have HS0 := hide hS0
  have HXL := hide hxl
  have HXW := hide hxw
  have HEN := hide EN
  have HX := hide hx
  clear hS0 hxl hxw EN hx
  go_enter Tryd.func56, Tryd.ntmps56
  go_wp2_with fail
  go_loopw [1, 8] (fun b i wr => NextRel w w.heap.size [.cells (w.heap.size + 1) #[.int .u64 0, .int .u64 0, .int .u64 0, .int .u64 0] 80] xs bit b i wr) (fun _ i _ => 4 - (intOf i).toNat)
  case atStart =>
    have hS := HS0.out
    simp only [size_alloc1] at hS
    exact ⟨0, bit, xs, by omega, rfl, rfl, hbit, HXL.out, HXW.out, rfl, by simp [lv], hS.swap⟩
  case round =>
    obtain ⟨k, b, cur, hk, rfl, rfl, hb, hcl, hcw, hcd, hval, hS⟩ := hrel
    by_cases hlt : k < 4
    · obtain ⟨x, hx⟩ := lim_get xs HXL.out k hlt
      have hcx : cur[k]? = some x := by
        have := congrArg (·[0]?) hcd
        simpa [List.getElem?_drop, hx] using this
      have hx2 := words_get HXW.out hx
      have hstep := hide (next_step xs cur k b bit x hlt hcl hx hx2 hb hval)
      obtain ⟨_, hd1, hd2⟩ := db_spec x b hx2 hb
      have hS' := hS.drew
      have hHS := hide hS'
      have cn : ∀ z, From wr.drew z → z.cell? ⟨w.heap.size, k, none⟩ = some (.int .u64 (x : Int)) := fun z hz => by
        rw [hz.cell (p := ⟨w.heap.size, k, none⟩) (Chunk.lt (hHS.out.sat 0 _ rfl) rfl), hHS.out.cell 0 rfl k]
        exact uvs_get hcx
      have hor := or_db x b hx2 hb
      have hsh : (x : Int) / 9223372036854775808 = ((dbH x : Nat) : Int) := by unfold dbH; omega
      have D1 := hide hd1
      have HCD := hide hcd
      have HCW := hide hcw
      have HCL := hide hcl
      clear hS hS' hx hcx hx2 hval hd1 hcd hcw hcl
      go_wp2_with fail
      refine wp_region_M (fun i => i == 12) (From wr.drew) (by kernel_rfl) ?_
      (refine wpM_take (i := 0) (v := ?_) rfl (by kernel_rfl) (by kernel_rfl) (by kernel_rfl) (fun _ _ _ h => h) (From.refl _) rfl (by kernel_rfl) (Or.inl ⟨by first | kernel_rfl | rfl, ?_⟩) ?_; rotate_left; (intro wx hx; go_simp) <;> (with_reducible rfl); (try simp only [Act.put, nq1, nq2, nq3, nq4, nq5, nq6])); (refine wpM_take (i := 1) (v := ?_) rfl (by kernel_rfl) (by kernel_rfl) (by kernel_rfl) (fun _ _ _ h => h) (From.refl _) rfl (by kernel_rfl) (Or.inl ⟨by first | kernel_rfl | rfl, ?_⟩) ?_; rotate_left; (intro wx hx; go_simp) <;> (with_reducible rfl); (try simp only [Act.put, nq1, nq2, nq3, nq4, nq5, nq6])); (refine wpM_take (i := 2) (v := ?_) rfl (by kernel_rfl) (by kernel_rfl) (by kernel_rfl) (fun _ _ _ h => h) (From.refl _) rfl (by kernel_rfl) (Or.inl ⟨by first | kernel_rfl | rfl, ?_⟩) ?_; rotate_left; (intro wx hx; go_simp) <;> (with_reducible rfl); (try simp only [Act.put, nq1, nq2, nq3, nq4, nq5, nq6])); (refine wpM_take (i := 3) (v := ?_) rfl (by kernel_rfl) (by kernel_rfl) (by kernel_rfl) (fun _ _ _ h => h) (From.refl _) rfl (by kernel_rfl) (Or.inl ⟨by first | kernel_rfl | rfl, ?_⟩) ?_; rotate_left; (intro wx hx; go_simp) <;> (with_reducible rfl); (try simp only [Act.put, nq1, nq2, nq3, nq4, nq5, nq6])); (refine wpM_take (i := 4) (v := ?_) rfl (by kernel_rfl) (by kernel_rfl) (by kernel_rfl) (fun _ _ _ h => h) (From.refl _) rfl (by kernel_rfl) (Or.inl ⟨by first | kernel_rfl | rfl, ?_⟩) ?_; rotate_left; (intro wx hx; go_simp) <;> (with_reducible rfl); (try simp only [Act.put, nq1, nq2, nq3, nq4, nq5, nq6])); (refine wpM_take (i := 5) (v := ?_) rfl (by kernel_rfl) (by kernel_rfl) (by kernel_rfl) (fun _ _ _ h => h) (From.refl _) rfl (by kernel_rfl) (Or.inl ⟨by first | kernel_rfl | rfl, ?_⟩) ?_; rotate_left; (intro wx hx; go_simp) <;> (with_reducible rfl); (try simp only [Act.put, nq1, nq2, nq3, nq4, nq5, nq6])); (refine wpM_take (i := 6) (v := ?_) rfl (by kernel_rfl) (by kernel_rfl) (by kernel_rfl) (fun _ _ _ h => h) (From.refl _) rfl (by kernel_rfl) (Or.inl ⟨by first | kernel_rfl | rfl, ?_⟩) ?_; rotate_left; (intro wx hx; go_simp) <;> (with_reducible rfl); (try simp only [Act.put, nq1, nq2, nq3, nq4, nq5, nq6]))
      (refine wpM_takeU (i := 7) (v := ?_) rfl (by kernel_rfl) (by kernel_rfl) (by kernel_rfl) (fun _ _ _ h => h) (From.refl _) rfl (Or.inl ⟨by first | kernel_rfl | rfl, ?_⟩) ?_; rotate_left; (intro wx; go_simp) <;> (with_reducible rfl); (try simp only [Act.put, nq1, nq2, nq3, nq4, nq5, nq6]))
      (refine wpM_take (i := 8) (v := ?_) rfl (by kernel_rfl) (by kernel_rfl) (by kernel_rfl) (fun _ _ _ h => h) (From.refl _) rfl (by kernel_rfl) (Or.inl ⟨by first | kernel_rfl | rfl, ?_⟩) ?_; rotate_left; (intro wx hx; go_simp) <;> (with_reducible rfl); (try simp only [Act.put, nq1, nq2, nq3, nq4, nq5, nq6])); (refine wpM_take (i := 9) (v := ?_) rfl (by kernel_rfl) (by kernel_rfl) (by kernel_rfl) (fun _ _ _ h => h) (From.refl _) rfl (by kernel_rfl) (Or.inl ⟨by first | kernel_rfl | rfl, ?_⟩) ?_; rotate_left; (intro wx hx; go_simp) <;> (with_reducible rfl); (try simp only [Act.put, nq1, nq2, nq3, nq4, nq5, nq6]))
      (refine wpM_takeU (i := 10) (v := ?_) rfl (by kernel_rfl) (by kernel_rfl) (by kernel_rfl) (fun _ _ _ h => h) (From.refl _) rfl (Or.inl ⟨by first | kernel_rfl | rfl, ?_⟩) ?_; rotate_left; (intro wx; go_simp) <;> (with_reducible rfl); (try simp only [Act.put, nq1, nq2, nq3, nq4, nq5, nq6])); (refine wpM_takeU (i := 11) (v := ?_) rfl (by kernel_rfl) (by kernel_rfl) (by kernel_rfl) (fun _ _ _ h => h) (From.refl _) rfl (Or.inl ⟨by first | kernel_rfl | rfl, ?_⟩) ?_; rotate_left; (intro wx; go_simp) <;> (with_reducible rfl); (try simp only [Act.put, nq1, nq2, nq3, nq4, nq5, nq6]))
      (refine wpM_late (i := 12) (by kernel_rfl) rfl rfl ?_; intro K hK; (try simp only [Act.put, nq1, nq2, nq3, nq4, nq5, nq6]))
      refine step_store rfl rfl tyU64 hHS.out 0 rfl k (by rw [List.size_toArray, uvs_len, HCL.out]; exact hlt) rfl (v := .int .u64 (dbW x b : Nat)) rfl rfl ?_
      intro w2 hS2
      refine hK _ _ ?_
      clear hK K
      (try simp only [Act.put, nq1, nq2, nq3, nq4, nq5, nq6])
      (refine wpAny_take (i := 13) (v := ?_) rfl (by kernel_rfl) (by kernel_rfl) (by kernel_rfl) (fun _ _ _ h => h) (Or.inl ⟨by first | kernel_rfl | rfl, ?_⟩) ?_; rotate_left; (intro wx; go_simp) <;> (with_reducible rfl); (try simp only [Act.put, nq1, nq2, nq3, nq4, nq5, nq6]))
      refine wpAny_done (by kernel_rfl) ?_ _
      go_wp2_with fail
      go_roundw
      case rel =>
        rw [uvs_set] at hS2
        refine ⟨k + 1, dbH x, cur.set k (dbW x b), by omega, by go_num, rfl, hd2, by rw [List.length_set]; exact HCL.out, words_set HCW.out k _ D1.out, ?_, hstep.out, hS2⟩
        rw [drop_set_succ, ← List.drop_drop, HCD.out, List.drop_drop]
      case measure => simp [intOf]; omega
    · obtain rfl : k = 4 := by omega
      match cur, hcl with
      | [a0, a1, a2, a3], hcl =>
        have hS' : St w NoB wr [.cells w.heap.size #[.int .u64 (a0 : Int), .int .u64 (a1 : Int), .int .u64 (a2 : Int), .int .u64 (a3 : Int)] 80, .cells (w.heap.size + 1) #[.int .u64 0, .int .u64 0, .int .u64 0, .int .u64 0] 80] := hS
        have HV := hide hval
        have HW := hide hcw
        have HCL := hide hcl
        have hz0 : w.heap.size < wr.heap.size := Chunk.lt (hS'.sat 0 _ rfl) rfl
        have hz1 : w.heap.size + 1 < wr.heap.size := Chunk.lt (hS'.sat 1 _ rfl) rfl
        have hz0a : w.heap.size ≤ wr.heap.size := by omega
        have hz0b : w.heap.size < wr.heap.size + 1 := by omega
        clear hS hval hcd hcw hcl
        go_upto_region 6 with fail
        go_cut [6, 7] (fun p q wx => ∃ g6 r0 r1 r2 r3 bo : Nat, p = .pointer (some ⟨g6, 0, none⟩) ∧ q = .bool (decide (0 < bo)) ∧ Words [r0, r1, r2, r3] ∧ bo ≤ 1 ∧ lv [r0, r1, r2, r3] + lv [o0, o1, o2, o3] = lv [a0, a1, a2, a3] + bo * 18446744073709551616 ^ 4 ∧
          St w NoB wx [.cells g6 #[.int .u64 (r0 : Int), .int .u64 (r1 : Int), .int .u64 (r2 : Int), .int .u64 (r3 : Int)] 80, .cells w.heap.size #[.int .u64 (a0 : Int), .int .u64 (a1 : Int), .int .u64 (a2 : Int), .int .u64 (a3 : Int)] 80, .cells (w.heap.size + 1) #[.int .u64 0, .int .u64 0, .int .u64 0, .int .u64 0] 80])
        case first =>
          have hS1 := hS'.drew
          have hSd := hide hS1
          have n0 : ∀ z, From wr.drew z → z.cell? ⟨w.heap.size, 0, none⟩ = some (.int .u64 (a0 : Int)) := fun z hz => by
            rw [hz.cell (p := ⟨w.heap.size, 0, none⟩) (Chunk.lt (hSd.out.sat 0 _ rfl) rfl)]; exact hSd.out.cell 0 rfl 0
          have n1 : ∀ z, From wr.drew z → z.cell? ⟨w.heap.size, 1, none⟩ = some (.int .u64 (a1 : Int)) := fun z hz => by
            rw [hz.cell (p := ⟨w.heap.size, 1, none⟩) (Chunk.lt (hSd.out.sat 0 _ rfl) rfl)]; exact hSd.out.cell 0 rfl 1
          have n2 : ∀ z, From wr.drew z → z.cell? ⟨w.heap.size, 2, none⟩ = some (.int .u64 (a2 : Int)) := fun z hz => by
            rw [hz.cell (p := ⟨w.heap.size, 2, none⟩) (Chunk.lt (hSd.out.sat 0 _ rfl) rfl)]; exact hSd.out.cell 0 rfl 2
          have n3 : ∀ z, From wr.drew z → z.cell? ⟨w.heap.size, 3, none⟩ = some (.int .u64 (a3 : Int)) := fun z hz => by
            rw [hz.cell (p := ⟨w.heap.size, 3, none⟩) (Chunk.lt (hSd.out.sat 0 _ rfl) rfl)]; exact hSd.out.cell 0 rfl 3
          refine wp_region_M (fun i => i == 7) (From wr.drew) (by kernel_rfl) ?_
          (refine wpM_take (i := 0) (v := ?_) rfl (by kernel_rfl) (by kernel_rfl) (by kernel_rfl) (fun _ _ _ h => h) (From.refl _) rfl (by kernel_rfl) (Or.inl ⟨by first | kernel_rfl | rfl, ?_⟩) ?_; rotate_left; (intro wx hx; go_simp) <;> (with_reducible rfl); (try simp only [Act.put, nq1, nq2, nq3, nq4, nq5, nq6]))
          refine wpM_two (i := 1) (j := 6) (by kernel_rfl) rfl rfl rfl rfl ?_ ?_ <;> intro K hK <;> (try simp only [Act.put, nq1, nq2, nq3, nq4, nq5, nq6])
          · refine step_call rfl rfl enOrder rfl (order_any _) ?_
            rintro e w2 ⟨rfl, hb2⟩
            have hS1 := hS1.call hb2
            refine ⟨_, rfl, hK (From w2) _ _ (From.next hb2) (From.refl _) ?_⟩
            clear hK K
            (try simp only [Act.put, nq1, nq2, nq3, nq4, nq5, nq6])
            refine wpM_two (i := 2) (j := 6) (by kernel_rfl) rfl rfl rfl rfl ?_ ?_ <;> intro K hK <;> (try simp only [Act.put, nq1, nq2, nq3, nq4, nq5, nq6])
            · refine step_call rfl rfl enLess rfl (less_any a0 a1 a2 a3 _ _ _ _ _ HW.out ord_words) ?_
              rintro e w3 ⟨r0, r1, r2, r3, bo, hrw, hbo, hrv, rfl, hb3⟩
              have hS1 := hS1.call hb3
              refine ⟨_, rfl, hK (From w3) _ _ (From.next hb3) (From.refl _) ?_⟩
              clear hK K
              (try simp only [Act.put, nq1, nq2, nq3, nq4, nq5, nq6])
              (refine wpM_takeU (i := 3) (v := ?_) rfl (by kernel_rfl) (by kernel_rfl) (by kernel_rfl) (fun _ _ _ h => h) (From.refl _) rfl (Or.inl ⟨by first | kernel_rfl | rfl, ?_⟩) ?_; rotate_left; (intro wx; go_simp) <;> (with_reducible rfl); (try simp only [Act.put, nq1, nq2, nq3, nq4, nq5, nq6])); (refine wpM_takeU (i := 4) (v := ?_) rfl (by kernel_rfl) (by kernel_rfl) (by kernel_rfl) (fun _ _ _ h => h) (From.refl _) rfl (Or.inl ⟨by first | kernel_rfl | rfl, ?_⟩) ?_; rotate_left; (intro wx; go_simp) <;> (with_reducible rfl); (try simp only [Act.put, nq1, nq2, nq3, nq4, nq5, nq6])); (refine wpM_takeU (i := 5) (v := ?_) rfl (by kernel_rfl) (by kernel_rfl) (by kernel_rfl) (fun _ _ _ h => h) (From.refl _) rfl (Or.inl ⟨by first | kernel_rfl | rfl, ?_⟩) ?_; rotate_left; (intro wx; go_simp) <;> (with_reducible rfl); (try simp only [Act.put, nq1, nq2, nq3, nq4, nq5, nq6]))
              (refine wpM_one (i := 6) (by kernel_rfl) rfl rfl ?_; intro K hK; (try simp only [Act.put, nq1, nq2, nq3, nq4, nq5, nq6]))
              refine step_alloc (zs := #[.int .u64 0, .int .u64 0, .int .u64 0, .int .u64 0]) (e := 80) rfl (fun _ => by go_simp) hS1 ?_
              intro g6 wa hS1 hba
              refine hK (From wa) _ _ (From.next hba) (From.refl _) ?_
              clear hK K
              (try simp only [Act.put, nq1, nq2, nq3, nq4, nq5, nq6])
              (refine wpM_late (i := 7) (by kernel_rfl) rfl rfl ?_; intro K hK; (try simp only [Act.put, nq1, nq2, nq3, nq4, nq5, nq6]))
              refine step_storeRow rfl rfl hS1 0 rfl rfl (cs := #[.int .u64 (r0 : Int), .int .u64 (r1 : Int), .int .u64 (r2 : Int), .int .u64 (r3 : Int)]) rfl (by kernel_rfl) rfl (by kernel_rfl) ?_
              intro w5 hS5
              refine hK _ _ ?_
              clear hK K
              (try simp only [Act.put, nq1, nq2, nq3, nq4, nq5, nq6])
              (refine wpAny_take (i := 8) (v := ?_) rfl (by kernel_rfl) (by kernel_rfl) (by kernel_rfl) (fun _ _ _ h => h) (Or.inl ⟨by first | kernel_rfl | rfl, ?_⟩) ?_; rotate_left; (intro wx; go_simp) <;> (with_reducible rfl); (try simp only [Act.put, nq1, nq2, nq3, nq4, nq5, nq6]))
              refine wpAny_done (by kernel_rfl) ?_ _
              go_wp2_with fail
              go_meet
              exact ⟨g6, r0, r1, r2, r3, bo, rfl, rfl, hrw, hbo, hrv, hS5⟩
            · refine step_alloc (zs := #[.int .u64 0, .int .u64 0, .int .u64 0, .int .u64 0]) (e := 80) rfl (fun _ => by go_simp) hS1 ?_
              intro g6 wa hS1 hba
              refine hK (From wa) _ _ (From.next hba) (From.refl _) ?_
              clear hK K
              (try simp only [Act.put, nq1, nq2, nq3, nq4, nq5, nq6])
              (refine wpM_one (i := 2) (by kernel_rfl) rfl rfl ?_; intro K hK; (try simp only [Act.put, nq1, nq2, nq3, nq4, nq5, nq6]))
              refine step_call rfl rfl enLess rfl (less_any a0 a1 a2 a3 _ _ _ _ _ HW.out ord_words) ?_
              rintro e w3 ⟨r0, r1, r2, r3, bo, hrw, hbo, hrv, rfl, hb3⟩
              have hS1 := hS1.call hb3
              refine ⟨_, rfl, hK (From w3) _ _ (From.next hb3) (From.refl _) ?_⟩
              clear hK K
              (try simp only [Act.put, nq1, nq2, nq3, nq4, nq5, nq6])
              (refine wpM_takeU (i := 3) (v := ?_) rfl (by kernel_rfl) (by kernel_rfl) (by kernel_rfl) (fun _ _ _ h => h) (From.refl _) rfl (Or.inl ⟨by first | kernel_rfl | rfl, ?_⟩) ?_; rotate_left; (intro wx; go_simp) <;> (with_reducible rfl); (try simp only [Act.put, nq1, nq2, nq3, nq4, nq5, nq6])); (refine wpM_takeU (i := 4) (v := ?_) rfl (by kernel_rfl) (by kernel_rfl) (by kernel_rfl) (fun _ _ _ h => h) (From.refl _) rfl (Or.inl ⟨by first | kernel_rfl | rfl, ?_⟩) ?_; rotate_left; (intro wx; go_simp) <;> (with_reducible rfl); (try simp only [Act.put, nq1, nq2, nq3, nq4, nq5, nq6])); (refine wpM_takeU (i := 5) (v := ?_) rfl (by kernel_rfl) (by kernel_rfl) (by kernel_rfl) (fun _ _ _ h => h) (From.refl _) rfl (Or.inl ⟨by first | kernel_rfl | rfl, ?_⟩) ?_; rotate_left; (intro wx; go_simp) <;> (with_reducible rfl); (try simp only [Act.put, nq1, nq2, nq3, nq4, nq5, nq6]))
              (refine wpM_late (i := 7) (by kernel_rfl) rfl rfl ?_; intro K hK; (try simp only [Act.put, nq1, nq2, nq3, nq4, nq5, nq6]))
              refine step_storeRow rfl rfl hS1 0 rfl rfl (cs := #[.int .u64 (r0 : Int), .int .u64 (r1 : Int), .int .u64 (r2 : Int), .int .u64 (r3 : Int)]) rfl (by kernel_rfl) rfl (by kernel_rfl) ?_
              intro w5 hS5
              refine hK _ _ ?_
              clear hK K
              (try simp only [Act.put, nq1, nq2, nq3, nq4, nq5, nq6])
              (refine wpAny_take (i := 8) (v := ?_) rfl (by kernel_rfl) (by kernel_rfl) (by kernel_rfl) (fun _ _ _ h => h) (Or.inl ⟨by first | kernel_rfl | rfl, ?_⟩) ?_; rotate_left; (intro wx; go_simp) <;> (with_reducible rfl); (try simp only [Act.put, nq1, nq2, nq3, nq4, nq5, nq6]))
              refine wpAny_done (by kernel_rfl) ?_ _
              go_wp2_with fail
              go_meet
              exact ⟨g6, r0, r1, r2, r3, bo, rfl, rfl, hrw, hbo, hrv, hS5⟩
          · refine step_alloc (zs := #[.int .u64 0, .int .u64 0, .int .u64 0, .int .u64 0]) (e := 80) rfl (fun _ => by go_simp) hS1 ?_
            intro g6 wa hS1 hba
            refine hK (From wa) _ _ (From.next hba) (From.refl _) ?_
            clear hK K
            (try simp only [Act.put, nq1, nq2, nq3, nq4, nq5, nq6])
            (refine wpM_one (i := 1) (by kernel_rfl) rfl rfl ?_; intro K hK; (try simp only [Act.put, nq1, nq2, nq3, nq4, nq5, nq6]))
            refine step_call rfl rfl enOrder rfl (order_any _) ?_
            rintro e w2 ⟨rfl, hb2⟩
            have hS1 := hS1.call hb2
            refine ⟨_, rfl, hK (From w2) _ _ (From.next hb2) (From.refl _) ?_⟩
            clear hK K
            (try simp only [Act.put, nq1, nq2, nq3, nq4, nq5, nq6])
            (refine wpM_one (i := 2) (by kernel_rfl) rfl rfl ?_; intro K hK; (try simp only [Act.put, nq1, nq2, nq3, nq4, nq5, nq6]))
            refine step_call rfl rfl enLess rfl (less_any a0 a1 a2 a3 _ _ _ _ _ HW.out ord_words) ?_
            rintro e w3 ⟨r0, r1, r2, r3, bo, hrw, hbo, hrv, rfl, hb3⟩
            have hS1 := hS1.call hb3
            refine ⟨_, rfl, hK (From w3) _ _ (From.next hb3) (From.refl _) ?_⟩
            clear hK K
            (try simp only [Act.put, nq1, nq2, nq3, nq4, nq5, nq6])
            (refine wpM_takeU (i := 3) (v := ?_) rfl (by kernel_rfl) (by kernel_rfl) (by kernel_rfl) (fun _ _ _ h => h) (From.refl _) rfl (Or.inl ⟨by first | kernel_rfl | rfl, ?_⟩) ?_; rotate_left; (intro wx; go_simp) <;> (with_reducible rfl); (try simp only [Act.put, nq1, nq2, nq3, nq4, nq5, nq6])); (refine wpM_takeU (i := 4) (v := ?_) rfl (by kernel_rfl) (by kernel_rfl) (by kernel_rfl) (fun _ _ _ h => h) (From.refl _) rfl (Or.inl ⟨by first | kernel_rfl | rfl, ?_⟩) ?_; rotate_left; (intro wx; go_simp) <;> (with_reducible rfl); (try simp only [Act.put, nq1, nq2, nq3, nq4, nq5, nq6])); (refine wpM_takeU (i := 5) (v := ?_) rfl (by kernel_rfl) (by kernel_rfl) (by kernel_rfl) (fun _ _ _ h => h) (From.refl _) rfl (Or.inl ⟨by first | kernel_rfl | rfl, ?_⟩) ?_; rotate_left; (intro wx; go_simp) <;> (with_reducible rfl); (try simp only [Act.put, nq1, nq2, nq3, nq4, nq5, nq6]))
            (refine wpM_late (i := 7) (by kernel_rfl) rfl rfl ?_; intro K hK; (try simp only [Act.put, nq1, nq2, nq3, nq4, nq5, nq6]))
            refine step_storeRow rfl rfl hS1 0 rfl rfl (cs := #[.int .u64 (r0 : Int), .int .u64 (r1 : Int), .int .u64 (r2 : Int), .int .u64 (r3 : Int)]) rfl (by kernel_rfl) rfl (by kernel_rfl) ?_
            intro w5 hS5
            refine hK _ _ ?_
            clear hK K
            (try simp only [Act.put, nq1, nq2, nq3, nq4, nq5, nq6])
            (refine wpAny_take (i := 8) (v := ?_) rfl (by kernel_rfl) (by kernel_rfl) (by kernel_rfl) (fun _ _ _ h => h) (Or.inl ⟨by first | kernel_rfl | rfl, ?_⟩) ?_; rotate_left; (intro wx; go_simp) <;> (with_reducible rfl); (try simp only [Act.put, nq1, nq2, nq3, nq4, nq5, nq6]))
            refine wpAny_done (by kernel_rfl) ?_ _
            go_wp2_with fail
            go_meet
            exact ⟨g6, r0, r1, r2, r3, bo, rfl, rfl, hrw, hbo, hrv, hS5⟩
        case rest =>
          obtain ⟨g6, r0, r1, r2, r3, bo, rfl, rfl, hrw, hbo, hrv, hS6⟩ := hcut
          obtain ⟨hE1, hE2⟩ := HEN.out [a0, a1, a2, a3] [r0, r1, r2, r3] b bo bit HX.out hbit HW.out HCL.out hrw rfl (by
            have := HV.out
            rw [List.take_of_length_le (by simp), List.take_of_length_le (by rw [HXL.out]; omega)] at this
            exact this) (by rw [← lv_ord]; exact hrv) hbo
          have HE1 := hide hE1
          have HE2 := hide hE2
          have HRW := hide hrw
          have hne : g6 ≠ w.heap.size + 1 := fun h => hS6.apart 0 2 _ _ g6 (by omega) rfl rfl rfl (by rw [h]; rfl)
          have hne2 : w.heap.size ≠ w.heap.size + 1 := by omega
          clear hE1 hE2 hrv hrw
          by_cases hbo0 : bo = 0
          · subst hbo0
            have qr0 : wc.cell? ⟨g6, 0, none⟩ = some (.int .u64 (r0 : Int)) := hS6.cell 0 rfl 0
            have qr1 : wc.cell? ⟨g6, 1, none⟩ = some (.int .u64 (r1 : Int)) := hS6.cell 0 rfl 1
            have qr2 : wc.cell? ⟨g6, 2, none⟩ = some (.int .u64 (r2 : Int)) := hS6.cell 0 rfl 2
            have qr3 : wc.cell? ⟨g6, 3, none⟩ = some (.int .u64 (r3 : Int)) := hS6.cell 0 rfl 3
            have z0 : wc.cell? ⟨w.heap.size + 1, 0, none⟩ = some (.int .u64 0) := hS6.cell 2 rfl 0
            have z1 : wc.cell? ⟨w.heap.size + 1, 1, none⟩ = some (.int .u64 0) := hS6.cell 2 rfl 1
            have z2 : wc.cell? ⟨w.heap.size + 1, 2, none⟩ = some (.int .u64 0) := hS6.cell 2 rfl 2
            have z3 : wc.cell? ⟨w.heap.size + 1, 3, none⟩ = some (.int .u64 0) := hS6.cell 2 rfl 3
            have f0 := hS6.free 2 rfl 0
            have f1 := hS6.free 2 rfl 1
            have f2 := hS6.free 2 rfl 2
            have f3 := hS6.free 2 rfl 3
            have HS := hide ((((hS6.setCell 2 rfl 0 (.int .u64 (r0 : Int))).setCell 2 rfl 1 (.int .u64 (r1 : Int))).setCell 2 rfl 2 (.int .u64 (r2 : Int))).setCell 2 rfl 3 (.int .u64 (r3 : Int)))
            clear hS6
            go_wp2_with fail
            refine bodyPost_ret (results_cell_row rfl _ _ (w.heap.size + 1) _ _ _ _ rfl (HS.out.heap 2 rfl) Tryd.underlying80 rfl (by kernel_rfl)) rfl ?_
            exact ⟨[r0, r1, r2, r3], rfl, HRW.out, HE2.out (by trivial), rfl, HS.out.below⟩
          · have hdb : decide (0 < bo) = true := by simp; omega
            have qa0 : wc.cell? ⟨w.heap.size, 0, none⟩ = some (.int .u64 (a0 : Int)) := hS6.cell 1 rfl 0
            have qa1 : wc.cell? ⟨w.heap.size, 1, none⟩ = some (.int .u64 (a1 : Int)) := hS6.cell 1 rfl 1
            have qa2 : wc.cell? ⟨w.heap.size, 2, none⟩ = some (.int .u64 (a2 : Int)) := hS6.cell 1 rfl 2
            have qa3 : wc.cell? ⟨w.heap.size, 3, none⟩ = some (.int .u64 (a3 : Int)) := hS6.cell 1 rfl 3
            have z0 : wc.cell? ⟨w.heap.size + 1, 0, none⟩ = some (.int .u64 0) := hS6.cell 2 rfl 0
            have z1 : wc.cell? ⟨w.heap.size + 1, 1, none⟩ = some (.int .u64 0) := hS6.cell 2 rfl 1
            have z2 : wc.cell? ⟨w.heap.size + 1, 2, none⟩ = some (.int .u64 0) := hS6.cell 2 rfl 2
            have z3 : wc.cell? ⟨w.heap.size + 1, 3, none⟩ = some (.int .u64 0) := hS6.cell 2 rfl 3
            have f0 := hS6.free 2 rfl 0
            have f1 := hS6.free 2 rfl 1
            have f2 := hS6.free 2 rfl 2
            have f3 := hS6.free 2 rfl 3
            have HS := hide ((((hS6.setCell 2 rfl 0 (.int .u64 (a0 : Int))).setCell 2 rfl 1 (.int .u64 (a1 : Int))).setCell 2 rfl 2 (.int .u64 (a2 : Int))).setCell 2 rfl 3 (.int .u64 (a3 : Int)))
            clear hS6
            go_wp2_with fail
            refine bodyPost_ret (results_cell_row rfl _ _ (w.heap.size + 1) _ _ _ _ rfl (HS.out.heap 2 rfl) Tryd.underlying80 rfl (by kernel_rfl)) rfl ?_
            exact ⟨[a0, a1, a2, a3], rfl, HW.out, HE1.out (by omega), rfl, HS.out.below⟩
end Go.Proofs.YtgahjjdbpjgemaaDoor.S3

/-
  The walks of layer 3: words as bytes.
-/
namespace Go.Proofs.YtgahjjdbpjgemaaDoor.S3
open Go.RowKit

theorem tyB : RowTy Tryd.prog 22 5 1 1 := rowTy_of (z := .int .u8 0) Tryd.underlying22 (by kernel_rfl) rfl (by decide)
theorem bvs_snoc (l : List UInt8) (m : Nat) (h : m < 256) : bvs (l ++ [UInt8.ofNat m]) = bvs l ++ [.int .u8 (m : Int)] := by
  simp only [bvs, List.map_append, List.map_cons, List.map_nil, bv, UInt8.toNat_ofNat']
  rw [Nat.mod_eq_of_lt (by omega)]
def SpRel (w : World) (xs : List Nat) (v i : Value) (wr : World) : Prop :=
  ∃ (k : Nat) (B : Option Addr) (d : Nat) (l : List UInt8), k ≤ xs.length ∧ i = .int .i64 (k : Int) ∧ v = .slice B l.length d ∧ l = spB (xs.take k) ∧ St w NoB wr [.row (.slice B l.length d) 5 1 l.length (bvs l)]
def SpRel2 (w : World) (T : List UInt8) (v x i : Value) (wr : World) : Prop :=
  ∃ (j f y : Nat) (B : Option Addr) (d : Nat) (l : List UInt8), i = .int .i64 (j : Int) ∧ x = .int .u64 (y : Int) ∧ j + f = 8 ∧ v = .slice B l.length d ∧ l ++ leB f y = T ∧ St w NoB wr [.row (.slice B l.length d) 5 1 l.length (bvs l)]
set_option maxRecDepth 100000 in
set_option maxHeartbeats 800000 in
theorem spelt_walk (A : Option Addr) (n c : Nat) (xs : List Nat) (w : World) (hn : xs.length = n) (hn2 : n ≤ 100) (hr : Rd w (.slice A n c) 1 n (uvs xs)) :
    Calls Tryd.prog 73 #[.slice A n c] w (ResB 5 w (spB xs)) := by
  have HN := hide hn
  have HR := hide hr
  have HS0 := hide ((St.init w NoB).row (Below.refl _ _) (World.ownsRow_nil _ _ 5 1))
  clear hn hr
  go_enter Tryd.func73, Tryd.ntmps73
  go_wp2_with fail
  go_loopw [3, 8] (fun v i wr => SpRel w xs v i wr) (fun _ i _ => n - (intOf i).toNat)
  case atStart => exact ⟨0, none, 0, [], by omega, rfl, rfl, rfl, HS0.out⟩
  case round =>
    obtain ⟨k, B, d, l, hk, rfl, rfl, hl, hS⟩ := hrel
    rw [HN.out] at hk
    by_cases hlt : k < n
    · obtain ⟨x, hx⟩ : ∃ x, xs[k]? = some x := ⟨xs[k]'(by rw [HN.out]; exact hlt), List.getElem?_eq_getElem _⟩
      rcases HR.out.cases with ⟨_, h0, _⟩ | ⟨b, o, sp, c', hA, hb, _, _, _, hsp, hc⟩
      · omega
      injection hA with hA1 _ hA3
      subst hA1 hA3
      obtain rfl : sp = none := hsp (by omega)
      replace hb := hb (by omega)
      have hcx : wr.cell? ⟨b, o + k, none⟩ = some (.int .u64 (x : Int)) := by
        rw [hS.below.cell (p := ⟨b, o + k, none⟩) hb]
        exact hc k _ (by simp only [uvs, List.getElem?_map, hx]; rfl)
      have hT := spB_take xs k x hx
      rw [← hl] at hT
      have HT := hide hT
      have hll : l.length = 8 * k := by rw [hl, spB_len, List.length_take, HN.out]; omega
      have HLL := hide hll
      have HSK := hide hS
      clear hS hT hl hx hc hsp hll
      go_wp2_with fail
      go_loopw [3, 5, 12] (fun v x i wr => SpRel2 w (spB (xs.take (k + 1))) v x i wr) (fun _ _ i _ => 8 - (intOf i).toNat)
      case atStart => exact ⟨0, 8, x, B, d, l, rfl, rfl, rfl, rfl, HT.out.symm, HSK.out⟩
      case round =>
        obtain ⟨j, f, y, B2, d2, l2, rfl, rfl, hjf, rfl, hl2, hS2⟩ := hrel
        have HL2 := hide hl2
        have hbd : l2.length ≤ 8 * k + 8 := by
          have := congrArg List.length hl2
          rw [spB_len, List.length_append, List.length_take, HN.out] at this
          omega
        clear hl2 HSK
        by_cases hj : j < 8
        · go_wp2_with (at_builtin; refine wl_append1 rfl rfl tyB hS2 0 rfl rfl (us := [_]) rfl rfl ?_ ?_ (by decide) ?_; (intro u hu; simp only [List.mem_singleton] at hu; subst hu; rfl); (simp only [List.length_singleton]; omega); intro B3 d3 w3 hS3)
          go_roundw
          case rel =>
            cases f with
            | zero => omega
            | succ f =>
              refine ⟨j + 1, f, y / 256, B3, d3, l2 ++ [UInt8.ofNat (y % 256)], by go_num, by simp, by omega, by simp, ?_, ?_⟩
              · rw [← HL2.out]
                simp [leB]
              · rw [bvs_snoc _ _ (by omega), List.length_append, List.length_singleton]
                exact hS3
          case measure => simp [intOf]; omega
        · obtain rfl : f = 0 := by omega
          have h8 : j = 8 := by omega
          subst h8
          have hfin := HL2.out
          simp only [leB, List.append_nil] at hfin
          have HFIN := hide hfin
          clear hfin
          go_wp2_with fail
          go_roundw
          case rel => exact ⟨k + 1, B2, d2, l2, by rw [HN.out]; omega, by go_num, rfl, HFIN.out, hS2⟩
          case measure => simp [intOf]; omega
    · obtain rfl : k = n := by omega
      have hfin : l = spB xs := by rw [hl, ← HN.out, List.take_length]
      have HFIN := hide hfin
      clear hl hfin
      go_wp2_with fail
      go_ret
      exact resB_of hS 0 rfl (by rw [HFIN.out])
set_option maxRecDepth 100000 in
set_option maxHeartbeats 800000 in
theorem bytes_walk (a0 a1 a2 a3 : Nat) (w : World) (ha : Words [a0, a1, a2, a3]) :
    Calls Tryd.prog 57 #[.agg #[.int .u64 (a0 : Int), .int .u64 (a1 : Int), .int .u64 (a2 : Int), .int .u64 (a3 : Int)]] w (ResB 5 w (leB 32 (lv [a0, a1, a2, a3]))) := by
  have e : leB 32 (lv [a0, a1, a2, a3]) = spB [a0, a1, a2, a3] := (spB_eq _ ha).symm
  rw [e]
  have S := fun w1 => spelt_walk (some ⟨w.heap.size, 0, none⟩) 4 4 [a0, a1, a2, a3] w1 rfl (by omega)
  have HS0 := hide ((St.init w NoB).alloc (uvs [a0, a1, a2, a3]).toArray 80)
  have HS := hide S
  clear S e ha
  go_enter Tryd.func57, Tryd.ntmps57
  go_wp2_with (go_at_call 73; refine (HS.out _ (rd_cells HS0.out 0 rfl 4 (by rfl) (by decide))).mono ?_; rintro e w2 ⟨B, d, rfl, hb, ho⟩)
  go_ret
  exact ⟨B, d, rfl, ((Below.refl _ _).alloc (Nat.le_refl _) _).trans (hb.mono (by simp)), ho.base_le (by simp)⟩
end Go.Proofs.YtgahjjdbpjgemaaDoor.S3

/-
  The walks of layer 3: the number of 32 bytes; is it below the order?
-/
namespace Go.Proofs.YtgahjjdbpjgemaaDoor.S3
open Go.RowKit

theorem pow_split (i : Nat) : 256 ^ i = 18446744073709551616 ^ (i / 8) * 256 ^ (i % 8) := by
  rw [show (18446744073709551616 : Nat) = 256 ^ 8 from by decide, ← Nat.pow_mul, ← Nat.pow_add]
  congr 1
  omega
/-- The word that a byte goes into is below the byte's place. -/
theorem from_word (cur : List Nat) (i x : Nat) (hx : cur[i / 8]? = some x) (hv : lv cur < 256 ^ i) : x < 256 ^ (i % 8) := by
  have h1 := lv_get_le cur (i / 8) x hx
  have h2 := pow_split i
  rw [h2] at hv
  have h3 : x * 18446744073709551616 ^ (i / 8) < 256 ^ (i % 8) * 18446744073709551616 ^ (i / 8) := by rw [Nat.mul_comm (256 ^ (i % 8))]; omega
  exact Nat.lt_of_mul_lt_mul_right h3
theorem from_lt (x c i : Nat) (hx : x < 256 ^ (i % 8)) (hc : c < 256) : x + c * 256 ^ (i % 8) < 18446744073709551616 := by
  have h8 : i % 8 < 8 := Nat.mod_lt _ (by omega)
  have h1 : c * 256 ^ (i % 8) + 256 ^ (i % 8) ≤ 256 ^ (i % 8 + 1) := by
    rw [Nat.pow_succ, ← Nat.succ_mul, Nat.mul_comm (256 ^ (i % 8))]
    exact Nat.mul_le_mul_right _ (by omega)
  have h2 : 256 ^ (i % 8 + 1) ≤ 256 ^ 8 := Nat.pow_le_pow_right (by omega) (by omega)
  have h3 : (256 : Nat) ^ 8 = 18446744073709551616 := by decide
  omega
theorem from_step (cur : List Nat) (l : List UInt8) (i x : Nat) (c : UInt8) (hx : cur[i / 8]? = some x) (hc : l[i]? = some c) (hv : lv cur = bval (l.take i)) :
    lv (cur.set (i / 8) (x + c.toNat * 256 ^ (i % 8))) = bval (l.take (i + 1)) := by
  have h1 := lv_set cur (i / 8) x (x + c.toNat * 256 ^ (i % 8)) hx
  rw [bval_take hc, pow_split i, ← hv]
  rw [Nat.add_mul] at h1
  rw [show c.toNat * 256 ^ (i % 8) * 18446744073709551616 ^ (i / 8) = c.toNat * (18446744073709551616 ^ (i / 8) * 256 ^ (i % 8)) from by rw [Nat.mul_assoc, Nat.mul_comm (256 ^ (i % 8))]] at h1
  omega
theorem from_or (x c i : Nat) (hx : x < 256 ^ (i % 8)) (hc : c < 256) :
    bits .or .u64 (x : Int) (IntKind.u64.wrap ((c : Int) * 2 ^ (i % 8 * 8))) = ((x + c * 256 ^ (i % 8) : Nat) : Int) := by
  have hlt := from_lt x c i hx hc
  have e2 : (2 : Nat) ^ (i % 8 * 8) = 256 ^ (i % 8) := by rw [Nat.mul_comm, Nat.pow_mul]
  have e : IntKind.u64.wrap ((c : Int) * 2 ^ (i % 8 * 8)) = ((c * 256 ^ (i % 8) : Nat) : Int) := by
    rw [show ((c : Int) * 2 ^ (i % 8 * 8)) = ((c * 2 ^ (i % 8 * 8) : Nat) : Int) from by simp, e2, IntKind.wrap_u64]
    omega
  rw [e, u64_or_nat _ _ (by omega) (by omega), Nat.or_comm]
  have := nat_join (i % 8 * 8) (c * 256 ^ (i % 8)) x (by rw [e2]; exact Nat.mul_mod_left _ _) (by rw [e2]; exact hx)
  rw [this, Nat.add_comm]

def FromRel (w : World) (g : Nat) (H : List Chunk) (l : List UInt8) (i : Value) (wr : World) : Prop :=
  ∃ (k : Nat) (cur : List Nat), k ≤ 32 ∧ i = .int .i64 (k : Int) ∧ cur.length = 4 ∧ Words cur ∧ lv cur = bval (l.take k) ∧ St w NoB wr (.cells g (uvs cur).toArray 80 :: H)
def ResFrom (w : World) (l : List UInt8) (e : Ending) (w' : World) : Prop :=
  ∃ a0 a1 a2 a3 : Nat, Words [a0, a1, a2, a3] ∧ lv [a0, a1, a2, a3] = bval l ∧ e = .returned (.agg #[.int .u64 (a0 : Int), .int .u64 (a1 : Int), .int .u64 (a2 : Int), .int .u64 (a3 : Int)]) ∧ Below w.heap.size w w'
end Go.Proofs.YtgahjjdbpjgemaaDoor.S3

/-
  The walks of layer 3: May, Reduce.
-/
namespace Go.Proofs.YtgahjjdbpjgemaaDoor.S3
open Go.RowKit

/-- A number that is told: below the order or not. -/
def mayS (l : List UInt8) : Bool := decide (l.length = 32) && decide (bval l < Lq)
theorem less_bit (a r : List Nat) (bo : Nat) (hr : Words r) (hrl : r.length = 4) (hbo : bo ≤ 1) (ha : lv a < 18446744073709551616 ^ 4) (h : lv r + Lq = lv a + bo * 18446744073709551616 ^ 4) : decide (0 < bo) = decide (lv a < Lq) := by
  have h4 := lv_lt r hr
  have hL := Lq_lt
  rw [hrl] at h4
  generalize 18446744073709551616 ^ 4 = B at *
  rw [Bool.eq_iff_iff, decide_eq_true_eq, decide_eq_true_eq]
  have : bo = 0 ∨ bo = 1 := by omega
  rcases this with rfl | rfl <;> omega
theorem enNext (args : Array Value) (w : World) : (callFunc 56 args).run Tryd.prog w = .ok (.enter 56 args) w := by kernel_rfl
theorem next_any (a0 a1 a2 a3 bit : Nat) (w : World) (ha : Words [a0, a1, a2, a3]) (hx : lv [a0, a1, a2, a3] < Lq) (hbit : bit ≤ 1) :
    Calls Tryd.prog 56 #[.agg #[.int .u64 (a0 : Int), .int .u64 (a1 : Int), .int .u64 (a2 : Int), .int .u64 (a3 : Int)], .int .u64 (bit : Int)] w fun e w' =>
      ∃ r0 r1 r2 r3 : Nat, Words [r0, r1, r2, r3] ∧ lv [r0, r1, r2, r3] = (2 * lv [a0, a1, a2, a3] + bit) % Lq ∧ e = .returned (.agg #[.int .u64 (r0 : Int), .int .u64 (r1 : Int), .int .u64 (r2 : Int), .int .u64 (r3 : Int)]) ∧ Below w.heap.size w w' := by
  refine (next_walk [a0, a1, a2, a3] bit w rfl ha hx hbit).mono ?_
  rintro e w' ⟨rs, hrl, hrw, hv, rfl, hb⟩
  match rs, hrl with
  | [r0, r1, r2, r3], _ => exact ⟨r0, r1, r2, r3, hrw, hv, rfl, hb⟩

def AtI (m : Nat) (i : Value) : Prop := (m = 0 ∧ i = .int .i64 (-1)) ∨ ∃ p : Nat, m = p + 1 ∧ i = .int .i64 (p : Int)
theorem atI_pred (p : Nat) : AtI p (.int .i64 ((p : Int) - 1)) := by
  cases p with
  | zero => exact .inl ⟨rfl, rfl⟩
  | succ p => exact .inr ⟨p, rfl, by simp⟩
def RedRel (w : World) (g : Nat) (X : Nat) (wr : World) : Prop :=
  ∃ a0 a1 a2 a3 : Nat, Words [a0, a1, a2, a3] ∧ lv [a0, a1, a2, a3] = X % Lq ∧ St w NoB wr [.cells g #[.int .u64 (a0 : Int), .int .u64 (a1 : Int), .int .u64 (a2 : Int), .int .u64 (a3 : Int)] 80]
theorem red_step (X c k : Nat) (hk : k < 8) : (2 * ((X * 2 ^ (7 - k) + c / 2 ^ (k + 1)) % Lq) + c / 2 ^ k % 2) % Lq = (X * 2 ^ (8 - k) + c / 2 ^ k) % Lq := by
  have e : X * 2 ^ (8 - k) + c / 2 ^ k = 2 * (X * 2 ^ (7 - k) + c / 2 ^ (k + 1)) + c / 2 ^ k % 2 := by
    rw [show 8 - k = (7 - k) + 1 from by omega, Nat.pow_succ, Nat.pow_succ, ← Nat.div_div_eq_div_mul, Nat.mul_add, ← Nat.mul_assoc X]
    have := Nat.div_add_mod (c / 2 ^ k) 2
    omega
  rw [e, Nat.add_mod, Nat.mul_mod_mod, ← Nat.add_mod]
theorem red_byte (l : List UInt8) (p : Nat) (c : UInt8) (h : l[p]? = some c) : bval (l.drop (p + 1)) * 256 + c.toNat = bval (l.drop p) := by
  have hlt := (List.getElem?_eq_some_iff.1 h).1
  have hc := (List.getElem?_eq_some_iff.1 h).2
  rw [List.drop_eq_getElem_cons hlt, hc, bval]
  omega
theorem red_bit (c k : Nat) (hc : c < 256) : bits .and .u8 ((c / 2 ^ k : Nat) : Int) 1 = ((c / 2 ^ k % 2 : Nat) : Int) := by
  have h1 : c / 2 ^ k < 256 := Nat.lt_of_le_of_lt (Nat.div_le_self _ _) hc
  have := u8_and_nat (c / 2 ^ k) 1 h1 (by omega)
  rw [nat_mask1] at this
  exact this
set_option maxRecDepth 100000 in
set_option maxHeartbeats 1600000 in
theorem reduce_walk (A : Option Addr) (n c : Nat) (l : List UInt8) (w : World) (hl : l.length = n) (hn : n ≤ 64) (hr : Rd w (.slice A n c) 1 n (bvs l)) :
    Calls Tryd.prog 26 #[.slice A n c] w (ResB 5 w (leB 32 (bval l % Lq))) := by
  have HR := hide hr
  have HL := hide hl
  have HS0 := hide ((St.init w NoB).alloc #[.int .u64 0, .int .u64 0, .int .u64 0, .int .u64 0] 80)
  have hL := Lq_lt
  have HLQ := hide hL.2
  have hat : AtI n (.int .i64 ((n : Int) - 1)) := by
    cases n with
    | zero => exact .inl ⟨rfl, rfl⟩
    | succ p => exact .inr ⟨p, rfl, by simp⟩
  have HAT := hide hat
  clear hr hl hL hat
  go_enter Tryd.func26, Tryd.ntmps26
  go_wp2_with fail
  go_loopw [4] (fun i wr => ∃ m : Nat, m ≤ n ∧ AtI m i ∧ RedRel w w.heap.size (bval (l.drop m)) wr) (fun i _ => (intOf i + 1).toNat)
  case atStart =>
    refine ⟨n, Nat.le_refl _, HAT.out, 0, 0, 0, 0, by unfold Words; decide, ?_, HS0.out⟩
    rw [List.drop_eq_nil_of_le (by rw [HL.out]; exact Nat.le_refl _)]
    rfl
  case round =>
    obtain ⟨m, hm, hi, a0, a1, a2, a3, haw, hav, hS⟩ := hrel
    rcases hi with ⟨rfl, rfl⟩ | ⟨p, rfl, rfl⟩
    · have HAV := hide hav
      have HS := hide hS
      have hc0 : wr.cell? ⟨w.heap.size, 0, none⟩ = some (.int .u64 (a0 : Int)) := hS.cell 0 rfl 0
      have hc1 : wr.cell? ⟨w.heap.size, 1, none⟩ = some (.int .u64 (a1 : Int)) := hS.cell 0 rfl 1
      have hc2 : wr.cell? ⟨w.heap.size, 2, none⟩ = some (.int .u64 (a2 : Int)) := hS.cell 0 rfl 2
      have hc3 : wr.cell? ⟨w.heap.size, 3, none⟩ = some (.int .u64 (a3 : Int)) := hS.cell 0 rfl 3
      clear hav hS
      go_wp2_with (go_at_call 57; refine (bytes_walk a0 a1 a2 a3 _ haw).mono ?_; rintro e w2 ⟨B, d, rfl, hb, ho⟩)
      go_ret
      have hav := HAV.out
      rw [List.drop_zero] at hav
      rw [← hav]
      exact ⟨B, d, rfl, HS.out.below.trans (hb.mono HS.out.below.size), ho.base_le HS.out.below.size⟩
    · obtain ⟨ch, hch⟩ : ∃ ch, l[p]? = some ch := ⟨l[p]'(by rw [HL.out]; omega), List.getElem?_eq_getElem _⟩
      have hrb := red_byte l p ch hch
      have hch2 := UInt8.toNat_lt ch
      obtain ⟨cn, hcn⟩ : ∃ cn, cn = ch.toNat := ⟨_, rfl⟩
      rw [← hcn] at hrb hch2
      obtain ⟨X, hX⟩ : ∃ X, X = bval (l.drop (p + 1)) := ⟨_, rfl⟩
      rw [← hX] at hrb hav
      rcases HR.out.cases with ⟨_, h0, _⟩ | ⟨b, o, sp, c', hA, hb, hnc, hcm, _, hsp, hc⟩
      · omega
      injection hA with hA1 _ hA3
      subst hA1 hA3
      obtain rfl : sp = none := hsp (by omega)
      replace hb := hb (by omega)
      have hcb : w.cell? ⟨b, o + p, none⟩ = some (.int .u8 (cn : Int)) := hc p _ (by simp only [bvs, List.getElem?_map, hch]; rw [hcn]; rfl)
      have HRB := hide hrb
      have HCB := hide hcb
      have HRR := hide (show RedRel w w.heap.size (X * 2 ^ (8 - 8) + cn / 2 ^ 8) wr from ⟨a0, a1, a2, a3, haw, by rw [hav, show cn / 2 ^ 8 = 0 from by omega]; simp, hS⟩)
      clear hrb hX hcn hch hc hsp hav hS haw hcb
      unfold maxLen at hcm
      go_wp2_with fail
      go_loopw [5] (fun k wr => ∃ j : Nat, j ≤ 8 ∧ AtI j k ∧ RedRel w w.heap.size (X * 2 ^ (8 - j) + cn / 2 ^ j) wr) (fun k _ => (intOf k + 1).toNat)
      case atStart => exact ⟨8, Nat.le_refl _, .inr ⟨7, rfl, rfl⟩, HRR.out⟩
      case round =>
        obtain ⟨j, hj, hk, b0, b1, b2, b3, hbw, hbv, hS2⟩ := hrel
        clear HRR
        rcases hk with ⟨rfl, rfl⟩ | ⟨k, rfl, rfl⟩
        · have HBV := hide hbv
          clear hbv
          have HS2 := hide hS2
          clear hS2
          go_wp2_with fail
          go_roundw
          case rel =>
            refine ⟨p, by omega, atI_pred p, b0, b1, b2, b3, hbw, ?_, HS2.out⟩
            rw [HBV.out, ← HRB.out]
            simp
          case measure => simp [intOf]; try omega
        · obtain ⟨d, hd⟩ : ∃ d, d = cn / 2 ^ k % 2 := ⟨_, rfl⟩
          have hd1 : d ≤ 1 := by omega
          have hst := red_step X cn k (by omega)
          rw [show 8 - (k + 1) = 7 - k from by omega] at hbv
          rw [← hbv, ← hd] at hst
          have hbl : lv [b0, b1, b2, b3] < Lq := by rw [hbv]; exact Nat.mod_lt _ HLQ.out
          have he : bits .and .u8 ((cn : Int) / 2 ^ k) 1 = (d : Int) := by
            have := red_bit cn k hch2
            rw [hd, ← this]
            simp
          have hwd : IntKind.u64.wrap (d : Int) = (d : Int) := by rw [IntKind.wrap_u64]; omega
          have hk8 : k < 8 := by omega
          have hp1 : p < n := by omega
          have hp2 : (p : Int) < (n : Int) := by omega
          have hS' := hS2.drew
          have hHS := hide hS'
          have n0 : ∀ z, From wr.drew z → z.cell? ⟨w.heap.size, 0, none⟩ = some (.int .u64 (b0 : Int)) := fun z hz => by
            rw [hz.cell (p := ⟨w.heap.size, 0, none⟩) (Chunk.lt (hHS.out.sat 0 _ rfl) rfl)]; exact hHS.out.cell 0 rfl 0
          have n1 : ∀ z, From wr.drew z → z.cell? ⟨w.heap.size, 1, none⟩ = some (.int .u64 (b1 : Int)) := fun z hz => by
            rw [hz.cell (p := ⟨w.heap.size, 1, none⟩) (Chunk.lt (hHS.out.sat 0 _ rfl) rfl)]; exact hHS.out.cell 0 rfl 1
          have n2 : ∀ z, From wr.drew z → z.cell? ⟨w.heap.size, 2, none⟩ = some (.int .u64 (b2 : Int)) := fun z hz => by
            rw [hz.cell (p := ⟨w.heap.size, 2, none⟩) (Chunk.lt (hHS.out.sat 0 _ rfl) rfl)]; exact hHS.out.cell 0 rfl 2
          have n3 : ∀ z, From wr.drew z → z.cell? ⟨w.heap.size, 3, none⟩ = some (.int .u64 (b3 : Int)) := fun z hz => by
            rw [hz.cell (p := ⟨w.heap.size, 3, none⟩) (Chunk.lt (hHS.out.sat 0 _ rfl) rfl)]; exact hHS.out.cell 0 rfl 3
          have cb : ∀ z, From wr.drew z → z.cell? ⟨b, o + p, none⟩ = some (.int .u8 (cn : Int)) := fun z hz => by
            have hbz := hHS.out.below.trans (hz.mono hHS.out.below.size)
            rw [hbz.cell (p := ⟨b, o + p, none⟩) hb]; exact HCB.out
          have HST := hide hst
          have HBL := hide hbl
          clear hS' hS2 hst hbl hbv hd
          go_wp2_with fail
          refine wp_region_M (fun i => i == 10) (From wr.drew) (by kernel_rfl) ?_
          (refine wpM_take (i := 0) (v := ?_) rfl (by kernel_rfl) (by kernel_rfl) (by kernel_rfl) (fun _ _ _ h => h) (From.refl _) rfl (by kernel_rfl) (Or.inl ⟨by first | kernel_rfl | rfl, ?_⟩) ?_; rotate_left; (intro wx hx; go_simp) <;> (with_reducible rfl); (try simp only [Act.put, nq1, nq2, nq3, nq4, nq5, nq6]))
          (refine wpM_takeU (i := 1) (v := ?_) rfl (by kernel_rfl) (by kernel_rfl) (by kernel_rfl) (fun _ _ _ h => h) (From.refl _) rfl (Or.inl ⟨by first | kernel_rfl | rfl, ?_⟩) ?_; rotate_left; (intro wx; go_simp) <;> (with_reducible rfl); (try simp only [Act.put, nq1, nq2, nq3, nq4, nq5, nq6])); (refine wpM_takeU (i := 2) (v := ?_) rfl (by kernel_rfl) (by kernel_rfl) (by kernel_rfl) (fun _ _ _ h => h) (From.refl _) rfl (Or.inl ⟨by first | kernel_rfl | rfl, ?_⟩) ?_; rotate_left; (intro wx; go_simp) <;> (with_reducible rfl); (try simp only [Act.put, nq1, nq2, nq3, nq4, nq5, nq6])); (refine wpM_takeU (i := 3) (v := ?_) rfl (by kernel_rfl) (by kernel_rfl) (by kernel_rfl) (fun _ _ _ h => h) (From.refl _) rfl (Or.inl ⟨by first | kernel_rfl | rfl, ?_⟩) ?_; rotate_left; (intro wx; go_simp) <;> (with_reducible rfl); (try simp only [Act.put, nq1, nq2, nq3, nq4, nq5, nq6]))
          (refine wpM_take (i := 4) (v := ?_) rfl (by kernel_rfl) (by kernel_rfl) (by kernel_rfl) (fun _ _ _ h => h) (From.refl _) rfl (by kernel_rfl) (Or.inl ⟨by first | kernel_rfl | rfl, ?_⟩) ?_; rotate_left; (intro wx hx; go_simp) <;> (with_reducible rfl); (try simp only [Act.put, nq1, nq2, nq3, nq4, nq5, nq6]))
          (refine wpM_takeU (i := 5) (v := ?_) rfl (by kernel_rfl) (by kernel_rfl) (by kernel_rfl) (fun _ _ _ h => h) (From.refl _) rfl (Or.inl ⟨by first | kernel_rfl | rfl, ?_⟩) ?_; rotate_left; (intro wx; go_simp) <;> (with_reducible rfl); (try simp only [Act.put, nq1, nq2, nq3, nq4, nq5, nq6])); (refine wpM_takeU (i := 6) (v := ?_) rfl (by kernel_rfl) (by kernel_rfl) (by kernel_rfl) (fun _ _ _ h => h) (From.refl _) rfl (Or.inl ⟨by first | kernel_rfl | rfl, ?_⟩) ?_; rotate_left; (intro wx; go_simp) <;> (with_reducible rfl); (try simp only [Act.put, nq1, nq2, nq3, nq4, nq5, nq6])); (refine wpM_takeU (i := 7) (v := ?_) rfl (by kernel_rfl) (by kernel_rfl) (by kernel_rfl) (fun _ _ _ h => h) (From.refl _) rfl (Or.inl ⟨by first | kernel_rfl | rfl, ?_⟩) ?_; rotate_left; (intro wx; go_simp) <;> (with_reducible rfl); (try simp only [Act.put, nq1, nq2, nq3, nq4, nq5, nq6])); (refine wpM_takeU (i := 8) (v := ?_) rfl (by kernel_rfl) (by kernel_rfl) (by kernel_rfl) (fun _ _ _ h => h) (From.refl _) rfl (Or.inl ⟨by first | kernel_rfl | rfl, ?_⟩) ?_; rotate_left; (intro wx; go_simp) <;> (with_reducible rfl); (try simp only [Act.put, nq1, nq2, nq3, nq4, nq5, nq6]))
          (refine wpM_one (i := 9) (by kernel_rfl) rfl rfl ?_; intro K hK; (try simp only [Act.put, nq1, nq2, nq3, nq4, nq5, nq6]))
          refine step_call rfl rfl enNext rfl (next_any b0 b1 b2 b3 d _ hbw HBL.out hd1) ?_
          rintro e w2 ⟨r0, r1, r2, r3, hrw, hrv, rfl, hb2⟩
          have hS3 := hHS.out.call hb2
          refine ⟨_, rfl, hK (From w2) _ _ (From.next hb2) (From.refl _) ?_⟩
          clear hK K
          (try simp only [Act.put, nq1, nq2, nq3, nq4, nq5, nq6])
          (refine wpM_late (i := 10) (by kernel_rfl) rfl rfl ?_; intro K hK; (try simp only [Act.put, nq1, nq2, nq3, nq4, nq5, nq6]))
          refine step_storeRow rfl rfl hS3 0 rfl rfl (cs := #[.int .u64 (r0 : Int), .int .u64 (r1 : Int), .int .u64 (r2 : Int), .int .u64 (r3 : Int)]) rfl (by kernel_rfl) rfl (by kernel_rfl) ?_
          intro w5 hS5
          refine hK _ _ ?_
          clear hK K
          (try simp only [Act.put, nq1, nq2, nq3, nq4, nq5, nq6])
          refine wpAny_done (by kernel_rfl) ?_ _
          go_wp2_with fail
          go_roundw
          case rel => exact ⟨k, by omega, atI_pred k, r0, r1, r2, r3, hrw, by rw [hrv]; exact HST.out, hS5⟩
          case measure => simp [intOf]; try omega
end Go.Proofs.YtgahjjdbpjgemaaDoor.S3

/-
  Layer 4: the walk of PointScalars.
-/
namespace Go.Proofs.YtgahjjdbpjgemaaDoor
open Go.RowKit
set_option linter.unusedSimpArgs false
section
variable {P : Program} {ops : Array Oper} {Q : Exit → Act → World → Prop} {restT : List (Nat × Nat)} {i : Nat} {o : Oper} {a : Act} {w : World} {W0 : World} {F : List (Nat × Nat)} {fc : Array Value} {fe : TypeId} {suf : STr}
/-- A call beside floats whose contract wants what stood ahead. -/
theorem wpX_callG {f : FuncId} {xs : List Operand} {ts : Array TypeId} {vs : List Value} {R : World → Ending → World → Prop} (ho : ops[i]? = some o) (hw : Region.wanted o (yielded ops a.tmps) = true)
    (hop : o.op = .call { callee := .value (.func f), args := xs.toArray, argTypes := ts }) (hf : ∀ (args : Array Value) (w : World), (callFunc f args).run P w = .ok (.enter f args) w)
    (hx : xs.map a.eval = vs) (hc : ∀ x, From w x → Calls P f vs.toArray x (R x)) (h : ∀ x e w', R x e w' → ∃ v, e = .returned v ∧ Below x.heap.size x w' ∧ XGo P ops Q F fc fe suf W0 restT (a.put o.dst v) w') : XGo P ops Q F fc fe suf W0 ((i, 2) :: restT) a w :=
  wpX_call ho hw fun x hx' K hK => wp_call hop hf hx (hc x hx') fun e w' hr => by
    obtain ⟨v, he, hb, hk⟩ := h x e w' hr
    exact ⟨v, he, hK _ _ ⟨hb, hk⟩⟩
end
/-- The low bytes of a number. -/
def bL (V j : Nat) : List UInt8 := (List.range j).map (fun i => UInt8.ofNat (V / 256 ^ i % 256))
theorem bL_len (V j : Nat) : (bL V j).length = j := by simp [bL]
theorem bL_succ (V j : Nat) : bL V (j + 1) = bL V j ++ [UInt8.ofNat (V / 256 ^ j % 256)] := by simp [bL, List.range_succ]
theorem bL_val (V : Nat) : ∀ j, bval (bL V j) = V % 256 ^ j
  | 0 => by rw [Nat.pow_zero, Nat.mod_one]; rfl
  | j + 1 => by
    rw [bL_succ, bval_append, bL_len, bL_val V j, Nat.mod_pow_succ]
    congr 2
    show (UInt8.ofNat (V / 256 ^ j % 256)).toNat + 256 * 0 = _
    rw [UInt8.toNat_ofNat', Nat.mul_zero, Nat.add_zero]
    exact Nat.mod_eq_of_lt (Nat.mod_lt _ (by decide))
/-- l with q more. -/
def bigL (q : Nat) : List UInt8 := (lL.set 0 (UInt8.ofNat ((237 + q) % 256))).set 1 (UInt8.ofNat (211 + (237 + q) / 256))
theorem bigL_len (q : Nat) : (bigL q).length = 32 := by unfold bigL; rw [List.length_set, List.length_set]; rfl
theorem bigL_get (q i : Nat) (h2 : 2 ≤ i) (h : i < 32) : (bigL q)[i]? = some (lL.getD i 0) := by
  unfold bigL
  rw [List.getElem?_set_ne (by omega), List.getElem?_set_ne (by omega), List.getD_eq_getElem?_getD, List.getElem?_eq_getElem (by rw [lL_len]; exact h)]
  rfl
theorem bigL_same (q i : Nat) (h2 : 2 ≤ i) (h : i < 32) : (bigL q).set i (lL.getD i 0) = bigL q := by
  apply List.ext_getElem?
  intro k
  by_cases hk : i = k
  · subst hk
    rw [List.getElem?_set_self (by rw [bigL_len]; exact h), bigL_get q i h2 h]
  · rw [List.getElem?_set_ne hk]
theorem bigL_val (q : Nat) (h : q < 256) : mulV (bigL q) = Lq + q := by
  have h1 := lL_val
  have e : lL = 237 :: 211 :: lL.drop 2 := rfl
  have e1 : mulV lL = 237 + 256 * (211 + 256 * bval (lL.drop 2)) := rfl
  have e2 : mulV (bigL q) = (UInt8.ofNat ((237 + q) % 256)).toNat + 256 * ((UInt8.ofNat (211 + (237 + q) / 256)).toNat + 256 * bval (lL.drop 2)) := rfl
  rw [e1] at h1
  rw [e2, ← h1, UInt8.toNat_ofNat', UInt8.toNat_ofNat']
  generalize bval (lL.drop 2) = R
  omega
theorem wpS_loadP {P : Program} {ops : Array Oper} {Q : Exit → Act → World → Prop} {i : Nat} {o : Oper} {a : Act} {w0 w W : World} {M : Nat → Prop} {H : List Chunk} {t e : TypeId} {n g off : Nat} {x : Operand} {cs part : Array Value} {rest : STr} (hoi : ops[i]? = some o) (ho : o.op = .load t x) (hw : Region.wanted o (yielded ops a.tmps) = true) (hx : a.eval x = .pointer (some ⟨g, off, none⟩)) (hS : St w0 M W H) (hm : Chunk.cells g cs e ∈ H) (hT : RowOf P t n) (hp : PartN n cs part off)
    (h : wpS P ops Q W rest (a.put o.dst (.agg part)) w) : wpS P ops Q W (.op i 0 rest) a w :=
  wpS_load hoi ho hw (run_load_part ho hT hx (hS.heapM hm) hp) h
theorem q1_len (q : Nat) : [UInt8.ofNat q].length = 1 := rfl
theorem reduce32 {A : Option Addr} {c : Nat} {l : List UInt8} (w : World) (hl : l.length = 32) (hr : Rd w (.slice A 32 c) 1 32 (bvs l)) : Calls Tryd.prog 26 #[.slice A 32 c] w fun e w' => ∃ B d, e = .returned (.slice B 32 d) ∧ Below w.heap.size w w' :=
  (S3.reduce_walk A 32 c l w hl (by decide) hr).mono fun e w' h => by
    obtain ⟨B, d, rfl, hb, _⟩ := h
    rw [leB_len]
    exact ⟨B, d, rfl, hb⟩
theorem en11_pc (args : Array Value) (w : World) : (callFunc 11 args).run Tryd.prog w = .ok (.enter 11 args) w := by kernel_rfl
theorem en12_pc (args : Array Value) (w : World) : (callFunc 12 args).run Tryd.prog w = .ok (.enter 12 args) w := by kernel_rfl
theorem en26_pc (args : Array Value) (w : World) : (callFunc 26 args).run Tryd.prog w = .ok (.enter 26 args) w := by kernel_rfl
set_option maxRecDepth 100000 in
set_option maxHeartbeats 6400000 in
theorem pointScalars_walk (a b : Int) (w : World) (ha : I64 a) (hb : I64 b) : Calls Tryd.prog 6 #[.int .i64 a, .int .i64 b] w fun e w' => e = .returned (.bool true) ∧ Below w.heap.size w w' := by
  have HS := hide (St.init w NoB)
  have IB := hb
  obtain ⟨mA, hA⟩ : ∃ m, m = (a % 65536).toNat := ⟨_, rfl⟩
  obtain ⟨mB, hB⟩ : ∃ m, m = (b % 65536).toNat := ⟨_, rfl⟩
  obtain ⟨q, hq⟩ : ∃ m, m = (a % 256).toNat := ⟨_, rfl⟩
  have a1 := and_65535 a
  have a2 := and_65535 b
  have a3 := and_255 a
  have v1 := smL_val a
  have v2 := smL_val b
  rw [← hA] at a1 v1
  rw [← hB] at a2 v2
  rw [← hq] at a3
  have bA : mA < 65536 := by omega
  have bB : mB < 65536 := by omega
  have bq : q < 256 := by omega
  have wq : IntKind.u8.wrap a = (q : Int) := by rw [IntKind.wrap_u8]; omega
  obtain ⟨nm, hnm⟩ : ∃ nm, nm = mA * mB := ⟨_, rfl⟩
  have hlt : mA * mB < 4294967296 := Nat.lt_of_lt_of_le (Nat.mul_lt_mul'' bA bB) (by decide)
  have bn : nm < 4294967296 := by rw [hnm]; exact hlt
  have wm2 : IntKind.u64.wrap ((mA * mB : Nat) : Int) = (nm : Int) := by rw [IntKind.wrap_u64, hnm]; omega
  have wm : IntKind.u64.wrap ((mA : Int) * (mB : Int)) = (nm : Int) := by rw [← Int.natCast_mul]; exact wm2
  have HVA := hide v1
  have HVB := hide v2
  have HVN := hide (show mA * mB = mulV (bL nm 8) by
    have h1 : mulV (bL nm 8) = bval (bL nm 8) := by
      unfold mulV
      rw [List.take_of_length_le (by rw [bL_len]; decide)]
    rw [h1, bL_val, ← hnm]
    exact (Nat.mod_eq_of_lt (Nat.lt_of_lt_of_le bn (by decide))).symm)
  have HVG := hide (bigL_val q bq)
  have HVQ := hide (show mulV [UInt8.ofNat q] = q by
    show (UInt8.ofNat q).toNat + 256 * 0 = q
    rw [UInt8.toNat_ofNat']
    omega)
  have HBQ := hide (show [Value.int .u8 (q : Int)] = bvs [UInt8.ofNat q] by
    show _ = [Value.int .u8 ((UInt8.ofNat q).toNat : Int)]
    rw [UInt8.toNat_ofNat', Nat.mod_eq_of_lt (show q < 2 ^ 8 from bq)])
  clear hA hB hq v1 v2 hnm hlt
  go_enter Tryd.func6, Tryd.ntmps6
  have M0 := True.intro
  go_upto_region 2 with (first | (clear M4; refine wl_storeR rfl rfl rfl rfl HS.out rowP (.head) (by first | exact arr_zP | exact PtN.arr ‹_› | exact PtV.arr ‹_› | exact qE ‹_› ‹_› ‹_› ‹_›) (by first | exact arr_zP | exact PtN.arr ‹_› | exact PtV.arr ‹_› | exact qE ‹_› ‹_› ‹_› ‹_›) ?_; intro wz hS9; have HS := hide hS9; clear hS9; (try simp only [Act.put, nq1, nq2, nq3, nq4, nq5, nq6]); have M5 := True.intro) | (clear M3; refine wl_allocR rfl rfl HS.out newP ?_; intro g5 wz hS9; have HS := hide hS9; clear hS9; (try simp only [Act.put, nq1, nq2, nq3, nq4, nq5, nq6]); have M4 := True.intro) | (clear M2; go_at_call 11; (with_reducible refine (mulP_any _ _ _ _ _ (by first | assumption | exact PtN.v ‹_›) (smL_len _) (by omega) hrs2).mono ?_); rintro e wy ⟨z3, hz3, rfl, hb⟩; have HS := hide (HS.out.call hb); have M3 := True.intro) | (clear M1; go_at_call 12; (with_reducible refine (small_any _ _ (by assumption)).mono ?_); rintro e wy ⟨gs2, rfl, hb, hrs2⟩; have HS := hide (HS.out.call hb); have M2 := True.intro) | (clear M0; go_at_call 10; (with_reducible refine (baseP _).mono ?_); rintro e wy ⟨z1, hz1, rfl, hb⟩; have HS := hide (HS.out.call hb); have M1 := True.intro))
  have HS := hide HS.out.drew
  refine wp_region_XE [(4, 6)] [(0, 0), (1, 1), (2, 2), (3, 2)] (.op 5 2 (.nil)) zP 29 (by kernel_rfl) (by kernel_rfl) (by kernel_rfl) (by intro p hp; simp only [List.mem_cons, List.not_mem_nil, or_false] at hp; subst hp; exact flOp_of rfl rfl rfl (fun ev x => run_allocR rfl newP ev x)) (fun _ _ _ _ h => h) ?_
  refine wpX_loadP rfl rfl rfl rfl HS.out (.head _) rowP (.all (PtN.arr ‹_›)) ?_; (try simp only [Act.put, nq1, nq2, nq3, nq4, nq5, nq6])
  (refine wpX_pure (v := ?_) rfl rfl ?_ ?_; rotate_left; (intro wx; go_simp; try go_bits) <;> (with_reducible rfl)); (try simp only [Act.put, nq1, nq2, nq3, nq4, nq5, nq6])
  refine wpX_callF rfl rfl rfl en12_pc rfl (fun x => small_any _ x IB) ?_; rintro xw e wy ⟨gs2, rfl, hb, hrs2⟩; refine ⟨_, rfl, hb, ?_⟩; (try simp only [Act.put, nq1, nq2, nq3, nq4, nq5, nq6])
  refine wpX_callG rfl rfl rfl en11_pc rfl (fun x hx => mulP_any _ _ _ _ x (PtN.v ‹_›) (smL_len _) (by omega) (hrs2.below hx)) ?_; rintro xw e wy ⟨z9, hz9, rfl, hb⟩; refine ⟨_, rfl, hb, ?_⟩; (try simp only [Act.put, nq1, nq2, nq3, nq4, nq5, nq6])
  refine wpX_nil ?_; intro G xz hx0 hx hF; have hS9 := HS.out.floats hx0 hF _ (by decide) (fun _ h => h); simp only [List.map_cons, List.map_nil, List.cons_append, List.nil_append] at hS9; have HS := hide hS9; have HX := hide hx0; have HG := hide hF.at_; clear hS9 hF hx0 hx; simp only [putsE, List.foldl_cons, List.foldl_nil]; (try simp only [Act.put, nq1, nq2, nq3, nq4, nq5, nq6])
  refine wpS_storeF rfl rfl rfl rfl rfl HS.out HX.out (HG.out 4 (by simp)).1 rowP (.head) arr_zP (PtN.arr ‹_›) ?_; intro wz hS9 hX9; have HS := hide hS9; have HX := hide hX9; clear hS9 hX9; (try simp only [Act.put, nq1, nq2, nq3, nq4, nq5, nq6])
  refine wpS_nil ?_
  go_wp2_with fail
  rename_i HSx Kx ax
  have HSN := hide (St.row HS.out (Below.refl _ _) (World.ownsRow_nil _ _ _ _) : St w NoB wz (.row (.slice none 0 0) 5 1 0 [] :: _))
  go_loopw [8, 29] (fun v8 iv wr => ∃ (j : Nat) (A : Option Addr) (c : Nat), j ≤ 8 ∧ iv = .int .i64 (j : Int) ∧ v8 = .slice A j c ∧ Hid (St w NoB wr [.row (.slice A j c) 5 1 j (bvs (bL nm j)), .cells (G 4) z9 29, .cells g5 z3 29])) (fun v8 iv _ => 8 - (intOf iv).toNat)
  case atStart => exact ⟨0, none, 0, by omega, rfl, rfl, HSN⟩
  case round =>
    clear HS HSN
    obtain ⟨j, A, c, hj, rfl, rfl, HS⟩ := hrel
    by_cases hlt : j < 8
    · have dj : decide ((j : Int) < 8) = true := by simp; omega
      have j8 : (j : Int) < 8 := by omega
      obtain ⟨k, hk⟩ : ∃ k, k = 8 * j := ⟨_, rfl⟩
      have k64 : (k : Int) < 64 := by omega
      have wk : wrap64 (8 * (j : Int)) = (k : Int) := by rw [IntWalk.wrap64_in _ (by omega)]; omega
      have wk2 : wrap64 ((8 * j : Nat) : Int) = (k : Int) := by rw [IntWalk.wrap64_in _ (by omega)]; omega
      have HT := hide (show bvs (bL nm j) ++ [.int .u8 ((nm : Int) / 2 ^ (8 * j) % 256)] = bvs (bL nm (j + 1)) by
        have e : ((nm / 2 ^ (8 * j) % 256 : Nat) : Int) = (nm : Int) / 2 ^ (8 * j) % 256 := by rw [Int.natCast_emod, Int.natCast_ediv, Int.natCast_pow]; rfl
        rw [bL_succ, bvs_append, ← e, Nat.pow_mul]
        congr 1
        show _ = [Value.int .u8 ((UInt8.ofNat (nm / (2 ^ 8) ^ j % 256)).toNat : Int)]
        rw [UInt8.toNat_ofNat', Nat.mod_eq_of_lt (show nm / (2 ^ 8) ^ j % 256 < 2 ^ 8 from Nat.mod_lt _ (by decide))])
      have HJ := hide hj
      clear hk hj
      go_wp2_with (at_builtin; refine wl_append1 rfl rfl tyB HS.out 0 rfl rfl (us := [_]) rfl rfl ?_ ?_ (by decide) ?_; (intro u hu; simp only [List.mem_singleton] at hu; subst hu; rfl); (simp only [List.length_singleton]; omega); intro B3 d3 w3 hS3; have HS3 := hide hS3; clear hS3)
      go_roundw
      case rel =>
        have h3 := HS3.out
        simp only [List.set_cons_zero] at h3
        rw [HT.out] at h3
        exact ⟨j + 1, _, _, by omega, by go_num, rfl, h3⟩
      case measure => (simp [intOf]) <;> omega
    · obtain rfl : j = 8 := by omega
      clear hlt hj
      go_upto_region 10 with fail
      have hcv := Go.Joins.run_convert_bytes_const_at (P := Tryd.prog) wr 22 5 #[.int .u8 237, .int .u8 211, .int .u8 245, .int .u8 92, .int .u8 26, .int .u8 99, .int .u8 18, .int .u8 88, .int .u8 214, .int .u8 156, .int .u8 247, .int .u8 162, .int .u8 222, .int .u8 249, .int .u8 222, .int .u8 20] 16 16 wr.heap.size rfl Tryd.underlying22 Tryd.underlying5
      have R0 := rd_mark wr (bvs l0L) 5 (16, 17) 16 l0_len (by decide)
      rw [l0_arr] at R0
      have HR0 := hide R0
      clear R0
      go_upto_region 11 with (at_builtin; refine wl_appendZnew (k := 16) (l := l0L) (n := 16) (c := 16) rfl rfl Tryd.underlying22 Tryd.underlying3 infoB (HS.out.skip _) rfl HR0.out rfl rfl (by omega) (by omega) (by omega) (by omega) ?_; intro A2 cl w2 hS2 hb2; have HS := hide hS2; clear hS2 hb2)
      clear hcv
      obtain ⟨gl, c1', hv, hc1, hcm, hcs, hfr, _⟩ := HS.out.rowOpen 0 rfl (by omega)
      injection hv with hv1 _ hv3
      subst hv1 hv3
      have kl31 := hcs 31 _ (bvs_get (show (l0L ++ List.replicate 16 0)[31]? = some 0 from rfl))
      have fl31 := hfr 31
      clear hcs hfr hc1 hcm
      go_upto_region 12 with fail
      have h3 := HS.out.rowSet 0 rfl 31 (.int .u8 (16 : Nat)) (by omega)
      rw [List.set_cons_zero, bvs_set _ _ _ (by omega), l0_set] at h3
      change St w NoB (w2.setCell ⟨gl, 31, none⟩ (.int .u8 16)) _ at h3
      have HS := hide h3
      clear h3 fl31 kl31
      generalize w2.setCell ⟨gl, 31, none⟩ (.int .u8 16) = w5 at HS ⊢
      obtain ⟨g9, c9, hvv, _, _, hcs, hfr, _⟩ := HS.out.rowOpen 0 rfl (by omega)
      injection hvv with hvv1 _ hvv3
      injection hvv1 with hvv1
      injection hvv1 with hvv1
      subst hvv1 hvv3
      have k0 := hcs 0 _ (bvs_get (show lL[0]? = some 237 from rfl))
      clear hcs hfr
      have q0 : (q : Int) < 256 := by omega
      go_upto_region 13 with fail
      go_upto_region 14 with (at_builtin; refine wl_append rfl rfl tyB (HS.out.lit [] 5 1 0 rfl (by decide)) 0 rfl rfl rfl ((HS.out.lit [] 5 1 0 rfl (by decide)).rd 1 rfl) (one_bvs lL) (by omega) (by decide) ?_; intro A' cB w3 hS2; simp only [Nat.zero_add, List.nil_append, List.set_cons_zero] at hS2; have HS := hide hS2; clear hS2)
      obtain ⟨gb, c2, hvv, _, _, hcs, hfr, _⟩ := HS.out.rowOpen 0 rfl (by omega)
      injection hvv with hvv1 _ hvv3
      subst hvv1 hvv3
      have kb0 := hcs 0 _ (bvs_get (show lL[0]? = some 237 from rfl))
      have fb0 := hfr 0
      clear hcs hfr
      have wb : IntKind.u8.wrap (237 + (q : Int)) = (((237 + q) % 256 : Nat) : Int) := by rw [IntKind.wrap_u8]; omega
      have wb2 : IntKind.u8.wrap ((237 + q : Nat) : Int) = (((237 + q) % 256 : Nat) : Int) := by rw [IntKind.wrap_u8]; omega
      go_upto_region 15 with fail
      have h3 := HS.out.rowSet 0 rfl 0 (.int .u8 (((237 + q) % 256 : Nat) : Int)) (by omega)
      rw [List.set_cons_zero, bvs_set _ _ _ (by omega)] at h3
      have HS := hide h3
      clear h3 kb0 fb0 k0
      go_wp2_with fail
      have HS := HS
      go_loopw [11, 13] (fun kv iv wr => ∃ (i k : Nat) (L : List UInt8), 1 ≤ i ∧ i ≤ 32 ∧ iv = .int .i64 (i : Int) ∧ kv = .int .i64 (k : Int) ∧ Hid ((i = 1 ∧ k = 237 + q ∧ L = lL.set 0 (UInt8.ofNat ((237 + q) % 256))) ∨ (2 ≤ i ∧ k < 256 ∧ L = bigL q)) ∧ Hid (St w NoB wr [.row (.slice (some ⟨gb, 0, none⟩) 32 cB) 5 1 32 (bvs L), .row (.slice (some ⟨gl, 0, none⟩) 32 cl) 5 1 32 (bvs lL), .row (.slice A 8 c) 5 1 8 (bvs (bL nm 8)), .cells (G 4) z9 29, .cells g5 z3 29])) (fun kv iv _ => 32 - (intOf iv).toNat)
      case atStart => exact ⟨1, 237 + q, _, by omega, by omega, rfl, by first | rfl | go_num, hide (.inl ⟨rfl, rfl, rfl⟩), HS⟩
      case round =>
        clear HS
        obtain ⟨i, k, L, h1, hi, rfl, rfl, HC, HS⟩ := hrel
        by_cases hlt : i < 32
        · have di : decide ((i : Int) < 32) = true := by simp; omega
          have i32 : (i : Int) < 32 := by omega
          obtain ⟨cc, hcc⟩ : ∃ c : Nat, c = (lL.getD i 0).toNat := ⟨_, rfl⟩
          have hc8 : cc < 256 := by rw [hcc]; exact UInt8.toNat_lt _
          have cc8 : (cc : Int) < 256 := by omega
          have hLL : L.length = 32 := by rcases HC.out with ⟨_, _, rfl⟩ | ⟨_, _, rfl⟩; exact (by rw [List.length_set]; rfl); exact bigL_len q
          obtain ⟨cb, hcb⟩ : ∃ cb, L[i]? = some cb := ⟨L[i]'(by omega), List.getElem?_eq_getElem _⟩
          obtain ⟨g9, c9, hvv, _, _, hcs, hfr, _⟩ := HS.out.rowOpen 0 rfl (by omega)
          injection hvv with hvv1 _ hvv3
          injection hvv1 with hvv1
          injection hvv1 with hvv1
          subst hvv1 hvv3
          have kb := hcs i _ (bvs_get hcb)
          have fb := hfr i
          clear hcs hfr
          obtain ⟨g9, c9, hvv, _, _, hcs, hfr, _⟩ := HS.out.rowOpen 1 rfl (by omega)
          injection hvv with hvv1 _ hvv3
          injection hvv1 with hvv1
          injection hvv1 with hvv1
          subst hvv1 hvv3
          have kl := hcs i _ (bvs_get (show lL[i]? = some (lL.getD i 0) by rw [List.getD_eq_getElem?_getD, List.getElem?_eq_getElem (by rw [lL_len]; exact hlt)]; rfl))
          rw [← hcc] at kl
          clear hcs hfr
          have hk5 : k < 512 := by rcases HC.out with ⟨_, h, _⟩ | ⟨_, h, _⟩ <;> omega
          obtain ⟨kh, hkh⟩ : ∃ t, t = k / 256 := ⟨_, rfl⟩
          have s1 : (k : Int) / 2 ^ 8 = (kh : Int) := by rw [hkh]; omega
          have s2 : (k : Int) / 256 = (kh : Int) := by rw [hkh]; omega
          have kh2 : (kh : Int) < 2 := by omega
          have w1 : IntKind.u8.wrap ((kh : Int) + (cc : Int)) = (((kh + cc) % 256 : Nat) : Int) := by rw [IntKind.wrap_u8]; omega
          have w2' : IntKind.u8.wrap ((kh + cc : Nat) : Int) = (((kh + cc) % 256 : Nat) : Int) := by rw [IntKind.wrap_u8]; omega
          have HT := hide (show (i = 1 → L.set i (UInt8.ofNat ((kh + cc) % 256)) = bigL q ∧ kh + cc < 256) ∧ (2 ≤ i → L.set i (UInt8.ofNat ((kh + cc) % 256)) = bigL q ∧ kh + cc < 256) by
            constructor
            · intro h
              subst h
              rcases HC.out with ⟨_, h5, h6⟩ | ⟨h5, _⟩
              · have e : cc = 211 := by rw [hcc]; rfl
                have e2 : kh + cc = 211 + (237 + q) / 256 := by rw [hkh, h5, e, Nat.add_comm]
                refine ⟨?_, by rw [e2]; omega⟩
                have e3 : (kh + cc) % 256 = 211 + (237 + q) / 256 := by rw [e2]; exact Nat.mod_eq_of_lt (by omega)
                rw [h6, e3]
                rfl
              · omega
            · intro h
              rcases HC.out with ⟨h5, _⟩ | ⟨_, h5, h6⟩
              · omega
              · have e : kh = 0 := by rw [hkh]; omega
                rw [e, Nat.zero_add, Nat.mod_eq_of_lt hc8, h6]
                refine ⟨?_, hc8⟩
                rw [hcc, UInt8.ofNat_toNat]
                exact bigL_same q i h hlt)
          have HI := hide (And.intro h1 hi)
          have HLT := hide hlt
          clear hkh hcc hcb hLL h1 hi hk5 hlt
          go_wp2_with fail
          go_roundw
          case rel =>
            have h3 := HS.out.rowSet 0 rfl i (.int .u8 (((kh + cc) % 256 : Nat) : Int)) (by have := HLT.out; omega)
            rw [List.set_cons_zero, bvs_set _ _ _ (by omega)] at h3
            have hT : L.set i (UInt8.ofNat ((kh + cc) % 256)) = bigL q ∧ kh + cc < 256 := by
              by_cases h : i = 1
              · exact HT.out.1 h
              · exact HT.out.2 (by have := HI.out.1; omega)
            rw [hT.1] at h3
            exact ⟨i + 1, kh + cc, bigL q, by omega, by have := HLT.out; omega, by go_num, by go_num, hide (.inr ⟨by have := HI.out.1; omega, hT.2, rfl⟩), h3⟩
          case measure => (simp [intOf]) <;> (have := HLT.out; omega)
        · obtain rfl : i = 32 := by omega
          obtain ⟨_, _, rfl⟩ : 2 ≤ 32 ∧ k < 256 ∧ L = bigL q := HC.out.elim (fun h => absurd h.1 (by decide)) id
          clear hlt h1 hi HC
          go_upto_region 20 with fail
          have HS := hide HS.out.drew
          refine wp_region_S (.op 0 0 (.op 2 1 (.op 1 2 (.op 3 2 (.op 4 2 (.op 5 1 (.op 7 1 (.op 10 1 (.op 11 0 (.two 6 12 (.two 8 12 (.two 9 12 (.op 12 2 (.op 13 2 (.op 14 2 (.op 15 1 (.op 16 1 (.op 17 1 (.op 18 2 (.op 19 1 (.op 20 1 (.op 21 1 (.op 22 1 (.op 23 2 (.op 24 1 (.op 25 1 (.nil))))))))))))))) (.op 9 2 (.op 13 2 (.op 14 2 (.op 15 1 (.op 16 1 (.op 17 1 (.op 18 2 (.op 19 1 (.op 20 1 (.op 21 1 (.op 22 1 (.op 23 2 (.op 24 1 (.op 25 1 (.nil)))))))))))))))) (.op 8 2 (.op 9 2 (.op 13 2 (.op 14 2 (.op 15 1 (.op 16 1 (.op 17 1 (.op 18 2 (.op 19 1 (.op 20 1 (.op 21 1 (.op 22 1 (.op 23 2 (.op 24 1 (.op 25 1 (.nil))))))))))))))))) (.op 6 2 (.op 8 2 (.op 9 2 (.op 13 2 (.op 14 2 (.op 15 1 (.op 16 1 (.op 17 1 (.op 18 2 (.op 19 1 (.op 20 1 (.op 21 1 (.op 22 1 (.op 23 2 (.op 24 1 (.op 25 1 (.nil))))))))))))))))))))))))))) (by kernel_rfl) (by kernel_rfl) (fun _ _ _ _ h => h) ?_
          generalize wr.drew = W0 at HS ⊢
          have hX := Below.refl W0.heap.size W0
          have M20 := True.intro
          go_wp2_with (first | (refine wpS_loadP rfl rfl rfl rfl HS.out (.tail _ (.tail _ (.tail _ (.head _)))) rowP (.all (PtN.arr ‹_›)) ?_; (try simp only [Act.put, nq1, nq2, nq3, nq4, nq5, nq6])) | ((with_reducible refine fromT_mk (bnx hX ((Below.refl _ _).alloc (Nat.le_refl _) (.cells #[.int .u8 (q : Int)] 5))) ?_); have hX := bnx hX ((Below.refl _ _).alloc (Nat.le_refl _) (.cells #[.int .u8 (q : Int)] 5)); have HS := hide (HS.out.lit [.int .u8 (q : Int)] 5 1 1 rfl (by decide)); (try simp only [Act.put, nq1, nq2, nq3, nq4, nq5, nq6])) | (refine wpS_two ?_ ?_) | (refine wpS_nil ?_)   | ((with_reducible refine fromT_refl ?_); (try simp only [Act.put, nq1, nq2, nq3, nq4, nq5, nq6]))   | ((with_reducible refine fromT_mk (by assumption) ?_); (try simp only [Act.put, nq1, nq2, nq3, nq4, nq5, nq6]))   | (refine wpS_pure (v := ?_) rfl rfl ?_ ?_; rotate_left; (intro wx; go_simp; try go_bits) <;> (with_reducible rfl); (try simp only [Act.put, nq1, nq2, nq3, nq4, nq5, nq6]))   | (refine wpS_load (v := ?_) rfl rfl rfl ?_ ?_; rotate_left; (go_simp; try go_bits) <;> (with_reducible rfl); (try simp only [Act.put, nq1, nq2, nq3, nq4, nq5, nq6]))   | (refine wpS_read (v := ?_) rfl rfl ?_ ?_; rotate_left; (intro wx hx; go_simp; try go_bits) <;> (with_reducible rfl); (try simp only [Act.put, nq1, nq2, nq3, nq4, nq5, nq6]))   | (refine wpS_call rfl rfl ?_; intro K hK)   | (refine wpS_late rfl rfl ?_; intro K hK)   | (refine wpS_any rfl rfl ?_; intro K hK)   | (refine wpS_skip rfl rfl ?_; (try simp only [Act.put, nq1, nq2, nq3, nq4, nq5, nq6])) | (clear M20; go_at_call 10; (with_reducible refine (baseP _).mono ?_); rintro e wy ⟨y1, hy1, rfl, hb⟩; have HS := hide (HS.out.call hb); have hX := bnx hX hb; have M21 := True.intro) | (clear M21; go_at_call 11; (with_reducible refine (mulP_any _ _ _ _ _ (PtN.v hy1) (bL_len _ _) (by omega) (HS.out.rd 2 rfl)).mono ?_); rintro e wy ⟨y2, hy2, rfl, hb⟩; have HS := hide (HS.out.call hb); have hX := bnx hX hb; have M22 := True.intro) | (clear M22; go_at_call 21; (with_reducible refine (sameP _ (PtN.v hz9) (PtN.v hy2)).mono ?_); rintro e wy ⟨rfl, hb⟩; rw [dec_t (by rw [← tmE_mul, HVA.out, HVB.out, HVN.out])]; have HS := hide (HS.out.call hb); have hX := bnx hX hb; have M23 := True.intro) | (clear M23; go_at_call 10; (with_reducible refine (baseP _).mono ?_); rintro e wy ⟨y3, hy3, rfl, hb⟩; have HS := hide (HS.out.call hb); have hX := bnx hX hb; have M24 := True.intro) | (clear M24; go_at_call 11; (with_reducible refine (mulP_any _ _ _ _ _ (PtN.v hy3) (bigL_len _) (by omega) (by first | exact HS.out.rd 0 rfl | exact HS.out.rd 1 rfl)).mono ?_); rintro e wy ⟨y4, hy4, rfl, hb⟩; have HS := hide (HS.out.call hb); have hX := bnx hX hb; have M25 := True.intro) | (clear M25; go_at_call 10; (with_reducible refine (baseP _).mono ?_); rintro e wy ⟨y5, hy5, rfl, hb⟩; have HS := hide (HS.out.call hb); have hX := bnx hX hb; have M26 := True.intro) | (clear M26; go_at_call 11; (with_reducible refine (mulP_any _ _ _ [UInt8.ofNat q] _ (PtN.v hy5) (q1_len _) (by omega) (by rw [← HBQ.out]; exact HS.out.rd 0 rfl)).mono ?_); rintro e wy ⟨y6, hy6, rfl, hb⟩; have HS := hide (HS.out.call hb); have hX := bnx hX hb; have M27 := True.intro) | (clear M27; go_at_call 21; (with_reducible refine (sameP _ (PtN.v hy4) (PtN.v hy6)).mono ?_); rintro e wy ⟨rfl, hb⟩; rw [dec_t (by rw [HVG.out, HVQ.out, tmE_add, l_base, zero_ed])]; have HS := hide (HS.out.call hb); have hX := bnx hX hb; have M28 := True.intro) | (clear M28; go_at_call 26; (with_reducible refine (reduce32 _ (bigL_len _) (by first | exact HS.out.rd 0 rfl | exact HS.out.rd 1 rfl)).mono ?_); rintro e wy ⟨B9, d9, rfl, hb⟩; have HS := hide (HS.out.call hb); have hX := bnx hX hb; have M29 := True.intro) | (clear M29; go_at_call 9; (with_reducible refine (awake4_any _).mono ?_); rintro e wy ⟨rfl, hb⟩; have HS := hide (HS.out.call hb); have hX := bnx hX hb; have M30 := True.intro))
          all_goals (go_ret; exact ⟨rfl, HS.out.below⟩)
end Go.Proofs.YtgahjjdbpjgemaaDoor

/-
  The statement 'PointScalars': its arguments opened; the row; the card.
-/
namespace Go.Proofs.YtgahjjdbpjgemaaDoor
open Go.ChangeShapes Go.WideShapes Go.ChangeAt Go.RowKit

set_option maxRecDepth 100000 in
theorem pointScalars_lifted (os : Os) (started : os.Started) (H : Type) (enc : TypeId × Value → H) :
    ReturnsInHanded {} Tryd.checked os 6 .any (fun w args => (Rows.pointScalarsSpec.pre enc Tryd.prog Tryd.f6 [] false w args ∧ laidMetH Tryd.prog LL w) ∧ sizedMet enc Tryd.prog Tryd.f6 (OpenSpec.ofChange Rows.pointScalarsSpec) false w args) (Rows.pointScalarsSpec.post enc Tryd.prog Tryd.f6 false true false false) := by
  refine lift_laid (C := Tryd.checked) own started (by kernel_rfl) Tryd.func6 rfl rfl (tb := 4) (by kernel_rfl) Tryd.underlying4 laidOut (by kernel_rfl) (l := LL) ?_
    (ChangeSpec.witness_shaped (enc := enc) (C := Tryd.checked) (os := os) (X := fun w _ => laidMetH Tryd.prog LL w) false (World.doorLaid Tryd.prog 400 os) #[.int .i64 0, .int .i64 0] 8 rfl (World.shaped_of_RefB (by kernel_rfl) (by kernel_rfl)) (by kernel_rfl) (by kernel_rfl) (by kernel_rfl) (door_met os _)) ?_
  · intro ds hds
    rw [Tryd.params6] at hds
    match ds, hds with
    | [d0, d1], _ => exact ⟨rfl, rfl, rfl⟩
  · intro W args ds p hT hL
    obtain ⟨hA, ⟨base, hok⟩, hsz⟩ := hT
    rw [Tryd.params6] at hA hok hsz
    obtain ⟨v0, v1, d0, d1, p0, p1, rfl, rfl, rfl, h0, h1⟩ := trodAll_two hA
    obtain ⟨n0, rfl, rfl, rfl, w0⟩ := open_int Tryd.underlying3 (hok 0 3 v0 rfl rfl) h0
    obtain ⟨n1, rfl, rfl, rfl, w1⟩ := open_int Tryd.underlying3 (hok 1 3 v1 rfl rfl) h1
    exact pointScalars_walk n0 n1 W (i64_of w0) (i64_of w1)

theorem pointScalars_over : Rows.pointScalarsRow.holds Tryd.pinned (OpenSpec.ofChange Rows.pointScalarsSpec) :=
  OpenClaim.holds_of_wide 6 Tryd.f6 rfl rfl rfl rfl rfl rfl rfl ⟨rfl, rfl, rfl, rfl, rfl⟩ rfl rfl rfl rfl rfl (by kernel_rfl) Tryd.func6 (by kernel_rfl)
    (of_decide_eq_true (by kernel_rfl)) (by unfold Func.isWrapper; first | (rw [if_pos (by decide +kernel)]; kernel_rfl) | (rw [if_neg (by decide +kernel)]; exact ⟨rfl, rfl⟩))
    (fun os started H enc _ => pointScalars_lifted os started H enc)

/-- The card. -/
theorem pointScalars_proved : Rows.PointScalarsCardSaid :=
  Claim7.holds_tied_plain_at .later [] [.data, .data, .data, .sentinel, .sentinel] true (true, "c9b40510c079d1e14051804e9f3aa55b2e8148c7fdf3450800e1e5f47c4ae7be") true
    pointScalars_over (fun _ h => by cases h) (by kernel_rfl) (fun _ h => by cases h) pointScalars_row_tie rfl ⟨rfl, rfl⟩ (by kernel_rfl) rfl
    (fun f fn hf hfn => by
      obtain rfl : f = 6 := Option.some.inj ((show Tryd.prog.funcNamed "viaticum/viaticumlaw4.PointScalars" = some 6 by kernel_rfl).symm.trans hf) |>.symm
      obtain rfl : fn = Tryd.f6 := (Option.some.inj (Tryd.func6.symm.trans hfn)).symm
      exact ⟨by kernel_rfl, fun j t ht => by
        rw [Tryd.params6] at ht
        have hm : t ∈ ([3, 3] : List TypeId) := by
          have := Array.mem_of_getElem? ht
          simpa using this
        have hall : (([3, 3] : List TypeId).all fun u => !Tryd.prog.wantsStandIn u) = true := by kernel_rfl
        have := List.all_eq_true.1 hall t hm
        exact (show Tryd.prog.wantsStandIn t = false by simpa using this)⟩)
    (by kernel_rfl)
#print axioms pointScalars_proved
end Go.Proofs.YtgahjjdbpjgemaaDoor
