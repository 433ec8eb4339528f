/-
  The walks of layer 3: words' sums, differences, products (Go's own library).
-/
import Derived.Test.YtgofcefggdlalaaRows
import Derived.Test.YtgofcefggdlalaaNm
import Derived.Test.YtgofcefggdlalaaRl
import Derived.Test.YtgofcefggdlalaaMw
import Derived.Laws.Bits64b
import Derived.Laws.Externs
namespace Go.Proofs.Ytgofcefggdlalaa
open Go.RowKit

theorem sub64_run0 (x y : Nat) (w : World) : (callFunc 30 #[.int .u64 (x : Int), .int .u64 (y : Int), .int .u64 ((0 : Nat) : Int)]).run Try.prog w =
    .ok (.value (.tuple #[.int .u64 (((x + 18446744073709551616 - y - 0) % 18446744073709551616 : Nat) : Int), .int .u64 ((if x < y + 0 then 1 else 0 : Nat) : Int)])) w := by kernel_rfl
theorem sub64_run1 (x y : Nat) (w : World) : (callFunc 30 #[.int .u64 (x : Int), .int .u64 (y : Int), .int .u64 ((1 : Nat) : Int)]).run Try.prog w =
    .ok (.value (.tuple #[.int .u64 (((x + 18446744073709551616 - y - 1) % 18446744073709551616 : Nat) : Int), .int .u64 ((if x < y + 1 then 1 else 0 : Nat) : Int)])) w := by kernel_rfl
theorem sub64_run (x y b : Nat) (hb : b ≤ 1) (w : World) : (callFunc 30 #[.int .u64 (x : Int), .int .u64 (y : Int), .int .u64 (b : Int)]).run Try.prog w =
    .ok (.value (.tuple #[.int .u64 (((x + 18446744073709551616 - y - b) % 18446744073709551616 : Nat) : Int), .int .u64 ((if x < y + b then 1 else 0 : Nat) : Int)])) w := by
  have : b = 0 ∨ b = 1 := by omega
  rcases this with h | h
  · rw [h]; exact sub64_run0 x y w
  · rw [h]; exact sub64_run1 x y w
theorem sub_any (x y b : Nat) (hb : b ≤ 1) : ∀ w, (callFunc 30 #[.int .u64 (x : Int), .int .u64 (y : Int), .int .u64 (b : Int)]).run Try.prog w = .ok (.value (.tuple #[.int .u64 (sbD x y b : Int), .int .u64 (sbB x y b : Int)])) w := fun w => by
  have := sub64_run x y b hb w
  unfold sbD sbB
  exact this
/-- A number of four words, as a value. -/
def numA (xs : List Nat) : Value := .agg (uvs xs).toArray

/-- One number less another. -/
def LessRel (w : World) (g2 g3 : Nat) (H : List Chunk) (xs ys : List Nat) (bo i : Value) (wr : World) : Prop :=
  ∃ (k b : Nat) (cur : List Nat), k ≤ 4 ∧ i = .int .i64 (k : Int) ∧ bo = .int .u64 (b : Int) ∧ b ≤ 1 ∧ cur.length = 4 ∧ Words cur ∧ cur.drop k = xs.drop k ∧
    lv (cur.take k) + lv (ys.take k) + 0 = lv (xs.take k) + b * 18446744073709551616 ^ k ∧ St w NoB wr (.cells g2 (uvs cur).toArray 35 :: .cells g3 (uvs ys).toArray 35 :: H)
theorem less_step (xs ys cur : List Nat) (k b x y : Nat) (hk : k < 4) (hl : cur.length = 4) (hx : xs[k]? = some x) (hy : ys[k]? = some y) (hx2 : x < 18446744073709551616) (hy2 : y < 18446744073709551616) (hb : b ≤ 1)
    (h : lv (cur.take k) + lv (ys.take k) + 0 = lv (xs.take k) + b * 18446744073709551616 ^ k) :
    lv ((cur.set k (sbD x y b)).take (k + 1)) + lv (ys.take (k + 1)) + 0 = lv (xs.take (k + 1)) + sbB x y b * 18446744073709551616 ^ (k + 1) := by
  obtain ⟨h1, _, _⟩ := sb_spec x y b hx2 hy2 hb
  rw [lv_take_set cur k _ (by omega), lv_take hx, lv_take hy, Nat.pow_succ]
  have h2 := congrArg (· * 18446744073709551616 ^ k) h1
  simp only [Nat.add_mul] at h2
  rw [show sbB x y b * (18446744073709551616 ^ k * 18446744073709551616) = sbB x y b * 18446744073709551616 * 18446744073709551616 ^ k from by rw [Nat.mul_comm (18446744073709551616 ^ k), Nat.mul_assoc]]
  omega
set_option maxRecDepth 100000 in
set_option maxHeartbeats 800000 in
theorem less_walk (xs ys : List Nat) (w : World) (hxl : xs.length = 4) (hyl : ys.length = 4) (hxw : Words xs) (hyw : Words ys) :
    Calls Try.prog 23 #[numA xs, numA ys] w fun e w' => ∃ rs : List Nat, rs.length = 4 ∧ Words rs ∧ ∃ b : Nat, b ≤ 1 ∧ lv rs + lv ys = lv xs + b * 18446744073709551616 ^ 4 ∧
      e = .returned (.tuple #[numA rs, .bool (decide (0 < b))]) ∧ Below w.heap.size w w' := by
  unfold numA
  have hS0 := (((St.init w NoB).alloc (uvs xs).toArray 35).alloc (uvs ys).toArray 35).alloc #[.int .u64 0, .int .u64 0, .int .u64 0, .int .u64 0] 35
  have HS0 := hide hS0
  have HXL := hide hxl
  have HYL := hide hyl
  have HXW := hide hxw
  have HYW := hide hyw
  clear hS0 hxl hyl hxw hyw
  go_enter Try.func23, Try.ntmps23
  go_wp2_with fail
  go_loopw [6, 8] (fun b i wr => LessRel w w.heap.size (w.heap.size + 1) [.cells (w.heap.size + 1 + 1) #[.int .u64 0, .int .u64 0, .int .u64 0, .int .u64 0] 35] xs ys b i wr) (fun _ i _ => 4 - (intOf i).toNat)
  case atStart =>
    have hS := HS0.out
    simp only [size_alloc1] at hS
    exact ⟨0, 0, xs, by omega, rfl, rfl, by omega, HXL.out, HXW.out, rfl, rfl, hS.rot3⟩
  case round =>
    obtain ⟨k, b, cur, hk, rfl, rfl, hb, hcl, hcw, hcd, hval, hS⟩ := hrel
    by_cases hlt : k < 4
    · obtain ⟨x, hx⟩ := lim_get xs HXL.out k hlt
      obtain ⟨y, hy⟩ := lim_get ys HYL.out k hlt
      have hcx : cur[k]? = some x := by
        have := congrArg (·[0]?) hcd
        simpa [List.getElem?_drop, hx] using this
      have hx2 := words_get HXW.out hx
      have hy2 := words_get HYW.out hy
      have hstep := hide (less_step xs ys cur k b x y hlt hcl hx hy hx2 hy2 hb hval)
      obtain ⟨_, hd1, hd2⟩ := sb_spec x y b hx2 hy2 hb
      have hS' := hS.drew
      have hHS := hide hS'
      have cn : ∀ z, From wr.drew z → z.cell? ⟨w.heap.size, k, none⟩ = some (.int .u64 (x : Int)) := fun z hz => by
        rw [hz.cell (p := ⟨w.heap.size, k, none⟩) (Chunk.lt (hHS.out.sat 0 _ rfl) rfl), hHS.out.cell 0 rfl k]
        exact uvs_get hcx
      have cm : ∀ z, From wr.drew z → z.cell? ⟨w.heap.size + 1, k, none⟩ = some (.int .u64 (y : Int)) := fun z hz => by
        rw [hz.cell (p := ⟨w.heap.size + 1, k, none⟩) (Chunk.lt (hHS.out.sat 1 _ rfl) rfl), hHS.out.cell 1 rfl k]
        exact uvs_get hy
      have hsub := sub_any x y b hb
      have D1 := hide hd1
      have HCD := hide hcd
      have HCW := hide hcw
      have HCL := hide hcl
      clear hS hS' hx hy hcx hx2 hy2 hval hd1 hcd hcw hcl
      go_wp2_with fail
      refine wp_region_M (fun i => i == 13) (From wr.drew) (by kernel_rfl) ?_
      (refine wpM_take (i := 0) (v := ?_) rfl (by kernel_rfl) (by kernel_rfl) (by kernel_rfl) (fun _ _ _ h => h) (From.refl _) rfl (by kernel_rfl) (Or.inl ⟨by first | kernel_rfl | rfl, ?_⟩) ?_; rotate_left; (intro wx hx; go_simp) <;> (with_reducible rfl); (try simp only [Act.put, List.setIfInBounds_toArray, List.set_cons_zero, List.set_cons_succ, List.getElem_toArray, List.getElem_cons_succ, List.getElem_cons_zero])); (refine wpM_take (i := 1) (v := ?_) rfl (by kernel_rfl) (by kernel_rfl) (by kernel_rfl) (fun _ _ _ h => h) (From.refl _) rfl (by kernel_rfl) (Or.inl ⟨by first | kernel_rfl | rfl, ?_⟩) ?_; rotate_left; (intro wx hx; go_simp) <;> (with_reducible rfl); (try simp only [Act.put, List.setIfInBounds_toArray, List.set_cons_zero, List.set_cons_succ, List.getElem_toArray, List.getElem_cons_succ, List.getElem_cons_zero])); (refine wpM_take (i := 2) (v := ?_) rfl (by kernel_rfl) (by kernel_rfl) (by kernel_rfl) (fun _ _ _ h => h) (From.refl _) rfl (by kernel_rfl) (Or.inl ⟨by first | kernel_rfl | rfl, ?_⟩) ?_; rotate_left; (intro wx hx; go_simp) <;> (with_reducible rfl); (try simp only [Act.put, List.setIfInBounds_toArray, List.set_cons_zero, List.set_cons_succ, List.getElem_toArray, List.getElem_cons_succ, List.getElem_cons_zero])); (refine wpM_take (i := 3) (v := ?_) rfl (by kernel_rfl) (by kernel_rfl) (by kernel_rfl) (fun _ _ _ h => h) (From.refl _) rfl (by kernel_rfl) (Or.inl ⟨by first | kernel_rfl | rfl, ?_⟩) ?_; rotate_left; (intro wx hx; go_simp) <;> (with_reducible rfl); (try simp only [Act.put, List.setIfInBounds_toArray, List.set_cons_zero, List.set_cons_succ, List.getElem_toArray, List.getElem_cons_succ, List.getElem_cons_zero])); (refine wpM_take (i := 4) (v := ?_) rfl (by kernel_rfl) (by kernel_rfl) (by kernel_rfl) (fun _ _ _ h => h) (From.refl _) rfl (by kernel_rfl) (Or.inl ⟨by first | kernel_rfl | rfl, ?_⟩) ?_; rotate_left; (intro wx hx; go_simp) <;> (with_reducible rfl); (try simp only [Act.put, List.setIfInBounds_toArray, List.set_cons_zero, List.set_cons_succ, List.getElem_toArray, List.getElem_cons_succ, List.getElem_cons_zero])); (refine wpM_take (i := 5) (v := ?_) rfl (by kernel_rfl) (by kernel_rfl) (by kernel_rfl) (fun _ _ _ h => h) (From.refl _) rfl (by kernel_rfl) (Or.inl ⟨by first | kernel_rfl | rfl, ?_⟩) ?_; rotate_left; (intro wx hx; go_simp) <;> (with_reducible rfl); (try simp only [Act.put, List.setIfInBounds_toArray, List.set_cons_zero, List.set_cons_succ, List.getElem_toArray, List.getElem_cons_succ, List.getElem_cons_zero])); (refine wpM_take (i := 6) (v := ?_) rfl (by kernel_rfl) (by kernel_rfl) (by kernel_rfl) (fun _ _ _ h => h) (From.refl _) rfl (by kernel_rfl) (Or.inl ⟨by first | kernel_rfl | rfl, ?_⟩) ?_; rotate_left; (intro wx hx; go_simp) <;> (with_reducible rfl); (try simp only [Act.put, List.setIfInBounds_toArray, List.set_cons_zero, List.set_cons_succ, List.getElem_toArray, List.getElem_cons_succ, List.getElem_cons_zero])); (refine wpM_take (i := 7) (v := ?_) rfl (by kernel_rfl) (by kernel_rfl) (by kernel_rfl) (fun _ _ _ h => h) (From.refl _) rfl (by kernel_rfl) (Or.inl ⟨by first | kernel_rfl | rfl, ?_⟩) ?_; rotate_left; (intro wx hx; go_simp) <;> (with_reducible rfl); (try simp only [Act.put, List.setIfInBounds_toArray, List.set_cons_zero, List.set_cons_succ, List.getElem_toArray, List.getElem_cons_succ, List.getElem_cons_zero])); (refine wpM_take (i := 8) (v := ?_) rfl (by kernel_rfl) (by kernel_rfl) (by kernel_rfl) (fun _ _ _ h => h) (From.refl _) rfl (by kernel_rfl) (Or.inl ⟨by first | kernel_rfl | rfl, ?_⟩) ?_; rotate_left; (intro wx hx; go_simp) <;> (with_reducible rfl); (try simp only [Act.put, List.setIfInBounds_toArray, List.set_cons_zero, List.set_cons_succ, List.getElem_toArray, List.getElem_cons_succ, List.getElem_cons_zero])); (refine wpM_take (i := 9) (v := ?_) rfl (by kernel_rfl) (by kernel_rfl) (by kernel_rfl) (fun _ _ _ h => h) (From.refl _) rfl (by kernel_rfl) (Or.inl ⟨by first | kernel_rfl | rfl, ?_⟩) ?_; rotate_left; (intro wx hx; go_simp) <;> (with_reducible rfl); (try simp only [Act.put, List.setIfInBounds_toArray, List.set_cons_zero, List.set_cons_succ, List.getElem_toArray, List.getElem_cons_succ, List.getElem_cons_zero])); (refine wpM_take (i := 10) (v := ?_) rfl (by kernel_rfl) (by kernel_rfl) (by kernel_rfl) (fun _ _ _ h => h) (From.refl _) rfl (by kernel_rfl) (Or.inl ⟨by first | kernel_rfl | rfl, ?_⟩) ?_; rotate_left; (intro wx hx; go_simp) <;> (with_reducible rfl); (try simp only [Act.put, List.setIfInBounds_toArray, List.set_cons_zero, List.set_cons_succ, List.getElem_toArray, List.getElem_cons_succ, List.getElem_cons_zero]))
      (refine wpM_takeU (i := 11) (v := ?_) rfl (by kernel_rfl) (by kernel_rfl) (by kernel_rfl) (fun _ _ _ h => h) (From.refl _) rfl (Or.inl ⟨by first | kernel_rfl | rfl, ?_⟩) ?_; rotate_left; (intro wx; go_simp) <;> (with_reducible rfl); (try simp only [Act.put, List.setIfInBounds_toArray, List.set_cons_zero, List.set_cons_succ, List.getElem_toArray, List.getElem_cons_succ, List.getElem_cons_zero])); (refine wpM_takeU (i := 12) (v := ?_) rfl (by kernel_rfl) (by kernel_rfl) (by kernel_rfl) (fun _ _ _ h => h) (From.refl _) rfl (Or.inl ⟨by first | kernel_rfl | rfl, ?_⟩) ?_; rotate_left; (intro wx; go_simp) <;> (with_reducible rfl); (try simp only [Act.put, List.setIfInBounds_toArray, List.set_cons_zero, List.set_cons_succ, List.getElem_toArray, List.getElem_cons_succ, List.getElem_cons_zero]))
      (refine wpM_late (i := 13) (by kernel_rfl) rfl rfl ?_; intro K hK; (try simp only [Act.put, List.setIfInBounds_toArray, List.set_cons_zero, List.set_cons_succ, List.getElem_toArray, List.getElem_cons_succ, List.getElem_cons_zero]))
      refine step_store rfl rfl tyU64 hHS.out 0 rfl k (by rw [List.size_toArray, uvs_len, HCL.out]; exact hlt) rfl (v := .int .u64 (sbD x y b : Nat)) rfl rfl ?_
      intro w2 hS2
      refine hK _ _ ?_
      clear hK K
      (try simp only [Act.put, List.setIfInBounds_toArray, List.set_cons_zero, List.set_cons_succ, List.getElem_toArray, List.getElem_cons_succ, List.getElem_cons_zero])
      (refine wpAny_take (i := 14) (v := ?_) rfl (by kernel_rfl) (by kernel_rfl) (by kernel_rfl) (fun _ _ _ h => h) (Or.inl ⟨by first | kernel_rfl | rfl, ?_⟩) ?_; rotate_left; (intro wx; go_simp) <;> (with_reducible rfl); (try simp only [Act.put, List.setIfInBounds_toArray, List.set_cons_zero, List.set_cons_succ, List.getElem_toArray, List.getElem_cons_succ, List.getElem_cons_zero]))
      refine wpAny_done (by kernel_rfl) ?_ _
      go_wp2_with fail
      go_roundw
      case rel =>
        rw [uvs_set] at hS2
        refine ⟨k + 1, sbB x y b, cur.set k (sbD x y b), by omega, by go_num, rfl, hd2, by rw [List.length_set]; exact HCL.out, words_set HCW.out k _ D1.out, ?_, hstep.out, hS2⟩
        rw [drop_set_succ, ← List.drop_drop, HCD.out, List.drop_drop]
      case measure => simp [intOf]; omega
    · obtain rfl : k = 4 := by omega
      match cur, hcl with
      | [a0, a1, a2, a3], _ =>
        have hS' : St w NoB wr [.cells w.heap.size #[.int .u64 (a0 : Int), .int .u64 (a1 : Int), .int .u64 (a2 : Int), .int .u64 (a3 : Int)] 35, .cells (w.heap.size + 1) (uvs ys).toArray 35, .cells (w.heap.size + 1 + 1) #[.int .u64 0, .int .u64 0, .int .u64 0, .int .u64 0] 35] := hS
        have n0 : wr.cell? ⟨w.heap.size, 0, none⟩ = some (.int .u64 (a0 : Int)) := hS'.cell 0 rfl 0
        have n1 : wr.cell? ⟨w.heap.size, 1, none⟩ = some (.int .u64 (a1 : Int)) := hS'.cell 0 rfl 1
        have n2 : wr.cell? ⟨w.heap.size, 2, none⟩ = some (.int .u64 (a2 : Int)) := hS'.cell 0 rfl 2
        have n3 : wr.cell? ⟨w.heap.size, 3, none⟩ = some (.int .u64 (a3 : Int)) := hS'.cell 0 rfl 3
        have r0 : wr.cell? ⟨w.heap.size + 1 + 1, 0, none⟩ = some (.int .u64 0) := hS'.cell 2 rfl 0
        have r1 : wr.cell? ⟨w.heap.size + 1 + 1, 1, none⟩ = some (.int .u64 0) := hS'.cell 2 rfl 1
        have r2 : wr.cell? ⟨w.heap.size + 1 + 1, 2, none⟩ = some (.int .u64 0) := hS'.cell 2 rfl 2
        have r3 : wr.cell? ⟨w.heap.size + 1 + 1, 3, none⟩ = some (.int .u64 0) := hS'.cell 2 rfl 3
        have f0 := hS'.free 2 rfl 0
        have f1 := hS'.free 2 rfl 1
        have f2 := hS'.free 2 rfl 2
        have f3 := hS'.free 2 rfl 3
        have HS := hide ((((hS'.setCell 2 rfl 0 (.int .u64 (a0 : Int))).setCell 2 rfl 1 (.int .u64 (a1 : Int))).setCell 2 rfl 2 (.int .u64 (a2 : Int))).setCell 2 rfl 3 (.int .u64 (a3 : Int)))
        have HV := hide hval
        have HW := hide hcw
        clear hS hS' hval hcd hcw
        go_wp2_with fail
        refine bodyPost_ret (results_cell_tmp_row rfl _ _ (w.heap.size + 1 + 1) _ _ _ _ rfl (HS.out.heap 2 rfl) Try.underlying35 rfl (by kernel_rfl)) rfl ?_
        refine ⟨[a0, a1, a2, a3], rfl, HW.out, b, hb, ?_, ?_, HS.out.below⟩
        · have := HV.out
          rw [List.take_of_length_le (by simp), List.take_of_length_le (by rw [HYL.out]; omega), List.take_of_length_le (by rw [HXL.out]; omega)] at this
          omega
        · rfl
end Go.Proofs.Ytgofcefggdlalaa
