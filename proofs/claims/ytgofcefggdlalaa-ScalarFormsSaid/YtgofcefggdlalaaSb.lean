/-
  The walks of layer 3: the order of the curve; twice a number and a bit.
-/
import Derived.Test.YtgofcefggdlalaaSa
import Derived.Deep.DeepCutAuto
import Derived.Deep.LoopGhost
namespace Go.Proofs.Ytgofcefggdlalaa
open Go.RowKit

/-- The order of the curve. -/
@[irreducible] def o0 : Nat := 6346243789798364141
@[irreducible] def o1 : Nat := 1503914060200516822
@[irreducible] def o2 : Nat := 0
@[irreducible] def o3 : Nat := 1152921504606846976
@[irreducible] def Lq : Nat := 7237005577332262213973186563042994240857116359379907606001950938285454250989
theorem ord_words : Words [o0, o1, o2, o3] := by unfold o0 o1 o2 o3 Words; decide
theorem lv_ord : lv [o0, o1, o2, o3] = Lq := by unfold o0 o1 o2 o3 Lq; decide
theorem Lq_lt : 2 * Lq < 18446744073709551616 ^ 4 ∧ 0 < Lq := by unfold Lq; decide
theorem enOrder (args : Array Value) (w : World) : (callFunc 24 args).run Try.prog w = .ok (.enter 24 args) w := by kernel_rfl
theorem enLess (args : Array Value) (w : World) : (callFunc 23 args).run Try.prog w = .ok (.enter 23 args) w := by kernel_rfl
set_option maxRecDepth 100000 in
set_option maxHeartbeats 800000 in
theorem order_any (w : World) : Calls Try.prog 24 #[] w fun e w' => e = .returned (.agg #[.int .u64 (o0 : Int), .int .u64 (o1 : Int), .int .u64 (o2 : Int), .int .u64 (o3 : Int)]) ∧ Below w.heap.size w w' := by
  have hS := (St.init w NoB).alloc #[.int .u64 6346243789798364141, .int .u64 1503914060200516822, .int .u64 0, .int .u64 1152921504606846976] 35
  have HS := hide hS
  clear hS
  go_enter Try.func24, Try.ntmps24
  go_wp2_with fail
  refine bodyPost_ret (results_cell_row rfl _ _ w.heap.size _ _ _ _ rfl (HS.out.heap 0 rfl) Try.underlying35 rfl (by kernel_rfl)) rfl ?_
  exact ⟨by unfold o0 o1 o2 o3; rfl, HS.out.below⟩
/-- One number less another, word by word. -/
theorem less_any (a0 a1 a2 a3 b0 b1 b2 b3 : Nat) (w : World) (ha : Words [a0, a1, a2, a3]) (hb : Words [b0, b1, b2, b3]) :
    Calls Try.prog 23 #[.agg #[.int .u64 (a0 : Int), .int .u64 (a1 : Int), .int .u64 (a2 : Int), .int .u64 (a3 : Int)], .agg #[.int .u64 (b0 : Int), .int .u64 (b1 : Int), .int .u64 (b2 : Int), .int .u64 (b3 : Int)]] w fun e w' =>
      ∃ r0 r1 r2 r3 b : Nat, Words [r0, r1, r2, r3] ∧ b ≤ 1 ∧ lv [r0, r1, r2, r3] + lv [b0, b1, b2, b3] = lv [a0, a1, a2, a3] + b * 18446744073709551616 ^ 4 ∧
        e = .returned (.tuple #[.agg #[.int .u64 (r0 : Int), .int .u64 (r1 : Int), .int .u64 (r2 : Int), .int .u64 (r3 : Int)], .bool (decide (0 < b))]) ∧ Below w.heap.size w w' := by
  refine (less_walk [a0, a1, a2, a3] [b0, b1, b2, b3] w rfl rfl ha hb).mono ?_
  rintro e w' ⟨rs, hrl, hrw, b, hb1, hv, rfl, hbl⟩
  match rs, hrl with
  | [r0, r1, r2, r3], _ => exact ⟨r0, r1, r2, r3, b, hrw, hb1, hv, rfl, hbl⟩

/-- A word doubled, with a bit behind; the bit that goes over. -/
@[irreducible] def dbW (x b : Nat) : Nat := 2 * x % 18446744073709551616 + b
@[irreducible] def dbH (x : Nat) : Nat := x / 9223372036854775808
theorem db_spec (x b : Nat) (hx : x < 18446744073709551616) (hb : b ≤ 1) : dbW x b + dbH x * 18446744073709551616 = 2 * x + b ∧ dbW x b < 18446744073709551616 ∧ dbH x ≤ 1 := by
  unfold dbW dbH
  omega
theorem or_db (x b : Nat) (hx : x < 18446744073709551616) (hb : b ≤ 1) : bits .or .u64 (IntKind.u64.wrap ((x : Int) * 2)) (b : Int) = ((dbW x b : Nat) : Int) := by
  have e : IntKind.u64.wrap ((x : Int) * 2) = ((2 * x % 18446744073709551616 : Nat) : Int) := by rw [IntKind.wrap_u64]; omega
  rw [e, u64_or_nat _ _ (by omega) (by omega)]
  unfold dbW
  congr 1
  have h1 : 2 * x % 18446744073709551616 % 2 = 0 := by omega
  have := nat_join 1 (2 * x % 18446744073709551616) b h1 (by omega)
  exact this
theorem bcell {W w1 : World} (hb : Below W.heap.size W w1) : (∀ b o, b < W.heap.size → w1.cell? ⟨b, o, none⟩ = W.cell? ⟨b, o, none⟩) ∧ (∀ b o, b < W.heap.size → w1.frozen? ⟨b, o, none⟩ = W.frozen? ⟨b, o, none⟩) :=
  ⟨fun b o h => hb.cell (p := ⟨b, o, none⟩) h, fun b o h => hb.frozen (p := ⟨b, o, none⟩) h⟩
def NextRel (w : World) (g : Nat) (H : List Chunk) (xs : List Nat) (bit : Nat) (bv i : Value) (wr : World) : Prop :=
  ∃ (k b : Nat) (cur : List Nat), k ≤ 4 ∧ i = .int .i64 (k : Int) ∧ bv = .int .u64 (b : Int) ∧ b ≤ 1 ∧ cur.length = 4 ∧ Words cur ∧ cur.drop k = xs.drop k ∧
    lv (cur.take k) + b * 18446744073709551616 ^ k = 2 * lv (xs.take k) + bit ∧ St w NoB wr (.cells g (uvs cur).toArray 35 :: H)
theorem next_step (xs cur : List Nat) (k b bit x : Nat) (hk : k < 4) (hl : cur.length = 4) (hx : xs[k]? = some x) (hx2 : x < 18446744073709551616) (hb : b ≤ 1)
    (h : lv (cur.take k) + b * 18446744073709551616 ^ k = 2 * lv (xs.take k) + bit) :
    lv ((cur.set k (dbW x b)).take (k + 1)) + dbH x * 18446744073709551616 ^ (k + 1) = 2 * lv (xs.take (k + 1)) + bit := by
  obtain ⟨h1, _, _⟩ := db_spec x b hx2 hb
  rw [lv_take_set cur k _ (by omega), lv_take hx, Nat.pow_succ]
  have h2 := congrArg (· * 18446744073709551616 ^ k) h1
  simp only [Nat.add_mul] at h2
  rw [show dbH x * (18446744073709551616 ^ k * 18446744073709551616) = dbH x * 18446744073709551616 * 18446744073709551616 ^ k from by rw [Nat.mul_comm (18446744073709551616 ^ k), Nat.mul_assoc]]
  rw [Nat.mul_assoc 2 x] at h2
  omega
def ResNum (w : World) (v : Nat) (e : Ending) (w' : World) : Prop := ∃ rs : List Nat, rs.length = 4 ∧ Words rs ∧ lv rs = v ∧ e = .returned (numA rs) ∧ Below w.heap.size w w'
theorem next_end (xs cur rs : List Nat) (b bo bit : Nat) (hx : lv xs < Lq) (hbit : bit ≤ 1) (hc : Words cur) (hcl : cur.length = 4) (hr : Words rs) (hrl : rs.length = 4)
    (h : lv cur + b * 18446744073709551616 ^ 4 = 2 * lv xs + bit) (h2 : lv rs + Lq = lv cur + bo * 18446744073709551616 ^ 4) (hbo : bo ≤ 1) :
    (0 < bo → lv cur = (2 * lv xs + bit) % Lq) ∧ (bo = 0 → lv rs = (2 * lv xs + bit) % Lq) := by
  have hL := Lq_lt
  have h3 := lv_lt cur hc
  have h4 := lv_lt rs hr
  rw [hcl] at h3
  rw [hrl] at h4
  generalize hB : 18446744073709551616 ^ 4 = B at *
  have hb0 : b = 0 := by
    rcases Nat.eq_zero_or_pos b with h | h
    · exact h
    · have : B ≤ b * B := Nat.le_mul_of_pos_left B h
      omega
  subst hb0
  refine ⟨fun hp => ?_, fun hp => ?_⟩
  · have : bo = 1 := by omega
    subst this
    rw [Nat.mod_eq_of_lt (by omega)]
    omega
  · subst hp
    have e : 2 * lv xs + bit = lv rs + Lq := by omega
    rw [e, Nat.add_mod_right, Nat.mod_eq_of_lt (by omega)]
set_option maxRecDepth 100000 in
set_option maxHeartbeats 800000 in
theorem next_walk (xs : List Nat) (bit : Nat) (w : World) (hxl : xs.length = 4) (hxw : Words xs) (hx : lv xs < Lq) (hbit : bit ≤ 1) :
    Calls Try.prog 20 #[numA xs, .int .u64 (bit : Int)] w (ResNum w ((2 * lv xs + bit) % Lq)) := by
  have EN := next_end xs
  unfold numA
  have hS0 := ((St.init w NoB).alloc (uvs xs).toArray 35).alloc #[.int .u64 0, .int .u64 0, .int .u64 0, .int .u64 0] 35
  have HS0 := hide hS0
  have HXL := hide hxl
  have HXW := hide hxw
  have HEN := hide EN
  have HX := hide hx
  clear hS0 hxl hxw EN hx
  go_enter Try.func20, Try.ntmps20
  go_wp2_with fail
  go_loopw [1, 8] (fun b i wr => NextRel w w.heap.size [.cells (w.heap.size + 1) #[.int .u64 0, .int .u64 0, .int .u64 0, .int .u64 0] 35] xs bit b i wr) (fun _ i _ => 4 - (intOf i).toNat)
  case atStart =>
    have hS := HS0.out
    simp only [size_alloc1] at hS
    exact ⟨0, bit, xs, by omega, rfl, rfl, hbit, HXL.out, HXW.out, rfl, by simp [lv], hS.swap⟩
  case round =>
    obtain ⟨k, b, cur, hk, rfl, rfl, hb, hcl, hcw, hcd, hval, hS⟩ := hrel
    by_cases hlt : k < 4
    · obtain ⟨x, hx⟩ := lim_get xs HXL.out k hlt
      have hcx : cur[k]? = some x := by
        have := congrArg (·[0]?) hcd
        simpa [List.getElem?_drop, hx] using this
      have hx2 := words_get HXW.out hx
      have hstep := hide (next_step xs cur k b bit x hlt hcl hx hx2 hb hval)
      obtain ⟨_, hd1, hd2⟩ := db_spec x b hx2 hb
      have hS' := hS.drew
      have hHS := hide hS'
      have cn : ∀ z, From wr.drew z → z.cell? ⟨w.heap.size, k, none⟩ = some (.int .u64 (x : Int)) := fun z hz => by
        rw [hz.cell (p := ⟨w.heap.size, k, none⟩) (Chunk.lt (hHS.out.sat 0 _ rfl) rfl), hHS.out.cell 0 rfl k]
        exact uvs_get hcx
      have hor := or_db x b hx2 hb
      have hsh : (x : Int) / 9223372036854775808 = ((dbH x : Nat) : Int) := by unfold dbH; omega
      have D1 := hide hd1
      have HCD := hide hcd
      have HCW := hide hcw
      have HCL := hide hcl
      clear hS hS' hx hcx hx2 hval hd1 hcd hcw hcl
      go_wp2_with fail
      refine wp_region_M (fun i => i == 12) (From wr.drew) (by kernel_rfl) ?_
      (refine wpM_take (i := 0) (v := ?_) rfl (by kernel_rfl) (by kernel_rfl) (by kernel_rfl) (fun _ _ _ h => h) (From.refl _) rfl (by kernel_rfl) (Or.inl ⟨by first | kernel_rfl | rfl, ?_⟩) ?_; rotate_left; (intro wx hx; go_simp) <;> (with_reducible rfl); (try simp only [Act.put, List.setIfInBounds_toArray, List.set_cons_zero, List.set_cons_succ, List.getElem_toArray, List.getElem_cons_succ, List.getElem_cons_zero])); (refine wpM_take (i := 1) (v := ?_) rfl (by kernel_rfl) (by kernel_rfl) (by kernel_rfl) (fun _ _ _ h => h) (From.refl _) rfl (by kernel_rfl) (Or.inl ⟨by first | kernel_rfl | rfl, ?_⟩) ?_; rotate_left; (intro wx hx; go_simp) <;> (with_reducible rfl); (try simp only [Act.put, List.setIfInBounds_toArray, List.set_cons_zero, List.set_cons_succ, List.getElem_toArray, List.getElem_cons_succ, List.getElem_cons_zero])); (refine wpM_take (i := 2) (v := ?_) rfl (by kernel_rfl) (by kernel_rfl) (by kernel_rfl) (fun _ _ _ h => h) (From.refl _) rfl (by kernel_rfl) (Or.inl ⟨by first | kernel_rfl | rfl, ?_⟩) ?_; rotate_left; (intro wx hx; go_simp) <;> (with_reducible rfl); (try simp only [Act.put, List.setIfInBounds_toArray, List.set_cons_zero, List.set_cons_succ, List.getElem_toArray, List.getElem_cons_succ, List.getElem_cons_zero])); (refine wpM_take (i := 3) (v := ?_) rfl (by kernel_rfl) (by kernel_rfl) (by kernel_rfl) (fun _ _ _ h => h) (From.refl _) rfl (by kernel_rfl) (Or.inl ⟨by first | kernel_rfl | rfl, ?_⟩) ?_; rotate_left; (intro wx hx; go_simp) <;> (with_reducible rfl); (try simp only [Act.put, List.setIfInBounds_toArray, List.set_cons_zero, List.set_cons_succ, List.getElem_toArray, List.getElem_cons_succ, List.getElem_cons_zero])); (refine wpM_take (i := 4) (v := ?_) rfl (by kernel_rfl) (by kernel_rfl) (by kernel_rfl) (fun _ _ _ h => h) (From.refl _) rfl (by kernel_rfl) (Or.inl ⟨by first | kernel_rfl | rfl, ?_⟩) ?_; rotate_left; (intro wx hx; go_simp) <;> (with_reducible rfl); (try simp only [Act.put, List.setIfInBounds_toArray, List.set_cons_zero, List.set_cons_succ, List.getElem_toArray, List.getElem_cons_succ, List.getElem_cons_zero])); (refine wpM_take (i := 5) (v := ?_) rfl (by kernel_rfl) (by kernel_rfl) (by kernel_rfl) (fun _ _ _ h => h) (From.refl _) rfl (by kernel_rfl) (Or.inl ⟨by first | kernel_rfl | rfl, ?_⟩) ?_; rotate_left; (intro wx hx; go_simp) <;> (with_reducible rfl); (try simp only [Act.put, List.setIfInBounds_toArray, List.set_cons_zero, List.set_cons_succ, List.getElem_toArray, List.getElem_cons_succ, List.getElem_cons_zero])); (refine wpM_take (i := 6) (v := ?_) rfl (by kernel_rfl) (by kernel_rfl) (by kernel_rfl) (fun _ _ _ h => h) (From.refl _) rfl (by kernel_rfl) (Or.inl ⟨by first | kernel_rfl | rfl, ?_⟩) ?_; rotate_left; (intro wx hx; go_simp) <;> (with_reducible rfl); (try simp only [Act.put, List.setIfInBounds_toArray, List.set_cons_zero, List.set_cons_succ, List.getElem_toArray, List.getElem_cons_succ, List.getElem_cons_zero]))
      (refine wpM_takeU (i := 7) (v := ?_) rfl (by kernel_rfl) (by kernel_rfl) (by kernel_rfl) (fun _ _ _ h => h) (From.refl _) rfl (Or.inl ⟨by first | kernel_rfl | rfl, ?_⟩) ?_; rotate_left; (intro wx; go_simp) <;> (with_reducible rfl); (try simp only [Act.put, List.setIfInBounds_toArray, List.set_cons_zero, List.set_cons_succ, List.getElem_toArray, List.getElem_cons_succ, List.getElem_cons_zero]))
      (refine wpM_take (i := 8) (v := ?_) rfl (by kernel_rfl) (by kernel_rfl) (by kernel_rfl) (fun _ _ _ h => h) (From.refl _) rfl (by kernel_rfl) (Or.inl ⟨by first | kernel_rfl | rfl, ?_⟩) ?_; rotate_left; (intro wx hx; go_simp) <;> (with_reducible rfl); (try simp only [Act.put, List.setIfInBounds_toArray, List.set_cons_zero, List.set_cons_succ, List.getElem_toArray, List.getElem_cons_succ, List.getElem_cons_zero])); (refine wpM_take (i := 9) (v := ?_) rfl (by kernel_rfl) (by kernel_rfl) (by kernel_rfl) (fun _ _ _ h => h) (From.refl _) rfl (by kernel_rfl) (Or.inl ⟨by first | kernel_rfl | rfl, ?_⟩) ?_; rotate_left; (intro wx hx; go_simp) <;> (with_reducible rfl); (try simp only [Act.put, List.setIfInBounds_toArray, List.set_cons_zero, List.set_cons_succ, List.getElem_toArray, List.getElem_cons_succ, List.getElem_cons_zero]))
      (refine wpM_takeU (i := 10) (v := ?_) rfl (by kernel_rfl) (by kernel_rfl) (by kernel_rfl) (fun _ _ _ h => h) (From.refl _) rfl (Or.inl ⟨by first | kernel_rfl | rfl, ?_⟩) ?_; rotate_left; (intro wx; go_simp) <;> (with_reducible rfl); (try simp only [Act.put, List.setIfInBounds_toArray, List.set_cons_zero, List.set_cons_succ, List.getElem_toArray, List.getElem_cons_succ, List.getElem_cons_zero])); (refine wpM_takeU (i := 11) (v := ?_) rfl (by kernel_rfl) (by kernel_rfl) (by kernel_rfl) (fun _ _ _ h => h) (From.refl _) rfl (Or.inl ⟨by first | kernel_rfl | rfl, ?_⟩) ?_; rotate_left; (intro wx; go_simp) <;> (with_reducible rfl); (try simp only [Act.put, List.setIfInBounds_toArray, List.set_cons_zero, List.set_cons_succ, List.getElem_toArray, List.getElem_cons_succ, List.getElem_cons_zero]))
      (refine wpM_late (i := 12) (by kernel_rfl) rfl rfl ?_; intro K hK; (try simp only [Act.put, List.setIfInBounds_toArray, List.set_cons_zero, List.set_cons_succ, List.getElem_toArray, List.getElem_cons_succ, List.getElem_cons_zero]))
      refine step_store rfl rfl tyU64 hHS.out 0 rfl k (by rw [List.size_toArray, uvs_len, HCL.out]; exact hlt) rfl (v := .int .u64 (dbW x b : Nat)) rfl rfl ?_
      intro w2 hS2
      refine hK _ _ ?_
      clear hK K
      (try simp only [Act.put, List.setIfInBounds_toArray, List.set_cons_zero, List.set_cons_succ, List.getElem_toArray, List.getElem_cons_succ, List.getElem_cons_zero])
      (refine wpAny_take (i := 13) (v := ?_) rfl (by kernel_rfl) (by kernel_rfl) (by kernel_rfl) (fun _ _ _ h => h) (Or.inl ⟨by first | kernel_rfl | rfl, ?_⟩) ?_; rotate_left; (intro wx; go_simp) <;> (with_reducible rfl); (try simp only [Act.put, List.setIfInBounds_toArray, List.set_cons_zero, List.set_cons_succ, List.getElem_toArray, List.getElem_cons_succ, List.getElem_cons_zero]))
      refine wpAny_done (by kernel_rfl) ?_ _
      go_wp2_with fail
      go_roundw
      case rel =>
        rw [uvs_set] at hS2
        refine ⟨k + 1, dbH x, cur.set k (dbW x b), by omega, by go_num, rfl, hd2, by rw [List.length_set]; exact HCL.out, words_set HCW.out k _ D1.out, ?_, hstep.out, hS2⟩
        rw [drop_set_succ, ← List.drop_drop, HCD.out, List.drop_drop]
      case measure => simp [intOf]; omega
    · obtain rfl : k = 4 := by omega
      match cur, hcl with
      | [a0, a1, a2, a3], hcl =>
        have hS' : St w NoB wr [.cells w.heap.size #[.int .u64 (a0 : Int), .int .u64 (a1 : Int), .int .u64 (a2 : Int), .int .u64 (a3 : Int)] 35, .cells (w.heap.size + 1) #[.int .u64 0, .int .u64 0, .int .u64 0, .int .u64 0] 35] := hS
        have HV := hide hval
        have HW := hide hcw
        have HCL := hide hcl
        have hz0 : w.heap.size < wr.heap.size := Chunk.lt (hS'.sat 0 _ rfl) rfl
        have hz1 : w.heap.size + 1 < wr.heap.size := Chunk.lt (hS'.sat 1 _ rfl) rfl
        have hz0a : w.heap.size ≤ wr.heap.size := by omega
        have hz0b : w.heap.size < wr.heap.size + 1 := by omega
        clear hS hval hcd hcw hcl
        go_upto_region 6 with fail
        go_cut [6, 7] (fun p q wx => ∃ g6 r0 r1 r2 r3 bo : Nat, p = .pointer (some ⟨g6, 0, none⟩) ∧ q = .bool (decide (0 < bo)) ∧ Words [r0, r1, r2, r3] ∧ bo ≤ 1 ∧ lv [r0, r1, r2, r3] + lv [o0, o1, o2, o3] = lv [a0, a1, a2, a3] + bo * 18446744073709551616 ^ 4 ∧
          St w NoB wx [.cells g6 #[.int .u64 (r0 : Int), .int .u64 (r1 : Int), .int .u64 (r2 : Int), .int .u64 (r3 : Int)] 35, .cells w.heap.size #[.int .u64 (a0 : Int), .int .u64 (a1 : Int), .int .u64 (a2 : Int), .int .u64 (a3 : Int)] 35, .cells (w.heap.size + 1) #[.int .u64 0, .int .u64 0, .int .u64 0, .int .u64 0] 35])
        case first =>
          have hS1 := hS'.drew
          have hSd := hide hS1
          have n0 : ∀ z, From wr.drew z → z.cell? ⟨w.heap.size, 0, none⟩ = some (.int .u64 (a0 : Int)) := fun z hz => by
            rw [hz.cell (p := ⟨w.heap.size, 0, none⟩) (Chunk.lt (hSd.out.sat 0 _ rfl) rfl)]; exact hSd.out.cell 0 rfl 0
          have n1 : ∀ z, From wr.drew z → z.cell? ⟨w.heap.size, 1, none⟩ = some (.int .u64 (a1 : Int)) := fun z hz => by
            rw [hz.cell (p := ⟨w.heap.size, 1, none⟩) (Chunk.lt (hSd.out.sat 0 _ rfl) rfl)]; exact hSd.out.cell 0 rfl 1
          have n2 : ∀ z, From wr.drew z → z.cell? ⟨w.heap.size, 2, none⟩ = some (.int .u64 (a2 : Int)) := fun z hz => by
            rw [hz.cell (p := ⟨w.heap.size, 2, none⟩) (Chunk.lt (hSd.out.sat 0 _ rfl) rfl)]; exact hSd.out.cell 0 rfl 2
          have n3 : ∀ z, From wr.drew z → z.cell? ⟨w.heap.size, 3, none⟩ = some (.int .u64 (a3 : Int)) := fun z hz => by
            rw [hz.cell (p := ⟨w.heap.size, 3, none⟩) (Chunk.lt (hSd.out.sat 0 _ rfl) rfl)]; exact hSd.out.cell 0 rfl 3
          refine wp_region_M (fun i => i == 7) (From wr.drew) (by kernel_rfl) ?_
          (refine wpM_take (i := 0) (v := ?_) rfl (by kernel_rfl) (by kernel_rfl) (by kernel_rfl) (fun _ _ _ h => h) (From.refl _) rfl (by kernel_rfl) (Or.inl ⟨by first | kernel_rfl | rfl, ?_⟩) ?_; rotate_left; (intro wx hx; go_simp) <;> (with_reducible rfl); (try simp only [Act.put, List.setIfInBounds_toArray, List.set_cons_zero, List.set_cons_succ, List.getElem_toArray, List.getElem_cons_succ, List.getElem_cons_zero]))
          refine wpM_two (i := 1) (j := 6) (by kernel_rfl) rfl rfl rfl rfl ?_ ?_ <;> intro K hK <;> (try simp only [Act.put, List.setIfInBounds_toArray, List.set_cons_zero, List.set_cons_succ, List.getElem_toArray, List.getElem_cons_succ, List.getElem_cons_zero])
          · refine step_call rfl rfl enOrder rfl (order_any _) ?_
            rintro e w2 ⟨rfl, hb2⟩
            have hS1 := hS1.call hb2
            refine ⟨_, rfl, hK (From w2) _ _ (From.next hb2) (From.refl _) ?_⟩
            clear hK K
            (try simp only [Act.put, List.setIfInBounds_toArray, List.set_cons_zero, List.set_cons_succ, List.getElem_toArray, List.getElem_cons_succ, List.getElem_cons_zero])
            refine wpM_two (i := 2) (j := 6) (by kernel_rfl) rfl rfl rfl rfl ?_ ?_ <;> intro K hK <;> (try simp only [Act.put, List.setIfInBounds_toArray, List.set_cons_zero, List.set_cons_succ, List.getElem_toArray, List.getElem_cons_succ, List.getElem_cons_zero])
            · refine step_call rfl rfl enLess rfl (less_any a0 a1 a2 a3 _ _ _ _ _ HW.out ord_words) ?_
              rintro e w3 ⟨r0, r1, r2, r3, bo, hrw, hbo, hrv, rfl, hb3⟩
              have hS1 := hS1.call hb3
              refine ⟨_, rfl, hK (From w3) _ _ (From.next hb3) (From.refl _) ?_⟩
              clear hK K
              (try simp only [Act.put, List.setIfInBounds_toArray, List.set_cons_zero, List.set_cons_succ, List.getElem_toArray, List.getElem_cons_succ, List.getElem_cons_zero])
              (refine wpM_takeU (i := 3) (v := ?_) rfl (by kernel_rfl) (by kernel_rfl) (by kernel_rfl) (fun _ _ _ h => h) (From.refl _) rfl (Or.inl ⟨by first | kernel_rfl | rfl, ?_⟩) ?_; rotate_left; (intro wx; go_simp) <;> (with_reducible rfl); (try simp only [Act.put, List.setIfInBounds_toArray, List.set_cons_zero, List.set_cons_succ, List.getElem_toArray, List.getElem_cons_succ, List.getElem_cons_zero])); (refine wpM_takeU (i := 4) (v := ?_) rfl (by kernel_rfl) (by kernel_rfl) (by kernel_rfl) (fun _ _ _ h => h) (From.refl _) rfl (Or.inl ⟨by first | kernel_rfl | rfl, ?_⟩) ?_; rotate_left; (intro wx; go_simp) <;> (with_reducible rfl); (try simp only [Act.put, List.setIfInBounds_toArray, List.set_cons_zero, List.set_cons_succ, List.getElem_toArray, List.getElem_cons_succ, List.getElem_cons_zero])); (refine wpM_takeU (i := 5) (v := ?_) rfl (by kernel_rfl) (by kernel_rfl) (by kernel_rfl) (fun _ _ _ h => h) (From.refl _) rfl (Or.inl ⟨by first | kernel_rfl | rfl, ?_⟩) ?_; rotate_left; (intro wx; go_simp) <;> (with_reducible rfl); (try simp only [Act.put, List.setIfInBounds_toArray, List.set_cons_zero, List.set_cons_succ, List.getElem_toArray, List.getElem_cons_succ, List.getElem_cons_zero]))
              (refine wpM_one (i := 6) (by kernel_rfl) rfl rfl ?_; intro K hK; (try simp only [Act.put, List.setIfInBounds_toArray, List.set_cons_zero, List.set_cons_succ, List.getElem_toArray, List.getElem_cons_succ, List.getElem_cons_zero]))
              refine step_alloc (zs := #[.int .u64 0, .int .u64 0, .int .u64 0, .int .u64 0]) (e := 35) rfl (fun _ => by go_simp) hS1 ?_
              intro g6 wa hS1 hba
              refine hK (From wa) _ _ (From.next hba) (From.refl _) ?_
              clear hK K
              (try simp only [Act.put, List.setIfInBounds_toArray, List.set_cons_zero, List.set_cons_succ, List.getElem_toArray, List.getElem_cons_succ, List.getElem_cons_zero])
              (refine wpM_late (i := 7) (by kernel_rfl) rfl rfl ?_; intro K hK; (try simp only [Act.put, List.setIfInBounds_toArray, List.set_cons_zero, List.set_cons_succ, List.getElem_toArray, List.getElem_cons_succ, List.getElem_cons_zero]))
              refine step_storeRow rfl rfl hS1 0 rfl rfl (cs := #[.int .u64 (r0 : Int), .int .u64 (r1 : Int), .int .u64 (r2 : Int), .int .u64 (r3 : Int)]) rfl (by kernel_rfl) rfl (by kernel_rfl) ?_
              intro w5 hS5
              refine hK _ _ ?_
              clear hK K
              (try simp only [Act.put, List.setIfInBounds_toArray, List.set_cons_zero, List.set_cons_succ, List.getElem_toArray, List.getElem_cons_succ, List.getElem_cons_zero])
              (refine wpAny_take (i := 8) (v := ?_) rfl (by kernel_rfl) (by kernel_rfl) (by kernel_rfl) (fun _ _ _ h => h) (Or.inl ⟨by first | kernel_rfl | rfl, ?_⟩) ?_; rotate_left; (intro wx; go_simp) <;> (with_reducible rfl); (try simp only [Act.put, List.setIfInBounds_toArray, List.set_cons_zero, List.set_cons_succ, List.getElem_toArray, List.getElem_cons_succ, List.getElem_cons_zero]))
              refine wpAny_done (by kernel_rfl) ?_ _
              go_wp2_with fail
              go_meet
              exact ⟨g6, r0, r1, r2, r3, bo, rfl, rfl, hrw, hbo, hrv, hS5⟩
            · refine step_alloc (zs := #[.int .u64 0, .int .u64 0, .int .u64 0, .int .u64 0]) (e := 35) rfl (fun _ => by go_simp) hS1 ?_
              intro g6 wa hS1 hba
              refine hK (From wa) _ _ (From.next hba) (From.refl _) ?_
              clear hK K
              (try simp only [Act.put, List.setIfInBounds_toArray, List.set_cons_zero, List.set_cons_succ, List.getElem_toArray, List.getElem_cons_succ, List.getElem_cons_zero])
              (refine wpM_one (i := 2) (by kernel_rfl) rfl rfl ?_; intro K hK; (try simp only [Act.put, List.setIfInBounds_toArray, List.set_cons_zero, List.set_cons_succ, List.getElem_toArray, List.getElem_cons_succ, List.getElem_cons_zero]))
              refine step_call rfl rfl enLess rfl (less_any a0 a1 a2 a3 _ _ _ _ _ HW.out ord_words) ?_
              rintro e w3 ⟨r0, r1, r2, r3, bo, hrw, hbo, hrv, rfl, hb3⟩
              have hS1 := hS1.call hb3
              refine ⟨_, rfl, hK (From w3) _ _ (From.next hb3) (From.refl _) ?_⟩
              clear hK K
              (try simp only [Act.put, List.setIfInBounds_toArray, List.set_cons_zero, List.set_cons_succ, List.getElem_toArray, List.getElem_cons_succ, List.getElem_cons_zero])
              (refine wpM_takeU (i := 3) (v := ?_) rfl (by kernel_rfl) (by kernel_rfl) (by kernel_rfl) (fun _ _ _ h => h) (From.refl _) rfl (Or.inl ⟨by first | kernel_rfl | rfl, ?_⟩) ?_; rotate_left; (intro wx; go_simp) <;> (with_reducible rfl); (try simp only [Act.put, List.setIfInBounds_toArray, List.set_cons_zero, List.set_cons_succ, List.getElem_toArray, List.getElem_cons_succ, List.getElem_cons_zero])); (refine wpM_takeU (i := 4) (v := ?_) rfl (by kernel_rfl) (by kernel_rfl) (by kernel_rfl) (fun _ _ _ h => h) (From.refl _) rfl (Or.inl ⟨by first | kernel_rfl | rfl, ?_⟩) ?_; rotate_left; (intro wx; go_simp) <;> (with_reducible rfl); (try simp only [Act.put, List.setIfInBounds_toArray, List.set_cons_zero, List.set_cons_succ, List.getElem_toArray, List.getElem_cons_succ, List.getElem_cons_zero])); (refine wpM_takeU (i := 5) (v := ?_) rfl (by kernel_rfl) (by kernel_rfl) (by kernel_rfl) (fun _ _ _ h => h) (From.refl _) rfl (Or.inl ⟨by first | kernel_rfl | rfl, ?_⟩) ?_; rotate_left; (intro wx; go_simp) <;> (with_reducible rfl); (try simp only [Act.put, List.setIfInBounds_toArray, List.set_cons_zero, List.set_cons_succ, List.getElem_toArray, List.getElem_cons_succ, List.getElem_cons_zero]))
              (refine wpM_late (i := 7) (by kernel_rfl) rfl rfl ?_; intro K hK; (try simp only [Act.put, List.setIfInBounds_toArray, List.set_cons_zero, List.set_cons_succ, List.getElem_toArray, List.getElem_cons_succ, List.getElem_cons_zero]))
              refine step_storeRow rfl rfl hS1 0 rfl rfl (cs := #[.int .u64 (r0 : Int), .int .u64 (r1 : Int), .int .u64 (r2 : Int), .int .u64 (r3 : Int)]) rfl (by kernel_rfl) rfl (by kernel_rfl) ?_
              intro w5 hS5
              refine hK _ _ ?_
              clear hK K
              (try simp only [Act.put, List.setIfInBounds_toArray, List.set_cons_zero, List.set_cons_succ, List.getElem_toArray, List.getElem_cons_succ, List.getElem_cons_zero])
              (refine wpAny_take (i := 8) (v := ?_) rfl (by kernel_rfl) (by kernel_rfl) (by kernel_rfl) (fun _ _ _ h => h) (Or.inl ⟨by first | kernel_rfl | rfl, ?_⟩) ?_; rotate_left; (intro wx; go_simp) <;> (with_reducible rfl); (try simp only [Act.put, List.setIfInBounds_toArray, List.set_cons_zero, List.set_cons_succ, List.getElem_toArray, List.getElem_cons_succ, List.getElem_cons_zero]))
              refine wpAny_done (by kernel_rfl) ?_ _
              go_wp2_with fail
              go_meet
              exact ⟨g6, r0, r1, r2, r3, bo, rfl, rfl, hrw, hbo, hrv, hS5⟩
          · refine step_alloc (zs := #[.int .u64 0, .int .u64 0, .int .u64 0, .int .u64 0]) (e := 35) rfl (fun _ => by go_simp) hS1 ?_
            intro g6 wa hS1 hba
            refine hK (From wa) _ _ (From.next hba) (From.refl _) ?_
            clear hK K
            (try simp only [Act.put, List.setIfInBounds_toArray, List.set_cons_zero, List.set_cons_succ, List.getElem_toArray, List.getElem_cons_succ, List.getElem_cons_zero])
            (refine wpM_one (i := 1) (by kernel_rfl) rfl rfl ?_; intro K hK; (try simp only [Act.put, List.setIfInBounds_toArray, List.set_cons_zero, List.set_cons_succ, List.getElem_toArray, List.getElem_cons_succ, List.getElem_cons_zero]))
            refine step_call rfl rfl enOrder rfl (order_any _) ?_
            rintro e w2 ⟨rfl, hb2⟩
            have hS1 := hS1.call hb2
            refine ⟨_, rfl, hK (From w2) _ _ (From.next hb2) (From.refl _) ?_⟩
            clear hK K
            (try simp only [Act.put, List.setIfInBounds_toArray, List.set_cons_zero, List.set_cons_succ, List.getElem_toArray, List.getElem_cons_succ, List.getElem_cons_zero])
            (refine wpM_one (i := 2) (by kernel_rfl) rfl rfl ?_; intro K hK; (try simp only [Act.put, List.setIfInBounds_toArray, List.set_cons_zero, List.set_cons_succ, List.getElem_toArray, List.getElem_cons_succ, List.getElem_cons_zero]))
            refine step_call rfl rfl enLess rfl (less_any a0 a1 a2 a3 _ _ _ _ _ HW.out ord_words) ?_
            rintro e w3 ⟨r0, r1, r2, r3, bo, hrw, hbo, hrv, rfl, hb3⟩
            have hS1 := hS1.call hb3
            refine ⟨_, rfl, hK (From w3) _ _ (From.next hb3) (From.refl _) ?_⟩
            clear hK K
            (try simp only [Act.put, List.setIfInBounds_toArray, List.set_cons_zero, List.set_cons_succ, List.getElem_toArray, List.getElem_cons_succ, List.getElem_cons_zero])
            (refine wpM_takeU (i := 3) (v := ?_) rfl (by kernel_rfl) (by kernel_rfl) (by kernel_rfl) (fun _ _ _ h => h) (From.refl _) rfl (Or.inl ⟨by first | kernel_rfl | rfl, ?_⟩) ?_; rotate_left; (intro wx; go_simp) <;> (with_reducible rfl); (try simp only [Act.put, List.setIfInBounds_toArray, List.set_cons_zero, List.set_cons_succ, List.getElem_toArray, List.getElem_cons_succ, List.getElem_cons_zero])); (refine wpM_takeU (i := 4) (v := ?_) rfl (by kernel_rfl) (by kernel_rfl) (by kernel_rfl) (fun _ _ _ h => h) (From.refl _) rfl (Or.inl ⟨by first | kernel_rfl | rfl, ?_⟩) ?_; rotate_left; (intro wx; go_simp) <;> (with_reducible rfl); (try simp only [Act.put, List.setIfInBounds_toArray, List.set_cons_zero, List.set_cons_succ, List.getElem_toArray, List.getElem_cons_succ, List.getElem_cons_zero])); (refine wpM_takeU (i := 5) (v := ?_) rfl (by kernel_rfl) (by kernel_rfl) (by kernel_rfl) (fun _ _ _ h => h) (From.refl _) rfl (Or.inl ⟨by first | kernel_rfl | rfl, ?_⟩) ?_; rotate_left; (intro wx; go_simp) <;> (with_reducible rfl); (try simp only [Act.put, List.setIfInBounds_toArray, List.set_cons_zero, List.set_cons_succ, List.getElem_toArray, List.getElem_cons_succ, List.getElem_cons_zero]))
            (refine wpM_late (i := 7) (by kernel_rfl) rfl rfl ?_; intro K hK; (try simp only [Act.put, List.setIfInBounds_toArray, List.set_cons_zero, List.set_cons_succ, List.getElem_toArray, List.getElem_cons_succ, List.getElem_cons_zero]))
            refine step_storeRow rfl rfl hS1 0 rfl rfl (cs := #[.int .u64 (r0 : Int), .int .u64 (r1 : Int), .int .u64 (r2 : Int), .int .u64 (r3 : Int)]) rfl (by kernel_rfl) rfl (by kernel_rfl) ?_
            intro w5 hS5
            refine hK _ _ ?_
            clear hK K
            (try simp only [Act.put, List.setIfInBounds_toArray, List.set_cons_zero, List.set_cons_succ, List.getElem_toArray, List.getElem_cons_succ, List.getElem_cons_zero])
            (refine wpAny_take (i := 8) (v := ?_) rfl (by kernel_rfl) (by kernel_rfl) (by kernel_rfl) (fun _ _ _ h => h) (Or.inl ⟨by first | kernel_rfl | rfl, ?_⟩) ?_; rotate_left; (intro wx; go_simp) <;> (with_reducible rfl); (try simp only [Act.put, List.setIfInBounds_toArray, List.set_cons_zero, List.set_cons_succ, List.getElem_toArray, List.getElem_cons_succ, List.getElem_cons_zero]))
            refine wpAny_done (by kernel_rfl) ?_ _
            go_wp2_with fail
            go_meet
            exact ⟨g6, r0, r1, r2, r3, bo, rfl, rfl, hrw, hbo, hrv, hS5⟩
        case rest =>
          obtain ⟨g6, r0, r1, r2, r3, bo, rfl, rfl, hrw, hbo, hrv, hS6⟩ := hcut
          obtain ⟨hE1, hE2⟩ := HEN.out [a0, a1, a2, a3] [r0, r1, r2, r3] b bo bit HX.out hbit HW.out HCL.out hrw rfl (by
            have := HV.out
            rw [List.take_of_length_le (by simp), List.take_of_length_le (by rw [HXL.out]; omega)] at this
            exact this) (by rw [← lv_ord]; exact hrv) hbo
          have HE1 := hide hE1
          have HE2 := hide hE2
          have HRW := hide hrw
          have hne : g6 ≠ w.heap.size + 1 := fun h => hS6.apart 0 2 _ _ g6 (by omega) rfl rfl rfl (by rw [h]; rfl)
          have hne2 : w.heap.size ≠ w.heap.size + 1 := by omega
          clear hE1 hE2 hrv hrw
          by_cases hbo0 : bo = 0
          · subst hbo0
            have qr0 : wc.cell? ⟨g6, 0, none⟩ = some (.int .u64 (r0 : Int)) := hS6.cell 0 rfl 0
            have qr1 : wc.cell? ⟨g6, 1, none⟩ = some (.int .u64 (r1 : Int)) := hS6.cell 0 rfl 1
            have qr2 : wc.cell? ⟨g6, 2, none⟩ = some (.int .u64 (r2 : Int)) := hS6.cell 0 rfl 2
            have qr3 : wc.cell? ⟨g6, 3, none⟩ = some (.int .u64 (r3 : Int)) := hS6.cell 0 rfl 3
            have z0 : wc.cell? ⟨w.heap.size + 1, 0, none⟩ = some (.int .u64 0) := hS6.cell 2 rfl 0
            have z1 : wc.cell? ⟨w.heap.size + 1, 1, none⟩ = some (.int .u64 0) := hS6.cell 2 rfl 1
            have z2 : wc.cell? ⟨w.heap.size + 1, 2, none⟩ = some (.int .u64 0) := hS6.cell 2 rfl 2
            have z3 : wc.cell? ⟨w.heap.size + 1, 3, none⟩ = some (.int .u64 0) := hS6.cell 2 rfl 3
            have f0 := hS6.free 2 rfl 0
            have f1 := hS6.free 2 rfl 1
            have f2 := hS6.free 2 rfl 2
            have f3 := hS6.free 2 rfl 3
            have HS := hide ((((hS6.setCell 2 rfl 0 (.int .u64 (r0 : Int))).setCell 2 rfl 1 (.int .u64 (r1 : Int))).setCell 2 rfl 2 (.int .u64 (r2 : Int))).setCell 2 rfl 3 (.int .u64 (r3 : Int)))
            clear hS6
            go_wp2_with fail
            refine bodyPost_ret (results_cell_row rfl _ _ (w.heap.size + 1) _ _ _ _ rfl (HS.out.heap 2 rfl) Try.underlying35 rfl (by kernel_rfl)) rfl ?_
            exact ⟨[r0, r1, r2, r3], rfl, HRW.out, HE2.out (by trivial), rfl, HS.out.below⟩
          · have hdb : decide (0 < bo) = true := by simp; omega
            have qa0 : wc.cell? ⟨w.heap.size, 0, none⟩ = some (.int .u64 (a0 : Int)) := hS6.cell 1 rfl 0
            have qa1 : wc.cell? ⟨w.heap.size, 1, none⟩ = some (.int .u64 (a1 : Int)) := hS6.cell 1 rfl 1
            have qa2 : wc.cell? ⟨w.heap.size, 2, none⟩ = some (.int .u64 (a2 : Int)) := hS6.cell 1 rfl 2
            have qa3 : wc.cell? ⟨w.heap.size, 3, none⟩ = some (.int .u64 (a3 : Int)) := hS6.cell 1 rfl 3
            have z0 : wc.cell? ⟨w.heap.size + 1, 0, none⟩ = some (.int .u64 0) := hS6.cell 2 rfl 0
            have z1 : wc.cell? ⟨w.heap.size + 1, 1, none⟩ = some (.int .u64 0) := hS6.cell 2 rfl 1
            have z2 : wc.cell? ⟨w.heap.size + 1, 2, none⟩ = some (.int .u64 0) := hS6.cell 2 rfl 2
            have z3 : wc.cell? ⟨w.heap.size + 1, 3, none⟩ = some (.int .u64 0) := hS6.cell 2 rfl 3
            have f0 := hS6.free 2 rfl 0
            have f1 := hS6.free 2 rfl 1
            have f2 := hS6.free 2 rfl 2
            have f3 := hS6.free 2 rfl 3
            have HS := hide ((((hS6.setCell 2 rfl 0 (.int .u64 (a0 : Int))).setCell 2 rfl 1 (.int .u64 (a1 : Int))).setCell 2 rfl 2 (.int .u64 (a2 : Int))).setCell 2 rfl 3 (.int .u64 (a3 : Int)))
            clear hS6
            go_wp2_with fail
            refine bodyPost_ret (results_cell_row rfl _ _ (w.heap.size + 1) _ _ _ _ rfl (HS.out.heap 2 rfl) Try.underlying35 rfl (by kernel_rfl)) rfl ?_
            exact ⟨[a0, a1, a2, a3], rfl, HW.out, HE1.out (by omega), rfl, HS.out.below⟩
end Go.Proofs.Ytgofcefggdlalaa
