/-
  The walks of layer 3: the number of 32 bytes; is it below the order?
-/
import Derived.Test.YtgofcefggdlalaaSc
namespace Go.Proofs.Ytgofcefggdlalaa
open Go.RowKit

theorem enFrom (args : Array Value) (w : World) : (callFunc 22 args).run Try.prog w = .ok (.enter 22 args) w := by kernel_rfl
theorem pow_split (i : Nat) : 256 ^ i = 18446744073709551616 ^ (i / 8) * 256 ^ (i % 8) := by
  rw [show (18446744073709551616 : Nat) = 256 ^ 8 from by decide, ← Nat.pow_mul, ← Nat.pow_add]
  congr 1
  omega
/-- The word that a byte goes into is below the byte's place. -/
theorem from_word (cur : List Nat) (i x : Nat) (hx : cur[i / 8]? = some x) (hv : lv cur < 256 ^ i) : x < 256 ^ (i % 8) := by
  have h1 := lv_get_le cur (i / 8) x hx
  have h2 := pow_split i
  rw [h2] at hv
  have h3 : x * 18446744073709551616 ^ (i / 8) < 256 ^ (i % 8) * 18446744073709551616 ^ (i / 8) := by rw [Nat.mul_comm (256 ^ (i % 8))]; omega
  exact Nat.lt_of_mul_lt_mul_right h3
theorem from_lt (x c i : Nat) (hx : x < 256 ^ (i % 8)) (hc : c < 256) : x + c * 256 ^ (i % 8) < 18446744073709551616 := by
  have h8 : i % 8 < 8 := Nat.mod_lt _ (by omega)
  have h1 : c * 256 ^ (i % 8) + 256 ^ (i % 8) ≤ 256 ^ (i % 8 + 1) := by
    rw [Nat.pow_succ, ← Nat.succ_mul, Nat.mul_comm (256 ^ (i % 8))]
    exact Nat.mul_le_mul_right _ (by omega)
  have h2 : 256 ^ (i % 8 + 1) ≤ 256 ^ 8 := Nat.pow_le_pow_right (by omega) (by omega)
  have h3 : (256 : Nat) ^ 8 = 18446744073709551616 := by decide
  omega
theorem from_step (cur : List Nat) (l : List UInt8) (i x : Nat) (c : UInt8) (hx : cur[i / 8]? = some x) (hc : l[i]? = some c) (hv : lv cur = bval (l.take i)) :
    lv (cur.set (i / 8) (x + c.toNat * 256 ^ (i % 8))) = bval (l.take (i + 1)) := by
  have h1 := lv_set cur (i / 8) x (x + c.toNat * 256 ^ (i % 8)) hx
  rw [bval_take hc, pow_split i, ← hv]
  rw [Nat.add_mul] at h1
  rw [show c.toNat * 256 ^ (i % 8) * 18446744073709551616 ^ (i / 8) = c.toNat * (18446744073709551616 ^ (i / 8) * 256 ^ (i % 8)) from by rw [Nat.mul_assoc, Nat.mul_comm (256 ^ (i % 8))]] at h1
  omega
theorem from_or (x c i : Nat) (hx : x < 256 ^ (i % 8)) (hc : c < 256) :
    bits .or .u64 (x : Int) (IntKind.u64.wrap ((c : Int) * 2 ^ (i % 8 * 8))) = ((x + c * 256 ^ (i % 8) : Nat) : Int) := by
  have hlt := from_lt x c i hx hc
  have e2 : (2 : Nat) ^ (i % 8 * 8) = 256 ^ (i % 8) := by rw [Nat.mul_comm, Nat.pow_mul]
  have e : IntKind.u64.wrap ((c : Int) * 2 ^ (i % 8 * 8)) = ((c * 256 ^ (i % 8) : Nat) : Int) := by
    rw [show ((c : Int) * 2 ^ (i % 8 * 8)) = ((c * 2 ^ (i % 8 * 8) : Nat) : Int) from by simp, e2, IntKind.wrap_u64]
    omega
  rw [e, u64_or_nat _ _ (by omega) (by omega), Nat.or_comm]
  have := nat_join (i % 8 * 8) (c * 256 ^ (i % 8)) x (by rw [e2]; exact Nat.mul_mod_left _ _) (by rw [e2]; exact hx)
  rw [this, Nat.add_comm]

def FromRel (w : World) (g : Nat) (H : List Chunk) (l : List UInt8) (i : Value) (wr : World) : Prop :=
  ∃ (k : Nat) (cur : List Nat), k ≤ 32 ∧ i = .int .i64 (k : Int) ∧ cur.length = 4 ∧ Words cur ∧ lv cur = bval (l.take k) ∧ St w NoB wr (.cells g (uvs cur).toArray 35 :: H)
def ResFrom (w : World) (l : List UInt8) (e : Ending) (w' : World) : Prop :=
  ∃ a0 a1 a2 a3 : Nat, Words [a0, a1, a2, a3] ∧ lv [a0, a1, a2, a3] = bval l ∧ e = .returned (.agg #[.int .u64 (a0 : Int), .int .u64 (a1 : Int), .int .u64 (a2 : Int), .int .u64 (a3 : Int)]) ∧ Below w.heap.size w w'
set_option maxRecDepth 100000 in
set_option maxHeartbeats 800000 in
theorem from_walk (A : Option Addr) (c : Nat) (l : List UInt8) (w : World) (hl : l.length = 32) (hr : Rd w (.slice A 32 c) 1 32 (bvs l)) :
    Calls Try.prog 22 #[.slice A 32 c] w (ResFrom w l) := by
  rcases hr.cases with ⟨_, h0, _⟩ | ⟨b, o, sp, c', hA, hb, hnc, hcm, _, hsp, hc⟩
  · omega
  injection hA with hA1 _ hA3
  subst hA1 hA3
  obtain rfl : sp = none := hsp (by omega)
  replace hb := hb (by omega)
  have HC := hide hc
  have HL := hide hl
  have HS0 := hide (((St.init w NoB).alloc #[.int .u64 0, .int .u64 0, .int .u64 0, .int .u64 0] 35).alloc #[.int .u64 0, .int .u64 0, .int .u64 0, .int .u64 0] 35)
  clear hr hc hl hsp
  unfold maxLen at hcm
  go_enter Try.func22, Try.ntmps22
  go_wp2_with fail
  go_loopw [9] (fun i wr => FromRel w (w.heap.size + 1) [.cells w.heap.size #[.int .u64 0, .int .u64 0, .int .u64 0, .int .u64 0] 35] l i wr) (fun i _ => 32 - (intOf i).toNat)
  case atStart =>
    have hS := HS0.out
    simp only [size_alloc1] at hS
    exact ⟨0, [0, 0, 0, 0], by omega, rfl, rfl, by unfold Words; decide, rfl, hS⟩
  case round =>
    obtain ⟨k, cur, hk, rfl, hcl, hcw, hval, hS⟩ := hrel
    by_cases hlt : k < 32
    · obtain ⟨x, hx⟩ := lim_get cur hcl (k / 8) (by omega)
      obtain ⟨ch, hch⟩ : ∃ ch, l[k]? = some ch := ⟨l[k]'(by rw [HL.out]; exact hlt), List.getElem?_eq_getElem _⟩
      have hvl : lv cur < 256 ^ k := by
        rw [hval]
        have := bval_lt (l.take k)
        rwa [List.length_take, HL.out, Nat.min_eq_left (by omega)] at this
      have hxw := from_word cur k x hx hvl
      have hch2 := UInt8.toNat_lt ch
      have hor := from_or x ch.toNat k hxw hch2
      have hlt2 := from_lt x ch.toNat k hxw hch2
      have hstep := hide (from_step cur l k x ch hx hch hval)
      obtain ⟨y, hy⟩ : ∃ y, y = x + ch.toNat * 256 ^ (k % 8) := ⟨_, rfl⟩
      rw [← hy] at hor hlt2 hstep
      have hS' := hS.drew
      have hHS := hide hS'
      have hcb : wr.cell? ⟨b, o + k, none⟩ = some (.int .u8 (ch.toNat : Int)) := by
        rw [hS.below.cell (p := ⟨b, o + k, none⟩) hb]
        exact HC.out k _ (by simp only [bvs, List.getElem?_map, hch]; rfl)
      obtain ⟨cn, hcn⟩ : ∃ cn, cn = ch.toNat := ⟨_, rfl⟩
      rw [← hcn] at hor hcb hch2
      have cx : ∀ z, From wr.drew z → z.cell? ⟨w.heap.size + 1, k / 8, none⟩ = some (.int .u64 (x : Int)) := fun z hz => by
        rw [hz.cell (p := ⟨w.heap.size + 1, k / 8, none⟩) (Chunk.lt (hHS.out.sat 0 _ rfl) rfl), hHS.out.cell 0 rfl (k / 8)]
        exact uvs_get hx
      obtain ⟨q, hq⟩ : ∃ q, q = k / 8 := ⟨_, rfl⟩
      obtain ⟨r, hr⟩ : ∃ r, r = k % 8 * 8 := ⟨_, rfl⟩
      have hq4 : q < 4 := by omega
      have htd : (k : Int).tdiv 8 = (q : Int) := by rw [Int.tdiv_eq_ediv_of_nonneg (by omega)]; omega
      have htm : (k : Int).tmod 8 = ((k % 8 : Nat) : Int) := by rw [Int.tmod_eq_emod_of_nonneg (by omega)]; omega
      have hwr : IntKind.i64.wrap ((k : Int).tmod 8 * 8) = (r : Int) := by rw [htm, IntKind.wrap_i64]; omega
      have hwc : IntKind.u64.wrap (cn : Int) = (cn : Int) := by rw [IntKind.wrap_u64]; omega
      have hr64 : r < 64 := by omega
      have hq4i : (q : Int) < 4 := by omega
      have hr64i : (r : Int) < 64 := by omega
      have hwq : IntKind.i64.wrap (q : Int) = (q : Int) := by rw [IntKind.wrap_i64]; omega
      have hwr2 : IntKind.i64.wrap (r : Int) = (r : Int) := by rw [IntKind.wrap_i64]; omega
      rw [← hr] at hor
      rw [← hq] at cx hstep
      clear htm
      have D1 := hide hlt2
      have HCW := hide hcw
      have HCL := hide hcl
      have HQ := hide hq
      have HR := hide hr
      clear hS hS' hx hxw hval hcw hcl hvl hlt2 hy hcn hch hq hr
      go_wp2_with fail
      refine wp_region_M (fun i => i == 12) (From wr.drew) (by kernel_rfl) ?_
      (refine wpM_takeU (i := 0) (v := ?_) rfl (by kernel_rfl) (by kernel_rfl) (by kernel_rfl) (fun _ _ _ h => h) (From.refl _) rfl (Or.inl ⟨by first | kernel_rfl | rfl, ?_⟩) ?_; rotate_left; (intro wx; go_simp) <;> (with_reducible rfl); (try simp only [Act.put, List.setIfInBounds_toArray, List.set_cons_zero, List.set_cons_succ, List.getElem_toArray, List.getElem_cons_succ, List.getElem_cons_zero])); (refine wpM_takeU (i := 1) (v := ?_) rfl (by kernel_rfl) (by kernel_rfl) (by kernel_rfl) (fun _ _ _ h => h) (From.refl _) rfl (Or.inl ⟨by first | kernel_rfl | rfl, ?_⟩) ?_; rotate_left; (intro wx; go_simp) <;> (with_reducible rfl); (try simp only [Act.put, List.setIfInBounds_toArray, List.set_cons_zero, List.set_cons_succ, List.getElem_toArray, List.getElem_cons_succ, List.getElem_cons_zero]))
      (refine wpM_take (i := 2) (v := ?_) rfl (by kernel_rfl) (by kernel_rfl) (by kernel_rfl) (fun _ _ _ h => h) (From.refl _) rfl (by kernel_rfl) (Or.inl ⟨by first | kernel_rfl | rfl, ?_⟩) ?_; rotate_left; (intro wx hx; go_simp) <;> (with_reducible rfl); (try simp only [Act.put, List.setIfInBounds_toArray, List.set_cons_zero, List.set_cons_succ, List.getElem_toArray, List.getElem_cons_succ, List.getElem_cons_zero])); (refine wpM_take (i := 3) (v := ?_) rfl (by kernel_rfl) (by kernel_rfl) (by kernel_rfl) (fun _ _ _ h => h) (From.refl _) rfl (by kernel_rfl) (Or.inl ⟨by first | kernel_rfl | rfl, ?_⟩) ?_; rotate_left; (intro wx hx; go_simp) <;> (with_reducible rfl); (try simp only [Act.put, List.setIfInBounds_toArray, List.set_cons_zero, List.set_cons_succ, List.getElem_toArray, List.getElem_cons_succ, List.getElem_cons_zero]))
      (refine wpM_takeU (i := 4) (v := ?_) rfl (by kernel_rfl) (by kernel_rfl) (by kernel_rfl) (fun _ _ _ h => h) (From.refl _) rfl (Or.inl ⟨by first | kernel_rfl | rfl, ?_⟩) ?_; rotate_left; (intro wx; go_simp) <;> (with_reducible rfl); (try simp only [Act.put, List.setIfInBounds_toArray, List.set_cons_zero, List.set_cons_succ, List.getElem_toArray, List.getElem_cons_succ, List.getElem_cons_zero])); (refine wpM_takeU (i := 5) (v := ?_) rfl (by kernel_rfl) (by kernel_rfl) (by kernel_rfl) (fun _ _ _ h => h) (From.refl _) rfl (Or.inl ⟨by first | kernel_rfl | rfl, ?_⟩) ?_; rotate_left; (intro wx; go_simp) <;> (with_reducible rfl); (try simp only [Act.put, List.setIfInBounds_toArray, List.set_cons_zero, List.set_cons_succ, List.getElem_toArray, List.getElem_cons_succ, List.getElem_cons_zero])); (refine wpM_takeU (i := 6) (v := ?_) rfl (by kernel_rfl) (by kernel_rfl) (by kernel_rfl) (fun _ _ _ h => h) (From.refl _) rfl (Or.inl ⟨by first | kernel_rfl | rfl, ?_⟩) ?_; rotate_left; (intro wx; go_simp) <;> (with_reducible rfl); (try simp only [Act.put, List.setIfInBounds_toArray, List.set_cons_zero, List.set_cons_succ, List.getElem_toArray, List.getElem_cons_succ, List.getElem_cons_zero])); (refine wpM_takeU (i := 7) (v := ?_) rfl (by kernel_rfl) (by kernel_rfl) (by kernel_rfl) (fun _ _ _ h => h) (From.refl _) rfl (Or.inl ⟨by first | kernel_rfl | rfl, ?_⟩) ?_; rotate_left; (intro wx; go_simp) <;> (with_reducible rfl); (try simp only [Act.put, List.setIfInBounds_toArray, List.set_cons_zero, List.set_cons_succ, List.getElem_toArray, List.getElem_cons_succ, List.getElem_cons_zero])); (refine wpM_takeU (i := 8) (v := ?_) rfl (by kernel_rfl) (by kernel_rfl) (by kernel_rfl) (fun _ _ _ h => h) (From.refl _) rfl (Or.inl ⟨by first | kernel_rfl | rfl, ?_⟩) ?_; rotate_left; (intro wx; go_simp) <;> (with_reducible rfl); (try simp only [Act.put, List.setIfInBounds_toArray, List.set_cons_zero, List.set_cons_succ, List.getElem_toArray, List.getElem_cons_succ, List.getElem_cons_zero])); (refine wpM_takeU (i := 9) (v := ?_) rfl (by kernel_rfl) (by kernel_rfl) (by kernel_rfl) (fun _ _ _ h => h) (From.refl _) rfl (Or.inl ⟨by first | kernel_rfl | rfl, ?_⟩) ?_; rotate_left; (intro wx; go_simp) <;> (with_reducible rfl); (try simp only [Act.put, List.setIfInBounds_toArray, List.set_cons_zero, List.set_cons_succ, List.getElem_toArray, List.getElem_cons_succ, List.getElem_cons_zero])); (refine wpM_takeU (i := 10) (v := ?_) rfl (by kernel_rfl) (by kernel_rfl) (by kernel_rfl) (fun _ _ _ h => h) (From.refl _) rfl (Or.inl ⟨by first | kernel_rfl | rfl, ?_⟩) ?_; rotate_left; (intro wx; go_simp) <;> (with_reducible rfl); (try simp only [Act.put, List.setIfInBounds_toArray, List.set_cons_zero, List.set_cons_succ, List.getElem_toArray, List.getElem_cons_succ, List.getElem_cons_zero])); (refine wpM_takeU (i := 11) (v := ?_) rfl (by kernel_rfl) (by kernel_rfl) (by kernel_rfl) (fun _ _ _ h => h) (From.refl _) rfl (Or.inl ⟨by first | kernel_rfl | rfl, ?_⟩) ?_; rotate_left; (intro wx; go_simp) <;> (with_reducible rfl); (try simp only [Act.put, List.setIfInBounds_toArray, List.set_cons_zero, List.set_cons_succ, List.getElem_toArray, List.getElem_cons_succ, List.getElem_cons_zero]))
      (refine wpM_late (i := 12) (by kernel_rfl) rfl rfl ?_; intro K hK; (try simp only [Act.put, List.setIfInBounds_toArray, List.set_cons_zero, List.set_cons_succ, List.getElem_toArray, List.getElem_cons_succ, List.getElem_cons_zero]))
      refine step_store rfl rfl tyU64 hHS.out 0 rfl q (by rw [List.size_toArray, uvs_len, HCL.out]; exact hq4) rfl (v := .int .u64 (y : Int)) rfl rfl ?_
      intro w2 hS2
      refine hK _ _ ?_
      clear hK K
      (try simp only [Act.put, List.setIfInBounds_toArray, List.set_cons_zero, List.set_cons_succ, List.getElem_toArray, List.getElem_cons_succ, List.getElem_cons_zero])
      refine wpAny_done (by kernel_rfl) ?_ _
      go_wp2_with fail
      go_roundw
      case rel =>
        rw [uvs_set] at hS2
        exact ⟨k + 1, cur.set q y, by omega, by go_num, by rw [List.length_set]; exact HCL.out, words_set HCW.out q _ D1.out, hstep.out, hS2⟩
      case measure => simp [intOf]; omega
    · obtain rfl : k = 32 := by omega
      match cur, hcl with
      | [a0, a1, a2, a3], _ =>
        have hS' : St w NoB wr [.cells (w.heap.size + 1) #[.int .u64 (a0 : Int), .int .u64 (a1 : Int), .int .u64 (a2 : Int), .int .u64 (a3 : Int)] 35, .cells w.heap.size #[.int .u64 0, .int .u64 0, .int .u64 0, .int .u64 0] 35] := hS
        have n0 : wr.cell? ⟨w.heap.size + 1, 0, none⟩ = some (.int .u64 (a0 : Int)) := hS'.cell 0 rfl 0
        have n1 : wr.cell? ⟨w.heap.size + 1, 1, none⟩ = some (.int .u64 (a1 : Int)) := hS'.cell 0 rfl 1
        have n2 : wr.cell? ⟨w.heap.size + 1, 2, none⟩ = some (.int .u64 (a2 : Int)) := hS'.cell 0 rfl 2
        have n3 : wr.cell? ⟨w.heap.size + 1, 3, none⟩ = some (.int .u64 (a3 : Int)) := hS'.cell 0 rfl 3
        have r0 : wr.cell? ⟨w.heap.size, 0, none⟩ = some (.int .u64 0) := hS'.cell 1 rfl 0
        have r1 : wr.cell? ⟨w.heap.size, 1, none⟩ = some (.int .u64 0) := hS'.cell 1 rfl 1
        have r2 : wr.cell? ⟨w.heap.size, 2, none⟩ = some (.int .u64 0) := hS'.cell 1 rfl 2
        have r3 : wr.cell? ⟨w.heap.size, 3, none⟩ = some (.int .u64 0) := hS'.cell 1 rfl 3
        have f0 := hS'.free 1 rfl 0
        have f1 := hS'.free 1 rfl 1
        have f2 := hS'.free 1 rfl 2
        have f3 := hS'.free 1 rfl 3
        have HS := hide ((((hS'.setCell 1 rfl 0 (.int .u64 (a0 : Int))).setCell 1 rfl 1 (.int .u64 (a1 : Int))).setCell 1 rfl 2 (.int .u64 (a2 : Int))).setCell 1 rfl 3 (.int .u64 (a3 : Int)))
        have HV := hide hval
        have HW := hide hcw
        clear hS hS' hval hcw
        go_wp2_with fail
        refine bodyPost_ret (results_cell_row rfl _ _ w.heap.size _ _ _ _ rfl (HS.out.heap 1 rfl) Try.underlying35 rfl (by kernel_rfl)) rfl ?_
        exact ⟨a0, a1, a2, a3, HW.out, by rw [HV.out, ← HL.out, List.take_length], rfl, HS.out.below⟩
end Go.Proofs.Ytgofcefggdlalaa
