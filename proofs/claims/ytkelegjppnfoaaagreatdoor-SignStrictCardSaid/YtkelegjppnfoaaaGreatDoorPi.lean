/-
  Joined of texts of mine, in build order: Ra, Rb, Rc, Rd. Each says what it proves at its own head.
-/
import Derived.Test.YtkelegjppnfoaaaGreatDoorPh
set_option linter.unusedSimpArgs false
set_option linter.unusedVariables false

namespace Go.Proofs.YtkelegjppnfoaaaGreatDoor.S3
open Go.RowKit
set_option linter.unusedSimpArgs false

theorem rd_at' {w : World} {B : Option Addr} {n d : Nat} {xs : List Value} {k : Nat} {u : Value} (h : Rd w (.slice B n d) 1 n xs) (hk : xs[k]? = some u) : ∃ b o, B = some ⟨b, o, none⟩ ∧ w.cell? ⟨b, o + k, none⟩ = some u := by
  rcases h.cases with ⟨_, _, h0⟩ | ⟨b, o, sp, c', hv, _, _, _, hl, h4, hc⟩
  · rw [h0] at hk; simp at hk
  · injection hv with hv1 _ _
    have hkl : k < xs.length := (List.getElem?_eq_some_iff.1 hk).1
    have := h4 (by omega)
    subst this hv1
    exact ⟨b, o, rfl, hc k u hk⟩
def ivs (xs : List Int) : List Value := xs.map (.int .i64 ·)
theorem ivs_len (xs : List Int) : (ivs xs).length = xs.length := by simp [ivs]
theorem ivs_get {xs : List Int} {k : Nat} {x : Int} (h : xs[k]? = some x) : (ivs xs).toArray[k]? = some (.int .i64 x) := by simp [ivs, h]
theorem ivs_set (xs : List Int) (k : Nat) (x : Int) : (ivs xs).toArray.setIfInBounds k (.int .i64 x) = (ivs (xs.set k x)).toArray := by simp [ivs, List.map_set]
theorem ivs_all (xs : List Int) : (ivs xs).toArray.all (·.oneCell') = true := by
  rw [Array.all_eq_true_iff_forall_mem]
  intro v hv
  simp only [ivs, List.mem_toArray, List.mem_map] at hv
  obtain ⟨x, _, rfl⟩ := hv
  rfl
def dv : List Int → Int
  | [] => 0
  | x :: xs => x + 256 * dv xs
theorem dv_append : ∀ (xs ys : List Int), dv (xs ++ ys) = dv xs + 256 ^ xs.length * dv ys
  | [], ys => by simp [dv]
  | x :: xs, ys => by
    simp only [List.cons_append, dv, dv_append xs ys, List.length_cons]
    rw [Int.pow_succ, Int.mul_add, Int.add_assoc, ← Int.mul_assoc, Int.mul_comm 256 (256 ^ xs.length)]
theorem dv_take {xs : List Int} {k : Nat} {x : Int} (h : xs[k]? = some x) : dv (xs.take (k + 1)) = dv (xs.take k) + x * 256 ^ k := by
  have hk := (List.getElem?_eq_some_iff.1 h).1
  rw [List.take_add_one, h, Option.toList_some, dv_append, List.length_take, Nat.min_eq_left (by omega)]
  simp only [dv, Int.mul_zero, Int.add_zero]
  rw [Int.mul_comm]
theorem getD_of {xs : List Int} {k : Nat} {x : Int} (h : xs[k]? = some x) : xs.getD k 0 = x := by rw [List.getD_eq_getElem?_getD, h]; rfl
theorem some_getD {xs : List Int} {k : Nat} (h : k < xs.length) : xs[k]? = some (xs.getD k 0) := by rw [List.getD_eq_getElem?_getD, List.getElem?_eq_getElem h]; rfl
theorem getD_set (xs : List Int) (k j : Nat) (y : Int) : (xs.set k y).getD j 0 = if k = j ∧ k < xs.length then y else xs.getD j 0 := by
  simp only [List.getD_eq_getElem?_getD, List.getElem?_set]
  split
  · rename_i h
    subst h
    split
    · rename_i h; rw [if_pos ⟨rfl, h⟩]; rfl
    · rename_i h; rw [if_neg (fun x => h x.2), List.getElem?_eq_none (by omega)]
  · rename_i h
    rw [if_neg (fun x => h x.1)]
theorem dv_set : ∀ (xs : List Int) (k : Nat) (y : Int), k < xs.length → dv (xs.set k y) = dv xs + (y - xs.getD k 0) * 256 ^ k
  | [], k, y, h => by simp at h
  | x :: xs, 0, y, h => by simp [dv]; omega
  | x :: xs, k + 1, y, h => by
    have ih := dv_set xs k y (by simpa using h)
    simp only [List.set_cons_succ, dv, List.getD_cons_succ, ih, Int.pow_succ, Int.mul_add]
    rw [show 256 * ((y - xs.getD k 0) * 256 ^ k) = (y - xs.getD k 0) * (256 ^ k * 256) from by rw [Int.mul_comm 256, Int.mul_assoc]]
    omega
def Byt (xs : List Int) : Prop := ∀ x ∈ xs, 0 ≤ x ∧ x < 256
theorem dv_byt : ∀ (xs : List Int), Byt xs → 0 ≤ dv xs ∧ dv xs < 256 ^ xs.length
  | [], _ => by simp [dv]
  | x :: xs, h => by
    have ih := dv_byt xs fun y hy => h y (List.mem_cons_of_mem _ hy)
    have hx := h x (List.mem_cons_self ..)
    simp only [dv, List.length_cons, Int.pow_succ]
    omega
theorem byt_getD {xs : List Int} (h : Byt xs) (k : Nat) : 0 ≤ xs.getD k 0 ∧ xs.getD k 0 < 256 := by
  rw [List.getD_eq_getElem?_getD]
  cases hg : xs[k]? with
  | none => simp
  | some x => exact h x (List.mem_of_getElem? hg)
theorem byt_take {xs : List Int} (h : Byt xs) (k : Nat) : Byt (xs.take k) := fun x hx => h x (List.mem_of_mem_take hx)
def rwL (l : List UInt8) : List Int := l.map (fun c => (c.toNat : Int))
theorem rwL_byt (l : List UInt8) : Byt (rwL l) := fun x hx => by
  simp only [rwL, List.mem_map] at hx
  obtain ⟨c, _, rfl⟩ := hx
  have := UInt8.toNat_lt c
  omega
theorem rwL_dv : ∀ l : List UInt8, dv (rwL l) = (bval l : Int)
  | [] => rfl
  | c :: l => by
    show (c.toNat : Int) + 256 * dv (rwL l) = _
    rw [rwL_dv l, bval]
    omega
theorem byt_leB : ∀ (xs : List Int), Byt xs → xs.map (fun x => UInt8.ofNat x.toNat) = leB xs.length (dv xs).toNat
  | [], _ => rfl
  | x :: xs, h => by
    have ih := byt_leB xs fun y hy => h y (List.mem_cons_of_mem _ hy)
    have hx := h x (List.mem_cons_self ..)
    have hn := dv_byt xs fun y hy => h y (List.mem_cons_of_mem _ hy)
    rw [List.map_cons, ih, List.length_cons, leB, dv]
    rw [show (x + 256 * dv xs).toNat % 256 = x.toNat from by omega, show (x + 256 * dv xs).toNat / 256 = (dv xs).toNat from by omega]
theorem i64_and255 (x : Int) : bits .and .i64 x 255 = x % 256 := by
  have e : ((BitVec.ofInt 64 x &&& BitVec.ofInt 64 255).toNat : Int) = x % 256 := by
    rw [BitVec.toNat_and, BitVec.toNat_ofInt, BitVec.toNat_ofInt]
    rw [show ((255 : Int) % ((2 ^ 64 : Nat) : Int)).toNat = 255 from by decide, nat_mask8]
    have : ((2 ^ 64 : Nat) : Int) = 18446744073709551616 := by decide
    rw [this]
    omega
  show IntKind.i64.wrap ((BitVec.ofInt 64 x &&& BitVec.ofInt 64 255).toNat : Int) = _
  rw [e, IntKind.wrap_i64]
  omega
theorem i64_and1 (x : Int) : bits .and .i64 x 1 = x % 2 := by
  have e : ((BitVec.ofInt 64 x &&& BitVec.ofInt 64 1).toNat : Int) = x % 2 := by
    rw [BitVec.toNat_and, BitVec.toNat_ofInt, BitVec.toNat_ofInt]
    rw [show ((1 : Int) % ((2 ^ 64 : Nat) : Int)).toNat = 1 from by decide, nat_mask1]
    have : ((2 ^ 64 : Nat) : Int) = 18446744073709551616 := by decide
    rw [this]
    omega
  show IntKind.i64.wrap ((BitVec.ofInt 64 x &&& BitVec.ofInt 64 1).toNat : Int) = _
  rw [e, IntKind.wrap_i64]
  omega
def ordL : List Int := [0xed, 0xd3, 0xf5, 0x5c, 0x1a, 0x63, 0x12, 0x58, 0xd6, 0x9c, 0xf7, 0xa2, 0xde, 0xf9, 0xde, 0x14, 0, 0, 0, 0, 0, 0, 0, 0, 0, 0, 0, 0, 0, 0, 0, 0x10]
theorem ordL_dv : dv ordL = (Lq : Int) := by unfold Lq; decide +kernel
theorem ordL_byt : Byt ordL := by unfold Byt; decide
theorem Lq_pow : (Lq : Int) < 256 ^ 32 ∧ 0 < (Lq : Int) := by unfold Lq; decide +kernel
def Abv (x : List Int) (i : Nat) : Prop := dv x - (Lq : Int) = dv (x.take i) - dv (ordL.take i)
theorem abv_start {x : List Int} (hl : x.length = 33) (h0 : x.getD 32 0 = 0) : Abv x 32 := by
  have hx := some_getD (xs := x) (k := 32) (by omega)
  have h := dv_take hx
  rw [List.take_of_length_le (by omega), h0, Int.zero_mul, Int.add_zero] at h
  unfold Abv
  rw [h, List.take_of_length_le (l := ordL) (by decide), ordL_dv]
theorem abv_step {x : List Int} (hl : x.length = 33) {i : Nat} (hi : i < 32) (h : Abv x (i + 1)) (he : x.getD i 0 = ordL.getD i 0) : Abv x i := by
  unfold Abv at h ⊢
  rw [h, dv_take (some_getD (xs := x) (k := i) (by omega)), dv_take (some_getD (xs := ordL) (k := i) (by simpa [ordL] using hi)), he]
  omega
theorem abv_end {x : List Int} (h : Abv x 0) : decide (dv x < (Lq : Int)) = false := by
  unfold Abv at h
  simp only [List.take_zero, dv] at h
  rw [decide_eq_false_iff_not]
  omega
theorem abv_ne {x : List Int} (hl : x.length = 33) (hb : Byt x) {i : Nat} (hi : i < 32) (h : Abv x (i + 1)) (he : x.getD i 0 ≠ ordL.getD i 0) : decide (x.getD i 0 < ordL.getD i 0) = decide (dv x < (Lq : Int)) := by
  unfold Abv at h
  have h1 := dv_take (some_getD (xs := x) (k := i) (by omega))
  have h2 := dv_take (some_getD (xs := ordL) (k := i) (by simpa [ordL] using hi))
  have b1 := dv_byt _ (byt_take hb i)
  have b2 := dv_byt _ (byt_take ordL_byt i)
  rw [List.length_take, Nat.min_eq_left (by omega)] at b1
  rw [List.length_take, Nat.min_eq_left (by simp [ordL]; omega)] at b2
  rw [h1, h2] at h
  generalize x.getD i 0 = a at *
  generalize ordL.getD i 0 = b at *
  generalize (256 : Int) ^ i = T at *
  have hT : 0 < T := by omega
  rw [decide_eq_decide]
  constructor
  · intro hab
    have : (a + 1) * T ≤ b * T := Int.mul_le_mul_of_nonneg_right (by omega) (by omega)
    rw [Int.add_mul, Int.one_mul] at this
    omega
  · intro hd
    rcases Int.lt_trichotomy a b with h3 | h3 | h3
    · exact h3
    · exact absurd h3 he
    · have : (b + 1) * T ≤ a * T := Int.mul_le_mul_of_nonneg_right (by omega) (by omega)
      rw [Int.add_mul, Int.one_mul] at this
      omega
theorem big_not {x : List Int} (hl : x.length = 33) (hb : Byt x) (h0 : 0 < x.getD 32 0) : decide (dv x < (Lq : Int)) = false := by
  have h := dv_take (some_getD (xs := x) (k := 32) (by omega))
  have b1 := dv_byt _ (byt_take hb 32)
  have hp := Lq_pow
  rw [List.take_of_length_le (by omega)] at h
  generalize x.getD 32 0 = a at *
  generalize (256 : Int) ^ 32 = T at *
  have : 1 * T ≤ a * T := Int.mul_le_mul_of_nonneg_right (by omega) (by omega)
  rw [decide_eq_false_iff_not]
  omega
theorem enOrdR (args : Array Value) (w : World) : (callFunc 64 args).run Tryz.prog w = .ok (.enter 64 args) w := by kernel_rfl
@[irreducible] def ordA : Array Value := (ivs ordL).toArray
@[irreducible] def zer32 : Array Value := (ivs (List.replicate 32 0)).toArray
theorem zero32v (w : World) : (zeroValue 86).run Tryz.prog w = .ok (.agg zer32) w := by unfold zer32; kernel_rfl
theorem ordA_eq : ordA = (ivs ordL).toArray := by unfold ordA; rfl
theorem ordA_size : ordA.size = 32 := by unfold ordA; rfl
theorem ordA_get {k : Nat} (h : k < 32) : ordA[k]? = some (.int .i64 (ordL.getD k 0)) := by
  rw [ordA_eq]
  exact ivs_get (some_getD h)
theorem wl_run {P : Program} {ops : Array Oper} {rest : List Oper} {o : Oper} {a : Act} {w : World} {Q : Exit → Act → World → Prop} (hgd : o.guard = none) {v : Value} (hrun : (execOp a.eval o).run P w = .ok (.value v) w)
    (h : wpList P ops Q rest (a.put o.dst v) w) : wpList P ops Q (o :: rest) a w :=
  wpList_plain hgd fun K hK => by
    unfold Oper.wp
    rw [hrun, Oper.upon_value]
    exact hK _ _ h
set_option maxRecDepth 100000 in
set_option maxHeartbeats 1600000 in
theorem order_r (w : World) : Calls Tryz.prog 64 #[] w fun e w' => e = .returned (.agg ordA) ∧ Below w.heap.size w w' := by
  have HS0 := hide ((St.init w NoB).alloc zer32 86)
  have hz := zero32v
  go_enter Tryz.func64, Tryz.ntmps64
  go_upto_region 1 with fail
  refine wp_region_list ?_
  refine wl_run rfl (v := .agg ordA) (by unfold ordA; kernel_rfl) ?_
  refine wpList_store_row rfl 86 (.tmp 0) (.tmp 1) rfl w.heap.size ordA rfl rfl 86 zer32 (HS0.out.heap 0 rfl) (by unfold ordA; kernel_rfl) (by unfold ordA zer32; rfl) (by unfold ordA; kernel_rfl) ?_
  refine wpList_nil ?_
  have HS := hide (HS0.out.setRow 0 rfl ordA)
  go_wp2_with fail
  refine bodyPost_ret (results_cell_row rfl _ _ w.heap.size _ _ _ _ rfl (HS.out.heap 0 rfl) Tryz.underlying86 rfl (by unfold ordA; kernel_rfl)) rfl ?_
  exact ⟨rfl, HS.out.below⟩
section
variable {P : Program} {ops : Array Oper} {rest : List Oper} {o : Oper} {a : Act} {w : World} {Q : Exit → Act → World → Prop}
theorem wl_callN (hgd : o.guard = none) {f : FuncId} {xs : List Operand} {ts : Array TypeId} {vs : List Value} {R : Ending → World → Prop}
    (ho : o.op = .call { callee := .value (.func f), args := xs.toArray, argTypes := ts }) (hf : ∀ (args : Array Value) (w : World), (callFunc f args).run P w = .ok (.enter f args) w)
    (hx : xs.map a.eval = vs) (hc : Calls P f vs.toArray w R) (h : ∀ e w', R e w' → ∃ v, e = .returned v ∧ wpList P ops Q rest (a.put o.dst v) w') : wpList P ops Q (o :: rest) a w :=
  wpList_plain hgd fun _ hK => wp_call ho hf hx hc fun e w' hr => by
    obtain ⟨v, he, hk⟩ := h e w' hr
    exact ⟨v, he, hK _ _ hk⟩
end
def BlRel (w : World) (g : Nat) (xs : List Int) (iv : Value) (wr : World) : Prop :=
  ∃ j : Nat, j ≤ 32 ∧ iv = .int .i64 ((j : Int) - 1) ∧ Abv xs j ∧ St w NoB wr [.cells g ordA 86, .cells w.heap.size (ivs xs).toArray 88]
set_option maxRecDepth 100000 in
set_option maxHeartbeats 1600000 in
theorem below_r (xs : List Int) (w : World) (hl : xs.length = 33) (hb : Byt xs) :
    Calls Tryz.prog 65 #[.agg (ivs xs).toArray] w fun e w' => e = .returned (.bool (decide (dv xs < (Lq : Int)))) ∧ Below w.heap.size w w' := by
  have HL := hide hl
  have HB := hide hb
  obtain ⟨bb, hbb⟩ : ∃ b, b = decide (dv xs < (Lq : Int)) := ⟨_, rfl⟩
  rw [← hbb]
  have HBB := hide hbb
  have HS0 := hide ((St.init w NoB).alloc (ivs xs).toArray 88)
  have hz := zero32v
  clear hl hb hbb
  go_enter Tryz.func65, Tryz.ntmps65
  go_upto_region 1 with fail
  refine wp_region_list ?_
  refine wl_callN rfl rfl enOrdR rfl (order_r _) ?_
  rintro e w1 ⟨rfl, hb1⟩
  refine ⟨_, rfl, ?_⟩
  have HS1 := hide (HS0.out.call hb1)
  refine wpList_plain rfl ?_
  intro K hK
  go_simp
  refine hK _ _ ?_
  clear hK K
  have HS2 := hide (HS1.out.alloc zer32 86)
  obtain ⟨g, hg⟩ : ∃ g, g = w1.heap.size := ⟨_, rfl⟩
  rw [← hg] at HS2
  have HS3 := hide (show St w NoB _ [.cells g ordA 86, .cells w.heap.size (ivs xs).toArray 88] from HS2.out.setRow 0 rfl ordA)
  refine wpList_store_row rfl 86 (.tmp 3) (.tmp 5) rfl g ordA (by rw [hg]; rfl) rfl 86 _ (HS2.out.heap 0 rfl) (by rw [ordA_size]; kernel_rfl) (by rw [ordA_size]; unfold zer32; rfl) (by unfold ordA; kernel_rfl) ?_
  refine wpList_nil ?_
  have hgE : w1.heap.size = g := hg.symm
  simp only [hgE]
  generalize ((w1.alloc (.cells zer32 86)).setRow g ordA) = wq at HS3 ⊢
  clear hgE hg HS2 HS1 hb1 hz
  have c32 : wq.cell? ⟨w.heap.size, 32, none⟩ = some (.int .i64 (xs.getD 32 0)) := by rw [HS3.out.cell 1 rfl 32]; exact ivs_get (some_getD (by rw [HL.out]; omega))
  have h32 := byt_getD HB.out 32
  have HAB := hide (fun h0 => abv_start HL.out h0)
  have HBG := hide (fun h0 => big_not HL.out HB.out h0)
  obtain ⟨t, ht⟩ : ∃ t, t = xs.getD 32 0 := ⟨_, rfl⟩
  rw [← ht] at c32 h32 HAB HBG
  clear ht
  by_cases ht0 : 0 < t
  · have d0 : decide (0 < t) = true := by simp; omega
    have hbf := HBB.out
    rw [HBG.out ht0] at hbf
    subst hbf
    go_wp2_with fail
    go_ret
    exact ⟨rfl, HS3.out.below⟩
  · have d0 : decide (0 < t) = false := by simp; omega
    have HA := hide (HAB.out (by omega))
    clear ht0 HAB HBG
    go_wp2_with fail
    go_loopw [4] (fun i wr => BlRel w g xs i wr) (fun i _ => (intOf i + 1).toNat)
    case atStart => exact ⟨32, by omega, rfl, HA.out, HS3.out⟩
    case round =>
      clear HS3 c32 h32 d0 HA
      obtain ⟨j, hj, rfl, hA, hS⟩ := hrel
      have HA := hide hA
      have HS := hide hS
      cases j with
      | zero =>
        have hbf := HBB.out
        rw [abv_end hA] at hbf
        subst hbf
        clear hA hS
        go_wp2_with fail
        go_ret
        exact ⟨rfl, HS.out.below⟩
      | succ i =>
        have dj : decide ((0 : Int) ≤ (i : Int)) = true := by simp
        have i33 : (i : Int) < 33 := by omega
        have i32 : (i : Int) < 32 := by omega
        have e1 : (((i + 1 : Nat) : Int) - 1) = (i : Int) := by omega
        have c0 : wr.drew.cell? ⟨w.heap.size, i, none⟩ = some (.int .i64 (xs.getD i 0)) := by rw [hS.drew.cell 1 rfl i]; exact ivs_get (some_getD (by rw [HL.out]; omega))
        have c1 : wr.drew.cell? ⟨g, i, none⟩ = some (.int .i64 (ordL.getD i 0)) := by rw [hS.drew.cell 0 rfl i]; exact ordA_get (by omega)
        have HST := hide (fun he => abv_step HL.out (i := i) (by omega) hA he)
        have HNE := hide (fun he => abv_ne HL.out HB.out (i := i) (by omega) hA he)
        rw [← HBB.out] at HNE
        obtain ⟨x, hx⟩ : ∃ x, x = xs.getD i 0 := ⟨_, rfl⟩
        obtain ⟨y, hy⟩ : ∃ x, x = ordL.getD i 0 := ⟨_, rfl⟩
        rw [← hx] at c0 HST HNE
        rw [← hy] at c1 HST HNE
        clear hx hy hA hS
        simp only [e1]
        by_cases hxy : x = y
        · have dn : (x != y) = false := by simp [hxy]
          have dn2 : decide (x = y) = true := by simp [hxy]
          have HA2 := hide (HST.out hxy)
          subst hxy
          clear HST HNE
          go_upto_region 7 with fail
          refine wp_region_T [(0, 1), (1, 1), (2, 0), (3, 1), (4, 1), (5, 0), (6, 1)] (by kernel_rfl) (by kernel_rfl) (fun _ _ _ _ h => h) ?_
          go_wp2_with (first | (refine wpT_nil ?_)   | ((with_reducible refine fromT_refl ?_); (try simp only [Act.put, nq1, nq2, nq3, nq4, nq5, nq6]))   | ((with_reducible refine fromT_mk (by assumption) ?_); (try simp only [Act.put, nq1, nq2, nq3, nq4, nq5, nq6]))   | (refine wpT_pure (v := ?_) rfl rfl ?_ ?_; rotate_left; (intro wx; go_simp; try go_bits) <;> (with_reducible rfl); (try simp only [Act.put, nq1, nq2, nq3, nq4, nq5, nq6]))   | (refine wpT_load (v := ?_) rfl rfl rfl ?_ ?_; rotate_left; (go_simp; try go_bits) <;> (with_reducible rfl); (try simp only [Act.put, nq1, nq2, nq3, nq4, nq5, nq6]))   | (refine wpT_read (v := ?_) rfl rfl ?_ ?_; rotate_left; (intro wx hx; go_simp; try go_bits) <;> (with_reducible rfl); (try simp only [Act.put, nq1, nq2, nq3, nq4, nq5, nq6]))   | (refine wpT_call rfl rfl ?_; intro K hK)   | (refine wpT_late rfl rfl ?_; intro K hK)   | (refine wpT_any rfl rfl ?_; intro K hK)   | (refine wpT_skip rfl rfl ?_; (try simp only [Act.put, nq1, nq2, nq3, nq4, nq5, nq6])))
          go_roundw
          case rel => exact ⟨i, by omega, by go_num, HA2.out, HS.out.drew⟩
          case measure => (simp [intOf]) <;> omega
        · have dn : (x != y) = true := by simp [hxy]
          have dn2 : decide (x = y) = false := by simp [hxy]
          have HN := HNE.out hxy
          clear HST HNE hxy
          go_upto_region 7 with fail
          refine wp_region_T [(0, 1), (1, 1), (2, 0), (3, 1), (4, 1), (5, 0), (6, 1)] (by kernel_rfl) (by kernel_rfl) (fun _ _ _ _ h => h) ?_
          go_wp2_with (first | (refine wpT_nil ?_)   | ((with_reducible refine fromT_refl ?_); (try simp only [Act.put, nq1, nq2, nq3, nq4, nq5, nq6]))   | ((with_reducible refine fromT_mk (by assumption) ?_); (try simp only [Act.put, nq1, nq2, nq3, nq4, nq5, nq6]))   | (refine wpT_pure (v := ?_) rfl rfl ?_ ?_; rotate_left; (intro wx; go_simp; try go_bits) <;> (with_reducible rfl); (try simp only [Act.put, nq1, nq2, nq3, nq4, nq5, nq6]))   | (refine wpT_load (v := ?_) rfl rfl rfl ?_ ?_; rotate_left; (go_simp; try go_bits) <;> (with_reducible rfl); (try simp only [Act.put, nq1, nq2, nq3, nq4, nq5, nq6]))   | (refine wpT_read (v := ?_) rfl rfl ?_ ?_; rotate_left; (intro wx hx; go_simp; try go_bits) <;> (with_reducible rfl); (try simp only [Act.put, nq1, nq2, nq3, nq4, nq5, nq6]))   | (refine wpT_call rfl rfl ?_; intro K hK)   | (refine wpT_late rfl rfl ?_; intro K hK)   | (refine wpT_any rfl rfl ?_; intro K hK)   | (refine wpT_skip rfl rfl ?_; (try simp only [Act.put, nq1, nq2, nq3, nq4, nq5, nq6])))
          refine wp_region_T [(0, 1), (1, 1), (2, 0), (3, 1), (4, 1), (5, 0), (6, 1), (7, 1)] (by kernel_rfl) (by kernel_rfl) (fun _ _ _ _ h => h) ?_
          go_wp2_with (first | (refine wpT_nil ?_)   | ((with_reducible refine fromT_refl ?_); (try simp only [Act.put, nq1, nq2, nq3, nq4, nq5, nq6]))   | ((with_reducible refine fromT_mk (by assumption) ?_); (try simp only [Act.put, nq1, nq2, nq3, nq4, nq5, nq6]))   | (refine wpT_pure (v := ?_) rfl rfl ?_ ?_; rotate_left; (intro wx; go_simp; try go_bits) <;> (with_reducible rfl); (try simp only [Act.put, nq1, nq2, nq3, nq4, nq5, nq6]))   | (refine wpT_load (v := ?_) rfl rfl rfl ?_ ?_; rotate_left; (go_simp; try go_bits) <;> (with_reducible rfl); (try simp only [Act.put, nq1, nq2, nq3, nq4, nq5, nq6]))   | (refine wpT_read (v := ?_) rfl rfl ?_ ?_; rotate_left; (intro wx hx; go_simp; try go_bits) <;> (with_reducible rfl); (try simp only [Act.put, nq1, nq2, nq3, nq4, nq5, nq6]))   | (refine wpT_call rfl rfl ?_; intro K hK)   | (refine wpT_late rfl rfl ?_; intro K hK)   | (refine wpT_any rfl rfl ?_; intro K hK)   | (refine wpT_skip rfl rfl ?_; (try simp only [Act.put, nq1, nq2, nq3, nq4, nq5, nq6])))
          go_ret
          exact ⟨rfl, HS.out.drew.drew.below⟩
def MyRel (w : World) (l : List UInt8) (iv : Value) (wr : World) : Prop :=
  ∃ i : Nat, i ≤ 32 ∧ iv = .int .i64 (i : Int) ∧ St w NoB wr [.cells w.heap.size (ivs ((rwL l).take i ++ List.replicate (33 - i) 0)).toArray 88]
theorem zero33v (w : World) : (zeroValue 88).run Tryz.prog w = .ok (.agg (ivs (List.replicate 33 0)).toArray) w := by kernel_rfl
theorem rwL_len (l : List UInt8) : (rwL l).length = l.length := by simp [rwL]
theorem rwL_get {l : List UInt8} {k : Nat} {c : UInt8} (h : l[k]? = some c) : (rwL l)[k]? = some (c.toNat : Int) := by simp [rwL, h]
theorem part_get {xs : List Int} {n i : Nat} (hl : xs.length + 1 = n) (hi : i < xs.length) : (xs.take i ++ List.replicate (n - i) 0)[i]? = some 0 := by
  have h : (xs.take i).length = i := by rw [List.length_take]; omega
  rw [List.getElem?_append_right (by rw [h]; exact Nat.le_refl _), h, Nat.sub_self, List.getElem?_replicate, if_pos (by omega)]
theorem part_set {xs : List Int} {n i : Nat} {x : Int} (hl : xs.length + 1 = n) (hx : xs[i]? = some x) : (xs.take i ++ List.replicate (n - i) 0).set i x = xs.take (i + 1) ++ List.replicate (n - (i + 1)) 0 := by
  have hi := (List.getElem?_eq_some_iff.1 hx).1
  have h : (xs.take i).length = i := by rw [List.length_take]; omega
  rw [List.set_append_right _ _ (by rw [h]; exact Nat.le_refl _), h, Nat.sub_self, show n - i = (n - (i + 1)) + 1 from by omega, List.replicate_succ, List.set_cons_zero, List.take_add_one, hx, List.append_assoc]
  rfl
theorem enBelowR (args : Array Value) (w : World) : (callFunc 65 args).run Tryz.prog w = .ok (.enter 65 args) w := by kernel_rfl
set_option maxRecDepth 100000 in
set_option maxHeartbeats 1600000 in
theorem mayR (A : Option Addr) (n c : Nat) (l : List UInt8) (w : World) (hl : l.length = n) (hr : Rd w (.slice A n c) 1 n (bvs l)) :
    Calls Tryz.prog 33 #[.slice A n c] w fun e w' => e = .returned (.bool (mayS l)) ∧ Below w.heap.size w w' := by
  have HR := hide hr
  have HL := hide hl
  by_cases h32 : n = 32
  · subst h32
    have hz := zero33v
    have HS0 := hide (show St w NoB _ [.cells w.heap.size (ivs ((rwL l).take 0 ++ List.replicate (33 - 0) 0)).toArray 88] from (St.init w NoB).alloc (ivs (List.replicate 33 0)).toArray 88)
    clear hr hl
    go_enter Tryz.func33, Tryz.ntmps33
    go_wp2_with fail
    go_loopw [11] (fun i wr => MyRel w l i wr) (fun i _ => 32 - (intOf i).toNat)
    case atStart => exact ⟨0, by omega, rfl, HS0.out⟩
    case round =>
      clear HS0 hz
      obtain ⟨i, hi, rfl, hS⟩ := hrel
      have HS := hide hS
      by_cases hlt : i < 32
      · have d32 : decide ((i : Int) < 32) = true := by simp; omega
        have i32 : (i : Int) < 32 := by omega
        have i33 : (i : Int) < 33 := by omega
        have hxb : l[i]? = some (l.getD i 0) := by rw [List.getD_eq_getElem?_getD, List.getElem?_eq_getElem (by rw [HL.out]; exact hlt)]; rfl
        obtain ⟨b, o, rfl, hcb⟩ := rd_at' (HR.out.st hS) (bvs_get hxb)
        obtain ⟨ch, hch⟩ : ∃ c : Nat, c = (l.getD i 0).toNat := ⟨_, rfl⟩
        have hc8 : ch < 256 := by rw [hch]; exact UInt8.toNat_lt _
        rw [← hch] at hcb
        have hLL : (rwL l).length + 1 = 33 := by rw [rwL_len, HL.out]
        have c0 : wr.cell? ⟨w.heap.size, i, none⟩ = some (.int .i64 0) := by rw [hS.cell 0 rfl i]; exact ivs_get (part_get hLL (by omega))
        have f0 := hS.free 0 rfl i
        have HT := hide (part_set hLL (x := (ch : Int)) (by rw [hch]; exact rwL_get hxb))
        clear hS hch hxb hLL
        go_wp2_with fail
        go_roundw
        case rel =>
          have h3 := HS.out.setCell 0 rfl i (.int .i64 (ch : Int))
          rw [List.set_cons_zero, ivs_set, HT.out] at h3
          exact ⟨i + 1, by omega, by go_num, h3⟩
        case measure => (simp [intOf]) <;> omega
      · obtain rfl : i = 32 := by omega
        have hx : (rwL l).take 32 ++ List.replicate (33 - 32) 0 = rwL l ++ [0] := by rw [List.take_of_length_le (by rw [rwL_len, HL.out]; exact Nat.le_refl _)]; rfl
        rw [hx] at hS
        have hby : Byt (rwL l ++ [0]) := fun x hx => by
          rcases List.mem_append.1 hx with h | h
          · exact rwL_byt l x h
          · simp at h; omega
        have hlen : (rwL l ++ [0]).length = 33 := by rw [List.length_append, rwL_len, HL.out]; rfl
        have hdv : dv (rwL l ++ [0]) = (bval l : Int) := by rw [dv_append, rwL_dv]; simp [dv]
        have HB := hide (fun W => below_r (rwL l ++ [0]) W hlen hby)
        rw [hdv] at HB
        have he : mayS l = decide ((bval l : Int) < (Lq : Int)) := by
          unfold mayS
          rw [decide_eq_true HL.out, Bool.true_and, decide_eq_decide]
          omega
        rw [← he] at HB
        obtain ⟨xa, hxa⟩ : ∃ a, a = (ivs (rwL l ++ [0])).toArray := ⟨_, rfl⟩
        have hsz : xa.size = 33 := by rw [hxa, List.size_toArray, ivs_len, hlen]
        rw [← hxa] at HB hS
        have HS1 := hide hS
        clear hS HS hx hby hlen hdv he hxa
        go_upto_region 9 with fail
        refine wp_region_list ?_
        refine wpList_load_row rfl 88 (.tmp 3) rfl w.heap.size rfl 88 xa _ _ (HS1.out.heap 0 rfl) Tryz.underlying88 rfl (by rw [hsz]; kernel_rfl) ?_
        refine wl_callN rfl rfl enBelowR rfl (HB.out _) ?_
        rintro e w2 ⟨rfl, hb2⟩
        refine ⟨_, rfl, ?_⟩
        have HS2 := hide (HS1.out.call hb2)
        go_wp2_with fail
        go_ret
        exact ⟨rfl, HS2.out.below⟩
  · have d32 : decide ((n : Int) = 32) = false := by simp; omega
    have d32b : ((n : Int) != 32) = true := by simp; omega
    have n32 : ¬ (n : Int) = 32 := by omega
    have hm : mayS l = false := by
      unfold mayS
      rw [HL.out, decide_eq_false h32, Bool.false_and]
    rw [hm]
    clear hr hl h32 hm
    go_enter Tryz.func33, Tryz.ntmps33
    go_wp2_with fail
    go_ret
    exact ⟨rfl, Below.refl _ _⟩
end Go.Proofs.YtkelegjppnfoaaaGreatDoor.S3

namespace Go.Proofs.YtkelegjppnfoaaaGreatDoor.S3
open Go.RowKit
set_option linter.unusedSimpArgs false

def crS (c : Int) (ys : List Int) : Nat → Int
  | 0 => c
  | k + 1 => (crS c ys k + ys.getD k 0) / 256
def dgS (c : Int) (ys : List Int) (k : Nat) : Int := (crS c ys k + ys.getD k 0) % 256
def dgL (c : Int) (ys : List Int) (k : Nat) : List Int := (List.range k).map (dgS c ys)
theorem dgL_len (c : Int) (ys : List Int) (k : Nat) : (dgL c ys k).length = k := by simp [dgL]
theorem dgL_succ (c : Int) (ys : List Int) (k : Nat) : dgL c ys (k + 1) = dgL c ys k ++ [dgS c ys k] := by unfold dgL; rw [List.range_succ, List.map_append]; rfl
theorem dgL_byt (c : Int) (ys : List Int) (k : Nat) : Byt (dgL c ys k) := fun x hx => by
  simp only [dgL, List.mem_map] at hx
  obtain ⟨j, _, rfl⟩ := hx
  unfold dgS
  omega
theorem split256 (T s : Int) : T * (s % 256) + T * 256 * (s / 256) = T * s := by
  rw [Int.mul_assoc, ← Int.mul_add, Int.emod_add_mul_ediv]
theorem dgL_dv (c : Int) (ys : List Int) : ∀ k, k ≤ ys.length → dv (dgL c ys k) + 256 ^ k * crS c ys k = c + dv (ys.take k)
  | 0, _ => by simp [dgL, crS, dv]
  | k + 1, h => by
    have hx : ys[k]? = some ys[k] := List.getElem?_eq_getElem (by omega)
    have hs := getD_of hx
    have ih := dgL_dv c ys k (by omega)
    rw [dgL_succ, dv_append, dgL_len, dv_take hx]
    simp only [dv, Int.mul_zero, Int.add_zero, dgS, crS, hs, Int.pow_succ]
    have h1 := split256 ((256 : Int) ^ k) (crS c ys k + ys[k])
    rw [Int.mul_add] at h1
    rw [Int.mul_comm ys[k]]
    omega
theorem crS_bd (c : Int) (ys : List Int) (hc : -4 ≤ c ∧ c ≤ 4) (hy : ∀ k, -512 ≤ ys.getD k 0 ∧ ys.getD k 0 ≤ 512) : ∀ k, -4 ≤ crS c ys k ∧ crS c ys k ≤ 4
  | 0 => hc
  | k + 1 => by
    have ih := crS_bd c ys hc hy k
    have := hy k
    rw [crS]
    omega
theorem dgL_all (c : Int) (ys : List Int) (hl : ys.length = 33) (h0 : 0 ≤ c + dv ys) (h1 : c + dv ys < 256 ^ 33) : dv (dgL c ys 33) = c + dv ys := by
  have h := dgL_dv c ys 33 (by omega)
  rw [List.take_of_length_le (by omega)] at h
  have hb := dv_byt _ (dgL_byt c ys 33)
  rw [dgL_len] at hb
  generalize crS c ys 33 = k at *
  have hT : (256 : Int) ^ 33 = 29642774844752946028434172162224104410437116074403984394101141506025761187823616 := by decide
  rw [hT] at h hb h1
  omega
def wkS (c : Int) (ys xs : List Int) (k : Nat) : List Int := dgL c ys k ++ xs.drop k
theorem wkS_get (c : Int) (ys xs : List Int) (h : xs.length = 33) {k : Nat} (hk : k < 33) : (wkS c ys xs k)[k]? = some (xs.getD k 0) := by
  unfold wkS
  rw [List.getElem?_append_right (by rw [dgL_len]; omega), dgL_len, Nat.sub_self, List.getElem?_drop, Nat.add_zero]
  exact some_getD (by omega)
theorem wkS_set (c : Int) (ys xs : List Int) (h : xs.length = 33) {k : Nat} (hk : k < 33) : (wkS c ys xs k).set k (dgS c ys k) = wkS c ys xs (k + 1) := by
  unfold wkS
  rw [List.set_append_right _ _ (by rw [dgL_len]; omega), dgL_len, Nat.sub_self, List.drop_eq_getElem_cons (by omega), List.set_cons_zero, dgL_succ, List.append_assoc]
  rfl
theorem wkS_all (c : Int) (ys xs : List Int) (h : xs.length = 33) : wkS c ys xs 33 = dgL c ys 33 := by
  unfold wkS
  rw [List.drop_of_length_le (by omega), List.append_nil]
def dbL (xs : List Int) : List Int := xs.map (2 * ·)
def sbL (xs : List Int) : List Int := List.zipWith (· - ·) xs (ordL ++ [0])
theorem dbL_dv : ∀ xs : List Int, dv (dbL xs) = 2 * dv xs
  | [] => rfl
  | x :: xs => by
    show 2 * x + 256 * dv (dbL xs) = _
    rw [dbL_dv xs, dv]
    omega
theorem dv_zip : ∀ (xs ys : List Int), xs.length = ys.length → dv (List.zipWith (· - ·) xs ys) = dv xs - dv ys
  | [], [], _ => rfl
  | x :: xs, y :: ys, h => by
    simp only [List.zipWith_cons_cons, dv, dv_zip xs ys (by simpa using h)]
    omega
  | [], _ :: _, h => by simp at h
  | _ :: _, [], h => by simp at h
theorem sbL_dv {xs : List Int} (h : xs.length = 33) : dv (sbL xs) = dv xs - (Lq : Int) := by
  unfold sbL
  rw [dv_zip _ _ (by rw [h]; rfl), dv_append, ordL_dv]
  simp [dv]
theorem dbL_getD {xs : List Int} (h : xs.length = 33) {k : Nat} : (dbL xs).getD k 0 = 2 * xs.getD k 0 := by
  unfold dbL
  simp only [List.getD_eq_getElem?_getD, List.getElem?_map]
  cases xs[k]? <;> simp
theorem sbL_getD {xs : List Int} (h : xs.length = 33) {k : Nat} (hk : k < 33) : (sbL xs).getD k 0 = xs.getD k 0 - (if k < 32 then ordL.getD k 0 else 0) := by
  unfold sbL
  rw [List.getD_eq_getElem?_getD, List.getElem?_zipWith, some_getD (by omega)]
  rcases Nat.lt_or_ge k 32 with h32 | h32
  · rw [if_pos h32, List.getElem?_append_left (by simpa [ordL] using h32), some_getD (by simpa [ordL] using h32)]
    rfl
  · obtain rfl : k = 32 := by omega
    rfl
theorem dbL_bd {xs : List Int} (h : xs.length = 33) (hb : Byt xs) (k : Nat) : -512 ≤ (dbL xs).getD k 0 ∧ (dbL xs).getD k 0 ≤ 512 := by
  rw [dbL_getD h]
  have := byt_getD hb k
  omega
theorem sbL_bd {xs : List Int} (h : xs.length = 33) (hb : Byt xs) (k : Nat) : -512 ≤ (sbL xs).getD k 0 ∧ (sbL xs).getD k 0 ≤ 512 := by
  rcases Nat.lt_or_ge k 33 with hk | hk
  · rw [sbL_getD h hk]
    have := byt_getD hb k
    have := byt_getD ordL_byt k
    split <;> omega
  · rw [List.getD_eq_getElem?_getD, List.getElem?_eq_none (by unfold sbL; rw [List.length_zipWith, h]; exact Nat.le_trans (Nat.min_le_left _ _) hk)]
    simp
theorem bval_bit (l : List UInt8) {q r : Nat} {c : UInt8} (hc : l[q]? = some c) (hr : r < 8) : c.toNat / 2 ^ r % 2 = bval l / 2 ^ (8 * q + r) % 2 := by
  have hq := (List.getElem?_eq_some_iff.1 hc).1
  have h1 : bval l = bval (l.take q) + 256 ^ q * (c.toNat + 256 * bval (l.drop (q + 1))) := by
    have e := bval_append (l.take q) (l.drop q)
    rw [List.take_append_drop, List.length_take, Nat.min_eq_left (by omega)] at e
    rw [e, List.drop_eq_getElem_cons hq]
    rw [List.getElem?_eq_getElem hq] at hc
    injection hc with hc
    rw [hc, bval]
  have h2 := bval_lt (l.take q)
  rw [List.length_take, Nat.min_eq_left (by omega)] at h2
  have hp : (2 : Nat) ^ (8 * q + r) = 256 ^ q * 2 ^ r := by rw [Nat.pow_add, Nat.pow_mul]
  rw [hp, ← Nat.div_div_eq_div_mul, h1, Nat.add_mul_div_left _ _ (Nat.pos_of_ne_zero (by omega)), Nat.div_eq_of_lt h2, Nat.zero_add]
  generalize bval (l.drop (q + 1)) = R
  generalize c.toNat = C
  match r, hr with
  | 0, _ => omega
  | 1, _ => omega
  | 2, _ => omega
  | 3, _ => omega
  | 4, _ => omega
  | 5, _ => omega
  | 6, _ => omega
  | 7, _ => omega
theorem redR_step (B i : Nat) (bit : Nat) (hbit : bit = B / 2 ^ i % 2) : (2 * (B / 2 ^ (i + 1) % Lq) + bit) % Lq = B / 2 ^ i % Lq := by
  have h1 : B / 2 ^ i = 2 * (B / 2 ^ (i + 1)) + bit := by
    rw [hbit, Nat.pow_succ, ← Nat.div_div_eq_div_mul]
    omega
  rw [h1, Nat.add_mod, Nat.mul_mod_mod, ← Nat.add_mod]
def RdI (l : List UInt8) (j : Nat) (xs : List Int) : Prop := xs.length = 33 ∧ Byt xs ∧ dv xs = ((bval l / 2 ^ j % Lq : Nat) : Int)
def RjRel (w : World) (l : List UInt8) (g3 g4 : Nat) (iv : Value) (wr : World) : Prop :=
  ∃ (j : Nat) (xs : List Int), j ≤ 8 * l.length ∧ iv = .int .i64 ((j : Int) - 1) ∧ RdI l j xs ∧ St w NoB wr [.cells g4 (ivs xs).toArray 88, .cells g3 ordA 86]
def RkRel (w : World) (c : Int) (ys xs : List Int) (g3 g4 : Nat) (cv kv : Value) (wr : World) : Prop :=
  ∃ k : Nat, k ≤ 33 ∧ kv = .int .i64 (k : Int) ∧ cv = .int .i64 (crS c ys k) ∧ St w NoB wr [.cells g4 (ivs (wkS c ys xs k)).toArray 88, .cells g3 ordA 86]
def RoRel (w : World) (xs : List Int) (g4 gb : Nat) (kv : Value) (wr : World) : Prop :=
  ∃ k : Nat, k ≤ 32 ∧ kv = .int .i64 (k : Int) ∧ St w NoB wr [.row (.slice (some ⟨gb, 0, none⟩) 32 32) 5 1 32 (bvs ((xs.take k).map (fun x : Int => UInt8.ofNat x.toNat) ++ List.replicate (32 - k) 0)), .cells g4 (ivs xs).toArray 88]
theorem enReduceR (args : Array Value) (w : World) : (callFunc 25 args).run Tryz.prog w = .ok (.enter 25 args) w := by kernel_rfl
set_option maxRecDepth 100000 in
set_option maxHeartbeats 4000000 in
theorem reduceR (A : Option Addr) (n c : Nat) (l : List UInt8) (w : World) (hl : l.length = n) (hn : n ≤ 64) (hr : Rd w (.slice A n c) 1 n (bvs l)) :
    Calls Tryz.prog 25 #[.slice A n c] w fun e w' => ∃ B d, e = .returned (.slice B 32 d) ∧ Below w.heap.size w w' ∧ w'.ownsRow w.heap.size 5 1 (.slice B 32 d) 32 (bvs (redL l)) := by
  have HR := hide hr
  have HL := hide hl
  have HN := hide hn
  have dn : decide (64 < (n : Int)) = false := by simp; omega
  have n64 : (n : Int) ≤ 64 := by omega
  have hz := zero32v
  have hz3 := zero33v
  have w8 : wrap64 (8 * (n : Int)) = 8 * (n : Int) := IntWalk.wrap64_in _ ⟨by omega, by omega⟩
  clear hr hl hn
  go_enter Tryz.func25, Tryz.ntmps25
  go_upto_region 3 with fail
  refine wp_region_list ?_
  refine wl_callN rfl rfl enOrdR rfl (order_r _) ?_
  rintro e w1 ⟨rfl, hb1⟩
  refine ⟨_, rfl, ?_⟩
  have HS1 := hide ((St.init w NoB).call hb1)
  refine wpList_plain rfl ?_
  intro K hK
  go_simp
  refine hK _ _ ?_
  clear hK K
  have HS2 := hide (HS1.out.alloc zer32 86)
  obtain ⟨g3, hg⟩ : ∃ g, g = w1.heap.size := ⟨_, rfl⟩
  rw [← hg] at HS2
  have HS3 := hide (show St w NoB _ [.cells g3 ordA 86] from HS2.out.setRow 0 rfl ordA)
  refine wpList_store_row rfl 86 (.tmp 3) (.tmp 15) rfl g3 ordA (by rw [hg]; rfl) rfl 86 _ (HS2.out.heap 0 rfl) (by rw [ordA_size]; kernel_rfl) (by rw [ordA_size]; unfold zer32; rfl) (by unfold ordA; kernel_rfl) ?_
  refine wpList_nil ?_
  have hgE : w1.heap.size = g3 := hg.symm
  simp only [hgE]
  generalize ((w1.alloc (.cells zer32 86)).setRow g3 ordA) = wq at HS3 ⊢
  clear hgE hg HS2 HS1 hb1 hz
  have HS4 := hide (HS3.out.alloc (ivs (List.replicate 33 0)).toArray 88)
  go_wp2_with fail
  obtain ⟨g4, hg⟩ : ∃ g, g = wq.heap.size := ⟨_, rfl⟩
  rw [← hg] at HS4 ⊢
  clear hg HS3 hz3
  have hI0 : RdI l (8 * n) (List.replicate 33 0) := by
    refine ⟨rfl, fun x hx => by have := (List.mem_replicate.1 hx).2; omega, ?_⟩
    have hb := bval_lt l
    rw [HL.out] at hb
    rw [Nat.div_eq_of_lt (by rw [Nat.pow_mul]; exact hb), Nat.zero_mod]
    decide
  have HI0 := hide hI0
  clear hI0
  go_loopw [5] (fun i wr => RjRel w l g3 g4 i wr) (fun i _ => (intOf i + 1).toNat)
  case atStart => exact ⟨8 * n, _, by rw [HL.out]; omega, by go_num, HI0.out, HS4.out⟩
  case round =>
    clear HS4 HI0 w8
    obtain ⟨j, xs, hj, rfl, hI, hS⟩ := hrel
    rw [HL.out] at hj
    have HS := hide hS
    have HI := hide hI
    clear hS hI
    cases j with
    | zero =>
      have d0 : decide ((0 : Int) ≤ -1) = false := by decide
      have hI := HI.out
      have hV : dv xs = ((bval l % Lq : Nat) : Int) := by rw [hI.2.2, Nat.pow_zero, Nat.div_one]
      have hV2 : 0 ≤ dv xs ∧ dv xs < (Lq : Int) := by
        rw [hV]
        have := Nat.mod_lt (bval l) (Lq_lt.2)
        omega
      have hx := dv_take (some_getD (xs := xs) (k := 32) (by rw [hI.1]; omega))
      have hb32 := dv_byt _ (byt_take hI.2.1 32)
      rw [List.length_take, hI.1] at hb32
      rw [List.take_of_length_le (by rw [hI.1]; omega)] at hx
      have hx32 := byt_getD hI.2.1 32
      have hT : dv (xs.take 32) = dv xs := by
        have h4 := Lq_pow.1
        rw [show min 32 33 = 32 from rfl] at hb32
        generalize xs.getD 32 0 = t at *
        generalize (256 : Int) ^ 32 = T at *
        rcases Int.lt_or_le 0 t with h0 | h0
        · have : 1 * T ≤ t * T := Int.mul_le_mul_of_nonneg_right (by omega) (by omega)
          omega
        · obtain rfl : t = 0 := by omega
          omega
      have hout : (xs.take 32).map (fun x : Int => UInt8.ofNat x.toNat) = redL l := by
        have h := byt_leB _ (byt_take hI.2.1 32)
        rw [List.length_take, hI.1, hT, hV] at h
        rw [h]
        unfold redL
        rfl
      have HOUT := hide hout
      clear hI hV hV2 hx hb32 hx32 hT hout hj
      go_upto_region 27 with (refine wl_makeB (n := 32) rfl rfl Tryz.underlying22 infoB HS.out rfl rfl (by decide) ?_; intro gb w6 hS6 hb6; have HS6 := hide hS6; clear hS6 hb6)
      have HS7 := hide (HS6.out.pickL [0, 1] (by decide) rfl : St w NoB w6 [.row (.slice (some ⟨gb, 0, none⟩) 32 32) 5 1 32 (bvs (List.replicate 32 0)), .cells g4 (ivs xs).toArray 88])
      clear HS6 HS
      go_wp2_with fail
      go_loopw [79] (fun k wr => RoRel w xs g4 gb k wr) (fun k _ => 32 - (intOf k).toNat)
      case atStart => exact ⟨0, by omega, rfl, HS7.out⟩
      case round =>
        clear HS7
        obtain ⟨k, hk, rfl, hS⟩ := hrel
        have HS := hide hS
        by_cases hlt : k < 32
        · have d32 : decide ((k : Int) < 32) = true := by simp; omega
          have k32 : (k : Int) < 32 := by omega
          have k33 : (k : Int) < 33 := by omega
          have c0 : wr.cell? ⟨g4, k, none⟩ = some (.int .i64 (xs.getD k 0)) := by rw [hS.cell 1 rfl k]; exact ivs_get (some_getD (by rw [HI.out.1]; omega))
          have hne : gb ≠ g4 := fun e => hS.apart 0 1 _ _ g4 (by decide) rfl rfl (by rw [e]; rfl) rfl
          have hne2 : g4 ≠ gb := fun e => hne e.symm
          obtain ⟨g', c', hv, _, _, hcell, hfree, _⟩ := hS.rowOpen 0 rfl (by omega)
          injection hv with hv1 _ hv3
          injection hv1 with hv1
          injection hv1 with hv1
          subst hv1 hv3
          have hlen : ((xs.take k).map (fun x : Int => UInt8.ofNat x.toNat)).length = k := by rw [List.length_map, List.length_take, HI.out.1]; omega
          have ce := hcell k (.int .u8 ((0 : UInt8).toNat : Int)) (bvs_get (by rw [List.getElem?_append_right (by rw [hlen]; exact Nat.le_refl _), hlen, Nat.sub_self, List.getElem?_replicate, if_pos (by omega)]))
          have fe := hfree k
          have hxb := byt_getD HI.out.2.1 k
          obtain ⟨x, hx⟩ : ∃ x : Nat, (x : Int) = xs.getD k 0 := ⟨(xs.getD k 0).toNat, by omega⟩
          rw [← hx] at c0 hxb
          have x256 : (x : Int) < 256 := hxb.2
          have hT : ((xs.take k).map (fun x : Int => UInt8.ofNat x.toNat) ++ List.replicate (32 - k) 0).set k (UInt8.ofNat x) = (xs.take (k + 1)).map (fun x : Int => UInt8.ofNat x.toNat) ++ List.replicate (32 - (k + 1)) 0 := by
            rw [List.set_append_right _ _ (by rw [hlen]; exact Nat.le_refl _), hlen, Nat.sub_self, show 32 - k = (32 - (k + 1)) + 1 from by omega, List.replicate_succ, List.set_cons_zero, List.take_add_one, some_getD (by rw [HI.out.1]; omega), ← hx, Option.toList_some, List.map_append, List.append_assoc]
            rfl
          have hRow := hS.rowSet 0 rfl k (.int .u8 (x : Int)) (by omega)
          rw [List.set_cons_zero, bvs_set _ _ _ (by omega), hT] at hRow
          have HRow := hide hRow
          clear hcell hfree hlen hx hxb hT hRow hS
          go_wp2_with fail
          go_roundw
          case rel => exact ⟨k + 1, by omega, by go_num, HRow.out⟩
          case measure => (simp [intOf]) <;> omega
        · obtain rfl : k = 32 := by omega
          rw [HOUT.out, Nat.sub_self, List.replicate_zero, List.append_nil] at hS
          have HS9 := hide hS
          clear hS HS
          go_wp2_with fail
          go_ret
          exact ⟨_, _, rfl, HS9.out.below, HS9.out.ownsRow 0 rfl⟩
    | succ i =>
      have hn := HN.out
      have HJ := hide hj
      have e1 : (((i + 1 : Nat) : Int) - 1) = (i : Int) := by omega
      simp only [e1]
      have di : decide ((0 : Int) ≤ (i : Int)) = true := by simp
      have i512 : (i : Int) < 512 := by omega
      obtain ⟨q, hq⟩ : ∃ q, q = i / 8 := ⟨_, rfl⟩
      obtain ⟨r, hr⟩ : ∃ r, r = i % 8 := ⟨_, rfl⟩
      have td : (i : Int).tdiv 8 = (q : Int) := by rw [Int.tdiv_eq_ediv_of_nonneg (by omega)]; omega
      have tm : (i : Int).tmod 8 = (r : Int) := by rw [Int.tmod_eq_emod_of_nonneg (by omega)]; omega
      have ed : (i : Int) / 8 = (q : Int) := by omega
      have em : (i : Int) % 8 = (r : Int) := by omega
      have qn : (q : Int) < (n : Int) := by omega
      have r8 : (r : Int) < 8 := by omega
      have hxb : l[q]? = some (l.getD q 0) := by rw [List.getD_eq_getElem?_getD, List.getElem?_eq_getElem (by rw [HL.out]; omega)]; rfl
      obtain ⟨b, o, rfl, hcb⟩ := rd_at' (HR.out.st HS.out) (bvs_get hxb)
      have hbit := bval_bit l hxb (show r < 8 by omega)
      obtain ⟨ch, hch⟩ : ∃ c : Nat, c = (l.getD q 0).toNat := ⟨_, rfl⟩
      have hc8 : ch < 256 := by rw [hch]; exact UInt8.toNat_lt _
      rw [← hch] at hcb hbit
      obtain ⟨bt, hbt⟩ : ∃ t, t = ch / 2 ^ r % 2 := ⟨_, rfl⟩
      obtain ⟨cs, hcs⟩ : ∃ t, t = ch / 2 ^ r := ⟨_, rfl⟩
      have s1 : (ch : Int) / 2 ^ r = (cs : Int) := by rw [hcs, Int.natCast_ediv, Int.natCast_pow]; rfl
      have cs8 : (cs : Int) < 256 := by have := Nat.div_le_self ch (2 ^ r); omega
      have s2 : bits .and .i64 (cs : Int) 1 = (bt : Int) := by rw [i64_and1, hbt, ← hcs]; omega
      have bt2 : bt < 2 := by omega
      have bti : (bt : Int) < 2 := by omega
      have hstep := redR_step (bval l) i bt (by rw [hbt, hbit]; congr 3; omega)
      have HST := hide hstep
      clear hq hr hxb hch hbit hbt hcs hstep hj hn e1
      go_wp2_with fail
      go_loopw [6, 35] (fun cv kv wr => RkRel w (bt : Int) (dbL xs) xs g3 g4 cv kv wr) (fun _ k _ => 33 - (intOf k).toNat)
      case atStart => exact ⟨0, by omega, rfl, rfl, HS.out⟩
      case round =>
        clear HS
        obtain ⟨k, hk, rfl, rfl, hS⟩ := hrel
        have HS := hide hS
        by_cases hlt : k < 33
        · have d33 : decide ((k : Int) < 33) = true := by simp; omega
          have k33 : (k : Int) < 33 := by omega
          have c0 : wr.cell? ⟨g4, k, none⟩ = some (.int .i64 (xs.getD k 0)) := by rw [hS.cell 0 rfl k]; exact ivs_get (wkS_get _ _ xs HI.out.1 hlt)
          have f0 := hS.free 0 rfl k
          have hcb := crS_bd (bt : Int) (dbL xs) (by omega) (dbL_bd HI.out.1 HI.out.2.1) k
          have hxb := byt_getD HI.out.2.1 k
          have HT := hide (wkS_set (bt : Int) (dbL xs) xs HI.out.1 hlt)
          have hD : dgS (bt : Int) (dbL xs) k = (crS (bt : Int) (dbL xs) k + (dbL xs).getD k 0) % 256 := rfl
          have hE : crS (bt : Int) (dbL xs) (k + 1) = (crS (bt : Int) (dbL xs) k + (dbL xs).getD k 0) / 256 := rfl
          rw [dbL_getD HI.out.1] at hD hE
          obtain ⟨cc, hcc⟩ : ∃ x, x = crS (bt : Int) (dbL xs) k := ⟨_, rfl⟩
          obtain ⟨x, hx⟩ : ∃ y, y = xs.getD k 0 := ⟨_, rfl⟩
          obtain ⟨D, hDD⟩ : ∃ y, y = dgS (bt : Int) (dbL xs) k := ⟨_, rfl⟩
          obtain ⟨E, hEE⟩ : ∃ y, y = crS (bt : Int) (dbL xs) (k + 1) := ⟨_, rfl⟩
          rw [← hcc] at hD hE hcb
          rw [← hx] at hD hE hxb c0
          rw [← hDD] at hD HT
          rw [← hEE] at hE
          simp only [← hcc]
          have HEE := hide hEE
          have a1 : bits .and .i64 (cc + 2 * x) 255 = D := by rw [i64_and255]; exact hD.symm
          have a2 : (cc + 2 * x) / 256 = E := hE.symm
          obtain ⟨b0, b1⟩ := hcb
          obtain ⟨b2, b3⟩ := hxb
          clear hD hE hcc hx hDD hEE hS
          go_wp2_with fail
          go_roundw
          case rel =>
            have h3 := HS.out.setCell 0 rfl k (.int .i64 D)
            rw [List.set_cons_zero, ivs_set, HT.out] at h3
            exact ⟨k + 1, by omega, by go_num, by rw [HEE.out], h3⟩
          case measure => (simp [intOf]) <;> omega
        · obtain rfl : k = 33 := by omega
          have hI := HI.out
          rw [wkS_all _ _ xs hI.1] at hS
          have hV : 0 ≤ (bt : Int) + dv (dbL xs) ∧ (bt : Int) + dv (dbL xs) < 256 ^ 33 ∧ dv (dbL xs) = 2 * dv xs ∧ dv xs < (Lq : Int) := by
            have h1 := dbL_dv xs
            have h2 := dv_byt _ hI.2.1
            have h3 : dv xs < (Lq : Int) := by
              rw [hI.2.2]
              have := Nat.mod_lt (bval l / 2 ^ (i + 1)) (Lq_lt.2)
              omega
            have h4 := Lq_pow.1
            have h5 : (256 : Int) ^ 33 = 256 ^ 32 * 256 := Int.pow_succ _ _
            omega
          have hdv := dgL_all (bt : Int) (dbL xs) (by unfold dbL; rw [List.length_map]; exact hI.1) hV.1 hV.2.1
          rw [hV.2.2.1] at hdv
          obtain ⟨ds, hds⟩ : ∃ d, d = dgL (bt : Int) (dbL xs) 33 := ⟨_, rfl⟩
          have hdl : ds.length = 33 := by rw [hds]; exact dgL_len _ _ _
          have hdb : Byt ds := by rw [hds]; exact dgL_byt _ _ _
          rw [← hds] at hS hdv
          have HB := hide (fun W => below_r ds W hdl hdb)
          have HDL := hide hdl
          have HDB := hide hdb
          have HDV := hide hdv
          have HVV := hide hV.2.2.2
          obtain ⟨da, hda⟩ : ∃ a, a = (ivs ds).toArray := ⟨_, rfl⟩
          have hsz : da.size = 33 := by rw [hda, List.size_toArray, ivs_len, hdl]
          have HS1 := hide hS
          rw [← hda] at HB
          have HS2 := hide (show St w NoB wr [.cells g4 da 88, .cells g3 ordA 86] by rw [hda]; exact hS)
          obtain ⟨bb, hbb⟩ : ∃ b, b = decide (dv ds < (Lq : Int)) := ⟨_, rfl⟩
          rw [← hbb] at HB
          have HBB := hide hbb
          clear hS hI hV hdv hds hdl hdb hda HS hbb
          go_upto_region 15 with fail
          refine wp_region_list ?_
          refine wpList_load_row rfl 88 (.tmp 4) rfl g4 rfl 88 da _ _ (HS2.out.heap 0 rfl) Tryz.underlying88 rfl (by rw [hsz]; kernel_rfl) ?_
          refine wl_callN rfl rfl enBelowR rfl (HB.out _) ?_
          rintro e w5 ⟨rfl, hb5⟩
          refine ⟨_, rfl, ?_⟩
          have HS := hide (HS1.out.call hb5)
          clear HS1 HS2 HB hb5
          cases bb with
          | true =>
            have hlt := of_decide_eq_true HBB.out.symm
            have HR2 := hide (show RdI l i ds from ⟨HDL.out, HDB.out, by
              have h := HDV.out
              have h2 := HI.out.2.2
              rw [← HST.out]
              generalize bval l / 2 ^ (i + 1) % Lq = V at *
              rw [h2] at h
              rw [h] at hlt ⊢
              rw [Nat.mod_eq_of_lt (by omega)]
              omega⟩)
            clear hlt HBB
            go_wp2_with fail
            go_roundw
            case rel => exact ⟨i, ds, by (have := HJ.out); (rw [HL.out]); omega, by go_num, HR2.out, HS.out⟩
            case measure => (simp [intOf]) <;> omega
          | false =>
            have hge := of_decide_eq_false HBB.out.symm
            have HGE := hide hge
            clear hge HBB
            go_wp2_with fail
            go_loopw [8, 54] (fun cv kv wr => RkRel w 0 (sbL ds) ds g3 g4 cv kv wr) (fun _ k _ => 33 - (intOf k).toNat)
            case atStart => exact ⟨0, by omega, rfl, rfl, HS.out⟩
            case round =>
              clear HS
              obtain ⟨k, hk, rfl, rfl, hS⟩ := hrel
              have HS := hide hS
              by_cases hlt : k < 33
              · have d33 : decide ((k : Int) < 33) = true := by simp; omega
                have k33 : (k : Int) < 33 := by omega
                have c0 : wr.cell? ⟨g4, k, none⟩ = some (.int .i64 (ds.getD k 0)) := by rw [hS.cell 0 rfl k]; exact ivs_get (wkS_get _ _ ds HDL.out hlt)
                have f0 := hS.free 0 rfl k
                have hcb := crS_bd 0 (sbL ds) (by omega) (sbL_bd HDL.out HDB.out) k
                have hxb := byt_getD HDB.out k
                have HT := hide (wkS_set 0 (sbL ds) ds HDL.out hlt)
                have hD : dgS 0 (sbL ds) k = (crS 0 (sbL ds) k + (sbL ds).getD k 0) % 256 := rfl
                have hE : crS 0 (sbL ds) (k + 1) = (crS 0 (sbL ds) k + (sbL ds).getD k 0) / 256 := rfl
                rw [sbL_getD HDL.out hlt] at hD hE
                have hob := byt_getD ordL_byt k
                obtain ⟨cc, hcc⟩ : ∃ x, x = crS 0 (sbL ds) k := ⟨_, rfl⟩
                obtain ⟨x, hx⟩ : ∃ y, y = ds.getD k 0 := ⟨_, rfl⟩
                obtain ⟨D, hDD⟩ : ∃ y, y = dgS 0 (sbL ds) k := ⟨_, rfl⟩
                obtain ⟨E, hEE⟩ : ∃ y, y = crS 0 (sbL ds) (k + 1) := ⟨_, rfl⟩
                rw [← hcc] at hD hE hcb
                rw [← hx] at hD hE hxb c0
                rw [← hDD] at hD HT
                rw [← hEE] at hE
                simp only [← hcc]
                have HEE := hide hEE
                obtain ⟨b0, b1⟩ := hcb
                obtain ⟨b2, b3⟩ := hxb
                by_cases h32 : k < 32
                · have d32 : decide ((k : Int) < 32) = true := by simp; omega
                  have k32 : (k : Int) < 32 := by omega
                  have c1 : wr.cell? ⟨g3, k, none⟩ = some (.int .i64 (ordL.getD k 0)) := by rw [hS.cell 1 rfl k]; exact ordA_get h32
                  rw [if_pos h32] at hD hE
                  obtain ⟨y, hy⟩ : ∃ y, y = ordL.getD k 0 := ⟨_, rfl⟩
                  rw [← hy] at hD hE hob c1
                  obtain ⟨b4, b5⟩ := hob
                  have a1 : bits .and .i64 (cc + x - y) 255 = D := by rw [i64_and255, hD]; congr 1; omega
                  have a2 : (cc + x - y) / 256 = E := by rw [hE]; congr 1; omega
                  clear hD hE hcc hx hDD hEE hS hy
                  go_wp2_with fail
                  go_roundw
                  case rel =>
                    have h3 := HS.out.setCell 0 rfl k (.int .i64 D)
                    rw [List.set_cons_zero, ivs_set, HT.out] at h3
                    exact ⟨k + 1, by omega, by go_num, by rw [HEE.out], h3⟩
                  case measure => (simp [intOf]) <;> omega
                · obtain rfl : k = 32 := by omega
                  rw [if_neg h32, Int.sub_zero] at hD hE
                  have a1 : bits .and .i64 (cc + x) 255 = D := by rw [i64_and255, hD]
                  have a2 : (cc + x) / 256 = E := hE.symm
                  clear hD hE hcc hx hDD hEE hS hob h32
                  go_wp2_with fail
                  go_roundw
                  case rel =>
                    have h3 := HS.out.setCell 0 rfl 32 (.int .i64 D)
                    rw [List.set_cons_zero, ivs_set, HT.out] at h3
                    exact ⟨33, by omega, rfl, by rw [HEE.out], h3⟩
                  case measure => (simp [intOf]) <;> omega
              · obtain rfl : k = 33 := by omega
                rw [wkS_all _ _ ds HDL.out] at hS
                have hsv := sbL_dv HDL.out
                have hge := HGE.out
                have hdv := HDV.out
                have hvv := HVV.out
                have hlp := Lq_pow
                have h2 := dgL_all 0 (sbL ds) (by unfold sbL; rw [List.length_zipWith, HDL.out]; rfl) (by rw [hsv]; omega) (by
                  rw [hsv]
                  have h5 : (256 : Int) ^ 33 = 256 ^ 32 * 256 := Int.pow_succ _ _
                  omega)
                have HR2 := hide (show RdI l i (dgL 0 (sbL ds) 33) from ⟨dgL_len _ _ _, dgL_byt _ _ _, by
                  rw [h2, hsv, hdv, HI.out.2.2, ← HST.out]
                  rw [HI.out.2.2] at hdv hvv
                  rw [hdv] at hge
                  generalize bval l / 2 ^ (i + 1) % Lq = V at *
                  have e : 2 * V + bt = (2 * V + bt - Lq) + Lq := by omega
                  rw [e, Nat.add_mod_right, Nat.mod_eq_of_lt (by omega)]
                  omega⟩)
                have HS9 := hide hS
                clear hS HS hsv hge hdv hvv hlp h2
                go_wp2_with fail
                go_roundw
                case rel => exact ⟨i, _, by (have := HJ.out); (rw [HL.out]); omega, by go_num, HR2.out, HS9.out⟩
                case measure => (simp [intOf]) <;> omega
end Go.Proofs.YtkelegjppnfoaaaGreatDoor.S3

namespace Go.Proofs.YtkelegjppnfoaaaGreatDoor.S3
open Go.RowKit
set_option linter.unusedSimpArgs false

def muR (a : Int) (b : List Int) (i : Nat) : Nat → List Int → List Int
  | 0, t => t
  | j + 1, t => (muR a b i j t).set (i + j) ((muR a b i j t).getD (i + j) 0 + a * b.getD j 0)
def muC (ws t : List Int) (i : Nat) : List Int := t.set i (t.getD i 0 + ws.getD i 0)
def muS (us vs ws : List Int) : Nat → List Int
  | 0 => List.replicate 64 0
  | i + 1 => muR (us.getD i 0) vs i 32 (muC ws (muS us vs ws i) i)
theorem muR_len (a : Int) (b : List Int) (i : Nat) (t : List Int) : ∀ j, (muR a b i j t).length = t.length
  | 0 => rfl
  | j + 1 => by rw [muR, List.length_set, muR_len a b i t j]
theorem muC_len (ws t : List Int) (i : Nat) : (muC ws t i).length = t.length := by unfold muC; rw [List.length_set]
theorem muS_len (us vs ws : List Int) : ∀ i, (muS us vs ws i).length = 64
  | 0 => rfl
  | i + 1 => by rw [muS, muR_len, muC_len, muS_len us vs ws i]
theorem muR_bd (a : Int) (b : List Int) (i : Nat) (t : List Int) (C M : Int) (hM : 0 ≤ M) (ht : ∀ k, 0 ≤ t.getD k 0 ∧ t.getD k 0 ≤ C) (hm : ∀ k, 0 ≤ a * b.getD k 0 ∧ a * b.getD k 0 ≤ M) :
    ∀ (j : Nat) (k : Nat), 0 ≤ (muR a b i j t).getD k 0 ∧ (muR a b i j t).getD k 0 ≤ C + j * M
  | 0, k => by have := ht k; simp only [muR]; omega
  | j + 1, k => by
    have ih := muR_bd a b i t C M hM ht hm j
    have h1 := ih k
    have h2 := ih (i + j)
    have h3 := hm j
    rw [muR, getD_set]
    have e : ((j + 1 : Nat) : Int) * M = (j : Int) * M + M := by rw [Int.natCast_add, Int.add_mul]; omega
    rw [e]
    split <;> omega
theorem muC_bd (ws t : List Int) (i : Nat) (C : Int) (ht : ∀ k, 0 ≤ t.getD k 0 ∧ t.getD k 0 ≤ C) (hw : Byt ws) (k : Nat) : 0 ≤ (muC ws t i).getD k 0 ∧ (muC ws t i).getD k 0 ≤ C + 256 := by
  have h1 := ht k
  have h2 := ht i
  have h3 := byt_getD hw i
  unfold muC
  rw [getD_set]
  split <;> omega
theorem byt_mul {us vs : List Int} (h1 : Byt us) (h2 : Byt vs) (i k : Nat) : 0 ≤ us.getD i 0 * vs.getD k 0 ∧ us.getD i 0 * vs.getD k 0 ≤ 65536 := by
  have a := byt_getD h1 i
  have b := byt_getD h2 k
  exact ⟨Int.mul_nonneg a.1 b.1, Int.le_trans (Int.mul_le_mul (by omega : us.getD i 0 ≤ 256) (by omega : vs.getD k 0 ≤ 256) b.1 (by omega)) (by omega)⟩
theorem muS_bd {us vs ws : List Int} (h1 : Byt us) (h2 : Byt vs) (h3 : Byt ws) : ∀ (i k : Nat), 0 ≤ (muS us vs ws i).getD k 0 ∧ (muS us vs ws i).getD k 0 ≤ i * 2097408
  | 0, k => by
    have : (List.replicate 64 (0 : Int)).getD k 0 = 0 := by rw [List.getD_eq_getElem?_getD, List.getElem?_replicate]; split <;> rfl
    rw [muS, this]
    omega
  | i + 1, k => by
    have := muR_bd (us.getD i 0) vs i (muC ws (muS us vs ws i) i) (i * 2097408 + 256) 65536 (by omega) (muC_bd ws _ i _ (muS_bd h1 h2 h3 i) h3) (byt_mul h1 h2 i) 32 k
    rw [muS]
    omega
theorem muR_dv (a : Int) (b : List Int) (i : Nat) (t : List Int) (hb : b.length = 32) : ∀ j, j ≤ 32 → i + j ≤ t.length → dv (muR a b i j t) = dv t + a * 256 ^ i * dv (b.take j)
  | 0, _, _ => by simp [muR, dv]
  | j + 1, hj, h => by
    have hx : b[j]? = some b[j] := List.getElem?_eq_getElem (by omega)
    rw [muR, dv_set _ _ _ (by rw [muR_len]; omega), muR_dv a b i t hb j (by omega) (by omega), dv_take hx, getD_of hx, Int.pow_add,
      show (muR a b i j t).getD (i + j) 0 + a * b[j] - (muR a b i j t).getD (i + j) 0 = a * b[j] from by omega]
    have : a * b[j] * (256 ^ i * 256 ^ j) = a * 256 ^ i * (b[j] * 256 ^ j) := by grind
    rw [this, Int.mul_add]
    omega
theorem muC_dv (ws t : List Int) (i : Nat) (h : i < t.length) : dv (muC ws t i) = dv t + ws.getD i 0 * 256 ^ i := by
  unfold muC
  rw [dv_set _ _ _ h, show t.getD i 0 + ws.getD i 0 - t.getD i 0 = ws.getD i 0 from by omega]
theorem zr64 : dv (List.replicate 64 0) = 0 + 0 := by decide +kernel
theorem bnx {w0 w w' : World} (h : Below w0.heap.size w0 w) (h2 : Below w.heap.size w w') : Below w0.heap.size w0 w' := h.trans (h2.mono h.size)
theorem muS_dv (us vs ws : List Int) (h1 : us.length = 32) (h2 : vs.length = 32) (h3 : ws.length = 32) : ∀ i, i ≤ 32 → dv (muS us vs ws i) = dv (us.take i) * dv vs + dv (ws.take i)
  | 0, _ => by simp only [muS, List.take_zero, dv, Int.zero_mul]; exact zr64
  | i + 1, h => by
    rw [muS, muR_dv _ _ _ _ h2 32 (by omega) (by rw [muC_len, muS_len]; omega), muC_dv _ _ _ (by rw [muS_len]; omega), muS_dv us vs ws h1 h2 h3 i (by omega),
      dv_take (some_getD (xs := us) (k := i) (by omega)), dv_take (some_getD (xs := ws) (k := i) (by omega)), List.take_of_length_le (l := vs) (i := 32) (by omega), Int.add_mul]
    omega
def MsRel (w : World) (us vs ws : List Int) (g : Nat) (iv : Value) (wr : World) : Prop :=
  ∃ i : Nat, i ≤ 32 ∧ iv = .int .i64 (i : Int) ∧ St w NoB wr [.cells g (ivs (muS us vs ws i)).toArray 90]
def MtRel (w : World) (us vs ws : List Int) (g i : Nat) (jv : Value) (wr : World) : Prop :=
  ∃ j : Nat, j ≤ 32 ∧ jv = .int .i64 (j : Int) ∧ St w NoB wr [.cells g (ivs (muR (us.getD i 0) vs i j (muC ws (muS us vs ws i) i))).toArray 90]
def MoRel (w : World) (t : List Int) (g gb : Nat) (cv kv : Value) (wr : World) : Prop :=
  ∃ k : Nat, k ≤ 64 ∧ kv = .int .i64 (k : Int) ∧ cv = .int .i64 (crS 0 t k) ∧ St w NoB wr [.row (.slice (some ⟨gb, 0, none⟩) 64 64) 5 1 64 (bvs ((dgL 0 t k).map (fun x : Int => UInt8.ofNat x.toNat) ++ List.replicate (64 - k) 0)), .cells g (ivs t).toArray 90]
theorem crS_nn {t : List Int} (C : Int) (hC : 0 ≤ C) (ht : ∀ k, 0 ≤ t.getD k 0 ∧ t.getD k 0 ≤ C) : ∀ k, 0 ≤ crS 0 t k ∧ crS 0 t k ≤ C
  | 0 => by simp only [crS]; omega
  | k + 1 => by
    have ih := crS_nn C hC ht k
    have := ht k
    rw [crS]
    omega
theorem zero64v (w : World) : (zeroValue 90).run Tryz.prog w = .ok (.agg (ivs (List.replicate 64 0)).toArray) w := by kernel_rfl
theorem rd_atR {w : World} {b o n c size : Nat} {xs : List Value} (h : Rd w (.slice (some ⟨b, o, none⟩) n c) size n xs) {j : Nat} {u : Value} (hu : xs[j]? = some u) : w.cell? ⟨b, o + j, none⟩ = some u := by
  obtain ⟨A', c', e, _, _, _, _, h5⟩ := h
  injection e with e1 _ _
  subst e1
  exact (h5 b o none rfl).2 j u hu
theorem bvs_rw {l : List UInt8} {n k : Nat} (hl : l.length = n) (hk : k < n) : (bvs l)[k]? = some (.int .u8 ((rwL l).getD k 0)) := by
  have h : l[k]? = some (l[k]'(by omega)) := List.getElem?_eq_getElem _
  rw [bvs_get h, getD_of (rwL_get h)]
theorem rd_open32 {w : World} {B : Option Addr} {d : Nat} {l : List UInt8} (hl : l.length = 32) (h : Rd w (.slice B 32 d) 1 32 (bvs l)) : ∃ b o, B = some ⟨b, o, none⟩ := by
  obtain ⟨b, o, e, _⟩ := rd_at' h (bvs_rw hl (show 0 < 32 by omega))
  exact ⟨b, o, e⟩
theorem own_mono {w : World} {b1 b2 : Nat} {e : TypeId} {size n : Nat} {v : Value} {xs : List Value} (h : w.ownsRow b2 e size v n xs) (hle : b1 ≤ b2) : w.ownsRow b1 e size v n xs :=
  ⟨h.1, h.2.imp id fun ⟨g, cap, cur, e1, hg, r⟩ => ⟨g, cap, cur, e1, Nat.le_trans hle hg, r⟩⟩
set_option maxRecDepth 100000 in
set_option maxHeartbeats 4000000 in
theorem muladdR (A B C : Option Addr) (ca cb cc : Nat) (x y z : List UInt8) (w : World) (hx : x.length = 32) (hy : y.length = 32) (hz : z.length = 32)
    (rx : Rd w (.slice A 32 ca) 1 32 (bvs x)) (ry : Rd w (.slice B 32 cb) 1 32 (bvs y)) (rz : Rd w (.slice C 32 cc) 1 32 (bvs z)) :
    Calls Tryz.prog 27 #[.slice A 32 ca, .slice B 32 cb, .slice C 32 cc] w fun e w' => ∃ B d, e = .returned (.slice B 32 d) ∧ Below w.heap.size w w' ∧ w'.ownsRow w.heap.size 5 1 (.slice B 32 d) 32 (bvs (madL x y z)) := by
  have HX := hide rx
  have HY := hide ry
  have HZ := hide rz
  have LX := hide hx
  have LY := hide hy
  have LZ := hide hz
  have hz64 := zero64v
  clear rx ry rz hx hy hz
  go_enter Tryz.func27, Tryz.ntmps27
  go_upto_region 3 with fail
  refine wp_region_list ?_
  refine wpList_plain rfl ?_
  intro K hK
  go_simp
  refine hK _ _ ?_
  clear hK K
  refine wl_callN rfl rfl enReduceR rfl (reduceR A 32 ca x _ LX.out (by omega) HX.out) ?_
  rintro e w1 ⟨B1, d1, rfl, hb1, ho1⟩
  refine ⟨_, rfl, ?_⟩
  have R1 := hide (rd_own ho1)
  refine wpList_plain rfl ?_
  intro K hK
  go_simp
  refine hK _ _ ?_
  clear hK K
  refine wl_callN rfl rfl enReduceR rfl (reduceR B 32 cb y _ LY.out (by omega) (HY.out.below hb1)) ?_
  rintro e w2 ⟨B2, d2, rfl, hb2, ho2⟩
  refine ⟨_, rfl, ?_⟩
  have R2 := hide (rd_own ho2)
  refine wpList_plain rfl ?_
  intro K hK
  go_simp
  refine hK _ _ ?_
  clear hK K
  refine wl_callN rfl rfl enReduceR rfl (reduceR C 32 cc z _ LZ.out (by omega) ((HZ.out.below hb1).below hb2)) ?_
  rintro e w3 ⟨B3, d3, rfl, hb3, ho3⟩
  refine ⟨_, rfl, ?_⟩
  have R3 := hide (rd_own ho3)
  have RA := hide ((R1.out.below hb2).below hb3)
  have RB := hide (R2.out.below hb3)
  have HW := hide (bnx (bnx hb1 hb2) hb3)
  clear hb1 hb2 hb3 ho1 ho2 ho3 R1 R2 HX HY HZ
  obtain ⟨p1, o1, rfl⟩ := rd_open32 (redL_len x) RA.out
  obtain ⟨p2, o2, rfl⟩ := rd_open32 (redL_len y) RB.out
  obtain ⟨p3, o3, rfl⟩ := rd_open32 (redL_len z) R3.out
  have hcapA := rd_cap RA.out
  have hcapB := rd_cap RB.out
  have hcapC := rd_cap R3.out
  have HS0 := hide ((St.init w3 NoB).alloc (ivs (List.replicate 64 0)).toArray 90)
  (try simp only [Act.put, nq1, nq2, nq3, nq4, nq5, nq6])
  go_wp2_with fail
  obtain ⟨g, hg⟩ : ∃ g, g = w3.heap.size := ⟨_, rfl⟩
  rw [← hg] at HS0 ⊢
  clear hg hz64
  obtain ⟨us, hus⟩ : ∃ u, u = rwL (redL x) := ⟨_, rfl⟩
  obtain ⟨vs, hvs⟩ : ∃ u, u = rwL (redL y) := ⟨_, rfl⟩
  obtain ⟨ws, hws⟩ : ∃ u, u = rwL (redL z) := ⟨_, rfl⟩
  have hu : us.length = 32 ∧ Byt us ∧ dv us = (bval (redL x) : Int) := by rw [hus]; exact ⟨by rw [rwL_len, redL_len], rwL_byt _, rwL_dv _⟩
  have hv : vs.length = 32 ∧ Byt vs ∧ dv vs = (bval (redL y) : Int) := by rw [hvs]; exact ⟨by rw [rwL_len, redL_len], rwL_byt _, rwL_dv _⟩
  have hw : ws.length = 32 ∧ Byt ws ∧ dv ws = (bval (redL z) : Int) := by rw [hws]; exact ⟨by rw [rwL_len, redL_len], rwL_byt _, rwL_dv _⟩
  have HU := hide hu
  have HV := hide hv
  have HWW := hide hw
  have HUS := hide hus
  have HVS := hide hvs
  have HWS := hide hws
  clear hu hv hw hus hvs hws
  go_loopw [32] (fun i wr => MsRel w3 us vs ws g i wr) (fun i _ => 32 - (intOf i).toNat)
  case atStart => exact ⟨0, by omega, rfl, HS0.out⟩
  case round =>
    clear HS0
    obtain ⟨i, hi, rfl, hS⟩ := hrel
    have HS := hide hS
    by_cases hlt : i < 32
    · have d32 : decide ((i : Int) < 32) = true := by simp; omega
      have i32 : (i : Int) < 32 := by omega
      have i64 : (i : Int) < 64 := by omega
      have c0 : wr.drew.cell? ⟨g, i, none⟩ = some (.int .i64 ((muS us vs ws i).getD i 0)) := by rw [hS.drew.cell 0 rfl i]; exact ivs_get (some_getD (by rw [muS_len]; omega))
      have f0 := hS.drew.free 0 rfl i
      have c3 := rd_atR (R3.out.st hS.drew) (bvs_rw (redL_len z) hlt)
      rw [← HWS.out] at c3
      have HT := hide (show (muS us vs ws i).set i ((muS us vs ws i).getD i 0 + ws.getD i 0) = muC ws (muS us vs ws i) i from rfl)
      have hbd := muS_bd HU.out.2.1 HV.out.2.1 HWW.out.2.1 i i
      have hwb := byt_getD HWW.out.2.1 i
      obtain ⟨t, ht⟩ : ∃ t, t = (muS us vs ws i).getD i 0 := ⟨_, rfl⟩
      obtain ⟨v, hv⟩ : ∃ t, t = ws.getD i 0 := ⟨_, rfl⟩
      rw [← ht] at c0 HT hbd
      rw [← hv] at c3 HT hwb
      obtain ⟨v0, v1⟩ := hwb
      have t0 : 0 ≤ t := hbd.1
      have t1 : t ≤ 67117056 := by omega
      clear hS ht hv hbd
      go_upto_region 8 with fail
      refine wp_region_T [(0, 1), (1, 1), (2, 0), (3, 1), (4, 1), (5, 1), (6, 0), (7, 1), (8, 1), (9, 1), (10, 3)] (by kernel_rfl) (by kernel_rfl) (fun _ _ _ _ h => h) ?_
      go_wp2_with (first | (refine wpT_nil ?_)   | ((with_reducible refine fromT_refl ?_); (try simp only [Act.put, nq1, nq2, nq3, nq4, nq5, nq6]))   | ((with_reducible refine fromT_mk (by assumption) ?_); (try simp only [Act.put, nq1, nq2, nq3, nq4, nq5, nq6]))   | (refine wpT_pure (v := ?_) rfl rfl ?_ ?_; rotate_left; (intro wx; go_simp; try go_bits) <;> (with_reducible rfl); (try simp only [Act.put, nq1, nq2, nq3, nq4, nq5, nq6]))   | (refine wpT_load (v := ?_) rfl rfl rfl ?_ ?_; rotate_left; (go_simp; try go_bits) <;> (with_reducible rfl); (try simp only [Act.put, nq1, nq2, nq3, nq4, nq5, nq6]))   | (refine wpT_read (v := ?_) rfl rfl ?_ ?_; rotate_left; (intro wx hx; go_simp; try go_bits) <;> (with_reducible rfl); (try simp only [Act.put, nq1, nq2, nq3, nq4, nq5, nq6]))   | (refine wpT_call rfl rfl ?_; intro K hK)   | (refine wpT_late rfl rfl ?_; intro K hK)   | (refine wpT_any rfl rfl ?_; intro K hK)   | (refine wpT_skip rfl rfl ?_; (try simp only [Act.put, nq1, nq2, nq3, nq4, nq5, nq6])))
      have HS2 := hide (show St w3 NoB (wr.setCell ⟨g, i, none⟩ (.int .i64 (t + v))).drew [.cells g (ivs (muC ws (muS us vs ws i) i)).toArray 90] by
        have h3 := (HS.out.setCell 0 rfl i (.int .i64 (t + v))).drew
        rw [List.set_cons_zero, ivs_set, HT.out] at h3
        exact h3)
      clear HS c0 f0 c3 HT t0 t1 v0 v1
      go_loopw [45] (fun j wr => MtRel w3 us vs ws g i j wr) (fun j _ => 32 - (intOf j).toNat)
      case atStart => exact ⟨0, by omega, rfl, HS2.out⟩
      case round =>
        clear HS2
        obtain ⟨j, hj, rfl, hS⟩ := hrel
        have HS := hide hS
        by_cases hjt : j < 32
        · have e32 : decide ((j : Int) < 32) = true := by simp; omega
          have j32 : (j : Int) < 32 := by omega
          obtain ⟨ij, hij⟩ : ∃ k, k = i + j := ⟨_, rfl⟩
          have s1 : wrap64 ((i : Int) + (j : Int)) = (ij : Int) := by rw [hij]; exact IntWalk.wrap64_in _ ⟨by omega, by omega⟩
          have s2 : (i : Int) + (j : Int) = (ij : Int) := by omega
          have s3 : (ij : Int) < 64 := by omega
          have c0 : wr.drew.cell? ⟨g, ij, none⟩ = some (.int .i64 ((muR (us.getD i 0) vs i j (muC ws (muS us vs ws i) i)).getD ij 0)) := by rw [hS.drew.cell 0 rfl ij]; exact ivs_get (some_getD (by rw [muR_len, muC_len, muS_len]; omega))
          have f0 := hS.drew.free 0 rfl ij
          have c1 := rd_atR (RA.out.st hS.drew) (bvs_rw (redL_len x) hlt)
          have c2 := rd_atR (RB.out.st hS.drew) (bvs_rw (redL_len y) hjt)
          rw [← HUS.out] at c1
          rw [← HVS.out] at c2
          have HT := hide (show (muR (us.getD i 0) vs i j (muC ws (muS us vs ws i) i)).set ij ((muR (us.getD i 0) vs i j (muC ws (muS us vs ws i) i)).getD ij 0 + us.getD i 0 * vs.getD j 0) = muR (us.getD i 0) vs i (j + 1) (muC ws (muS us vs ws i) i) by rw [hij]; rfl)
          have hbd := muR_bd (us.getD i 0) vs i (muC ws (muS us vs ws i) i) (i * 2097408 + 256) 65536 (by omega) (muC_bd ws _ i _ (muS_bd HU.out.2.1 HV.out.2.1 HWW.out.2.1 i) HWW.out.2.1) (byt_mul HU.out.2.1 HV.out.2.1 i) j ij
          have hpd := byt_mul HU.out.2.1 HV.out.2.1 i j
          have hub := byt_getD HU.out.2.1 i
          have hvb := byt_getD HV.out.2.1 j
          obtain ⟨t, ht⟩ : ∃ t, t = (muR (us.getD i 0) vs i j (muC ws (muS us vs ws i) i)).getD ij 0 := ⟨_, rfl⟩
          rw [← ht] at c0 HT hbd
          obtain ⟨u, hu⟩ : ∃ t, t = us.getD i 0 := ⟨_, rfl⟩
          obtain ⟨v, hv⟩ : ∃ t, t = vs.getD j 0 := ⟨_, rfl⟩
          have HU1 := hide hu
          have HT2 := hide (show (muR (us.getD i 0) vs i j (muC ws (muS us vs ws i) i)).set ij (t + u * v) = muR (us.getD i 0) vs i (j + 1) (muC ws (muS us vs ws i) i) by rw [hu, hv]; exact HT.out)
          rw [← hu] at c1 hpd hub
          rw [← hv] at c2 hpd hvb
          obtain ⟨u0, u1⟩ := hub
          obtain ⟨v0, v1⟩ := hvb
          have t0 : 0 ≤ t := hbd.1
          have t1 : t ≤ 67117056 + 2097408 := by omega
          obtain ⟨pr, hpr⟩ : ∃ p, p = u * v := ⟨_, rfl⟩
          rw [← hpr] at hpd HT2
          have w1 : wrap64 (u * v) = pr := by rw [← hpr]; exact IntWalk.wrap64_in _ ⟨by omega, by omega⟩
          obtain ⟨q, hq⟩ : ∃ z, z = t + pr := ⟨_, rfl⟩
          rw [← hq] at HT2
          have w2 : wrap64 (t + pr) = q := by rw [hq]; exact IntWalk.wrap64_in _ ⟨by omega, by omega⟩
          clear hS ht hu hv hbd hpd hpr hq hij HT t0 t1
          go_upto_region 12 with fail
          refine wp_region_T [(0, 1), (1, 1), (2, 1), (3, 1), (4, 0), (5, 1), (6, 1), (7, 1), (8, 0), (9, 1), (10, 1), (11, 1), (12, 1), (13, 0), (14, 1), (15, 1), (16, 1), (17, 1), (18, 3)] (by kernel_rfl) (by kernel_rfl) (fun _ _ _ _ h => h) ?_
          go_wp2_with (first | (refine wpT_nil ?_)   | ((with_reducible refine fromT_refl ?_); (try simp only [Act.put, nq1, nq2, nq3, nq4, nq5, nq6]))   | ((with_reducible refine fromT_mk (by assumption) ?_); (try simp only [Act.put, nq1, nq2, nq3, nq4, nq5, nq6]))   | (refine wpT_pure (v := ?_) rfl rfl ?_ ?_; rotate_left; (intro wx; go_simp; try go_bits) <;> (with_reducible rfl); (try simp only [Act.put, nq1, nq2, nq3, nq4, nq5, nq6]))   | (refine wpT_load (v := ?_) rfl rfl rfl ?_ ?_; rotate_left; (go_simp; try go_bits) <;> (with_reducible rfl); (try simp only [Act.put, nq1, nq2, nq3, nq4, nq5, nq6]))   | (refine wpT_read (v := ?_) rfl rfl ?_ ?_; rotate_left; (intro wx hx; go_simp; try go_bits) <;> (with_reducible rfl); (try simp only [Act.put, nq1, nq2, nq3, nq4, nq5, nq6]))   | (refine wpT_call rfl rfl ?_; intro K hK)   | (refine wpT_late rfl rfl ?_; intro K hK)   | (refine wpT_any rfl rfl ?_; intro K hK)   | (refine wpT_skip rfl rfl ?_; (try simp only [Act.put, nq1, nq2, nq3, nq4, nq5, nq6])))
          go_roundw
          case rel =>
            have h3 := HS.out.drew.setCell 0 rfl ij (.int .i64 q)
            rw [List.set_cons_zero, ivs_set, HT2.out] at h3
            exact ⟨j + 1, by omega, by go_num, h3⟩
          case measure => (simp [intOf]) <;> omega
        · obtain rfl : j = 32 := by omega
          clear hS
          go_wp2_with fail
          go_roundw
          case rel => exact ⟨i + 1, by omega, by go_num, HS.out⟩
          case measure => (simp [intOf]) <;> omega
    · obtain rfl : i = 32 := by omega
      simp only [Int.cast_ofNat_Int]
      obtain ⟨t, ht⟩ : ∃ t, t = muS us vs ws 32 := ⟨_, rfl⟩
      have htl : t.length = 64 := by rw [ht]; exact muS_len _ _ _ _
      have htb : ∀ k, 0 ≤ t.getD k 0 ∧ t.getD k 0 ≤ 67117056 := fun k => by
        have := muS_bd HU.out.2.1 HV.out.2.1 HWW.out.2.1 32 k
        rw [ht]
        omega
      have htv : dv t = (bval (redL x) * bval (redL y) + bval (redL z) : Nat) := by
        rw [ht, muS_dv us vs ws HU.out.1 HV.out.1 HWW.out.1 32 (by omega), List.take_of_length_le (by rw [HU.out.1]; exact Nat.le_refl _), List.take_of_length_le (by rw [HWW.out.1]; exact Nat.le_refl _), HU.out.2.2, HV.out.2.2, HWW.out.2.2]
        rw [Int.natCast_add, Int.natCast_mul]
      rw [← ht] at hS
      have HTL := hide htl
      have HTB := hide htb
      have HTV := hide htv
      have HS := hide hS
      clear hS ht htl htb htv
      go_upto_region 16 with (refine wl_makeB (n := 64) rfl rfl Tryz.underlying22 infoB HS.out rfl rfl (by decide) ?_; intro gb w6 hS6 hb6; have HS6 := hide hS6; clear hS6 hb6)
      clear HS
      go_wp2_with fail
      go_loopw [11, 69] (fun c k wr => MoRel w3 t g gb c k wr) (fun _ k _ => 64 - (intOf k).toNat)
      case atStart => exact ⟨0, by omega, rfl, rfl, HS6.out⟩
      case round =>
        clear HS6
        obtain ⟨k, hk, rfl, rfl, hS⟩ := hrel
        have HS := hide hS
        have hlen : ((dgL 0 t k).map (fun x : Int => UInt8.ofNat x.toNat)).length = k := by rw [List.length_map, dgL_len]
        by_cases hlt : k < 64
        · have d64 : decide ((k : Int) < 64) = true := by simp; omega
          have k64 : (k : Int) < 64 := by omega
          have c0 : wr.cell? ⟨g, k, none⟩ = some (.int .i64 (t.getD k 0)) := by rw [hS.cell 1 rfl k]; exact ivs_get (some_getD (by rw [HTL.out]; omega))
          have hne : gb ≠ g := fun e => hS.apart 0 1 _ _ g (by decide) rfl rfl (by rw [e]; rfl) rfl
          have hne2 : g ≠ gb := fun e => hne e.symm
          obtain ⟨g', c', hv, _, _, hcell, hfree, _⟩ := hS.rowOpen 0 rfl (by omega)
          injection hv with hv1 _ hv3
          injection hv1 with hv1
          injection hv1 with hv1
          subst hv1 hv3
          have ce := hcell k (.int .u8 ((0 : UInt8).toNat : Int)) (bvs_get (by rw [List.getElem?_append_right (by rw [hlen]; exact Nat.le_refl _), hlen, Nat.sub_self, List.getElem?_replicate, if_pos (by omega)]))
          have fe := hfree k
          have hcn := crS_nn 67117056 (by omega) HTB.out k
          have htk := HTB.out k
          have hD : dgS 0 t k = (crS 0 t k + t.getD k 0) % 256 := rfl
          have hE : crS 0 t (k + 1) = (crS 0 t k + t.getD k 0) / 256 := rfl
          obtain ⟨D, hDD⟩ : ∃ y : Nat, (y : Int) = dgS 0 t k := ⟨(dgS 0 t k).toNat, by rw [hD]; omega⟩
          have hT : ((dgL 0 t k).map (fun x : Int => UInt8.ofNat x.toNat) ++ List.replicate (64 - k) 0).set k (UInt8.ofNat D) = (dgL 0 t (k + 1)).map (fun x : Int => UInt8.ofNat x.toNat) ++ List.replicate (64 - (k + 1)) 0 := by
            rw [List.set_append_right _ _ (by rw [hlen]; exact Nat.le_refl _), hlen, Nat.sub_self, show 64 - k = (64 - (k + 1)) + 1 from by omega, List.replicate_succ, List.set_cons_zero, dgL_succ, ← hDD, List.map_append, List.append_assoc]
            rfl
          have hRow := hS.rowSet 0 rfl k (.int .u8 (D : Int)) (by omega)
          have D256 : D < 256 := by omega
          rw [List.set_cons_zero, bvs_set _ _ _ D256, hT] at hRow
          have HRow := hide hRow
          obtain ⟨cr, hcr⟩ : ∃ x, x = crS 0 t k := ⟨_, rfl⟩
          obtain ⟨v, hv⟩ : ∃ x, x = t.getD k 0 := ⟨_, rfl⟩
          obtain ⟨E, hEE⟩ : ∃ y, y = crS 0 t (k + 1) := ⟨_, rfl⟩
          rw [← hcr] at hD hE hcn
          rw [← hv] at hD hE htk c0
          rw [← hEE] at hE
          simp only [← hcr]
          have HEE := hide hEE
          obtain ⟨b0, b1⟩ := hcn
          obtain ⟨b2, b3⟩ := htk
          have a1 : IntKind.u8.wrap (cr + v) = (D : Int) := by rw [IntKind.wrap_u8, hDD, hD]
          have a2 : (cr + v) % 256 = (D : Int) := by rw [hDD, hD]
          have a3 : (cr + v) / 256 = E := hE.symm
          clear hcell hfree hlen hT hRow hS hD hE hDD hcr hv hEE
          go_wp2_with fail
          go_roundw
          case rel => exact ⟨k + 1, by omega, by go_num, by rw [HEE.out], HRow.out⟩
          case measure => (simp [intOf]) <;> omega
        · obtain rfl : k = 64 := by omega
          rw [Nat.sub_self, List.replicate_zero, List.append_nil] at hS
          have hdl := dgL_dv 0 t 64 (by rw [HTL.out]; exact Nat.le_refl _)
          have hbt := dv_byt _ (dgL_byt 0 t 64)
          rw [dgL_len] at hbt
          rw [List.take_of_length_le (by rw [HTL.out]; exact Nat.le_refl _), HTV.out, Int.zero_add] at hdl
          have hsm : (bval (redL x) * bval (redL y) + bval (redL z) : Nat) < 256 ^ 64 := by
            have a := bval_lt (redL x)
            have b := bval_lt (redL y)
            have c := bval_lt (redL z)
            rw [redL_len] at a b c
            have e : (256 : Nat) ^ 64 = 256 ^ 32 * 256 ^ 32 := by rw [← Nat.pow_add]
            have h1 : bval (redL x) * bval (redL y) ≤ (256 ^ 32 - 1) * (256 ^ 32 - 1) := Nat.mul_le_mul (by omega) (by omega)
            have h2 : (256 ^ 32 - 1) * (256 ^ 32 - 1) + 256 ^ 32 ≤ (256 : Nat) ^ 64 := by decide
            omega
          have hdv : dv (dgL 0 t 64) = (bval (redL x) * bval (redL y) + bval (redL z) : Nat) := by
            generalize crS 0 t 64 = kk at *
            generalize (bval (redL x) * bval (redL y) + bval (redL z) : Nat) = V at *
            have hT : (256 : Int) ^ 64 = ((256 ^ 64 : Nat) : Int) := by rw [Int.natCast_pow]; rfl
            rw [hT] at hbt hdl
            generalize (256 : Nat) ^ 64 = T at *
            rcases Int.lt_trichotomy kk 0 with h | h | h
            · have : (T : Int) * kk ≤ (T : Int) * (-1) := Int.mul_le_mul_of_nonneg_left (by omega) (by omega)
              omega
            · subst h
              omega
            · have : (T : Int) * 1 ≤ (T : Int) * kk := Int.mul_le_mul_of_nonneg_left (by omega) (by omega)
              omega
          obtain ⟨ob, hob⟩ : ∃ b, b = (dgL 0 t 64).map (fun x : Int => UInt8.ofNat x.toNat) := ⟨_, rfl⟩
          have hol : ob.length = 64 := by rw [hob]; exact hlen
          have hov : bval ob = bval (redL x) * bval (redL y) + bval (redL z) := by
            rw [hob, byt_leB _ (dgL_byt 0 t 64), dgL_len, hdv, bval_leB, Int.toNat_natCast, Nat.mod_eq_of_lt hsm]
          have hfin : redL ob = madL x y z := by
            have e1 : bval (redL x) = bval x % Lq := bval_redL x
            unfold redL madL
            rw [hov, bval_redL, bval_redL, bval_redL, Nat.add_mod, ← Nat.mul_mod, Nat.mod_mod, ← Nat.add_mod]
          rw [← hob] at hS
          have HS9 := hide hS
          have HRR := hide (reduceR (some ⟨gb, 0, none⟩) 64 64 ob wr hol (by omega) (hS.rd 0 rfl))
          rw [hfin] at HRR
          clear hS HS hdl hbt hsm hdv hob hol hov hfin hlen
          go_wp2_with (go_at_call 25; (with_reducible refine HRR.out.mono ?_); rintro e w9 ⟨B9, d9, rfl, hb9, ho9⟩; have HB9 := hide hb9; have HO9 := hide ho9; clear hb9 ho9)
          go_ret
          have hbw := bnx HW.out HS9.out.below
          exact ⟨B9, d9, rfl, bnx hbw HB9.out, own_mono HO9.out hbw.size⟩
end Go.Proofs.YtkelegjppnfoaaaGreatDoor.S3

namespace Go.Proofs.YtkelegjppnfoaaaGreatDoor.S3
open Go.RowKit
set_option linter.unusedSimpArgs false

set_option maxRecDepth 100000 in
set_option maxHeartbeats 800000 in
theorem clamp_walkR (A : Option Addr) (c : Nat) (l : List UInt8) (w : World) (hl : l.length = 32) (hr : Rd w (.slice A 32 c) 1 32 (bvs l)) :
    Calls Tryz.prog 21 #[.slice A 32 c] w (ResB 5 w (clampL l)) := by
  obtain ⟨a, ha⟩ : ∃ a, l[0]? = some a := ⟨l[0], List.getElem?_eq_getElem _⟩
  obtain ⟨b, hb⟩ : ∃ b, l[31]? = some b := ⟨l[31], List.getElem?_eq_getElem _⟩
  have e := clampL_eq l a b ha hb
  have a2 := UInt8.toNat_lt a
  have b2 := UInt8.toNat_lt b
  have ga := bvs_get ha
  have gb := bvs_get hb
  obtain ⟨an, han⟩ : ∃ an, an = a.toNat := ⟨_, rfl⟩
  obtain ⟨bn, hbn⟩ : ∃ bn, bn = b.toNat := ⟨_, rfl⟩
  rw [← han] at e a2 ga
  rw [← hbn] at e b2 gb
  have eA := clA_eq an a2
  have eB := clB_eq bn b2
  have hS := St.init w NoB
  have HR := hide hr
  have HE := hide e
  have HL := hide hl
  have GA := hide ga
  have GB := hide gb
  have LA := hide (clA_lt an a2)
  have LB := hide (clB_lt bn b2)
  clear hr e hl ga gb ha hb han hbn
  go_enter Tryz.func21, Tryz.ntmps21
  go_wp2_with (at_builtin; refine wl_append0 rfl rfl tyB hS rfl rfl HR.out (one_bvs _) (by omega) (by decide) ?_; intro A1 c1 w1 hS1; obtain ⟨g, c1', hv, hc1, hcm, hcs, hfr, _⟩ := hS1.rowOpen 0 rfl (by omega); injection hv with hv1 _ hv3; subst hv1 hv3; have k0 := hcs 0 _ GA.out; have k31 := hcs 31 _ GB.out; have f0 := hfr 0; have f31 := hfr 31; have HS1 := hide hS1; clear hS1 hcs hfr)
  go_ret
  have h2 := (HS1.out.rowSet 0 rfl 0 (.int .u8 (clA an : Nat)) (by omega)).rowSet 0 rfl 31 (.int .u8 (clB bn : Nat)) (by omega)
  rw [bvs_set _ _ _ LA.out, bvs_set _ _ _ LB.out, ← HE.out] at h2
  have h3 := resB_of (l := clampL l) h2 0 rfl rfl
  exact h3
end Go.Proofs.YtkelegjppnfoaaaGreatDoor.S3
