/-
  Rows of bytes as the page's scalars keep them: values, carrying; order, below, MayScalar of the page.
-/
import Derived.Test.YtgofcefggdlalaaSj
import Derived.Test.YtgofcefggdlalaaTy
namespace Go.Proofs.Ytgofcefggdlalaa
open Go.RowKit
set_option linter.unusedSimpArgs false

theorem rd_at' {w : World} {B : Option Addr} {n d : Nat} {xs : List Value} {k : Nat} {u : Value} (h : Rd w (.slice B n d) 1 n xs) (hk : xs[k]? = some u) : ∃ b o, B = some ⟨b, o, none⟩ ∧ w.cell? ⟨b, o + k, none⟩ = some u := by
  rcases h.cases with ⟨_, _, h0⟩ | ⟨b, o, sp, c', hv, _, _, _, hl, h4, hc⟩
  · rw [h0] at hk; simp at hk
  · injection hv with hv1 _ _
    have hkl : k < xs.length := (List.getElem?_eq_some_iff.1 hk).1
    have := h4 (by omega)
    subst this hv1
    exact ⟨b, o, rfl, hc k u hk⟩
def ivs (xs : List Int) : List Value := xs.map (.int .i64 ·)
theorem ivs_len (xs : List Int) : (ivs xs).length = xs.length := by simp [ivs]
theorem ivs_get {xs : List Int} {k : Nat} {x : Int} (h : xs[k]? = some x) : (ivs xs).toArray[k]? = some (.int .i64 x) := by simp [ivs, h]
theorem ivs_set (xs : List Int) (k : Nat) (x : Int) : (ivs xs).toArray.setIfInBounds k (.int .i64 x) = (ivs (xs.set k x)).toArray := by simp [ivs, List.map_set]
theorem ivs_all (xs : List Int) : (ivs xs).toArray.all (·.oneCell') = true := by
  rw [Array.all_eq_true_iff_forall_mem]
  intro v hv
  simp only [ivs, List.mem_toArray, List.mem_map] at hv
  obtain ⟨x, _, rfl⟩ := hv
  rfl
/-- The number of rows. -/
def dv : List Int → Int
  | [] => 0
  | x :: xs => x + 256 * dv xs
theorem dv_append : ∀ (xs ys : List Int), dv (xs ++ ys) = dv xs + 256 ^ xs.length * dv ys
  | [], ys => by simp [dv]
  | x :: xs, ys => by
    simp only [List.cons_append, dv, dv_append xs ys, List.length_cons]
    rw [Int.pow_succ, Int.mul_add, Int.add_assoc, ← Int.mul_assoc, Int.mul_comm 256 (256 ^ xs.length)]
theorem dv_take {xs : List Int} {k : Nat} {x : Int} (h : xs[k]? = some x) : dv (xs.take (k + 1)) = dv (xs.take k) + x * 256 ^ k := by
  have hk := (List.getElem?_eq_some_iff.1 h).1
  rw [List.take_add_one, h, Option.toList_some, dv_append, List.length_take, Nat.min_eq_left (by omega)]
  simp only [dv, Int.mul_zero, Int.add_zero]
  rw [Int.mul_comm]
theorem getD_of {xs : List Int} {k : Nat} {x : Int} (h : xs[k]? = some x) : xs.getD k 0 = x := by rw [List.getD_eq_getElem?_getD, h]; rfl
theorem some_getD {xs : List Int} {k : Nat} (h : k < xs.length) : xs[k]? = some (xs.getD k 0) := by rw [List.getD_eq_getElem?_getD, List.getElem?_eq_getElem h]; rfl
theorem getD_set (xs : List Int) (k j : Nat) (y : Int) : (xs.set k y).getD j 0 = if k = j ∧ k < xs.length then y else xs.getD j 0 := by
  simp only [List.getD_eq_getElem?_getD, List.getElem?_set]
  split
  · rename_i h
    subst h
    split
    · rename_i h; rw [if_pos ⟨rfl, h⟩]; rfl
    · rename_i h; rw [if_neg (fun x => h x.2), List.getElem?_eq_none (by omega)]
  · rename_i h
    rw [if_neg (fun x => h x.1)]
theorem dv_set : ∀ (xs : List Int) (k : Nat) (y : Int), k < xs.length → dv (xs.set k y) = dv xs + (y - xs.getD k 0) * 256 ^ k
  | [], k, y, h => by simp at h
  | x :: xs, 0, y, h => by simp [dv]; omega
  | x :: xs, k + 1, y, h => by
    have ih := dv_set xs k y (by simpa using h)
    simp only [List.set_cons_succ, dv, List.getD_cons_succ, ih, Int.pow_succ, Int.mul_add]
    rw [show 256 * ((y - xs.getD k 0) * 256 ^ k) = (y - xs.getD k 0) * (256 ^ k * 256) from by rw [Int.mul_comm 256, Int.mul_assoc]]
    omega
/-- Rows that are bytes. -/
def Byt (xs : List Int) : Prop := ∀ x ∈ xs, 0 ≤ x ∧ x < 256
theorem dv_byt : ∀ (xs : List Int), Byt xs → 0 ≤ dv xs ∧ dv xs < 256 ^ xs.length
  | [], _ => by simp [dv]
  | x :: xs, h => by
    have ih := dv_byt xs fun y hy => h y (List.mem_cons_of_mem _ hy)
    have hx := h x (List.mem_cons_self ..)
    simp only [dv, List.length_cons, Int.pow_succ]
    omega
theorem byt_getD {xs : List Int} (h : Byt xs) (k : Nat) : 0 ≤ xs.getD k 0 ∧ xs.getD k 0 < 256 := by
  rw [List.getD_eq_getElem?_getD]
  cases hg : xs[k]? with
  | none => simp
  | some x => exact h x (List.mem_of_getElem? hg)
theorem byt_take {xs : List Int} (h : Byt xs) (k : Nat) : Byt (xs.take k) := fun x hx => h x (List.mem_of_mem_take hx)
/-- Bytes as rows. -/
def rwL (l : List UInt8) : List Int := l.map (fun c => (c.toNat : Int))
theorem rwL_byt (l : List UInt8) : Byt (rwL l) := fun x hx => by
  simp only [rwL, List.mem_map] at hx
  obtain ⟨c, _, rfl⟩ := hx
  have := UInt8.toNat_lt c
  omega
theorem rwL_dv : ∀ l : List UInt8, dv (rwL l) = (bval l : Int)
  | [] => rfl
  | c :: l => by
    show (c.toNat : Int) + 256 * dv (rwL l) = _
    rw [rwL_dv l, bval]
    omega
/-- Rows of bytes as bytes. -/
theorem byt_leB : ∀ (xs : List Int), Byt xs → xs.map (fun x => UInt8.ofNat x.toNat) = leB xs.length (dv xs).toNat
  | [], _ => rfl
  | x :: xs, h => by
    have ih := byt_leB xs fun y hy => h y (List.mem_cons_of_mem _ hy)
    have hx := h x (List.mem_cons_self ..)
    have hn := dv_byt xs fun y hy => h y (List.mem_cons_of_mem _ hy)
    rw [List.map_cons, ih, List.length_cons, leB, dv]
    rw [show (x + 256 * dv xs).toNat % 256 = x.toNat from by omega, show (x + 256 * dv xs).toNat / 256 = (dv xs).toNat from by omega]
theorem i64_and255 (x : Int) : bits .and .i64 x 255 = x % 256 := by
  have e : ((BitVec.ofInt 64 x &&& BitVec.ofInt 64 255).toNat : Int) = x % 256 := by
    rw [BitVec.toNat_and, BitVec.toNat_ofInt, BitVec.toNat_ofInt]
    rw [show ((255 : Int) % ((2 ^ 64 : Nat) : Int)).toNat = 255 from by decide, nat_mask8]
    have : ((2 ^ 64 : Nat) : Int) = 18446744073709551616 := by decide
    rw [this]
    omega
  show IntKind.i64.wrap ((BitVec.ofInt 64 x &&& BitVec.ofInt 64 255).toNat : Int) = _
  rw [e, IntKind.wrap_i64]
  omega
theorem i64_and1 (x : Int) : bits .and .i64 x 1 = x % 2 := by
  have e : ((BitVec.ofInt 64 x &&& BitVec.ofInt 64 1).toNat : Int) = x % 2 := by
    rw [BitVec.toNat_and, BitVec.toNat_ofInt, BitVec.toNat_ofInt]
    rw [show ((1 : Int) % ((2 ^ 64 : Nat) : Int)).toNat = 1 from by decide, nat_mask1]
    have : ((2 ^ 64 : Nat) : Int) = 18446744073709551616 := by decide
    rw [this]
    omega
  show IntKind.i64.wrap ((BitVec.ofInt 64 x &&& BitVec.ofInt 64 1).toNat : Int) = _
  rw [e, IntKind.wrap_i64]
  omega
/-- l, byte by byte. -/
def ordL : List Int := [0xed, 0xd3, 0xf5, 0x5c, 0x1a, 0x63, 0x12, 0x58, 0xd6, 0x9c, 0xf7, 0xa2, 0xde, 0xf9, 0xde, 0x14, 0, 0, 0, 0, 0, 0, 0, 0, 0, 0, 0, 0, 0, 0, 0, 0x10]
theorem ordL_dv : dv ordL = (Lq : Int) := by unfold Lq; decide +kernel
theorem ordL_byt : Byt ordL := by unfold Byt; decide
theorem Lq_pow : (Lq : Int) < 256 ^ 32 ∧ 0 < (Lq : Int) := by unfold Lq; decide +kernel
/-- All above row i is as in l. -/
def Abv (x : List Int) (i : Nat) : Prop := dv x - (Lq : Int) = dv (x.take i) - dv (ordL.take i)
theorem abv_start {x : List Int} (hl : x.length = 33) (h0 : x.getD 32 0 = 0) : Abv x 32 := by
  have hx := some_getD (xs := x) (k := 32) (by omega)
  have h := dv_take hx
  rw [List.take_of_length_le (by omega), h0, Int.zero_mul, Int.add_zero] at h
  unfold Abv
  rw [h, List.take_of_length_le (l := ordL) (by decide), ordL_dv]
theorem abv_step {x : List Int} (hl : x.length = 33) {i : Nat} (hi : i < 32) (h : Abv x (i + 1)) (he : x.getD i 0 = ordL.getD i 0) : Abv x i := by
  unfold Abv at h ⊢
  rw [h, dv_take (some_getD (xs := x) (k := i) (by omega)), dv_take (some_getD (xs := ordL) (k := i) (by simpa [ordL] using hi)), he]
  omega
theorem abv_end {x : List Int} (h : Abv x 0) : decide (dv x < (Lq : Int)) = false := by
  unfold Abv at h
  simp only [List.take_zero, dv] at h
  rw [decide_eq_false_iff_not]
  omega
theorem abv_ne {x : List Int} (hl : x.length = 33) (hb : Byt x) {i : Nat} (hi : i < 32) (h : Abv x (i + 1)) (he : x.getD i 0 ≠ ordL.getD i 0) : decide (x.getD i 0 < ordL.getD i 0) = decide (dv x < (Lq : Int)) := by
  unfold Abv at h
  have h1 := dv_take (some_getD (xs := x) (k := i) (by omega))
  have h2 := dv_take (some_getD (xs := ordL) (k := i) (by simpa [ordL] using hi))
  have b1 := dv_byt _ (byt_take hb i)
  have b2 := dv_byt _ (byt_take ordL_byt i)
  rw [List.length_take, Nat.min_eq_left (by omega)] at b1
  rw [List.length_take, Nat.min_eq_left (by simp [ordL]; omega)] at b2
  rw [h1, h2] at h
  generalize x.getD i 0 = a at *
  generalize ordL.getD i 0 = b at *
  generalize (256 : Int) ^ i = T at *
  have hT : 0 < T := by omega
  rw [decide_eq_decide]
  constructor
  · intro hab
    have : (a + 1) * T ≤ b * T := Int.mul_le_mul_of_nonneg_right (by omega) (by omega)
    rw [Int.add_mul, Int.one_mul] at this
    omega
  · intro hd
    rcases Int.lt_trichotomy a b with h3 | h3 | h3
    · exact h3
    · exact absurd h3 he
    · have : (b + 1) * T ≤ a * T := Int.mul_le_mul_of_nonneg_right (by omega) (by omega)
      rw [Int.add_mul, Int.one_mul] at this
      omega
theorem big_not {x : List Int} (hl : x.length = 33) (hb : Byt x) (h0 : 0 < x.getD 32 0) : decide (dv x < (Lq : Int)) = false := by
  have h := dv_take (some_getD (xs := x) (k := 32) (by omega))
  have b1 := dv_byt _ (byt_take hb 32)
  have hp := Lq_pow
  rw [List.take_of_length_le (by omega)] at h
  generalize x.getD 32 0 = a at *
  generalize (256 : Int) ^ 32 = T at *
  have : 1 * T ≤ a * T := Int.mul_le_mul_of_nonneg_right (by omega) (by omega)
  rw [decide_eq_false_iff_not]
  omega
theorem enOrdR (args : Array Value) (w : World) : (callFunc 29 args).run Try.prog w = .ok (.enter 29 args) w := by kernel_rfl
@[irreducible] def ordA : Array Value := (ivs ordL).toArray
@[irreducible] def zer32 : Array Value := (ivs (List.replicate 32 0)).toArray
theorem zero32v (w : World) : (zeroValue 50).run Try.prog w = .ok (.agg zer32) w := by unfold zer32; kernel_rfl
theorem ordA_eq : ordA = (ivs ordL).toArray := by unfold ordA; rfl
theorem ordA_size : ordA.size = 32 := by unfold ordA; rfl
theorem ordA_get {k : Nat} (h : k < 32) : ordA[k]? = some (.int .i64 (ordL.getD k 0)) := by
  rw [ordA_eq]
  exact ivs_get (some_getD h)
theorem wl_run {P : Program} {ops : Array Oper} {rest : List Oper} {o : Oper} {a : Act} {w : World} {Q : Exit → Act → World → Prop} (hgd : o.guard = none) {v : Value} (hrun : (execOp a.eval o).run P w = .ok (.value v) w)
    (h : wpList P ops Q rest (a.put o.dst v) w) : wpList P ops Q (o :: rest) a w :=
  wpList_plain hgd fun K hK => by
    unfold Oper.wp
    rw [hrun, Oper.upon_value]
    exact hK _ _ h
set_option maxRecDepth 100000 in
set_option maxHeartbeats 1600000 in
theorem order_r (w : World) : Calls Try.prog 29 #[] w fun e w' => e = .returned (.agg ordA) ∧ Below w.heap.size w w' := by
  have HS0 := hide ((St.init w NoB).alloc zer32 50)
  have hz := zero32v
  go_enter Try.func29, Try.ntmps29
  go_upto_region 1 with fail
  refine wp_region_list ?_
  refine wl_run rfl (v := .agg ordA) (by unfold ordA; kernel_rfl) ?_
  refine wpList_store_row rfl 50 (.tmp 0) (.tmp 1) rfl w.heap.size ordA rfl rfl 50 zer32 (HS0.out.heap 0 rfl) (by unfold ordA; kernel_rfl) (by unfold ordA zer32; rfl) (by unfold ordA; kernel_rfl) ?_
  refine wpList_nil ?_
  have HS := hide (HS0.out.setRow 0 rfl ordA)
  go_wp2_with fail
  refine bodyPost_ret (results_cell_row rfl _ _ w.heap.size _ _ _ _ rfl (HS.out.heap 0 rfl) Try.underlying50 rfl (by unfold ordA; kernel_rfl)) rfl ?_
  exact ⟨rfl, HS.out.below⟩
section
variable {P : Program} {ops : Array Oper} {rest : List Oper} {o : Oper} {a : Act} {w : World} {Q : Exit → Act → World → Prop}
theorem wl_callN (hgd : o.guard = none) {f : FuncId} {xs : List Operand} {ts : Array TypeId} {vs : List Value} {R : Ending → World → Prop}
    (ho : o.op = .call { callee := .value (.func f), args := xs.toArray, argTypes := ts }) (hf : ∀ (args : Array Value) (w : World), (callFunc f args).run P w = .ok (.enter f args) w)
    (hx : xs.map a.eval = vs) (hc : Calls P f vs.toArray w R) (h : ∀ e w', R e w' → ∃ v, e = .returned v ∧ wpList P ops Q rest (a.put o.dst v) w') : wpList P ops Q (o :: rest) a w :=
  wpList_plain hgd fun _ hK => wp_call ho hf hx hc fun e w' hr => by
    obtain ⟨v, he, hk⟩ := h e w' hr
    exact ⟨v, he, hK _ _ hk⟩
end
def BlRel (w : World) (g : Nat) (xs : List Int) (iv : Value) (wr : World) : Prop :=
  ∃ j : Nat, j ≤ 32 ∧ iv = .int .i64 ((j : Int) - 1) ∧ Abv xs j ∧ St w NoB wr [.cells g ordA 50, .cells w.heap.size (ivs xs).toArray 48]
set_option maxRecDepth 100000 in
set_option maxHeartbeats 1600000 in
theorem below_r (xs : List Int) (w : World) (hl : xs.length = 33) (hb : Byt xs) :
    Calls Try.prog 28 #[.agg (ivs xs).toArray] w fun e w' => e = .returned (.bool (decide (dv xs < (Lq : Int)))) ∧ Below w.heap.size w w' := by
  have HL := hide hl
  have HB := hide hb
  obtain ⟨bb, hbb⟩ : ∃ b, b = decide (dv xs < (Lq : Int)) := ⟨_, rfl⟩
  rw [← hbb]
  have HBB := hide hbb
  have HS0 := hide ((St.init w NoB).alloc (ivs xs).toArray 48)
  have hz := zero32v
  clear hl hb hbb
  go_enter Try.func28, Try.ntmps28
  go_upto_region 1 with fail
  refine wp_region_list ?_
  refine wl_callN rfl rfl enOrdR rfl (order_r _) ?_
  rintro e w1 ⟨rfl, hb1⟩
  refine ⟨_, rfl, ?_⟩
  have HS1 := hide (HS0.out.call hb1)
  refine wpList_plain rfl ?_
  intro K hK
  go_simp
  refine hK _ _ ?_
  clear hK K
  have HS2 := hide (HS1.out.alloc zer32 50)
  obtain ⟨g, hg⟩ : ∃ g, g = w1.heap.size := ⟨_, rfl⟩
  rw [← hg] at HS2
  have HS3 := hide (show St w NoB _ [.cells g ordA 50, .cells w.heap.size (ivs xs).toArray 48] from HS2.out.setRow 0 rfl ordA)
  refine wpList_store_row rfl 50 (.tmp 3) (.tmp 5) rfl g ordA (by rw [hg]; rfl) rfl 50 _ (HS2.out.heap 0 rfl) (by rw [ordA_size]; kernel_rfl) (by rw [ordA_size]; unfold zer32; rfl) (by unfold ordA; kernel_rfl) ?_
  refine wpList_nil ?_
  have hgE : w1.heap.size = g := hg.symm
  simp only [hgE]
  generalize ((w1.alloc (.cells zer32 50)).setRow g ordA) = wq at HS3 ⊢
  clear hgE hg HS2 HS1 hb1 hz
  have c32 : wq.cell? ⟨w.heap.size, 32, none⟩ = some (.int .i64 (xs.getD 32 0)) := by rw [HS3.out.cell 1 rfl 32]; exact ivs_get (some_getD (by rw [HL.out]; omega))
  have h32 := byt_getD HB.out 32
  have HAB := hide (fun h0 => abv_start HL.out h0)
  have HBG := hide (fun h0 => big_not HL.out HB.out h0)
  obtain ⟨t, ht⟩ : ∃ t, t = xs.getD 32 0 := ⟨_, rfl⟩
  rw [← ht] at c32 h32 HAB HBG
  clear ht
  by_cases ht0 : 0 < t
  · have d0 : decide (0 < t) = true := by simp; omega
    have hbf := HBB.out
    rw [HBG.out ht0] at hbf
    subst hbf
    go_wp2_with fail
    go_ret
    exact ⟨rfl, HS3.out.below⟩
  · have d0 : decide (0 < t) = false := by simp; omega
    have HA := hide (HAB.out (by omega))
    clear ht0 HAB HBG
    go_wp2_with fail
    go_loopw [4] (fun i wr => BlRel w g xs i wr) (fun i _ => (intOf i + 1).toNat)
    case atStart => exact ⟨32, by omega, rfl, HA.out, HS3.out⟩
    case round =>
      clear HS3 c32 h32 d0 HA
      obtain ⟨j, hj, rfl, hA, hS⟩ := hrel
      have HA := hide hA
      have HS := hide hS
      cases j with
      | zero =>
        have hbf := HBB.out
        rw [abv_end hA] at hbf
        subst hbf
        clear hA hS
        go_wp2_with fail
        go_ret
        exact ⟨rfl, HS.out.below⟩
      | succ i =>
        have dj : decide ((0 : Int) ≤ (i : Int)) = true := by simp
        have i33 : (i : Int) < 33 := by omega
        have i32 : (i : Int) < 32 := by omega
        have e1 : (((i + 1 : Nat) : Int) - 1) = (i : Int) := by omega
        have c0 : wr.drew.cell? ⟨w.heap.size, i, none⟩ = some (.int .i64 (xs.getD i 0)) := by rw [hS.drew.cell 1 rfl i]; exact ivs_get (some_getD (by rw [HL.out]; omega))
        have c1 : wr.drew.cell? ⟨g, i, none⟩ = some (.int .i64 (ordL.getD i 0)) := by rw [hS.drew.cell 0 rfl i]; exact ordA_get (by omega)
        have HST := hide (fun he => abv_step HL.out (i := i) (by omega) hA he)
        have HNE := hide (fun he => abv_ne HL.out HB.out (i := i) (by omega) hA he)
        rw [← HBB.out] at HNE
        obtain ⟨x, hx⟩ : ∃ x, x = xs.getD i 0 := ⟨_, rfl⟩
        obtain ⟨y, hy⟩ : ∃ x, x = ordL.getD i 0 := ⟨_, rfl⟩
        rw [← hx] at c0 HST HNE
        rw [← hy] at c1 HST HNE
        clear hx hy hA hS
        simp only [e1]
        by_cases hxy : x = y
        · have dn : (x != y) = false := by simp [hxy]
          have dn2 : decide (x = y) = true := by simp [hxy]
          have HA2 := hide (HST.out hxy)
          subst hxy
          clear HST HNE
          go_upto_region 7 with fail
          refine wp_region_T [(0, 1), (1, 1), (2, 0), (3, 1), (4, 1), (5, 0), (6, 1)] (by kernel_rfl) (by kernel_rfl) (fun _ _ _ _ h => h) ?_
          go_wp2_with (first | (refine wpT_nil ?_)   | ((with_reducible refine fromT_refl ?_); (try simp only [Act.put, List.setIfInBounds_toArray, List.set_cons_zero, List.set_cons_succ, List.getElem_toArray, List.getElem_cons_succ, List.getElem_cons_zero]))   | ((with_reducible refine fromT_mk (by assumption) ?_); (try simp only [Act.put, List.setIfInBounds_toArray, List.set_cons_zero, List.set_cons_succ, List.getElem_toArray, List.getElem_cons_succ, List.getElem_cons_zero]))   | (refine wpT_pure (v := ?_) rfl rfl ?_ ?_; rotate_left; (intro wx; go_simp; try go_bits) <;> (with_reducible rfl); (try simp only [Act.put, List.setIfInBounds_toArray, List.set_cons_zero, List.set_cons_succ, List.getElem_toArray, List.getElem_cons_succ, List.getElem_cons_zero]))   | (refine wpT_load (v := ?_) rfl rfl rfl ?_ ?_; rotate_left; (go_simp; try go_bits) <;> (with_reducible rfl); (try simp only [Act.put, List.setIfInBounds_toArray, List.set_cons_zero, List.set_cons_succ, List.getElem_toArray, List.getElem_cons_succ, List.getElem_cons_zero]))   | (refine wpT_read (v := ?_) rfl rfl ?_ ?_; rotate_left; (intro wx hx; go_simp; try go_bits) <;> (with_reducible rfl); (try simp only [Act.put, List.setIfInBounds_toArray, List.set_cons_zero, List.set_cons_succ, List.getElem_toArray, List.getElem_cons_succ, List.getElem_cons_zero]))   | (refine wpT_call rfl rfl ?_; intro K hK)   | (refine wpT_late rfl rfl ?_; intro K hK)   | (refine wpT_any rfl rfl ?_; intro K hK)   | (refine wpT_skip rfl rfl ?_; (try simp only [Act.put, List.setIfInBounds_toArray, List.set_cons_zero, List.set_cons_succ, List.getElem_toArray, List.getElem_cons_succ, List.getElem_cons_zero])))
          go_roundw
          case rel => exact ⟨i, by omega, by go_num, HA2.out, HS.out.drew⟩
          case measure => (simp [intOf]) <;> omega
        · have dn : (x != y) = true := by simp [hxy]
          have dn2 : decide (x = y) = false := by simp [hxy]
          have HN := HNE.out hxy
          clear HST HNE hxy
          go_upto_region 7 with fail
          refine wp_region_T [(0, 1), (1, 1), (2, 0), (3, 1), (4, 1), (5, 0), (6, 1)] (by kernel_rfl) (by kernel_rfl) (fun _ _ _ _ h => h) ?_
          go_wp2_with (first | (refine wpT_nil ?_)   | ((with_reducible refine fromT_refl ?_); (try simp only [Act.put, List.setIfInBounds_toArray, List.set_cons_zero, List.set_cons_succ, List.getElem_toArray, List.getElem_cons_succ, List.getElem_cons_zero]))   | ((with_reducible refine fromT_mk (by assumption) ?_); (try simp only [Act.put, List.setIfInBounds_toArray, List.set_cons_zero, List.set_cons_succ, List.getElem_toArray, List.getElem_cons_succ, List.getElem_cons_zero]))   | (refine wpT_pure (v := ?_) rfl rfl ?_ ?_; rotate_left; (intro wx; go_simp; try go_bits) <;> (with_reducible rfl); (try simp only [Act.put, List.setIfInBounds_toArray, List.set_cons_zero, List.set_cons_succ, List.getElem_toArray, List.getElem_cons_succ, List.getElem_cons_zero]))   | (refine wpT_load (v := ?_) rfl rfl rfl ?_ ?_; rotate_left; (go_simp; try go_bits) <;> (with_reducible rfl); (try simp only [Act.put, List.setIfInBounds_toArray, List.set_cons_zero, List.set_cons_succ, List.getElem_toArray, List.getElem_cons_succ, List.getElem_cons_zero]))   | (refine wpT_read (v := ?_) rfl rfl ?_ ?_; rotate_left; (intro wx hx; go_simp; try go_bits) <;> (with_reducible rfl); (try simp only [Act.put, List.setIfInBounds_toArray, List.set_cons_zero, List.set_cons_succ, List.getElem_toArray, List.getElem_cons_succ, List.getElem_cons_zero]))   | (refine wpT_call rfl rfl ?_; intro K hK)   | (refine wpT_late rfl rfl ?_; intro K hK)   | (refine wpT_any rfl rfl ?_; intro K hK)   | (refine wpT_skip rfl rfl ?_; (try simp only [Act.put, List.setIfInBounds_toArray, List.set_cons_zero, List.set_cons_succ, List.getElem_toArray, List.getElem_cons_succ, List.getElem_cons_zero])))
          refine wp_region_T [(0, 1), (1, 1), (2, 0), (3, 1), (4, 1), (5, 0), (6, 1), (7, 1)] (by kernel_rfl) (by kernel_rfl) (fun _ _ _ _ h => h) ?_
          go_wp2_with (first | (refine wpT_nil ?_)   | ((with_reducible refine fromT_refl ?_); (try simp only [Act.put, List.setIfInBounds_toArray, List.set_cons_zero, List.set_cons_succ, List.getElem_toArray, List.getElem_cons_succ, List.getElem_cons_zero]))   | ((with_reducible refine fromT_mk (by assumption) ?_); (try simp only [Act.put, List.setIfInBounds_toArray, List.set_cons_zero, List.set_cons_succ, List.getElem_toArray, List.getElem_cons_succ, List.getElem_cons_zero]))   | (refine wpT_pure (v := ?_) rfl rfl ?_ ?_; rotate_left; (intro wx; go_simp; try go_bits) <;> (with_reducible rfl); (try simp only [Act.put, List.setIfInBounds_toArray, List.set_cons_zero, List.set_cons_succ, List.getElem_toArray, List.getElem_cons_succ, List.getElem_cons_zero]))   | (refine wpT_load (v := ?_) rfl rfl rfl ?_ ?_; rotate_left; (go_simp; try go_bits) <;> (with_reducible rfl); (try simp only [Act.put, List.setIfInBounds_toArray, List.set_cons_zero, List.set_cons_succ, List.getElem_toArray, List.getElem_cons_succ, List.getElem_cons_zero]))   | (refine wpT_read (v := ?_) rfl rfl ?_ ?_; rotate_left; (intro wx hx; go_simp; try go_bits) <;> (with_reducible rfl); (try simp only [Act.put, List.setIfInBounds_toArray, List.set_cons_zero, List.set_cons_succ, List.getElem_toArray, List.getElem_cons_succ, List.getElem_cons_zero]))   | (refine wpT_call rfl rfl ?_; intro K hK)   | (refine wpT_late rfl rfl ?_; intro K hK)   | (refine wpT_any rfl rfl ?_; intro K hK)   | (refine wpT_skip rfl rfl ?_; (try simp only [Act.put, List.setIfInBounds_toArray, List.set_cons_zero, List.set_cons_succ, List.getElem_toArray, List.getElem_cons_succ, List.getElem_cons_zero])))
          go_ret
          exact ⟨rfl, HS.out.drew.drew.below⟩
def MyRel (w : World) (l : List UInt8) (iv : Value) (wr : World) : Prop :=
  ∃ i : Nat, i ≤ 32 ∧ iv = .int .i64 (i : Int) ∧ St w NoB wr [.cells w.heap.size (ivs ((rwL l).take i ++ List.replicate (33 - i) 0)).toArray 48]
theorem zero33v (w : World) : (zeroValue 48).run Try.prog w = .ok (.agg (ivs (List.replicate 33 0)).toArray) w := by kernel_rfl
theorem rwL_len (l : List UInt8) : (rwL l).length = l.length := by simp [rwL]
theorem rwL_get {l : List UInt8} {k : Nat} {c : UInt8} (h : l[k]? = some c) : (rwL l)[k]? = some (c.toNat : Int) := by simp [rwL, h]
theorem part_get {xs : List Int} {n i : Nat} (hl : xs.length + 1 = n) (hi : i < xs.length) : (xs.take i ++ List.replicate (n - i) 0)[i]? = some 0 := by
  have h : (xs.take i).length = i := by rw [List.length_take]; omega
  rw [List.getElem?_append_right (by rw [h]; exact Nat.le_refl _), h, Nat.sub_self, List.getElem?_replicate, if_pos (by omega)]
theorem part_set {xs : List Int} {n i : Nat} {x : Int} (hl : xs.length + 1 = n) (hx : xs[i]? = some x) : (xs.take i ++ List.replicate (n - i) 0).set i x = xs.take (i + 1) ++ List.replicate (n - (i + 1)) 0 := by
  have hi := (List.getElem?_eq_some_iff.1 hx).1
  have h : (xs.take i).length = i := by rw [List.length_take]; omega
  rw [List.set_append_right _ _ (by rw [h]; exact Nat.le_refl _), h, Nat.sub_self, show n - i = (n - (i + 1)) + 1 from by omega, List.replicate_succ, List.set_cons_zero, List.take_add_one, hx, List.append_assoc]
  rfl
theorem enBelowR (args : Array Value) (w : World) : (callFunc 28 args).run Try.prog w = .ok (.enter 28 args) w := by kernel_rfl
set_option maxRecDepth 100000 in
set_option maxHeartbeats 1600000 in
theorem mayR (A : Option Addr) (n c : Nat) (l : List UInt8) (w : World) (hl : l.length = n) (hr : Rd w (.slice A n c) 1 n (bvs l)) :
    Calls Try.prog 15 #[.slice A n c] w fun e w' => e = .returned (.bool (mayS l)) ∧ Below w.heap.size w w' := by
  have HR := hide hr
  have HL := hide hl
  by_cases h32 : n = 32
  · subst h32
    have hz := zero33v
    have HS0 := hide (show St w NoB _ [.cells w.heap.size (ivs ((rwL l).take 0 ++ List.replicate (33 - 0) 0)).toArray 48] from (St.init w NoB).alloc (ivs (List.replicate 33 0)).toArray 48)
    clear hr hl
    go_enter Try.func15, Try.ntmps15
    go_wp2_with fail
    go_loopw [11] (fun i wr => MyRel w l i wr) (fun i _ => 32 - (intOf i).toNat)
    case atStart => exact ⟨0, by omega, rfl, HS0.out⟩
    case round =>
      clear HS0 hz
      obtain ⟨i, hi, rfl, hS⟩ := hrel
      have HS := hide hS
      by_cases hlt : i < 32
      · have d32 : decide ((i : Int) < 32) = true := by simp; omega
        have i32 : (i : Int) < 32 := by omega
        have i33 : (i : Int) < 33 := by omega
        have hxb : l[i]? = some (l.getD i 0) := by rw [List.getD_eq_getElem?_getD, List.getElem?_eq_getElem (by rw [HL.out]; exact hlt)]; rfl
        obtain ⟨b, o, rfl, hcb⟩ := rd_at' (HR.out.st hS) (bvs_get hxb)
        obtain ⟨ch, hch⟩ : ∃ c : Nat, c = (l.getD i 0).toNat := ⟨_, rfl⟩
        have hc8 : ch < 256 := by rw [hch]; exact UInt8.toNat_lt _
        rw [← hch] at hcb
        have hLL : (rwL l).length + 1 = 33 := by rw [rwL_len, HL.out]
        have c0 : wr.cell? ⟨w.heap.size, i, none⟩ = some (.int .i64 0) := by rw [hS.cell 0 rfl i]; exact ivs_get (part_get hLL (by omega))
        have f0 := hS.free 0 rfl i
        have HT := hide (part_set hLL (x := (ch : Int)) (by rw [hch]; exact rwL_get hxb))
        clear hS hch hxb hLL
        go_wp2_with fail
        go_roundw
        case rel =>
          have h3 := HS.out.setCell 0 rfl i (.int .i64 (ch : Int))
          rw [List.set_cons_zero, ivs_set, HT.out] at h3
          exact ⟨i + 1, by omega, by go_num, h3⟩
        case measure => (simp [intOf]) <;> omega
      · obtain rfl : i = 32 := by omega
        have hx : (rwL l).take 32 ++ List.replicate (33 - 32) 0 = rwL l ++ [0] := by rw [List.take_of_length_le (by rw [rwL_len, HL.out]; exact Nat.le_refl _)]; rfl
        rw [hx] at hS
        have hby : Byt (rwL l ++ [0]) := fun x hx => by
          rcases List.mem_append.1 hx with h | h
          · exact rwL_byt l x h
          · simp at h; omega
        have hlen : (rwL l ++ [0]).length = 33 := by rw [List.length_append, rwL_len, HL.out]; rfl
        have hdv : dv (rwL l ++ [0]) = (bval l : Int) := by rw [dv_append, rwL_dv]; simp [dv]
        have HB := hide (fun W => below_r (rwL l ++ [0]) W hlen hby)
        rw [hdv] at HB
        have he : mayS l = decide ((bval l : Int) < (Lq : Int)) := by
          unfold mayS
          rw [decide_eq_true HL.out, Bool.true_and, decide_eq_decide]
          omega
        rw [← he] at HB
        obtain ⟨xa, hxa⟩ : ∃ a, a = (ivs (rwL l ++ [0])).toArray := ⟨_, rfl⟩
        have hsz : xa.size = 33 := by rw [hxa, List.size_toArray, ivs_len, hlen]
        rw [← hxa] at HB hS
        have HS1 := hide hS
        clear hS HS hx hby hlen hdv he hxa
        go_upto_region 9 with fail
        refine wp_region_list ?_
        refine wpList_load_row rfl 48 (.tmp 3) rfl w.heap.size rfl 48 xa _ _ (HS1.out.heap 0 rfl) Try.underlying48 rfl (by rw [hsz]; kernel_rfl) ?_
        refine wl_callN rfl rfl enBelowR rfl (HB.out _) ?_
        rintro e w2 ⟨rfl, hb2⟩
        refine ⟨_, rfl, ?_⟩
        have HS2 := hide (HS1.out.call hb2)
        go_wp2_with fail
        go_ret
        exact ⟨rfl, HS2.out.below⟩
  · have d32 : decide ((n : Int) = 32) = false := by simp; omega
    have d32b : ((n : Int) != 32) = true := by simp; omega
    have n32 : ¬ (n : Int) = 32 := by omega
    have hm : mayS l = false := by
      unfold mayS
      rw [HL.out, decide_eq_false h32, Bool.false_and]
    rw [hm]
    clear hr hl h32 hm
    go_enter Try.func15, Try.ntmps15
    go_wp2_with fail
    go_ret
    exact ⟨rfl, Below.refl _ _⟩
end Go.Proofs.Ytgofcefggdlalaa
