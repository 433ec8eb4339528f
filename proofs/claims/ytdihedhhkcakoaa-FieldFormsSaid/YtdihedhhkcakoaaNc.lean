/-
  The page's Add, Sub.
-/
import Derived.Test.YtdihedhhkcakoaaNb
namespace Go.Proofs.Ytdihedhhkcakoaa
open Go.RowKit
set_option linter.unusedSimpArgs false

section
variable {P : Program} {ops : Array Oper} {rest : List Oper} {o : Oper} {a : Act} {w : World} {Q : Exit → Act → World → Prop}
theorem wl_callN (hgd : o.guard = none) {f : FuncId} {xs : List Operand} {ts : Array TypeId} {vs : List Value} {R : Ending → World → Prop}
    (ho : o.op = .call { callee := .value (.func f), args := xs.toArray, argTypes := ts }) (hf : ∀ (args : Array Value) (w : World), (callFunc f args).run P w = .ok (.enter f args) w)
    (hx : xs.map a.eval = vs) (hc : Calls P f vs.toArray w R) (h : ∀ e w', R e w' → ∃ v, e = .returned v ∧ wpList P ops Q rest (a.put o.dst v) w') : wpList P ops Q (o :: rest) a w :=
  wpList_plain hgd fun _ hK => wp_call ho hf hx hc fun e w' hr => by
    obtain ⟨v, he, hk⟩ := h e w' hr
    exact ⟨v, he, hK _ _ hk⟩
end
theorem enCarryN (args : Array Value) (w : World) : (callFunc 37 args).run Try.prog w = .ok (.enter 37 args) w := by kernel_rfl
def zpF (f : Int → Int → Int) (xs ys : List Int) (i : Nat) : List Int := (List.zipWith f xs ys).take i ++ xs.drop i
theorem zpF_zero (f : Int → Int → Int) (xs ys : List Int) : zpF f xs ys 0 = xs := by simp [zpF]
theorem zpF_all (f : Int → Int → Int) (xs ys : List Int) (h : xs.length = 16) (h2 : ys.length = 16) : zpF f xs ys 16 = List.zipWith f xs ys := by
  unfold zpF
  rw [List.take_of_length_le (by rw [List.length_zipWith, h, h2]; omega), List.drop_of_length_le (by omega), List.append_nil]
theorem zpF_get (f : Int → Int → Int) (xs ys : List Int) (i : Nat) (x : Int) (h : xs.length = 16) (h2 : ys.length = 16) (hx : xs[i]? = some x) : (zpF f xs ys i)[i]? = some x := by
  have hi := (List.getElem?_eq_some_iff.1 hx).1
  have hl : ((List.zipWith f xs ys).take i).length = i := by rw [List.length_take, List.length_zipWith, h, h2]; omega
  unfold zpF
  rw [List.getElem?_append_right (by rw [hl]; omega), hl, Nat.sub_self, List.getElem?_drop, Nat.add_zero, hx]
theorem zpF_set (f : Int → Int → Int) (xs ys : List Int) (i : Nat) (x y : Int) (h : xs.length = 16) (h2 : ys.length = 16) (hx : xs[i]? = some x) (hy : ys[i]? = some y) : (zpF f xs ys i).set i (f x y) = zpF f xs ys (i + 1) := by
  have hi := (List.getElem?_eq_some_iff.1 hx).1
  have hl : ((List.zipWith f xs ys).take i).length = i := by rw [List.length_take, List.length_zipWith, h, h2]; omega
  have hz : (List.zipWith f xs ys)[i]? = some (f x y) := by rw [List.getElem?_zipWith, hx, hy]
  unfold zpF
  rw [List.set_append_right _ _ (by rw [hl]; omega), hl, Nat.sub_self, List.drop_eq_getElem_cons (by omega), List.set_cons_zero, List.take_add_one, hz, List.append_assoc]
  rfl
def ZpRel (f : Int → Int → Int) (w : World) (xs ys : List Int) (iv : Value) (wr : World) : Prop :=
  ∃ i : Nat, i ≤ 16 ∧ iv = .int .i64 (i : Int) ∧ St w NoB wr [.cells (w.heap.size + 2) (ivs (List.replicate 16 0)).toArray 41, .cells (w.heap.size + 1) (ivs ys).toArray 41, .cells w.heap.size (ivs (zpF f xs ys i)).toArray 41]
/-- Rows of the page's numbers: bounds of a sum. -/
def SmR (xs : List Int) : Prop := xs.length = 16 ∧ ∀ k, -65700 ≤ xs.getD k 0 ∧ xs.getD k 0 ≤ 131300
theorem cyB_small {xs : List Int} (h : xs.length = 16) (h1 : ∀ (k : Nat) (x : Int), xs[k]? = some x → -131300 ≤ x ∧ x ≤ 131300) : CyB xs := by
  have hb := ky_bd xs 131300 (by omega) h1
  refine ⟨h, fun i => ?_, by have := hb 16; omega, by have := hb 16; omega⟩
  have := hb i
  have hx : -131300 ≤ xs.getD i 0 ∧ xs.getD i 0 ≤ 131300 := by
    rw [List.getD_eq_getElem?_getD]
    cases hg : xs[i]? with
    | none => simp only [Option.getD_none]; omega
    | some x => exact h1 i x hg
  omega
theorem nb_get {xs : List Int} (h : NB xs) {k : Nat} (hk : k < 16) : ∃ x, xs[k]? = some x ∧ -76 ≤ x ∧ x < 65612 := by
  have hx : xs[k]? = some (xs[k]'(by rw [h.1]; exact hk)) := List.getElem?_eq_getElem (by rw [h.1]; exact hk)
  have := h.2 k _ hx
  refine ⟨_, hx, ?_⟩
  split at this <;> omega
theorem zip_get {f : Int → Int → Int} {xs ys : List Int} {k : Nat} {z : Int} (h : (List.zipWith f xs ys)[k]? = some z) : ∃ x y, xs[k]? = some x ∧ ys[k]? = some y ∧ z = f x y := by
  rw [List.getElem?_zipWith] at h
  cases hx : xs[k]? with
  | none => rw [hx] at h; simp at h
  | some x =>
    cases hy : ys[k]? with
    | none => rw [hx, hy] at h; simp at h
    | some y => rw [hx, hy] at h; simp at h; exact ⟨x, y, rfl, rfl, h.symm⟩
theorem nv_zipAdd : ∀ (xs ys : List Int), xs.length = ys.length → nv (List.zipWith (· + ·) xs ys) = nv xs + nv ys
  | [], [], _ => rfl
  | x :: xs, y :: ys, h => by
    simp only [List.zipWith_cons_cons, nv, nv_zipAdd xs ys (by simpa using h)]
    omega
  | [], _ :: _, h => by simp at h
  | _ :: _, [], h => by simp at h
theorem nb_addN {xs ys : List Int} (h : NB xs) (h2 : NB ys) : NB (carL (List.zipWith (· + ·) xs ys)) := by
  refine carL_nb1 _ fun k z hz => ?_
  obtain ⟨x, y, hx, hy, rfl⟩ := zip_get hz
  have b1 := h.2 k x hx
  have b2 := h2.2 k y hy
  split at b1 <;> split at b2 <;> first | omega | (split <;> omega)
set_option maxRecDepth 100000 in
set_option maxHeartbeats 1600000 in
theorem addN_any (xs ys : List Int) (w : World) (h : NB xs) (h2 : NB ys) :
    Calls Try.prog 23 #[.agg (ivs xs).toArray, .agg (ivs ys).toArray] w fun e w' => e = .returned (.agg (ivs (carL (List.zipWith (· + ·) xs ys))).toArray) ∧ Below w.heap.size w w' := by
  have HN := hide h
  have HM := hide h2
  have HL := hide h.1
  have HL2 := hide h2.1
  have HS0 := (((St.init w NoB).alloc (ivs xs).toArray 41).alloc (ivs ys).toArray 41).alloc (ivs (List.replicate 16 0)).toArray 41
  rw [size_alloc1, size_alloc1] at HS0
  have HS := hide HS0
  clear HS0 h h2
  go_enter Try.func23, Try.ntmps23
  go_wp2_with fail
  go_loopw [6] (fun i wr => ZpRel (· + ·) w xs ys i wr) (fun i _ => 16 - (intOf i).toNat)
  case atStart => exact ⟨0, by omega, rfl, by rw [zpF_zero]; exact HS.out⟩
  case round =>
    clear HS
    obtain ⟨i, hi, rfl, hS⟩ := hrel
    have HS := hide hS
    by_cases hlt : i < 16
    · have d16 : decide ((i : Int) < 16) = true := by simp; omega
      have i16 : (i : Int) < 16 := by omega
      obtain ⟨x, hx, bx0, bx1⟩ := nb_get HN.out hlt
      obtain ⟨y, hy, by0, by1⟩ := nb_get HM.out hlt
      have c0 : wr.cell? ⟨w.heap.size, i, none⟩ = some (.int .i64 x) := by rw [hS.cell 2 rfl i]; exact ivs_get (zpF_get _ xs ys i x HL.out HL2.out hx)
      have c1 : wr.cell? ⟨w.heap.size + 1, i, none⟩ = some (.int .i64 y) := by rw [hS.cell 1 rfl i]; exact ivs_get hy
      have f0 := hS.free 2 rfl i
      have HT := hide (zpF_set (· + ·) xs ys i x y HL.out HL2.out hx hy)
      clear hx hy hS
      go_upto_region 4 with fail
      have c0' : wr.drew.cell? ⟨w.heap.size, i, none⟩ = some (.int .i64 x) := c0
      have c1' : wr.drew.cell? ⟨w.heap.size + 1, i, none⟩ = some (.int .i64 y) := c1
      have f0' : wr.drew.frozen? ⟨w.heap.size, i, none⟩ = false := f0
      refine wp_region_T [(0, 1), (1, 1), (2, 0), (3, 1), (4, 1), (5, 0), (6, 1), (7, 1), (8, 3)] (by kernel_rfl) (by kernel_rfl) (fun _ _ _ _ h => h) ?_
      go_wp2_with (first | (refine wpT_nil ?_)   | (refine fromT_refl ?_; (try simp only [Act.put, List.setIfInBounds_toArray, List.set_cons_zero, List.set_cons_succ, List.getElem_toArray, List.getElem_cons_succ, List.getElem_cons_zero]))   | (refine fromT_mk (by assumption) ?_; (try simp only [Act.put, List.setIfInBounds_toArray, List.set_cons_zero, List.set_cons_succ, List.getElem_toArray, List.getElem_cons_succ, List.getElem_cons_zero]))   | (refine wpT_pure (v := ?_) rfl (by first | kernel_rfl | rfl) ?_ ?_; rotate_left; (intro wx; go_simp) <;> (with_reducible rfl); (try simp only [Act.put, List.setIfInBounds_toArray, List.set_cons_zero, List.set_cons_succ, List.getElem_toArray, List.getElem_cons_succ, List.getElem_cons_zero]))   | (refine wpT_load (v := ?_) rfl rfl (by first | kernel_rfl | rfl) ?_ ?_; rotate_left; (go_simp) <;> (with_reducible rfl); (try simp only [Act.put, List.setIfInBounds_toArray, List.set_cons_zero, List.set_cons_succ, List.getElem_toArray, List.getElem_cons_succ, List.getElem_cons_zero]))   | (refine wpT_read (v := ?_) rfl (by first | kernel_rfl | rfl) ?_ ?_; rotate_left; (intro wx hx; go_simp) <;> (with_reducible rfl); (try simp only [Act.put, List.setIfInBounds_toArray, List.set_cons_zero, List.set_cons_succ, List.getElem_toArray, List.getElem_cons_succ, List.getElem_cons_zero]))   | (refine wpT_call rfl (by first | kernel_rfl | rfl) ?_; intro K hK)   | (refine wpT_late rfl (by first | kernel_rfl | rfl) ?_; intro K hK)   | (refine wpT_any rfl (by first | kernel_rfl | rfl) ?_; intro K hK)   | (refine wpT_skip rfl (by first | kernel_rfl | rfl) ?_; (try simp only [Act.put, List.setIfInBounds_toArray, List.set_cons_zero, List.set_cons_succ, List.getElem_toArray, List.getElem_cons_succ, List.getElem_cons_zero])))
      go_roundw
      case rel =>
        have h3 := HS.out.drew.setCell 2 rfl i (.int .i64 (x + y))
        simp only [List.set_cons_succ, List.set_cons_zero, ivs_set] at h3
        rw [HT.out] at h3
        exact ⟨i + 1, by omega, by go_num, h3⟩
      case measure => (simp [intOf]) <;> omega
    · obtain rfl : i = 16 := by omega
      rw [zpF_all _ xs ys HL.out HL2.out] at hS
      obtain ⟨zs, hzs⟩ : ∃ zs, zs = List.zipWith (· + ·) xs ys := ⟨_, rfl⟩
      have HC := hide (carry_any (List.zipWith (· + ·) xs ys))
      have hB : CyB (List.zipWith (· + ·) xs ys) := by
        refine cyB_small (by rw [List.length_zipWith, HL.out, HL2.out]; rfl) fun k z hz => ?_
        obtain ⟨x, y, hx, hy, rfl⟩ := zip_get hz
        have b1 := HN.out.2 k x hx
        have b2 := HM.out.2 k y hy
        split at b1 <;> split at b2 <;> first | omega | (constructor <;> omega)
      rw [← hzs] at hS HC hB
      have HZ := hide hzs
      have HB := hide hB
      obtain ⟨ys', hys'⟩ : ∃ a, a = (ivs zs).toArray := ⟨_, rfl⟩
      have hsz : ys'.size = 16 := by rw [hys', List.size_toArray, ivs_len]; exact HB.out.1
      have hone : (ivs (carL zs)).toArray.all (·.oneCell') = true := ivs_all _
      have hsc : (ivs (carL zs)).toArray.size = 16 := by rw [List.size_toArray, ivs_len, carL_len]
      have HC2 := hide (fun W => HC.out W HB.out)
      rw [← hys'] at hS HC2
      have HS1 := hide hS
      clear hS hys' HS hB hzs HC
      go_upto_region 6 with fail
      refine wp_region_list ?_
      refine wpList_load_row rfl 41 (.tmp 2) rfl w.heap.size rfl 41 ys' _ _ (HS1.out.heap 2 rfl) Try.underlying41 rfl (by rw [hsz]; kernel_rfl) ?_
      refine wl_callN rfl rfl enCarryN rfl (HC2.out _) ?_
      rintro e w1 ⟨rfl, hb1⟩
      refine ⟨_, rfl, ?_⟩
      have HS2 := hide (HS1.out.call hb1)
      have HS3 := hide (HS2.out.setRow 0 rfl (ivs (carL zs)).toArray)
      refine wpList_store_row rfl 41 (.tmp 4) (.tmp 19) rfl (w.heap.size + 2) (ivs (carL zs)).toArray rfl rfl 41 _ (HS2.out.heap 0 rfl) (by rw [hsc]; kernel_rfl) (by rw [hsc]; rfl) hone ?_
      refine wpList_nil ?_
      go_wp2_with fail
      refine bodyPost_ret (results_cell_row rfl _ _ (w.heap.size + 2) _ _ _ _ rfl (HS3.out.heap 0 rfl) Try.underlying41 rfl (by rw [hsc]; kernel_rfl)) rfl ?_
      exact ⟨by rw [HZ.out], HS3.out.below⟩
theorem nb_subN {xs ys : List Int} (h : NB xs) (h2 : NB ys) : NB (carL (List.zipWith (· - ·) xs ys)) := by
  refine carL_nb1 _ fun k z hz => ?_
  obtain ⟨x, y, hx, hy, rfl⟩ := zip_get hz
  have b1 := h.2 k x hx
  have b2 := h2.2 k y hy
  split at b1 <;> split at b2 <;> first | omega | (split <;> omega)
set_option maxRecDepth 100000 in
set_option maxHeartbeats 1600000 in
theorem subN_any (xs ys : List Int) (w : World) (h : NB xs) (h2 : NB ys) :
    Calls Try.prog 24 #[.agg (ivs xs).toArray, .agg (ivs ys).toArray] w fun e w' => e = .returned (.agg (ivs (carL (List.zipWith (· - ·) xs ys))).toArray) ∧ Below w.heap.size w w' := by
  have HN := hide h
  have HM := hide h2
  have HL := hide h.1
  have HL2 := hide h2.1
  have HS0 := (((St.init w NoB).alloc (ivs xs).toArray 41).alloc (ivs ys).toArray 41).alloc (ivs (List.replicate 16 0)).toArray 41
  rw [size_alloc1, size_alloc1] at HS0
  have HS := hide HS0
  clear HS0 h h2
  go_enter Try.func24, Try.ntmps24
  go_wp2_with fail
  go_loopw [6] (fun i wr => ZpRel (· - ·) w xs ys i wr) (fun i _ => 16 - (intOf i).toNat)
  case atStart => exact ⟨0, by omega, rfl, by rw [zpF_zero]; exact HS.out⟩
  case round =>
    clear HS
    obtain ⟨i, hi, rfl, hS⟩ := hrel
    have HS := hide hS
    by_cases hlt : i < 16
    · have d16 : decide ((i : Int) < 16) = true := by simp; omega
      have i16 : (i : Int) < 16 := by omega
      obtain ⟨x, hx, bx0, bx1⟩ := nb_get HN.out hlt
      obtain ⟨y, hy, by0, by1⟩ := nb_get HM.out hlt
      have c0 : wr.cell? ⟨w.heap.size, i, none⟩ = some (.int .i64 x) := by rw [hS.cell 2 rfl i]; exact ivs_get (zpF_get _ xs ys i x HL.out HL2.out hx)
      have c1 : wr.cell? ⟨w.heap.size + 1, i, none⟩ = some (.int .i64 y) := by rw [hS.cell 1 rfl i]; exact ivs_get hy
      have f0 := hS.free 2 rfl i
      have HT := hide (zpF_set (· - ·) xs ys i x y HL.out HL2.out hx hy)
      clear hx hy hS
      go_upto_region 4 with fail
      have c0' : wr.drew.cell? ⟨w.heap.size, i, none⟩ = some (.int .i64 x) := c0
      have c1' : wr.drew.cell? ⟨w.heap.size + 1, i, none⟩ = some (.int .i64 y) := c1
      have f0' : wr.drew.frozen? ⟨w.heap.size, i, none⟩ = false := f0
      refine wp_region_T [(0, 1), (1, 1), (2, 0), (3, 1), (4, 1), (5, 0), (6, 1), (7, 1), (8, 3)] (by kernel_rfl) (by kernel_rfl) (fun _ _ _ _ h => h) ?_
      go_wp2_with (first | (refine wpT_nil ?_)   | (refine fromT_refl ?_; (try simp only [Act.put, List.setIfInBounds_toArray, List.set_cons_zero, List.set_cons_succ, List.getElem_toArray, List.getElem_cons_succ, List.getElem_cons_zero]))   | (refine fromT_mk (by assumption) ?_; (try simp only [Act.put, List.setIfInBounds_toArray, List.set_cons_zero, List.set_cons_succ, List.getElem_toArray, List.getElem_cons_succ, List.getElem_cons_zero]))   | (refine wpT_pure (v := ?_) rfl (by first | kernel_rfl | rfl) ?_ ?_; rotate_left; (intro wx; go_simp) <;> (with_reducible rfl); (try simp only [Act.put, List.setIfInBounds_toArray, List.set_cons_zero, List.set_cons_succ, List.getElem_toArray, List.getElem_cons_succ, List.getElem_cons_zero]))   | (refine wpT_load (v := ?_) rfl rfl (by first | kernel_rfl | rfl) ?_ ?_; rotate_left; (go_simp) <;> (with_reducible rfl); (try simp only [Act.put, List.setIfInBounds_toArray, List.set_cons_zero, List.set_cons_succ, List.getElem_toArray, List.getElem_cons_succ, List.getElem_cons_zero]))   | (refine wpT_read (v := ?_) rfl (by first | kernel_rfl | rfl) ?_ ?_; rotate_left; (intro wx hx; go_simp) <;> (with_reducible rfl); (try simp only [Act.put, List.setIfInBounds_toArray, List.set_cons_zero, List.set_cons_succ, List.getElem_toArray, List.getElem_cons_succ, List.getElem_cons_zero]))   | (refine wpT_call rfl (by first | kernel_rfl | rfl) ?_; intro K hK)   | (refine wpT_late rfl (by first | kernel_rfl | rfl) ?_; intro K hK)   | (refine wpT_any rfl (by first | kernel_rfl | rfl) ?_; intro K hK)   | (refine wpT_skip rfl (by first | kernel_rfl | rfl) ?_; (try simp only [Act.put, List.setIfInBounds_toArray, List.set_cons_zero, List.set_cons_succ, List.getElem_toArray, List.getElem_cons_succ, List.getElem_cons_zero])))
      go_roundw
      case rel =>
        have h3 := HS.out.drew.setCell 2 rfl i (.int .i64 (x - y))
        simp only [List.set_cons_succ, List.set_cons_zero, ivs_set] at h3
        rw [HT.out] at h3
        exact ⟨i + 1, by omega, by go_num, h3⟩
      case measure => (simp [intOf]) <;> omega
    · obtain rfl : i = 16 := by omega
      rw [zpF_all _ xs ys HL.out HL2.out] at hS
      obtain ⟨zs, hzs⟩ : ∃ zs, zs = List.zipWith (· - ·) xs ys := ⟨_, rfl⟩
      have HC := hide (carry_any (List.zipWith (· - ·) xs ys))
      have hB : CyB (List.zipWith (· - ·) xs ys) := by
        refine cyB_small (by rw [List.length_zipWith, HL.out, HL2.out]; rfl) fun k z hz => ?_
        obtain ⟨x, y, hx, hy, rfl⟩ := zip_get hz
        have b1 := HN.out.2 k x hx
        have b2 := HM.out.2 k y hy
        split at b1 <;> split at b2 <;> first | omega | (constructor <;> omega)
      rw [← hzs] at hS HC hB
      have HZ := hide hzs
      have HB := hide hB
      obtain ⟨ys', hys'⟩ : ∃ a, a = (ivs zs).toArray := ⟨_, rfl⟩
      have hsz : ys'.size = 16 := by rw [hys', List.size_toArray, ivs_len]; exact HB.out.1
      have hone : (ivs (carL zs)).toArray.all (·.oneCell') = true := ivs_all _
      have hsc : (ivs (carL zs)).toArray.size = 16 := by rw [List.size_toArray, ivs_len, carL_len]
      have HC2 := hide (fun W => HC.out W HB.out)
      rw [← hys'] at hS HC2
      have HS1 := hide hS
      clear hS hys' HS hB hzs HC
      go_upto_region 6 with fail
      refine wp_region_list ?_
      refine wpList_load_row rfl 41 (.tmp 2) rfl w.heap.size rfl 41 ys' _ _ (HS1.out.heap 2 rfl) Try.underlying41 rfl (by rw [hsz]; kernel_rfl) ?_
      refine wl_callN rfl rfl enCarryN rfl (HC2.out _) ?_
      rintro e w1 ⟨rfl, hb1⟩
      refine ⟨_, rfl, ?_⟩
      have HS2 := hide (HS1.out.call hb1)
      have HS3 := hide (HS2.out.setRow 0 rfl (ivs (carL zs)).toArray)
      refine wpList_store_row rfl 41 (.tmp 4) (.tmp 19) rfl (w.heap.size + 2) (ivs (carL zs)).toArray rfl rfl 41 _ (HS2.out.heap 0 rfl) (by rw [hsc]; kernel_rfl) (by rw [hsc]; rfl) hone ?_
      refine wpList_nil ?_
      go_wp2_with fail
      refine bodyPost_ret (results_cell_row rfl _ _ (w.heap.size + 2) _ _ _ _ rfl (HS3.out.heap 0 rfl) Try.underlying41 rfl (by rw [hsc]; kernel_rfl)) rfl ?_
      exact ⟨by rw [HZ.out], HS3.out.below⟩
end Go.Proofs.Ytdihedhhkcakoaa
