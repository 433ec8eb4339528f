/-
  The page's numbers as elements of the field: what its functions answer.
-/
import Derived.Test.YtdihedhhkcakoaaNf
import Derived.Test.YtdihedhhkcakoaaTy
namespace Go.Proofs.Ytdihedhhkcakoaa
open Go.RowKit
set_option linter.unusedSimpArgs false

theorem pq_cast (n : Nat) : ((n % Pq : Nat) : Int) = (n : Int) % (Pq : Int) := Int.natCast_emod n Pq
theorem ne_add {xs ys : List Int} {X Y : FK} (h : NE xs X) (h2 : NE ys Y) : NE (carL (List.zipWith (· + ·) xs ys)) (X + Y) := by
  refine ⟨nb_addN h.1 h2.1, ?_⟩
  rw [carL_mod _ (by rw [List.length_zipWith, h.1.1, h2.1.1]; rfl), nv_zipAdd _ _ (by rw [h.1.1, h2.1.1]), fadd_val, pq_cast, Int.natCast_add, ← h.2, ← h2.2, ← Int.add_emod]
theorem ne_sub {xs ys : List Int} {X Y : FK} (h : NE xs X) (h2 : NE ys Y) : NE (carL (List.zipWith (· - ·) xs ys)) (X - Y) := by
  refine ⟨nb_subN h.1 h2.1, ?_⟩
  have hy := Y.isLt
  rw [carL_mod _ (by rw [List.length_zipWith, h.1.1, h2.1.1]; rfl), nv_zip _ _ (by rw [h.1.1, h2.1.1]), fsub_val, pq_cast, Int.natCast_add, Int.natCast_sub (by omega), ← h.2, ← h2.2]
  rw [show nv xs % (Pq : Int) + ((Pq : Int) - nv ys % (Pq : Int)) = nv xs % (Pq : Int) - nv ys % (Pq : Int) + (Pq : Int) from by omega, Int.add_emod_right, ← Int.sub_emod]
theorem ne_mul {xs ys : List Int} {X Y : FK} (h : NE xs X) (h2 : NE ys Y) : NE (muN xs ys) (X * Y) := by
  obtain ⟨h3, h4⟩ := muN_ok h.1 h2.1
  refine ⟨h3, ?_⟩
  rw [h4, fmul_val, pq_cast, Int.natCast_mul, ← h.2, ← h2.2, ← Int.mul_emod]
theorem ne_toNat {xs : List Int} {X : FK} (h : NE xs X) : (nv xs % (Pq : Int)).toNat = X.val := by rw [h.2]; rfl
def zerN : List Int := List.replicate 16 0
theorem ne_zero : NE zerN 0 := by
  refine ⟨⟨rfl, fun k x hx => ?_⟩, ?_⟩
  · have := (List.mem_replicate.1 (List.mem_of_getElem? hx)).2
    subst this
    split <;> omega
  · rw [fzero_val]
    show nv (List.replicate 16 0) % _ = _
    rw [show nv (List.replicate 16 0) = 0 from by decide]
    simp
def ResN (w : World) (X : FK) (e : Ending) (w' : World) : Prop := ∃ zs, NE zs X ∧ e = .returned (.agg (ivs zs).toArray) ∧ Below w.heap.size w w'
section
variable {xs ys : List Int} {X Y : FK}
theorem addC (w : World) (h : NE xs X) (h2 : NE ys Y) : Calls Try.prog 23 #[.agg (ivs xs).toArray, .agg (ivs ys).toArray] w (ResN w (X + Y)) :=
  (addN_any xs ys w h.1 h2.1).mono fun _ _ he => ⟨_, ne_add h h2, he.1, he.2⟩
theorem subC (w : World) (h : NE xs X) (h2 : NE ys Y) : Calls Try.prog 24 #[.agg (ivs xs).toArray, .agg (ivs ys).toArray] w (ResN w (X - Y)) :=
  (subN_any xs ys w h.1 h2.1).mono fun _ _ he => ⟨_, ne_sub h h2, he.1, he.2⟩
theorem mulC (w : World) (h : NE xs X) (h2 : NE ys Y) : Calls Try.prog 25 #[.agg (ivs xs).toArray, .agg (ivs ys).toArray] w (ResN w (X * Y)) :=
  (mulN_any xs ys w h.1 h2.1).mono fun _ _ he => ⟨_, ne_mul h h2, he.1, he.2⟩
theorem bytesC (w : World) (h : NE xs X) : Calls Try.prog 36 #[.agg (ivs xs).toArray] w fun e w' => ∃ B d, e = .returned (.slice B 32 d) ∧ Below w.heap.size w w' ∧ w'.ownsRow w.heap.size 5 1 (.slice B 32 d) 32 (bvs (leB 32 X.val)) := by
  rw [← ne_toNat h]
  exact bytesN_any xs w h.1
end
theorem leB_injP {x y : Nat} (hx : x < Pq) (hy : y < Pq) (h : leB 32 x = leB 32 y) : x = y := by
  have hp := Pq_256.1
  have h1 := bval_leB 32 x
  have h2 := bval_leB 32 y
  rw [Nat.mod_eq_of_lt (by omega)] at h1 h2
  rw [← h1, ← h2, h]
theorem leB_beq (X Y : FK) : (leB 32 X.val == leB 32 Y.val) = decide (X.val = Y.val) := by
  by_cases h : X.val = Y.val
  · rw [h]; simp
  · rw [decide_eq_false h, beq_eq_false_iff_ne]
    exact fun e => h (leB_injP X.isLt Y.isLt e)
theorem enBytesN (args : Array Value) (w : World) : (callFunc 36 args).run Try.prog w = .ok (.enter 36 args) w := by kernel_rfl
set_option maxRecDepth 100000 in
set_option maxHeartbeats 1600000 in
theorem sameC {xs ys : List Int} {X Y : FK} (w : World) (h : NE xs X) (h2 : NE ys Y) :
    Calls Try.prog 28 #[.agg (ivs xs).toArray, .agg (ivs ys).toArray] w fun e w' => e = .returned (.bool (decide (X.val = Y.val))) ∧ Below w.heap.size w w' := by
  have HB1 := hide (fun W => bytesC W h)
  have HB2 := hide (fun W => bytesC W h2)
  obtain ⟨xa, hxa⟩ : ∃ a, a = (ivs xs).toArray := ⟨_, rfl⟩
  have hsz : xa.size = 16 := by rw [hxa, List.size_toArray, ivs_len]; exact h.1.1
  obtain ⟨ya, hya⟩ : ∃ a, a = (ivs ys).toArray := ⟨_, rfl⟩
  have hsy : ya.size = 16 := by rw [hya, List.size_toArray, ivs_len]; exact h2.1.1
  rw [← hxa] at HB1 ⊢
  rw [← hya] at HB2 ⊢
  have HS := hide ((((St.init w NoB).alloc xa 41).alloc ya 41).drew)
  rw [size_alloc1] at HS
  have hbq := leB_beq X Y
  clear hxa hya h h2
  go_enter Try.func28, Try.ntmps28
  go_upto_region 1 with fail
  refine wp_region_T [(0, 0), (3, 0), (1, 2), (2, 0), (4, 2), (5, 0), (6, 1), (7, 1)] (by kernel_rfl) (by kernel_rfl) (fun _ _ _ _ h => h) ?_
  generalize ((w.alloc (.cells xa 41)).alloc (.cells ya 41)).drew = wd at HS ⊢
  go_wp2_with (first
      | (refine wpT_loadRow rfl rfl rfl HS.out 1 rfl rfl Try.underlying41 rfl (by rw [hsz]; kernel_rfl) ?_; (try simp only [Act.put, List.setIfInBounds_toArray, List.set_cons_zero, List.set_cons_succ, List.getElem_toArray, List.getElem_cons_succ, List.getElem_cons_zero]))
      | (refine wpT_loadRow rfl rfl rfl HS.out 0 rfl rfl Try.underlying41 rfl (by rw [hsy]; kernel_rfl) ?_; (try simp only [Act.put, List.setIfInBounds_toArray, List.set_cons_zero, List.set_cons_succ, List.getElem_toArray, List.getElem_cons_succ, List.getElem_cons_zero]))
      | (refine wpT_nil ?_)   | ((with_reducible refine fromT_refl ?_); (try simp only [Act.put, List.setIfInBounds_toArray, List.set_cons_zero, List.set_cons_succ, List.getElem_toArray, List.getElem_cons_succ, List.getElem_cons_zero]))   | ((with_reducible refine fromT_mk (by assumption) ?_); (try simp only [Act.put, List.setIfInBounds_toArray, List.set_cons_zero, List.set_cons_succ, List.getElem_toArray, List.getElem_cons_succ, List.getElem_cons_zero]))   | (refine wpT_pure (v := ?_) rfl rfl ?_ ?_; rotate_left; (intro wx; go_simp; try go_bits) <;> (with_reducible rfl); (try simp only [Act.put, List.setIfInBounds_toArray, List.set_cons_zero, List.set_cons_succ, List.getElem_toArray, List.getElem_cons_succ, List.getElem_cons_zero]))   | (refine wpT_load (v := ?_) rfl rfl rfl ?_ ?_; rotate_left; (go_simp; try go_bits) <;> (with_reducible rfl); (try simp only [Act.put, List.setIfInBounds_toArray, List.set_cons_zero, List.set_cons_succ, List.getElem_toArray, List.getElem_cons_succ, List.getElem_cons_zero]))   | (refine wpT_read (v := ?_) rfl rfl ?_ ?_; rotate_left; (intro wx hx; go_simp; try go_bits) <;> (with_reducible rfl); (try simp only [Act.put, List.setIfInBounds_toArray, List.set_cons_zero, List.set_cons_succ, List.getElem_toArray, List.getElem_cons_succ, List.getElem_cons_zero]))   | (refine wpT_call rfl rfl ?_; intro K hK)   | (refine wpT_late rfl rfl ?_; intro K hK)   | (refine wpT_any rfl rfl ?_; intro K hK)   | (refine wpT_skip rfl rfl ?_; (try simp only [Act.put, List.setIfInBounds_toArray, List.set_cons_zero, List.set_cons_succ, List.getElem_toArray, List.getElem_cons_succ, List.getElem_cons_zero]))
      | (go_at_call 36; (with_reducible refine (HB1.out _).mono ?_); rintro e w1 ⟨B1, d1, rfl, hb1, ho1⟩; have HS1 := hide (HS.out.row hb1 ho1); have cv1 : ∀ x, From w1 x → (convert 22 9 (.slice B1 32 d1)).run Try.prog x = .ok (.string (strOf (leB 32 X.val))) x := fun x hx => run_str Try.underlying22 Try.underlying5 Try.underlying9 ((HS1.out.rd 0 rfl).below hx); clear ho1)
      | (go_at_call 36; (with_reducible refine (HB2.out _).mono ?_); rintro e w2 ⟨B2, d2, rfl, hb2, ho2⟩; have HS2 := hide (HS1.out.row hb2 ho2); have cv2 : ∀ x, From w2 x → (convert 22 9 (.slice B2 32 d2)).run Try.prog x = .ok (.string (strOf (leB 32 Y.val))) x := fun x hx => run_str Try.underlying22 Try.underlying5 Try.underlying9 ((HS2.out.rd 0 rfl).below hx); clear ho2))
  go_ret
  exact ⟨rfl, HS2.out.below⟩
end Go.Proofs.Ytdihedhhkcakoaa
