/-
  The walk of layer 3's awake.
-/
import Derived.Test.YtgofcefggdlalaaSg
namespace Go.Proofs.Ytgofcefggdlalaa
open Go.RowKit

theorem enMay (args : Array Value) (w : World) : (callFunc 12 args).run Try.prog w = .ok (.enter 12 args) w := by kernel_rfl
theorem enAwake (args : Array Value) (w : World) : (callFunc 8 args).run Try.prog w = .ok (.enter 8 args) w := by kernel_rfl
@[irreducible] def aw0 : List UInt8 := [237, 211, 245, 92, 26, 99, 18, 88, 214, 156, 247, 162, 222, 249, 222, 20]
@[irreducible] def aw1 : List UInt8 := (aw0 ++ List.replicate 16 0).set 31 16
@[irreducible] def aw2 : List UInt8 := aw1.set 0 236
@[irreducible] def zz : List UInt8 := List.replicate 32 0
theorem aw1_val : bval aw1 = Lq := by unfold aw1 aw0 Lq; decide +kernel
theorem aw2_may : mayS aw2 = true := by unfold aw2 aw1 aw0 mayS Lq; decide +kernel
theorem aw1_red : leB 32 (bval aw1 % Lq) = zz := by rw [aw1_val, Nat.mod_self, leB_zero]; unfold zz; rfl
theorem aw0_len : aw0.length = 16 := by unfold aw0; rfl
theorem aw1_len : aw1.length = 32 := by unfold aw1 aw0; rfl
theorem aw2_len : aw2.length = 32 := by unfold aw2; rw [List.length_set]; exact aw1_len
theorem zz_len : zz.length = 32 := by unfold zz; rfl
set_option maxRecDepth 100000 in
set_option maxHeartbeats 800000 in
theorem awake_any (w : World) : Calls Try.prog 8 #[] w fun e w' => e = .returned (.bool true) ∧ Below w.heap.size w w' := by
  have hS := St.init w NoB
  have RED : ∀ (W : World) (A : Option Addr) (c : Nat), Rd W (.slice A 32 c) 1 32 (bvs aw1) → Calls Try.prog 11 #[.slice A 32 c] W fun e w' => ∃ B d, e = .returned (.slice B 32 d) ∧ Below W.heap.size W w' ∧ w'.ownsRow W.heap.size 5 1 (.slice B 32 d) 32 (bvs zz) := by
    intro W A c hr
    have := reduce_walk A 32 c aw1 W aw1_len (by omega) hr
    rw [aw1_red] at this
    refine this.mono ?_
    rintro e w' ⟨B, d, rfl, h1, h2⟩
    rw [zz_len] at h2 ⊢
    exact ⟨B, d, rfl, h1, h2⟩
  have HRED := hide RED
  have HMAY := hide (fun (W : World) (A : Option Addr) (c : Nat) (hr : Rd W (.slice A 32 c) 1 32 (bvs aw2)) => may_walk A 32 c aw2 W aw2_len hr)
  rw [aw2_may] at HMAY
  have ea : (bvs aw0).toArray = #[.int .u8 237, .int .u8 211, .int .u8 245, .int .u8 92, .int .u8 26, .int .u8 99, .int .u8 18, .int .u8 88, .int .u8 214, .int .u8 156, .int .u8 247, .int .u8 162, .int .u8 222, .int .u8 249, .int .u8 222, .int .u8 20] := by unfold aw0; rfl
  have hcv := Go.Joins.run_convert_bytes_const_at (P := Try.prog) w 22 5 #[.int .u8 237, .int .u8 211, .int .u8 245, .int .u8 92, .int .u8 26, .int .u8 99, .int .u8 18, .int .u8 88, .int .u8 214, .int .u8 156, .int .u8 247, .int .u8 162, .int .u8 222, .int .u8 249, .int .u8 222, .int .u8 20] 16 16 w.heap.size rfl Try.underlying22 Try.underlying5
  have R0 := rd_mark w (bvs aw0) 5 (16, 17) 16 (by rw [length_bvs, aw0_len]) (by decide)
  rw [ea] at R0
  have HR0 := hide R0
  clear RED R0 ea
  go_enter Try.func8, Try.ntmps8
  go_upto_region 5 with (first
    | (at_builtin; refine wl_appendZnew (k := 16) (l := aw0) (n := 16) (c := 16) rfl rfl Try.underlying22 Try.underlying3 infoB (hS.skip _) rfl HR0.out rfl rfl (by omega) (by omega) (by omega) (by omega) ?_; intro A2 c2 w2 hS2 hb2; obtain ⟨g, c1', hv, hc1, hcm, hcs, hfr, _⟩ := hS2.rowOpen 0 rfl (by omega); injection hv with hv1 _ hv3; subst hv1 hv3; have k31 : w2.cell? ⟨g, 31, none⟩ = some (.int .u8 0) := hcs 31 _ (by unfold aw0; rfl); have f31 := hfr 31; have hS3 := hS2.rowSet 0 rfl 31 (.int .u8 (16 : Nat)) (by omega); rw [bvs_set _ _ _ (by omega)] at hS3; have HS3 := hide (show St w NoB _ [.row (.slice (some ⟨g, 0, none⟩) 32 c2) 5 1 32 (bvs aw1)] from by unfold aw1; exact hS3.pickL [0] (by decide) rfl); clear hcs hfr hS2 hS3)
    | (go_at_call 11; refine (HRED.out _ (some ⟨g, 0, none⟩) c2 (HS3.out.rd 0 rfl)).mono ?_; rintro e w4 ⟨B, d, rfl, hb4, ho4⟩; have hS4 := HS3.out.row hb4 ho4; obtain ⟨g', c4', hv, _, _, hcs, hfr, _⟩ := hS4.rowOpen 1 rfl (by omega); injection hv with hv1 _ hv3; injection hv1 with hv1; injection hv1 with hv1; subst hv1 hv3; have k0 : w4.cell? ⟨g, 0, none⟩ = some (.int .u8 237) := hcs 0 _ (by unfold aw1 aw0; rfl); have f0 := hfr 0; have hS5 := hS4.rowSet 1 rfl 0 (.int .u8 (236 : Nat)) (by omega); rw [bvs_set _ _ _ (by omega)] at hS5; have HS5 := hide (show St w NoB _ [.row (.slice B 32 d) 5 1 32 (bvs zz), .row (.slice (some ⟨g, 0, none⟩) 32 c2) 5 1 32 (bvs aw2)] from by unfold aw2; exact hS5); clear hcs hfr hS4 hS5 ho4))
  obtain ⟨wr, rfl⟩ : ∃ wr, wr = w4.setCell ⟨g, 0, none⟩ (.int .u8 236) := ⟨_, rfl⟩
  generalize hwr : w4.setCell ⟨g, 0, none⟩ (.int .u8 236) = wr
  have HSr := hide (show St w NoB wr _ from by rw [← hwr]; exact HS5.out)
  have hrz := hide ((HSr.out.drew).rd 0 rfl)
  have hrm := hide ((HSr.out.drew).rd 1 rfl)
  have cvz : ∀ x, From wr.drew x → (convert 22 9 (.slice B 32 d)).run Try.prog x = .ok (.string (strOf zz)) x := fun x hx => run_str Try.underlying22 Try.underlying5 Try.underlying9 (hrz.out.below hx)
  clear HS3 HS5 k31 f31 k0 f0 hwr
  refine wp_region_F (by kernel_rfl) ?_
  (refine wpG_take (i := 0) (v := ?_) rfl (by kernel_rfl) (by kernel_rfl) (by kernel_rfl) (fun _ _ _ h => h) (From.refl _) (Or.inl ⟨by first | kernel_rfl | rfl, ?_⟩) ?_; rotate_left; (intro wx hx; go_simp) <;> (with_reducible rfl); (try simp only [Act.put, List.setIfInBounds_toArray, List.set_cons_zero, List.set_cons_succ, List.getElem_toArray, List.getElem_cons_succ, List.getElem_cons_zero])); (refine wpG_take (i := 1) (v := ?_) rfl (by kernel_rfl) (by kernel_rfl) (by kernel_rfl) (fun _ _ _ h => h) (From.refl _) (Or.inl ⟨by first | kernel_rfl | rfl, ?_⟩) ?_; rotate_left; (intro wx hx; go_simp) <;> (with_reducible rfl); (try simp only [Act.put, List.setIfInBounds_toArray, List.set_cons_zero, List.set_cons_succ, List.getElem_toArray, List.getElem_cons_succ, List.getElem_cons_zero])); (refine wpG_take (i := 2) (v := ?_) rfl (by kernel_rfl) (by kernel_rfl) (by kernel_rfl) (fun _ _ _ h => h) (From.refl _) (Or.inl ⟨by first | kernel_rfl | rfl, ?_⟩) ?_; rotate_left; (intro wx hx; go_simp) <;> (with_reducible rfl); (try simp only [Act.put, List.setIfInBounds_toArray, List.set_cons_zero, List.set_cons_succ, List.getElem_toArray, List.getElem_cons_succ, List.getElem_cons_zero])); (refine wpG_take (i := 3) (v := ?_) rfl (by kernel_rfl) (by kernel_rfl) (by kernel_rfl) (fun _ _ _ h => h) (From.refl _) (Or.inl ⟨by first | kernel_rfl | rfl, ?_⟩) ?_; rotate_left; (intro wx hx; go_simp) <;> (with_reducible rfl); (try simp only [Act.put, List.setIfInBounds_toArray, List.set_cons_zero, List.set_cons_succ, List.getElem_toArray, List.getElem_cons_succ, List.getElem_cons_zero])); (refine wpG_take (i := 4) (v := ?_) rfl (by kernel_rfl) (by kernel_rfl) (by kernel_rfl) (fun _ _ _ h => h) (From.refl _) (Or.inl ⟨by first | kernel_rfl | rfl, ?_⟩) ?_; rotate_left; (intro wx hx; go_simp) <;> (with_reducible rfl); (try simp only [Act.put, List.setIfInBounds_toArray, List.set_cons_zero, List.set_cons_succ, List.getElem_toArray, List.getElem_cons_succ, List.getElem_cons_zero])); (refine wpG_take (i := 5) (v := ?_) rfl (by kernel_rfl) (by kernel_rfl) (by kernel_rfl) (fun _ _ _ h => h) (From.refl _) (Or.inl ⟨by first | kernel_rfl | rfl, ?_⟩) ?_; rotate_left; (intro wx hx; go_simp) <;> (with_reducible rfl); (try simp only [Act.put, List.setIfInBounds_toArray, List.set_cons_zero, List.set_cons_succ, List.getElem_toArray, List.getElem_cons_succ, List.getElem_cons_zero]))
  (refine wpG_one (i := 6) (by kernel_rfl) rfl ?_; intro K hK; (try simp only [Act.put, List.setIfInBounds_toArray, List.set_cons_zero, List.set_cons_succ, List.getElem_toArray, List.getElem_cons_succ, List.getElem_cons_zero]))
  refine step_makeB (n := 32) rfl rfl Try.underlying22 infoB (HSr.out.drew) rfl rfl (by decide) ?_
  intro g6 w6 hS6 hb6
  refine hK (From w6) _ _ (From.next hb6) (From.refl _) ?_
  clear hK K cvz
  (try simp only [Act.put, List.setIfInBounds_toArray, List.set_cons_zero, List.set_cons_succ, List.getElem_toArray, List.getElem_cons_succ, List.getElem_cons_zero])
  have hr6 := hide (hS6.rd 0 rfl)
  have hrm6 := hide (hS6.rd 2 rfl)
  have cv6 : ∀ x, From w6 x → (convert 22 9 (.slice (some ⟨g6, 0, none⟩) 32 32)).run Try.prog x = .ok (.string (strOf zz)) x := fun x hx => run_str Try.underlying22 Try.underlying5 Try.underlying9 (by unfold zz; exact (hr6.out.below hx))
  (refine wpG_take (i := 7) (v := ?_) rfl (by kernel_rfl) (by kernel_rfl) (by kernel_rfl) (fun _ _ _ h => h) (From.refl _) (Or.inl ⟨by first | kernel_rfl | rfl, ?_⟩) ?_; rotate_left; (intro wx hx; go_simp) <;> (with_reducible rfl); (try simp only [Act.put, List.setIfInBounds_toArray, List.set_cons_zero, List.set_cons_succ, List.getElem_toArray, List.getElem_cons_succ, List.getElem_cons_zero])); (refine wpG_take (i := 8) (v := ?_) rfl (by kernel_rfl) (by kernel_rfl) (by kernel_rfl) (fun _ _ _ h => h) (From.refl _) (Or.inl ⟨by first | kernel_rfl | rfl, ?_⟩) ?_; rotate_left; (intro wx hx; go_simp) <;> (with_reducible rfl); (try simp only [Act.put, List.setIfInBounds_toArray, List.set_cons_zero, List.set_cons_succ, List.getElem_toArray, List.getElem_cons_succ, List.getElem_cons_zero])); (refine wpG_take (i := 9) (v := ?_) rfl (by kernel_rfl) (by kernel_rfl) (by kernel_rfl) (fun _ _ _ h => h) (From.refl _) (Or.inl ⟨by first | kernel_rfl | rfl, ?_⟩) ?_; rotate_left; (intro wx hx; go_simp) <;> (with_reducible rfl); (try simp only [Act.put, List.setIfInBounds_toArray, List.set_cons_zero, List.set_cons_succ, List.getElem_toArray, List.getElem_cons_succ, List.getElem_cons_zero])); (refine wpG_take (i := 10) (v := ?_) rfl (by kernel_rfl) (by kernel_rfl) (by kernel_rfl) (fun _ _ _ h => h) (From.refl _) (Or.inl ⟨by first | kernel_rfl | rfl, ?_⟩) ?_; rotate_left; (intro wx hx; go_simp) <;> (with_reducible rfl); (try simp only [Act.put, List.setIfInBounds_toArray, List.set_cons_zero, List.set_cons_succ, List.getElem_toArray, List.getElem_cons_succ, List.getElem_cons_zero])); (refine wpG_take (i := 11) (v := ?_) rfl (by kernel_rfl) (by kernel_rfl) (by kernel_rfl) (fun _ _ _ h => h) (From.refl _) (Or.inl ⟨by first | kernel_rfl | rfl, ?_⟩) ?_; rotate_left; (intro wx hx; go_simp) <;> (with_reducible rfl); (try simp only [Act.put, List.setIfInBounds_toArray, List.set_cons_zero, List.set_cons_succ, List.getElem_toArray, List.getElem_cons_succ, List.getElem_cons_zero]))
  (refine wpG_one (i := 12) (by kernel_rfl) rfl ?_; intro K hK; (try simp only [Act.put, List.setIfInBounds_toArray, List.set_cons_zero, List.set_cons_succ, List.getElem_toArray, List.getElem_cons_succ, List.getElem_cons_zero]))
  refine step_call rfl rfl enMay rfl (HMAY.out _ (some ⟨g, 0, none⟩) c2 hrm6.out) ?_
  rintro e w7 ⟨rfl, hb7⟩
  refine ⟨_, rfl, hK (From w7) _ _ (From.next hb7) (From.refl _) ?_⟩
  clear hK K cv6
  (try simp only [Act.put, List.setIfInBounds_toArray, List.set_cons_zero, List.set_cons_succ, List.getElem_toArray, List.getElem_cons_succ, List.getElem_cons_zero])
  (refine wpG_take (i := 13) (v := ?_) rfl (by kernel_rfl) (by kernel_rfl) (by kernel_rfl) (fun _ _ _ h => h) (From.refl _) (Or.inl ⟨by first | kernel_rfl | rfl, ?_⟩) ?_; rotate_left; (intro wx hx; go_simp) <;> (with_reducible rfl); (try simp only [Act.put, List.setIfInBounds_toArray, List.set_cons_zero, List.set_cons_succ, List.getElem_toArray, List.getElem_cons_succ, List.getElem_cons_zero])); (refine wpG_take (i := 14) (v := ?_) rfl (by kernel_rfl) (by kernel_rfl) (by kernel_rfl) (fun _ _ _ h => h) (From.refl _) (Or.inl ⟨by first | kernel_rfl | rfl, ?_⟩) ?_; rotate_left; (intro wx hx; go_simp) <;> (with_reducible rfl); (try simp only [Act.put, List.setIfInBounds_toArray, List.set_cons_zero, List.set_cons_succ, List.getElem_toArray, List.getElem_cons_succ, List.getElem_cons_zero]))
  refine wpG_done (by kernel_rfl) ?_ _
  go_wp2_with fail
  go_ret
  exact ⟨rfl, (hS6.call hb7).below⟩
end Go.Proofs.Ytgofcefggdlalaa
