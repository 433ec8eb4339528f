/-
  The walk of ScalarLaws (printed by wip/gen/laws.py).
-/
import Derived.Test.YtgofcefggdlalaaSk
namespace Go.Proofs.Ytgofcefggdlalaa
open Go.RowKit

@[irreducible] def oneL : List UInt8 := fullL [1]
theorem oneL_len : oneL.length = 32 := by unfold oneL; exact fullL_len _
theorem oneL_val : bval oneL = 1 := by unfold oneL; rw [bval_full [1] (by decide)]; rfl
theorem oneL_eq : fullL [1] = oneL := by unfold oneL; rfl
theorem z32_eq : bvs (List.replicate 32 0) = bvs z32 := by unfold z32; rfl
theorem fullOne {W : World} {g : Nat} (h : Rd W (.slice (some ⟨g, 0, none⟩) 1 1) 1 1 [.int .u8 1]) : Calls Try.prog 10 #[.slice (some ⟨g, 0, none⟩) 1 1] W (Row32 W oneL) := by
  rw [← oneL_eq]
  exact fullC (a := [1]) rfl (by decide) h
set_option maxRecDepth 100000 in
set_option maxHeartbeats 1600000 in
theorem laws_walk (A B C : Option Addr) (c d f : Nat) (l m o : List UInt8) (w : World) (hr : Rd w (.slice A l.length c) 1 l.length (bvs l)) (hs : Rd w (.slice B m.length d) 1 m.length (bvs m)) (ht : Rd w (.slice C o.length f) 1 o.length (bvs o)) :
    Calls Try.prog 5 #[.slice A l.length c, .slice B m.length d, .slice C o.length f] w fun e w' => e = .returned (.bool true) ∧ Below w.heap.size w w' := by
  have HR := hide hr
  have HS := hide hs
  have HT := hide ht
  obtain ⟨n, hn⟩ : ∃ n, n = l.length := ⟨_, rfl⟩
  obtain ⟨k, hk⟩ : ∃ k, k = m.length := ⟨_, rfl⟩
  obtain ⟨j, hj⟩ : ∃ j, j = o.length := ⟨_, rfl⟩
  rw [← hn] at HR ⊢
  rw [← hk] at HS ⊢
  rw [← hj] at HT ⊢
  have HL := hide hn.symm
  have HK := hide hk.symm
  have HJ := hide hj.symm
  clear hr hs ht hn hk hj
  have dd : ∀ n : Nat, n > 100 → decide (100 < (n : Int)) = true := fun n h => by simp; omega
  have de : ∀ n : Nat, ¬ n > 100 → decide (100 < (n : Int)) = false := fun n h => by simp; omega
  by_cases h1 : n > 100
  · have d1 := dd n h1
    clear dd de h1
    go_enter Try.func5, Try.ntmps5
    go_wp2_with (go_at_call 8; refine (awake_any _).mono ?_; rintro e w1 ⟨rfl, hb1⟩)
    go_ret
    exact ⟨rfl, hb1⟩
  have d1 := de n h1
  by_cases h2 : k > 100
  · have d2 := dd k h2
    clear dd de h1 h2
    go_enter Try.func5, Try.ntmps5
    go_wp2_with (go_at_call 8; refine (awake_any _).mono ?_; rintro e w1 ⟨rfl, hb1⟩)
    go_ret
    exact ⟨rfl, hb1⟩
  have d2 := de k h2
  by_cases h3 : j > 100
  · have d3 := dd j h3
    clear dd de h1 h2 h3
    go_enter Try.func5, Try.ntmps5
    go_wp2_with (go_at_call 8; refine (awake_any _).mono ?_; rintro e w1 ⟨rfl, hb1⟩)
    go_ret
    exact ⟨rfl, hb1⟩
  have d3 := de j h3
  have n1 := hide h1
  have n2 := hide h2
  have n3 := hide h3
  clear h1 h2 h3 dd de
  obtain ⟨X, hX⟩ : ∃ X, X = fullL l := ⟨_, rfl⟩
  obtain ⟨Y, hY⟩ : ∃ Y, Y = fullL m := ⟨_, rfl⟩
  obtain ⟨Z, hZ⟩ : ∃ Z, Z = fullL o := ⟨_, rfl⟩
  have HXL : Hid (X.length = 32) := hide (by rw [hX]; exact fullL_len l)
  have HYL : Hid (Y.length = 32) := hide (by rw [hY]; exact fullL_len m)
  have HZL : Hid (Z.length = 32) := hide (by rw [hZ]; exact fullL_len o)
  have HX := hide hX.symm
  have HY := hide hY.symm
  have HZ := hide hZ.symm
  clear hX hY hZ
  go_enter Try.func5, Try.ntmps5
  go_upto_region 4 with (first
    | (have _q := hb2; go_at_call 10; refine (fullC HJ.out (by have := n3.out; omega) ((HT.out.below hb1).below hb2)).mono ?_; rintro e w3 ⟨A3, c3, rfl, hb3, hr3⟩; rw [HZ.out] at hr3)
    | (have _q := hb1; go_at_call 10; refine (fullC HK.out (by have := n2.out; omega) (HS.out.below hb1)).mono ?_; rintro e w2 ⟨A2, c2, rfl, hb2, hr2⟩; rw [HY.out] at hr2)
    | (go_at_call 10; refine (fullC HL.out (by have := n1.out; omega) HR.out).mono ?_; rintro e w1 ⟨A1, c1, rfl, hb1, hr1⟩; rw [HX.out] at hr1))
  have b12 := hb1.trans (hb2.mono hb1.size)
  have BB := hide (b12.trans (hb3.mono b12.size))
  have QX := hide ((hr1.below hb2).below hb3)
  have QY := hide (hr2.below hb3)
  have QZ := hide hr3
  clear hr1 hr2 hr3 hb1 hb2 hb3 b12 _q
  go_cut [10, 11] (fun s t wx => ∃ A c B d, s = .slice A 32 c ∧ t = .slice B 32 d ∧ Below w3.heap.size w3 wx ∧ Rd wx (.slice A 32 c) 1 32 (bvs z32) ∧ Rd wx (.slice B 32 d) 1 32 (bvs oneL))
  case first =>
    have b0 : Below w3.heap.size w3 w3.drew := ((St.init w3 NoB).drew).below
    refine wp_region_F (by kernel_rfl) ?_
    refine wpG_two (i := 0) (j := 1) (by kernel_rfl) rfl rfl ?_ ?_ <;> intro K hK <;> (try simp only [Act.put, List.setIfInBounds_toArray, List.set_cons_zero, List.set_cons_succ, List.getElem_toArray, List.getElem_cons_succ, List.getElem_cons_zero])
    · refine step_makeB (n := 32) rfl rfl Try.underlying22 infoB (St.init w3.drew NoB) rfl rfl (by decide) ?_
      intro g1 wa hSa hba
      refine hK (From wa) _ _ (From.next hba) (From.refl _) ?_
      clear hK K
      (try simp only [Act.put, List.setIfInBounds_toArray, List.set_cons_zero, List.set_cons_succ, List.getElem_toArray, List.getElem_cons_succ, List.getElem_cons_zero])
      (refine wpG_one (i := 1) (by kernel_rfl) rfl ?_; intro K hK; (try simp only [Act.put, List.setIfInBounds_toArray, List.set_cons_zero, List.set_cons_succ, List.getElem_toArray, List.getElem_cons_succ, List.getElem_cons_zero]))
      refine step_lit (us := [.int .u8 1]) (n := 1) (e := 5) rfl (fun _ => by go_simp) rfl (by decide) ?_
      intro g2 wb hSb
      have hbb := hSb.below
      refine hK (From wb) _ _ (From.next hbb) (From.refl _) ?_
      clear hK K
      (try simp only [Act.put, List.setIfInBounds_toArray, List.set_cons_zero, List.set_cons_succ, List.getElem_toArray, List.getElem_cons_succ, List.getElem_cons_zero])
      (refine wpG_one (i := 2) (by kernel_rfl) rfl ?_; intro K hK; (try simp only [Act.put, List.setIfInBounds_toArray, List.set_cons_zero, List.set_cons_succ, List.getElem_toArray, List.getElem_cons_succ, List.getElem_cons_zero]))
      refine step_call rfl rfl enFull rfl (fullOne (hSb.rd 0 rfl)) ?_
      rintro e wd ⟨A, c, rfl, hbd, hrd⟩
      refine ⟨_, rfl, hK (From wd) _ _ (From.next hbd) (From.refl _) ?_⟩
      clear hK K
      (try simp only [Act.put, List.setIfInBounds_toArray, List.set_cons_zero, List.set_cons_succ, List.getElem_toArray, List.getElem_cons_succ, List.getElem_cons_zero])
      have q1 := ((hSa.rd 0 rfl).below hbb).below hbd
      rw [z32_eq] at q1
      have b1 := (hba.trans (hbb.mono hba.size))
      have b2 : Below w3.heap.size w3 wd := b0.trans ((b1.trans (hbd.mono b1.size)).mono b0.size)
      (refine wpG_take (i := 3) (v := ?_) rfl (by kernel_rfl) (by kernel_rfl) (by kernel_rfl) (fun _ _ _ h => h) (From.refl _) (Or.inl ⟨by rfl, ?_⟩) ?_; rotate_left; (intro wx hx; go_simp) <;> (with_reducible rfl); (try simp only [Act.put, List.setIfInBounds_toArray, List.set_cons_zero, List.set_cons_succ, List.getElem_toArray, List.getElem_cons_succ, List.getElem_cons_zero])); (refine wpG_take (i := 4) (v := ?_) rfl (by kernel_rfl) (by kernel_rfl) (by kernel_rfl) (fun _ _ _ h => h) (From.refl _) (Or.inl ⟨by rfl, ?_⟩) ?_; rotate_left; (intro wx hx; go_simp) <;> (with_reducible rfl); (try simp only [Act.put, List.setIfInBounds_toArray, List.set_cons_zero, List.set_cons_succ, List.getElem_toArray, List.getElem_cons_succ, List.getElem_cons_zero]))
      refine wpG_done (by kernel_rfl) ?_ _
      go_wp2_with fail
      go_meet
      exact ⟨_, _, _, _, rfl, rfl, b2, q1, hrd⟩
    · refine step_lit (us := [.int .u8 1]) (n := 1) (e := 5) rfl (fun _ => by go_simp) rfl (by decide) ?_
      intro g2 wb hSb
      have hbb := hSb.below
      refine hK (From wb) _ _ (From.next hbb) (From.refl _) ?_
      clear hK K
      (try simp only [Act.put, List.setIfInBounds_toArray, List.set_cons_zero, List.set_cons_succ, List.getElem_toArray, List.getElem_cons_succ, List.getElem_cons_zero])
      refine wpG_two (i := 0) (j := 2) (by kernel_rfl) rfl rfl ?_ ?_ <;> intro K hK <;> (try simp only [Act.put, List.setIfInBounds_toArray, List.set_cons_zero, List.set_cons_succ, List.getElem_toArray, List.getElem_cons_succ, List.getElem_cons_zero])
      · refine step_makeB (n := 32) rfl rfl Try.underlying22 infoB (St.init wb NoB) rfl rfl (by decide) ?_
        intro g1 wa hSa hba
        refine hK (From wa) _ _ (From.next hba) (From.refl _) ?_
        clear hK K
        (try simp only [Act.put, List.setIfInBounds_toArray, List.set_cons_zero, List.set_cons_succ, List.getElem_toArray, List.getElem_cons_succ, List.getElem_cons_zero])
        (refine wpG_one (i := 2) (by kernel_rfl) rfl ?_; intro K hK; (try simp only [Act.put, List.setIfInBounds_toArray, List.set_cons_zero, List.set_cons_succ, List.getElem_toArray, List.getElem_cons_succ, List.getElem_cons_zero]))
        refine step_call rfl rfl enFull rfl (fullOne ((hSb.rd 0 rfl).below hba)) ?_
        rintro e wd ⟨A, c, rfl, hbd, hrd⟩
        refine ⟨_, rfl, hK (From wd) _ _ (From.next hbd) (From.refl _) ?_⟩
        clear hK K
        (try simp only [Act.put, List.setIfInBounds_toArray, List.set_cons_zero, List.set_cons_succ, List.getElem_toArray, List.getElem_cons_succ, List.getElem_cons_zero])
        have q1 := (hSa.rd 0 rfl).below hbd
        rw [z32_eq] at q1
        have b1 := (hbb.trans (hba.mono hbb.size))
        have b2 : Below w3.heap.size w3 wd := b0.trans ((b1.trans (hbd.mono b1.size)).mono b0.size)
        (refine wpG_take (i := 3) (v := ?_) rfl (by kernel_rfl) (by kernel_rfl) (by kernel_rfl) (fun _ _ _ h => h) (From.refl _) (Or.inl ⟨by rfl, ?_⟩) ?_; rotate_left; (intro wx hx; go_simp) <;> (with_reducible rfl); (try simp only [Act.put, List.setIfInBounds_toArray, List.set_cons_zero, List.set_cons_succ, List.getElem_toArray, List.getElem_cons_succ, List.getElem_cons_zero])); (refine wpG_take (i := 4) (v := ?_) rfl (by kernel_rfl) (by kernel_rfl) (by kernel_rfl) (fun _ _ _ h => h) (From.refl _) (Or.inl ⟨by rfl, ?_⟩) ?_; rotate_left; (intro wx hx; go_simp) <;> (with_reducible rfl); (try simp only [Act.put, List.setIfInBounds_toArray, List.set_cons_zero, List.set_cons_succ, List.getElem_toArray, List.getElem_cons_succ, List.getElem_cons_zero]))
        refine wpG_done (by kernel_rfl) ?_ _
        go_wp2_with fail
        go_meet
        exact ⟨_, _, _, _, rfl, rfl, b2, q1, hrd⟩
      · refine step_call rfl rfl enFull rfl (fullOne (hSb.rd 0 rfl)) ?_
        rintro e wd ⟨A, c, rfl, hbd, hrd⟩
        refine ⟨_, rfl, hK (From wd) _ _ (From.next hbd) (From.refl _) ?_⟩
        clear hK K
        (try simp only [Act.put, List.setIfInBounds_toArray, List.set_cons_zero, List.set_cons_succ, List.getElem_toArray, List.getElem_cons_succ, List.getElem_cons_zero])
        (refine wpG_one (i := 0) (by kernel_rfl) rfl ?_; intro K hK; (try simp only [Act.put, List.setIfInBounds_toArray, List.set_cons_zero, List.set_cons_succ, List.getElem_toArray, List.getElem_cons_succ, List.getElem_cons_zero]))
        refine step_makeB (n := 32) rfl rfl Try.underlying22 infoB (St.init wd NoB) rfl rfl (by decide) ?_
        intro g1 wa hSa hba
        refine hK (From wa) _ _ (From.next hba) (From.refl _) ?_
        clear hK K
        (try simp only [Act.put, List.setIfInBounds_toArray, List.set_cons_zero, List.set_cons_succ, List.getElem_toArray, List.getElem_cons_succ, List.getElem_cons_zero])
        have q1 := hSa.rd 0 rfl
        rw [z32_eq] at q1
        have b1 := (hbb.trans (hbd.mono hbb.size))
        have b2 : Below w3.heap.size w3 wa := b0.trans ((b1.trans (hba.mono b1.size)).mono b0.size)
        have q2 := hrd.below hba
        (refine wpG_take (i := 3) (v := ?_) rfl (by kernel_rfl) (by kernel_rfl) (by kernel_rfl) (fun _ _ _ h => h) (From.refl _) (Or.inl ⟨by rfl, ?_⟩) ?_; rotate_left; (intro wx hx; go_simp) <;> (with_reducible rfl); (try simp only [Act.put, List.setIfInBounds_toArray, List.set_cons_zero, List.set_cons_succ, List.getElem_toArray, List.getElem_cons_succ, List.getElem_cons_zero])); (refine wpG_take (i := 4) (v := ?_) rfl (by kernel_rfl) (by kernel_rfl) (by kernel_rfl) (fun _ _ _ h => h) (From.refl _) (Or.inl ⟨by rfl, ?_⟩) ?_; rotate_left; (intro wx hx; go_simp) <;> (with_reducible rfl); (try simp only [Act.put, List.setIfInBounds_toArray, List.set_cons_zero, List.set_cons_succ, List.getElem_toArray, List.getElem_cons_succ, List.getElem_cons_zero]))
        refine wpG_done (by kernel_rfl) ?_ _
        go_wp2_with fail
        go_meet
        exact ⟨_, _, _, _, rfl, rfl, b2, q1, q2⟩
  case rest =>
      obtain ⟨A10, c10, A11, c11, rfl, rfl, hbc, hz, ho⟩ := hcut
      have QO := hide hz
      have QE := hide ho
      replace QX := hide (QX.out.below hbc)
      replace QY := hide (QY.out.below hbc)
      replace QZ := hide (QZ.out.below hbc)
      replace BB := hide (BB.out.trans (hbc.mono BB.out.size))
      clear hz ho hbc
      go_upto_region 7 with (first
        | (have _q := hbs; go_at_call 13; refine (madC HXL.out HYL.out HZL.out (QX.out.below hbs) (QY.out.below hbs) (QZ.out.below hbs)).mono ?_; rintro e wp ⟨A13, c13, rfl, hbp, hrp⟩)
        | (go_at_call 14; refine (addC HXL.out HYL.out QX.out QY.out).mono ?_; rintro e ws ⟨A12, c12, rfl, hbs, hrs⟩))
      have B_1 := hide (show Below w.heap.size w (wp) from (BB.out.trans (hbs.mono BB.out.size)).trans (hbp.mono (Nat.le_trans BB.out.size hbs.size)))
      clear BB
      have rx_2 := hide (show Rd wp (.slice A1 32 c1) 1 32 (bvs (X)) from (QX.out.below hbs).below hbp)
      clear QX
      have ry_2 := hide (show Rd wp (.slice A2 32 c2) 1 32 (bvs (Y)) from (QY.out.below hbs).below hbp)
      clear QY
      have rz_2 := hide (show Rd wp (.slice A3 32 c3) 1 32 (bvs (Z)) from (QZ.out.below hbs).below hbp)
      clear QZ
      have ro0_2 := hide (show Rd wp (.slice A10 32 c10) 1 32 (bvs (z32)) from (QO.out.below hbs).below hbp)
      clear QO
      have ro1_2 := hide (show Rd wp (.slice A11 32 c11) 1 32 (bvs (oneL)) from (QE.out.below hbs).below hbp)
      clear QE
      have QS := hide (hrs.below hbp)
      have QP := hide hrp
      clear hrs hrp hbs hbp
      have B_3 := hide (show Below w.heap.size w (wp.drew) from ((St.init w NoB).call B_1.out).drew.below)
      clear B_1
      have rx_4 := hide (show Rd wp.drew (.slice A1 32 c1) 1 32 (bvs (X)) from rx_2.out)
      clear rx_2
      have ry_4 := hide (show Rd wp.drew (.slice A2 32 c2) 1 32 (bvs (Y)) from ry_2.out)
      clear ry_2
      have rz_4 := hide (show Rd wp.drew (.slice A3 32 c3) 1 32 (bvs (Z)) from rz_2.out)
      clear rz_2
      have ro0_4 := hide (show Rd wp.drew (.slice A10 32 c10) 1 32 (bvs (z32)) from ro0_2.out)
      clear ro0_2
      have ro1_4 := hide (show Rd wp.drew (.slice A11 32 c11) 1 32 (bvs (oneL)) from ro1_2.out)
      clear ro1_2
      have rs_4 := hide (show Rd wp.drew (.slice A12 32 c12) 1 32 (bvs (sumL X Y)) from QS.out)
      clear QS
      have rp_4 := hide (show Rd wp.drew (.slice A13 32 c13) 1 32 (bvs (madL X Y Z)) from QP.out)
      clear QP
      refine wp_region_F (by kernel_rfl) ?_
      (refine wpG_take (i := 0) (v := ?_) rfl (by kernel_rfl) (by kernel_rfl) (by kernel_rfl) (fun _ _ _ h => h) (From.refl _) (Or.inl ⟨by rfl, ?_⟩) ?_; rotate_left; (intro wx hx; go_simp) <;> (with_reducible rfl); (try simp only [Act.put, List.setIfInBounds_toArray, List.set_cons_zero, List.set_cons_succ, List.getElem_toArray, List.getElem_cons_succ, List.getElem_cons_zero]))
      (refine wpG_one (i := 1) (by kernel_rfl) rfl ?_; intro K hK; (try simp only [Act.put, List.setIfInBounds_toArray, List.set_cons_zero, List.set_cons_succ, List.getElem_toArray, List.getElem_cons_succ, List.getElem_cons_zero]))
      refine step_call rfl rfl enMay rfl (mayC (may_sumL X Y) (sumL_len X Y) rs_4.out) ?_
      rintro e w21 ⟨rfl, hb21⟩
      refine ⟨_, rfl, hK (From w21) _ _ (From.next hb21) (From.refl _) ?_⟩
      clear hK K
      (try simp only [Act.put, List.setIfInBounds_toArray, List.set_cons_zero, List.set_cons_succ, List.getElem_toArray, List.getElem_cons_succ, List.getElem_cons_zero])
      have B_5 := hide (show Below w.heap.size w (w21) from B_3.out.trans (hb21.mono B_3.out.size))
      clear B_3
      have rx_6 := hide (show Rd w21 (.slice A1 32 c1) 1 32 (bvs (X)) from rx_4.out.below hb21)
      clear rx_4
      have ry_6 := hide (show Rd w21 (.slice A2 32 c2) 1 32 (bvs (Y)) from ry_4.out.below hb21)
      clear ry_4
      have rz_6 := hide (show Rd w21 (.slice A3 32 c3) 1 32 (bvs (Z)) from rz_4.out.below hb21)
      clear rz_4
      have ro0_6 := hide (show Rd w21 (.slice A10 32 c10) 1 32 (bvs (z32)) from ro0_4.out.below hb21)
      clear ro0_4
      have ro1_6 := hide (show Rd w21 (.slice A11 32 c11) 1 32 (bvs (oneL)) from ro1_4.out.below hb21)
      clear ro1_4
      have rs_6 := hide (show Rd w21 (.slice A12 32 c12) 1 32 (bvs (sumL X Y)) from rs_4.out.below hb21)
      clear rs_4
      have rp_6 := hide (show Rd w21 (.slice A13 32 c13) 1 32 (bvs (madL X Y Z)) from rp_4.out.below hb21)
      clear rp_4
      (refine wpG_take (i := 2) (v := ?_) rfl (by kernel_rfl) (by kernel_rfl) (by kernel_rfl) (fun _ _ _ h => h) (From.refl _) (Or.inl ⟨by rfl, ?_⟩) ?_; rotate_left; (intro wx hx; go_simp) <;> (with_reducible rfl); (try simp only [Act.put, List.setIfInBounds_toArray, List.set_cons_zero, List.set_cons_succ, List.getElem_toArray, List.getElem_cons_succ, List.getElem_cons_zero])); (refine wpG_take (i := 3) (v := ?_) rfl (by kernel_rfl) (by kernel_rfl) (by kernel_rfl) (fun _ _ _ h => h) (From.refl _) (Or.inl ⟨by rfl, ?_⟩) ?_; rotate_left; (intro wx hx; go_simp) <;> (with_reducible rfl); (try simp only [Act.put, List.setIfInBounds_toArray, List.set_cons_zero, List.set_cons_succ, List.getElem_toArray, List.getElem_cons_succ, List.getElem_cons_zero])); (refine wpG_take (i := 4) (v := ?_) rfl (by kernel_rfl) (by kernel_rfl) (by kernel_rfl) (fun _ _ _ h => h) (From.refl _) (Or.inl ⟨by rfl, ?_⟩) ?_; rotate_left; (intro wx hx; go_simp) <;> (with_reducible rfl); (try simp only [Act.put, List.setIfInBounds_toArray, List.set_cons_zero, List.set_cons_succ, List.getElem_toArray, List.getElem_cons_succ, List.getElem_cons_zero]))
      (refine wpG_one (i := 5) (by kernel_rfl) rfl ?_; intro K hK; (try simp only [Act.put, List.setIfInBounds_toArray, List.set_cons_zero, List.set_cons_succ, List.getElem_toArray, List.getElem_cons_succ, List.getElem_cons_zero]))
      refine step_call rfl rfl enMay rfl (mayC (may_madL X Y Z) (madL_len X Y Z) rp_6.out) ?_
      rintro e w22 ⟨rfl, hb22⟩
      refine ⟨_, rfl, hK (From w22) _ _ (From.next hb22) (From.refl _) ?_⟩
      clear hK K
      (try simp only [Act.put, List.setIfInBounds_toArray, List.set_cons_zero, List.set_cons_succ, List.getElem_toArray, List.getElem_cons_succ, List.getElem_cons_zero])
      have B_7 := hide (show Below w.heap.size w (w22) from B_5.out.trans (hb22.mono B_5.out.size))
      clear B_5
      have rx_8 := hide (show Rd w22 (.slice A1 32 c1) 1 32 (bvs (X)) from rx_6.out.below hb22)
      clear rx_6
      have ry_8 := hide (show Rd w22 (.slice A2 32 c2) 1 32 (bvs (Y)) from ry_6.out.below hb22)
      clear ry_6
      have rz_8 := hide (show Rd w22 (.slice A3 32 c3) 1 32 (bvs (Z)) from rz_6.out.below hb22)
      clear rz_6
      have ro0_8 := hide (show Rd w22 (.slice A10 32 c10) 1 32 (bvs (z32)) from ro0_6.out.below hb22)
      clear ro0_6
      have ro1_8 := hide (show Rd w22 (.slice A11 32 c11) 1 32 (bvs (oneL)) from ro1_6.out.below hb22)
      clear ro1_6
      have rs_8 := hide (show Rd w22 (.slice A12 32 c12) 1 32 (bvs (sumL X Y)) from rs_6.out.below hb22)
      clear rs_6
      have rp_8 := hide (show Rd w22 (.slice A13 32 c13) 1 32 (bvs (madL X Y Z)) from rp_6.out.below hb22)
      clear rp_6
      have vs_8 : ∀ x, From (w22) x → (convert 22 9 (.slice A12 32 c12)).run Try.prog x = .ok (.string (strOf (sumL X Y))) x := fun x hx => run_str Try.underlying22 Try.underlying5 Try.underlying9 (rs_8.out.below hx)
      (refine wpG_take (i := 6) (v := ?_) rfl (by kernel_rfl) (by kernel_rfl) (by kernel_rfl) (fun _ _ _ h => h) (From.refl _) (Or.inl ⟨by rfl, ?_⟩) ?_; rotate_left; (intro wx hx; go_simp) <;> (with_reducible rfl); (try simp only [Act.put, List.setIfInBounds_toArray, List.set_cons_zero, List.set_cons_succ, List.getElem_toArray, List.getElem_cons_succ, List.getElem_cons_zero])); (refine wpG_take (i := 7) (v := ?_) rfl (by kernel_rfl) (by kernel_rfl) (by kernel_rfl) (fun _ _ _ h => h) (From.refl _) (Or.inl ⟨by rfl, ?_⟩) ?_; rotate_left; (intro wx hx; go_simp) <;> (with_reducible rfl); (try simp only [Act.put, List.setIfInBounds_toArray, List.set_cons_zero, List.set_cons_succ, List.getElem_toArray, List.getElem_cons_succ, List.getElem_cons_zero])); (refine wpG_take (i := 8) (v := ?_) rfl (by kernel_rfl) (by kernel_rfl) (by kernel_rfl) (fun _ _ _ h => h) (From.refl _) (Or.inl ⟨by rfl, ?_⟩) ?_; rotate_left; (intro wx hx; go_simp) <;> (with_reducible rfl); (try simp only [Act.put, List.setIfInBounds_toArray, List.set_cons_zero, List.set_cons_succ, List.getElem_toArray, List.getElem_cons_succ, List.getElem_cons_zero])); (refine wpG_take (i := 9) (v := ?_) rfl (by kernel_rfl) (by kernel_rfl) (by kernel_rfl) (fun _ _ _ h => h) (From.refl _) (Or.inl ⟨by rfl, ?_⟩) ?_; rotate_left; (intro wx hx; go_simp) <;> (with_reducible rfl); (try simp only [Act.put, List.setIfInBounds_toArray, List.set_cons_zero, List.set_cons_succ, List.getElem_toArray, List.getElem_cons_succ, List.getElem_cons_zero])); (refine wpG_take (i := 10) (v := ?_) rfl (by kernel_rfl) (by kernel_rfl) (by kernel_rfl) (fun _ _ _ h => h) (From.refl _) (Or.inl ⟨by rfl, ?_⟩) ?_; rotate_left; (intro wx hx; go_simp) <;> (with_reducible rfl); (try simp only [Act.put, List.setIfInBounds_toArray, List.set_cons_zero, List.set_cons_succ, List.getElem_toArray, List.getElem_cons_succ, List.getElem_cons_zero])); (refine wpG_take (i := 11) (v := ?_) rfl (by kernel_rfl) (by kernel_rfl) (by kernel_rfl) (fun _ _ _ h => h) (From.refl _) (Or.inl ⟨by rfl, ?_⟩) ?_; rotate_left; (intro wx hx; go_simp) <;> (with_reducible rfl); (try simp only [Act.put, List.setIfInBounds_toArray, List.set_cons_zero, List.set_cons_succ, List.getElem_toArray, List.getElem_cons_succ, List.getElem_cons_zero])); (refine wpG_take (i := 12) (v := ?_) rfl (by kernel_rfl) (by kernel_rfl) (by kernel_rfl) (fun _ _ _ h => h) (From.refl _) (Or.inl ⟨by rfl, ?_⟩) ?_; rotate_left; (intro wx hx; go_simp) <;> (with_reducible rfl); (try simp only [Act.put, List.setIfInBounds_toArray, List.set_cons_zero, List.set_cons_succ, List.getElem_toArray, List.getElem_cons_succ, List.getElem_cons_zero]))
      (refine wpG_one (i := 13) (by kernel_rfl) rfl ?_; intro K hK; (try simp only [Act.put, List.setIfInBounds_toArray, List.set_cons_zero, List.set_cons_succ, List.getElem_toArray, List.getElem_cons_succ, List.getElem_cons_zero]))
      refine step_call rfl rfl enAdd rfl (addC HYL.out HXL.out ry_8.out rx_8.out) ?_
      rintro e w23 ⟨A23, c23, rfl, hb23, hr23⟩
      rw [sumL_comm X Y] at hr23
      refine ⟨_, rfl, hK (From w23) _ _ (From.next hb23) (From.refl _) ?_⟩
      have q23 := hide hr23
      clear hr23
      clear hK K
      clear vs_8
      (try simp only [Act.put, List.setIfInBounds_toArray, List.set_cons_zero, List.set_cons_succ, List.getElem_toArray, List.getElem_cons_succ, List.getElem_cons_zero])
      have B_9 := hide (show Below w.heap.size w (w23) from B_7.out.trans (hb23.mono B_7.out.size))
      clear B_7
      have rx_10 := hide (show Rd w23 (.slice A1 32 c1) 1 32 (bvs (X)) from rx_8.out.below hb23)
      clear rx_8
      have ry_10 := hide (show Rd w23 (.slice A2 32 c2) 1 32 (bvs (Y)) from ry_8.out.below hb23)
      clear ry_8
      have rz_10 := hide (show Rd w23 (.slice A3 32 c3) 1 32 (bvs (Z)) from rz_8.out.below hb23)
      clear rz_8
      have ro0_10 := hide (show Rd w23 (.slice A10 32 c10) 1 32 (bvs (z32)) from ro0_8.out.below hb23)
      clear ro0_8
      have ro1_10 := hide (show Rd w23 (.slice A11 32 c11) 1 32 (bvs (oneL)) from ro1_8.out.below hb23)
      clear ro1_8
      have rs_10 := hide (show Rd w23 (.slice A12 32 c12) 1 32 (bvs (sumL X Y)) from rs_8.out.below hb23)
      clear rs_8
      have rp_10 := hide (show Rd w23 (.slice A13 32 c13) 1 32 (bvs (madL X Y Z)) from rp_8.out.below hb23)
      clear rp_8
      have vp_10 : ∀ x, From (w23) x → (convert 22 9 (.slice A13 32 c13)).run Try.prog x = .ok (.string (strOf (madL X Y Z))) x := fun x hx => run_str Try.underlying22 Try.underlying5 Try.underlying9 (rp_10.out.below hx)
      have va1_10 : ∀ x, From (w23) x → (convert 22 9 (.slice A23 32 c23)).run Try.prog x = .ok (.string (strOf (sumL X Y))) x := fun x hx => run_str Try.underlying22 Try.underlying5 Try.underlying9 (q23.out.below hx)
      (refine wpG_take (i := 14) (v := ?_) rfl (by kernel_rfl) (by kernel_rfl) (by kernel_rfl) (fun _ _ _ h => h) (From.refl _) (Or.inl ⟨by rfl, ?_⟩) ?_; rotate_left; (intro wx hx; go_simp) <;> (with_reducible rfl); (try simp only [Act.put, List.setIfInBounds_toArray, List.set_cons_zero, List.set_cons_succ, List.getElem_toArray, List.getElem_cons_succ, List.getElem_cons_zero])); (refine wpG_take (i := 15) (v := ?_) rfl (by kernel_rfl) (by kernel_rfl) (by kernel_rfl) (fun _ _ _ h => h) (From.refl _) (Or.inl ⟨by rfl, ?_⟩) ?_; rotate_left; (intro wx hx; go_simp) <;> (with_reducible rfl); (try simp only [Act.put, List.setIfInBounds_toArray, List.set_cons_zero, List.set_cons_succ, List.getElem_toArray, List.getElem_cons_succ, List.getElem_cons_zero])); (refine wpG_take (i := 16) (v := ?_) rfl (by kernel_rfl) (by kernel_rfl) (by kernel_rfl) (fun _ _ _ h => h) (From.refl _) (Or.inl ⟨by rfl, ?_⟩) ?_; rotate_left; (intro wx hx; go_simp) <;> (with_reducible rfl); (try simp only [Act.put, List.setIfInBounds_toArray, List.set_cons_zero, List.set_cons_succ, List.getElem_toArray, List.getElem_cons_succ, List.getElem_cons_zero])); (refine wpG_take (i := 17) (v := ?_) rfl (by kernel_rfl) (by kernel_rfl) (by kernel_rfl) (fun _ _ _ h => h) (From.refl _) (Or.inl ⟨by rfl, ?_⟩) ?_; rotate_left; (intro wx hx; go_simp) <;> (with_reducible rfl); (try simp only [Act.put, List.setIfInBounds_toArray, List.set_cons_zero, List.set_cons_succ, List.getElem_toArray, List.getElem_cons_succ, List.getElem_cons_zero])); (refine wpG_take (i := 18) (v := ?_) rfl (by kernel_rfl) (by kernel_rfl) (by kernel_rfl) (fun _ _ _ h => h) (From.refl _) (Or.inl ⟨by rfl, ?_⟩) ?_; rotate_left; (intro wx hx; go_simp) <;> (with_reducible rfl); (try simp only [Act.put, List.setIfInBounds_toArray, List.set_cons_zero, List.set_cons_succ, List.getElem_toArray, List.getElem_cons_succ, List.getElem_cons_zero])); (refine wpG_take (i := 19) (v := ?_) rfl (by kernel_rfl) (by kernel_rfl) (by kernel_rfl) (fun _ _ _ h => h) (From.refl _) (Or.inl ⟨by rfl, ?_⟩) ?_; rotate_left; (intro wx hx; go_simp) <;> (with_reducible rfl); (try simp only [Act.put, List.setIfInBounds_toArray, List.set_cons_zero, List.set_cons_succ, List.getElem_toArray, List.getElem_cons_succ, List.getElem_cons_zero])); (refine wpG_take (i := 20) (v := ?_) rfl (by kernel_rfl) (by kernel_rfl) (by kernel_rfl) (fun _ _ _ h => h) (From.refl _) (Or.inl ⟨by rfl, ?_⟩) ?_; rotate_left; (intro wx hx; go_simp) <;> (with_reducible rfl); (try simp only [Act.put, List.setIfInBounds_toArray, List.set_cons_zero, List.set_cons_succ, List.getElem_toArray, List.getElem_cons_succ, List.getElem_cons_zero])); (refine wpG_take (i := 21) (v := ?_) rfl (by kernel_rfl) (by kernel_rfl) (by kernel_rfl) (fun _ _ _ h => h) (From.refl _) (Or.inl ⟨by rfl, ?_⟩) ?_; rotate_left; (intro wx hx; go_simp) <;> (with_reducible rfl); (try simp only [Act.put, List.setIfInBounds_toArray, List.set_cons_zero, List.set_cons_succ, List.getElem_toArray, List.getElem_cons_succ, List.getElem_cons_zero])); (refine wpG_take (i := 22) (v := ?_) rfl (by kernel_rfl) (by kernel_rfl) (by kernel_rfl) (fun _ _ _ h => h) (From.refl _) (Or.inl ⟨by rfl, ?_⟩) ?_; rotate_left; (intro wx hx; go_simp) <;> (with_reducible rfl); (try simp only [Act.put, List.setIfInBounds_toArray, List.set_cons_zero, List.set_cons_succ, List.getElem_toArray, List.getElem_cons_succ, List.getElem_cons_zero]))
      (refine wpG_one (i := 23) (by kernel_rfl) rfl ?_; intro K hK; (try simp only [Act.put, List.setIfInBounds_toArray, List.set_cons_zero, List.set_cons_succ, List.getElem_toArray, List.getElem_cons_succ, List.getElem_cons_zero]))
      refine step_call rfl rfl enMulAdd rfl (madC HYL.out HXL.out HZL.out ry_10.out rx_10.out rz_10.out) ?_
      rintro e w24 ⟨A24, c24, rfl, hb24, hr24⟩
      rw [madL_comm X Y Z] at hr24
      refine ⟨_, rfl, hK (From w24) _ _ (From.next hb24) (From.refl _) ?_⟩
      have q24 := hide hr24
      clear hr24
      clear hK K
      clear vp_10 va1_10
      (try simp only [Act.put, List.setIfInBounds_toArray, List.set_cons_zero, List.set_cons_succ, List.getElem_toArray, List.getElem_cons_succ, List.getElem_cons_zero])
      have B_11 := hide (show Below w.heap.size w (w24) from B_9.out.trans (hb24.mono B_9.out.size))
      clear B_9
      have rx_12 := hide (show Rd w24 (.slice A1 32 c1) 1 32 (bvs (X)) from rx_10.out.below hb24)
      clear rx_10
      have ry_12 := hide (show Rd w24 (.slice A2 32 c2) 1 32 (bvs (Y)) from ry_10.out.below hb24)
      clear ry_10
      have rz_12 := hide (show Rd w24 (.slice A3 32 c3) 1 32 (bvs (Z)) from rz_10.out.below hb24)
      clear rz_10
      have ro0_12 := hide (show Rd w24 (.slice A10 32 c10) 1 32 (bvs (z32)) from ro0_10.out.below hb24)
      clear ro0_10
      have ro1_12 := hide (show Rd w24 (.slice A11 32 c11) 1 32 (bvs (oneL)) from ro1_10.out.below hb24)
      clear ro1_10
      have rs_12 := hide (show Rd w24 (.slice A12 32 c12) 1 32 (bvs (sumL X Y)) from rs_10.out.below hb24)
      clear rs_10
      have rp_12 := hide (show Rd w24 (.slice A13 32 c13) 1 32 (bvs (madL X Y Z)) from rp_10.out.below hb24)
      clear rp_10
      have vm1_12 : ∀ x, From (w24) x → (convert 22 9 (.slice A24 32 c24)).run Try.prog x = .ok (.string (strOf (madL X Y Z))) x := fun x hx => run_str Try.underlying22 Try.underlying5 Try.underlying9 (q24.out.below hx)
      (refine wpG_take (i := 24) (v := ?_) rfl (by kernel_rfl) (by kernel_rfl) (by kernel_rfl) (fun _ _ _ h => h) (From.refl _) (Or.inl ⟨by rfl, ?_⟩) ?_; rotate_left; (intro wx hx; go_simp) <;> (with_reducible rfl); (try simp only [Act.put, List.setIfInBounds_toArray, List.set_cons_zero, List.set_cons_succ, List.getElem_toArray, List.getElem_cons_succ, List.getElem_cons_zero])); (refine wpG_take (i := 25) (v := ?_) rfl (by kernel_rfl) (by kernel_rfl) (by kernel_rfl) (fun _ _ _ h => h) (From.refl _) (Or.inl ⟨by rfl, ?_⟩) ?_; rotate_left; (intro wx hx; go_simp) <;> (with_reducible rfl); (try simp only [Act.put, List.setIfInBounds_toArray, List.set_cons_zero, List.set_cons_succ, List.getElem_toArray, List.getElem_cons_succ, List.getElem_cons_zero])); (refine wpG_take (i := 26) (v := ?_) rfl (by kernel_rfl) (by kernel_rfl) (by kernel_rfl) (fun _ _ _ h => h) (From.refl _) (Or.inl ⟨by rfl, ?_⟩) ?_; rotate_left; (intro wx hx; go_simp) <;> (with_reducible rfl); (try simp only [Act.put, List.setIfInBounds_toArray, List.set_cons_zero, List.set_cons_succ, List.getElem_toArray, List.getElem_cons_succ, List.getElem_cons_zero])); (refine wpG_take (i := 27) (v := ?_) rfl (by kernel_rfl) (by kernel_rfl) (by kernel_rfl) (fun _ _ _ h => h) (From.refl _) (Or.inl ⟨by rfl, ?_⟩) ?_; rotate_left; (intro wx hx; go_simp) <;> (with_reducible rfl); (try simp only [Act.put, List.setIfInBounds_toArray, List.set_cons_zero, List.set_cons_succ, List.getElem_toArray, List.getElem_cons_succ, List.getElem_cons_zero])); (refine wpG_take (i := 28) (v := ?_) rfl (by kernel_rfl) (by kernel_rfl) (by kernel_rfl) (fun _ _ _ h => h) (From.refl _) (Or.inl ⟨by rfl, ?_⟩) ?_; rotate_left; (intro wx hx; go_simp) <;> (with_reducible rfl); (try simp only [Act.put, List.setIfInBounds_toArray, List.set_cons_zero, List.set_cons_succ, List.getElem_toArray, List.getElem_cons_succ, List.getElem_cons_zero])); (refine wpG_take (i := 29) (v := ?_) rfl (by kernel_rfl) (by kernel_rfl) (by kernel_rfl) (fun _ _ _ h => h) (From.refl _) (Or.inl ⟨by rfl, ?_⟩) ?_; rotate_left; (intro wx hx; go_simp) <;> (with_reducible rfl); (try simp only [Act.put, List.setIfInBounds_toArray, List.set_cons_zero, List.set_cons_succ, List.getElem_toArray, List.getElem_cons_succ, List.getElem_cons_zero])); (refine wpG_take (i := 32) (v := ?_) rfl (by kernel_rfl) (by kernel_rfl) (by kernel_rfl) (fun _ _ _ h => h) (From.refl _) (Or.inl ⟨by rfl, ?_⟩) ?_; rotate_left; (intro wx hx; go_simp) <;> (with_reducible rfl); (try simp only [Act.put, List.setIfInBounds_toArray, List.set_cons_zero, List.set_cons_succ, List.getElem_toArray, List.getElem_cons_succ, List.getElem_cons_zero])); (refine wpG_take (i := 33) (v := ?_) rfl (by kernel_rfl) (by kernel_rfl) (by kernel_rfl) (fun _ _ _ h => h) (From.refl _) (Or.inl ⟨by rfl, ?_⟩) ?_; rotate_left; (intro wx hx; go_simp) <;> (with_reducible rfl); (try simp only [Act.put, List.setIfInBounds_toArray, List.set_cons_zero, List.set_cons_succ, List.getElem_toArray, List.getElem_cons_succ, List.getElem_cons_zero])); (refine wpG_take (i := 34) (v := ?_) rfl (by kernel_rfl) (by kernel_rfl) (by kernel_rfl) (fun _ _ _ h => h) (From.refl _) (Or.inl ⟨by rfl, ?_⟩) ?_; rotate_left; (intro wx hx; go_simp) <;> (with_reducible rfl); (try simp only [Act.put, List.setIfInBounds_toArray, List.set_cons_zero, List.set_cons_succ, List.getElem_toArray, List.getElem_cons_succ, List.getElem_cons_zero]))
      (refine wpG_one (i := 30) (by kernel_rfl) rfl ?_; intro K hK; (try simp only [Act.put, List.setIfInBounds_toArray, List.set_cons_zero, List.set_cons_succ, List.getElem_toArray, List.getElem_cons_succ, List.getElem_cons_zero]))
      refine step_call rfl rfl enAdd rfl (addC (sumL_len X Y) HZL.out rs_12.out rz_12.out) ?_
      rintro e w25 ⟨A25, c25, rfl, hb25, hr25⟩
      refine ⟨_, rfl, hK (From w25) _ _ (From.next hb25) (From.refl _) ?_⟩
      have q25 := hide hr25
      clear hr25
      clear hK K
      clear vm1_12
      (try simp only [Act.put, List.setIfInBounds_toArray, List.set_cons_zero, List.set_cons_succ, List.getElem_toArray, List.getElem_cons_succ, List.getElem_cons_zero])
      have B_13 := hide (show Below w.heap.size w (w25) from B_11.out.trans (hb25.mono B_11.out.size))
      clear B_11
      have rx_14 := hide (show Rd w25 (.slice A1 32 c1) 1 32 (bvs (X)) from rx_12.out.below hb25)
      clear rx_12
      have ry_14 := hide (show Rd w25 (.slice A2 32 c2) 1 32 (bvs (Y)) from ry_12.out.below hb25)
      clear ry_12
      have rz_14 := hide (show Rd w25 (.slice A3 32 c3) 1 32 (bvs (Z)) from rz_12.out.below hb25)
      clear rz_12
      have ro0_14 := hide (show Rd w25 (.slice A10 32 c10) 1 32 (bvs (z32)) from ro0_12.out.below hb25)
      clear ro0_12
      have ro1_14 := hide (show Rd w25 (.slice A11 32 c11) 1 32 (bvs (oneL)) from ro1_12.out.below hb25)
      clear ro1_12
      have rs_14 := hide (show Rd w25 (.slice A12 32 c12) 1 32 (bvs (sumL X Y)) from rs_12.out.below hb25)
      clear rs_12
      have rp_14 := hide (show Rd w25 (.slice A13 32 c13) 1 32 (bvs (madL X Y Z)) from rp_12.out.below hb25)
      clear rp_12
      have vs3_14 : ∀ x, From (w25) x → (convert 22 9 (.slice A25 32 c25)).run Try.prog x = .ok (.string (strOf (sumL (sumL X Y) Z))) x := fun x hx => run_str Try.underlying22 Try.underlying5 Try.underlying9 (q25.out.below hx)
      (refine wpG_take (i := 31) (v := ?_) rfl (by kernel_rfl) (by kernel_rfl) (by kernel_rfl) (fun _ _ _ h => h) (From.refl _) (Or.inl ⟨by rfl, ?_⟩) ?_; rotate_left; (intro wx hx; go_simp) <;> (with_reducible rfl); (try simp only [Act.put, List.setIfInBounds_toArray, List.set_cons_zero, List.set_cons_succ, List.getElem_toArray, List.getElem_cons_succ, List.getElem_cons_zero]))
      (refine wpG_one (i := 35) (by kernel_rfl) rfl ?_; intro K hK; (try simp only [Act.put, List.setIfInBounds_toArray, List.set_cons_zero, List.set_cons_succ, List.getElem_toArray, List.getElem_cons_succ, List.getElem_cons_zero]))
      refine step_call rfl rfl enAdd rfl (addC HYL.out HZL.out ry_14.out rz_14.out) ?_
      rintro e w26 ⟨A26, c26, rfl, hb26, hr26⟩
      refine ⟨_, rfl, hK (From w26) _ _ (From.next hb26) (From.refl _) ?_⟩
      have q26 := hide hr26
      clear hr26
      clear hK K
      clear vs3_14
      (try simp only [Act.put, List.setIfInBounds_toArray, List.set_cons_zero, List.set_cons_succ, List.getElem_toArray, List.getElem_cons_succ, List.getElem_cons_zero])
      have B_15 := hide (show Below w.heap.size w (w26) from B_13.out.trans (hb26.mono B_13.out.size))
      clear B_13
      have rx_16 := hide (show Rd w26 (.slice A1 32 c1) 1 32 (bvs (X)) from rx_14.out.below hb26)
      clear rx_14
      have ry_16 := hide (show Rd w26 (.slice A2 32 c2) 1 32 (bvs (Y)) from ry_14.out.below hb26)
      clear ry_14
      have rz_16 := hide (show Rd w26 (.slice A3 32 c3) 1 32 (bvs (Z)) from rz_14.out.below hb26)
      clear rz_14
      have ro0_16 := hide (show Rd w26 (.slice A10 32 c10) 1 32 (bvs (z32)) from ro0_14.out.below hb26)
      clear ro0_14
      have ro1_16 := hide (show Rd w26 (.slice A11 32 c11) 1 32 (bvs (oneL)) from ro1_14.out.below hb26)
      clear ro1_14
      have rs_16 := hide (show Rd w26 (.slice A12 32 c12) 1 32 (bvs (sumL X Y)) from rs_14.out.below hb26)
      clear rs_14
      have rp_16 := hide (show Rd w26 (.slice A13 32 c13) 1 32 (bvs (madL X Y Z)) from rp_14.out.below hb26)
      clear rp_14
      (refine wpG_one (i := 36) (by kernel_rfl) rfl ?_; intro K hK; (try simp only [Act.put, List.setIfInBounds_toArray, List.set_cons_zero, List.set_cons_succ, List.getElem_toArray, List.getElem_cons_succ, List.getElem_cons_zero]))
      refine step_call rfl rfl enAdd rfl (addC HXL.out (by first | exact sumL_len _ _ | exact madL_len _ _ _) rx_16.out q26.out) ?_
      rintro e w27 ⟨A27, c27, rfl, hb27, hr27⟩
      rw [sumL_assoc X Y Z] at hr27
      refine ⟨_, rfl, hK (From w27) _ _ (From.next hb27) (From.refl _) ?_⟩
      have q27 := hide hr27
      clear hr27
      clear hK K
      (try simp only [Act.put, List.setIfInBounds_toArray, List.set_cons_zero, List.set_cons_succ, List.getElem_toArray, List.getElem_cons_succ, List.getElem_cons_zero])
      have B_17 := hide (show Below w.heap.size w (w27) from B_15.out.trans (hb27.mono B_15.out.size))
      clear B_15
      have rx_18 := hide (show Rd w27 (.slice A1 32 c1) 1 32 (bvs (X)) from rx_16.out.below hb27)
      clear rx_16
      have ry_18 := hide (show Rd w27 (.slice A2 32 c2) 1 32 (bvs (Y)) from ry_16.out.below hb27)
      clear ry_16
      have rz_18 := hide (show Rd w27 (.slice A3 32 c3) 1 32 (bvs (Z)) from rz_16.out.below hb27)
      clear rz_16
      have ro0_18 := hide (show Rd w27 (.slice A10 32 c10) 1 32 (bvs (z32)) from ro0_16.out.below hb27)
      clear ro0_16
      have ro1_18 := hide (show Rd w27 (.slice A11 32 c11) 1 32 (bvs (oneL)) from ro1_16.out.below hb27)
      clear ro1_16
      have rs_18 := hide (show Rd w27 (.slice A12 32 c12) 1 32 (bvs (sumL X Y)) from rs_16.out.below hb27)
      clear rs_16
      have rp_18 := hide (show Rd w27 (.slice A13 32 c13) 1 32 (bvs (madL X Y Z)) from rp_16.out.below hb27)
      clear rp_16
      have ryz_18 := hide (show Rd w27 (.slice A26 32 c26) 1 32 (bvs (sumL Y Z)) from q26.out.below hb27)
      clear q26
      have vs4_18 : ∀ x, From (w27) x → (convert 22 9 (.slice A27 32 c27)).run Try.prog x = .ok (.string (strOf (sumL (sumL X Y) Z))) x := fun x hx => run_str Try.underlying22 Try.underlying5 Try.underlying9 (q27.out.below hx)
      (refine wpG_take (i := 37) (v := ?_) rfl (by kernel_rfl) (by kernel_rfl) (by kernel_rfl) (fun _ _ _ h => h) (From.refl _) (Or.inl ⟨by rfl, ?_⟩) ?_; rotate_left; (intro wx hx; go_simp) <;> (with_reducible rfl); (try simp only [Act.put, List.setIfInBounds_toArray, List.set_cons_zero, List.set_cons_succ, List.getElem_toArray, List.getElem_cons_succ, List.getElem_cons_zero])); (refine wpG_take (i := 38) (v := ?_) rfl (by kernel_rfl) (by kernel_rfl) (by kernel_rfl) (fun _ _ _ h => h) (From.refl _) (Or.inl ⟨by rfl, ?_⟩) ?_; rotate_left; (intro wx hx; go_simp) <;> (with_reducible rfl); (try simp only [Act.put, List.setIfInBounds_toArray, List.set_cons_zero, List.set_cons_succ, List.getElem_toArray, List.getElem_cons_succ, List.getElem_cons_zero])); (refine wpG_take (i := 39) (v := ?_) rfl (by kernel_rfl) (by kernel_rfl) (by kernel_rfl) (fun _ _ _ h => h) (From.refl _) (Or.inl ⟨by rfl, ?_⟩) ?_; rotate_left; (intro wx hx; go_simp) <;> (with_reducible rfl); (try simp only [Act.put, List.setIfInBounds_toArray, List.set_cons_zero, List.set_cons_succ, List.getElem_toArray, List.getElem_cons_succ, List.getElem_cons_zero]))
      refine wpG_done (by kernel_rfl) ?_ _
      clear vs4_18
      go_upto_region 11 with (first
        | (have _q := hbq; go_at_call 13; refine (madC HXL.out HZL.out z32_len (rx_18.out.below hbq) (rz_18.out.below hbq) (ro0_18.out.below hbq)).mono ?_; rintro e wr ⟨A15, c15, rfl, hbr, hrr⟩)
        | (go_at_call 13; refine (madC HXL.out HYL.out z32_len rx_18.out ry_18.out ro0_18.out).mono ?_; rintro e wq ⟨A14, c14, rfl, hbq, hrq⟩))
      have B_19 := hide (show Below w.heap.size w (wr) from (B_17.out.trans (hbq.mono B_17.out.size)).trans (hbr.mono (Nat.le_trans B_17.out.size hbq.size)))
      clear B_17
      have rx_20 := hide (show Rd wr (.slice A1 32 c1) 1 32 (bvs (X)) from (rx_18.out.below hbq).below hbr)
      clear rx_18
      have ry_20 := hide (show Rd wr (.slice A2 32 c2) 1 32 (bvs (Y)) from (ry_18.out.below hbq).below hbr)
      clear ry_18
      have rz_20 := hide (show Rd wr (.slice A3 32 c3) 1 32 (bvs (Z)) from (rz_18.out.below hbq).below hbr)
      clear rz_18
      have ro0_20 := hide (show Rd wr (.slice A10 32 c10) 1 32 (bvs (z32)) from (ro0_18.out.below hbq).below hbr)
      clear ro0_18
      have ro1_20 := hide (show Rd wr (.slice A11 32 c11) 1 32 (bvs (oneL)) from (ro1_18.out.below hbq).below hbr)
      clear ro1_18
      have QQ := hide (hrq.below hbr)
      have QR := hide hrr
      clear hrq hrr hbq hbr
      have B_21 := hide (show Below w.heap.size w (wr.drew) from ((St.init w NoB).call B_19.out).drew.below)
      clear B_19
      have rx_22 := hide (show Rd wr.drew (.slice A1 32 c1) 1 32 (bvs (X)) from rx_20.out)
      clear rx_20
      have ry_22 := hide (show Rd wr.drew (.slice A2 32 c2) 1 32 (bvs (Y)) from ry_20.out)
      clear ry_20
      have rz_22 := hide (show Rd wr.drew (.slice A3 32 c3) 1 32 (bvs (Z)) from rz_20.out)
      clear rz_20
      have ro0_22 := hide (show Rd wr.drew (.slice A10 32 c10) 1 32 (bvs (z32)) from ro0_20.out)
      clear ro0_20
      have ro1_22 := hide (show Rd wr.drew (.slice A11 32 c11) 1 32 (bvs (oneL)) from ro1_20.out)
      clear ro1_20
      have rq_22 := hide (show Rd wr.drew (.slice A14 32 c14) 1 32 (bvs (madL X Y z32)) from QQ.out)
      clear QQ
      have rr_22 := hide (show Rd wr.drew (.slice A15 32 c15) 1 32 (bvs (madL X Z z32)) from QR.out)
      clear QR
      refine wp_region_F (by kernel_rfl) ?_
      (refine wpG_take (i := 0) (v := ?_) rfl (by kernel_rfl) (by kernel_rfl) (by kernel_rfl) (fun _ _ _ h => h) (From.refl _) (Or.inl ⟨by rfl, ?_⟩) ?_; rotate_left; (intro wx hx; go_simp) <;> (with_reducible rfl); (try simp only [Act.put, List.setIfInBounds_toArray, List.set_cons_zero, List.set_cons_succ, List.getElem_toArray, List.getElem_cons_succ, List.getElem_cons_zero])); (refine wpG_take (i := 1) (v := ?_) rfl (by kernel_rfl) (by kernel_rfl) (by kernel_rfl) (fun _ _ _ h => h) (From.refl _) (Or.inl ⟨by rfl, ?_⟩) ?_; rotate_left; (intro wx hx; go_simp) <;> (with_reducible rfl); (try simp only [Act.put, List.setIfInBounds_toArray, List.set_cons_zero, List.set_cons_succ, List.getElem_toArray, List.getElem_cons_succ, List.getElem_cons_zero])); (refine wpG_take (i := 2) (v := ?_) rfl (by kernel_rfl) (by kernel_rfl) (by kernel_rfl) (fun _ _ _ h => h) (From.refl _) (Or.inl ⟨by rfl, ?_⟩) ?_; rotate_left; (intro wx hx; go_simp) <;> (with_reducible rfl); (try simp only [Act.put, List.setIfInBounds_toArray, List.set_cons_zero, List.set_cons_succ, List.getElem_toArray, List.getElem_cons_succ, List.getElem_cons_zero])); (refine wpG_take (i := 4) (v := ?_) rfl (by kernel_rfl) (by kernel_rfl) (by kernel_rfl) (fun _ _ _ h => h) (From.refl _) (Or.inl ⟨by rfl, ?_⟩) ?_; rotate_left; (intro wx hx; go_simp) <;> (with_reducible rfl); (try simp only [Act.put, List.setIfInBounds_toArray, List.set_cons_zero, List.set_cons_succ, List.getElem_toArray, List.getElem_cons_succ, List.getElem_cons_zero])); (refine wpG_take (i := 7) (v := ?_) rfl (by kernel_rfl) (by kernel_rfl) (by kernel_rfl) (fun _ _ _ h => h) (From.refl _) (Or.inl ⟨by rfl, ?_⟩) ?_; rotate_left; (intro wx hx; go_simp) <;> (with_reducible rfl); (try simp only [Act.put, List.setIfInBounds_toArray, List.set_cons_zero, List.set_cons_succ, List.getElem_toArray, List.getElem_cons_succ, List.getElem_cons_zero])); (refine wpG_take (i := 8) (v := ?_) rfl (by kernel_rfl) (by kernel_rfl) (by kernel_rfl) (fun _ _ _ h => h) (From.refl _) (Or.inl ⟨by rfl, ?_⟩) ?_; rotate_left; (intro wx hx; go_simp) <;> (with_reducible rfl); (try simp only [Act.put, List.setIfInBounds_toArray, List.set_cons_zero, List.set_cons_succ, List.getElem_toArray, List.getElem_cons_succ, List.getElem_cons_zero]))
      (refine wpG_one (i := 3) (by kernel_rfl) rfl ?_; intro K hK; (try simp only [Act.put, List.setIfInBounds_toArray, List.set_cons_zero, List.set_cons_succ, List.getElem_toArray, List.getElem_cons_succ, List.getElem_cons_zero]))
      refine step_call rfl rfl enAdd rfl (addC HYL.out HZL.out ry_22.out rz_22.out) ?_
      rintro e w28 ⟨A28, c28, rfl, hb28, hr28⟩
      refine ⟨_, rfl, hK (From w28) _ _ (From.next hb28) (From.refl _) ?_⟩
      have q28 := hide hr28
      clear hr28
      clear hK K
      (try simp only [Act.put, List.setIfInBounds_toArray, List.set_cons_zero, List.set_cons_succ, List.getElem_toArray, List.getElem_cons_succ, List.getElem_cons_zero])
      have B_23 := hide (show Below w.heap.size w (w28) from B_21.out.trans (hb28.mono B_21.out.size))
      clear B_21
      have rx_24 := hide (show Rd w28 (.slice A1 32 c1) 1 32 (bvs (X)) from rx_22.out.below hb28)
      clear rx_22
      have ry_24 := hide (show Rd w28 (.slice A2 32 c2) 1 32 (bvs (Y)) from ry_22.out.below hb28)
      clear ry_22
      have rz_24 := hide (show Rd w28 (.slice A3 32 c3) 1 32 (bvs (Z)) from rz_22.out.below hb28)
      clear rz_22
      have ro0_24 := hide (show Rd w28 (.slice A10 32 c10) 1 32 (bvs (z32)) from ro0_22.out.below hb28)
      clear ro0_22
      have ro1_24 := hide (show Rd w28 (.slice A11 32 c11) 1 32 (bvs (oneL)) from ro1_22.out.below hb28)
      clear ro1_22
      have rq_24 := hide (show Rd w28 (.slice A14 32 c14) 1 32 (bvs (madL X Y z32)) from rq_22.out.below hb28)
      clear rq_22
      have rr_24 := hide (show Rd w28 (.slice A15 32 c15) 1 32 (bvs (madL X Z z32)) from rr_22.out.below hb28)
      clear rr_22
      (refine wpG_one (i := 5) (by kernel_rfl) rfl ?_; intro K hK; (try simp only [Act.put, List.setIfInBounds_toArray, List.set_cons_zero, List.set_cons_succ, List.getElem_toArray, List.getElem_cons_succ, List.getElem_cons_zero]))
      refine step_call rfl rfl enMulAdd rfl (madC HXL.out (by first | exact sumL_len _ _ | exact madL_len _ _ _) z32_len rx_24.out q28.out ro0_24.out) ?_
      rintro e w29 ⟨A29, c29, rfl, hb29, hr29⟩
      rw [madL_over X Y Z] at hr29
      refine ⟨_, rfl, hK (From w29) _ _ (From.next hb29) (From.refl _) ?_⟩
      have q29 := hide hr29
      clear hr29
      clear hK K
      (try simp only [Act.put, List.setIfInBounds_toArray, List.set_cons_zero, List.set_cons_succ, List.getElem_toArray, List.getElem_cons_succ, List.getElem_cons_zero])
      have B_25 := hide (show Below w.heap.size w (w29) from B_23.out.trans (hb29.mono B_23.out.size))
      clear B_23
      have rx_26 := hide (show Rd w29 (.slice A1 32 c1) 1 32 (bvs (X)) from rx_24.out.below hb29)
      clear rx_24
      have ry_26 := hide (show Rd w29 (.slice A2 32 c2) 1 32 (bvs (Y)) from ry_24.out.below hb29)
      clear ry_24
      have rz_26 := hide (show Rd w29 (.slice A3 32 c3) 1 32 (bvs (Z)) from rz_24.out.below hb29)
      clear rz_24
      have ro0_26 := hide (show Rd w29 (.slice A10 32 c10) 1 32 (bvs (z32)) from ro0_24.out.below hb29)
      clear ro0_24
      have ro1_26 := hide (show Rd w29 (.slice A11 32 c11) 1 32 (bvs (oneL)) from ro1_24.out.below hb29)
      clear ro1_24
      have rq_26 := hide (show Rd w29 (.slice A14 32 c14) 1 32 (bvs (madL X Y z32)) from rq_24.out.below hb29)
      clear rq_24
      have rr_26 := hide (show Rd w29 (.slice A15 32 c15) 1 32 (bvs (madL X Z z32)) from rr_24.out.below hb29)
      clear rr_24
      have ryz_26 := hide (show Rd w29 (.slice A28 32 c28) 1 32 (bvs (sumL Y Z)) from q28.out.below hb29)
      clear q28
      have vd1_26 : ∀ x, From (w29) x → (convert 22 9 (.slice A29 32 c29)).run Try.prog x = .ok (.string (strOf (sumL (madL X Y z32) (madL X Z z32)))) x := fun x hx => run_str Try.underlying22 Try.underlying5 Try.underlying9 (q29.out.below hx)
      (refine wpG_take (i := 6) (v := ?_) rfl (by kernel_rfl) (by kernel_rfl) (by kernel_rfl) (fun _ _ _ h => h) (From.refl _) (Or.inl ⟨by rfl, ?_⟩) ?_; rotate_left; (intro wx hx; go_simp) <;> (with_reducible rfl); (try simp only [Act.put, List.setIfInBounds_toArray, List.set_cons_zero, List.set_cons_succ, List.getElem_toArray, List.getElem_cons_succ, List.getElem_cons_zero]))
      (refine wpG_one (i := 9) (by kernel_rfl) rfl ?_; intro K hK; (try simp only [Act.put, List.setIfInBounds_toArray, List.set_cons_zero, List.set_cons_succ, List.getElem_toArray, List.getElem_cons_succ, List.getElem_cons_zero]))
      refine step_call rfl rfl enAdd rfl (addC (madL_len X Y z32) (madL_len X Z z32) rq_26.out rr_26.out) ?_
      rintro e w30 ⟨A30, c30, rfl, hb30, hr30⟩
      refine ⟨_, rfl, hK (From w30) _ _ (From.next hb30) (From.refl _) ?_⟩
      have q30 := hide hr30
      clear hr30
      clear hK K
      clear vd1_26
      (try simp only [Act.put, List.setIfInBounds_toArray, List.set_cons_zero, List.set_cons_succ, List.getElem_toArray, List.getElem_cons_succ, List.getElem_cons_zero])
      have B_27 := hide (show Below w.heap.size w (w30) from B_25.out.trans (hb30.mono B_25.out.size))
      clear B_25
      have rx_28 := hide (show Rd w30 (.slice A1 32 c1) 1 32 (bvs (X)) from rx_26.out.below hb30)
      clear rx_26
      have ry_28 := hide (show Rd w30 (.slice A2 32 c2) 1 32 (bvs (Y)) from ry_26.out.below hb30)
      clear ry_26
      have rz_28 := hide (show Rd w30 (.slice A3 32 c3) 1 32 (bvs (Z)) from rz_26.out.below hb30)
      clear rz_26
      have ro0_28 := hide (show Rd w30 (.slice A10 32 c10) 1 32 (bvs (z32)) from ro0_26.out.below hb30)
      clear ro0_26
      have ro1_28 := hide (show Rd w30 (.slice A11 32 c11) 1 32 (bvs (oneL)) from ro1_26.out.below hb30)
      clear ro1_26
      have rq_28 := hide (show Rd w30 (.slice A14 32 c14) 1 32 (bvs (madL X Y z32)) from rq_26.out.below hb30)
      clear rq_26
      have rr_28 := hide (show Rd w30 (.slice A15 32 c15) 1 32 (bvs (madL X Z z32)) from rr_26.out.below hb30)
      clear rr_26
      have vd2_28 : ∀ x, From (w30) x → (convert 22 9 (.slice A30 32 c30)).run Try.prog x = .ok (.string (strOf (sumL (madL X Y z32) (madL X Z z32)))) x := fun x hx => run_str Try.underlying22 Try.underlying5 Try.underlying9 (q30.out.below hx)
      (refine wpG_take (i := 10) (v := ?_) rfl (by kernel_rfl) (by kernel_rfl) (by kernel_rfl) (fun _ _ _ h => h) (From.refl _) (Or.inl ⟨by rfl, ?_⟩) ?_; rotate_left; (intro wx hx; go_simp) <;> (with_reducible rfl); (try simp only [Act.put, List.setIfInBounds_toArray, List.set_cons_zero, List.set_cons_succ, List.getElem_toArray, List.getElem_cons_succ, List.getElem_cons_zero])); (refine wpG_take (i := 11) (v := ?_) rfl (by kernel_rfl) (by kernel_rfl) (by kernel_rfl) (fun _ _ _ h => h) (From.refl _) (Or.inl ⟨by rfl, ?_⟩) ?_; rotate_left; (intro wx hx; go_simp) <;> (with_reducible rfl); (try simp only [Act.put, List.setIfInBounds_toArray, List.set_cons_zero, List.set_cons_succ, List.getElem_toArray, List.getElem_cons_succ, List.getElem_cons_zero])); (refine wpG_take (i := 12) (v := ?_) rfl (by kernel_rfl) (by kernel_rfl) (by kernel_rfl) (fun _ _ _ h => h) (From.refl _) (Or.inl ⟨by rfl, ?_⟩) ?_; rotate_left; (intro wx hx; go_simp) <;> (with_reducible rfl); (try simp only [Act.put, List.setIfInBounds_toArray, List.set_cons_zero, List.set_cons_succ, List.getElem_toArray, List.getElem_cons_succ, List.getElem_cons_zero])); (refine wpG_take (i := 13) (v := ?_) rfl (by kernel_rfl) (by kernel_rfl) (by kernel_rfl) (fun _ _ _ h => h) (From.refl _) (Or.inl ⟨by rfl, ?_⟩) ?_; rotate_left; (intro wx hx; go_simp) <;> (with_reducible rfl); (try simp only [Act.put, List.setIfInBounds_toArray, List.set_cons_zero, List.set_cons_succ, List.getElem_toArray, List.getElem_cons_succ, List.getElem_cons_zero])); (refine wpG_take (i := 14) (v := ?_) rfl (by kernel_rfl) (by kernel_rfl) (by kernel_rfl) (fun _ _ _ h => h) (From.refl _) (Or.inl ⟨by rfl, ?_⟩) ?_; rotate_left; (intro wx hx; go_simp) <;> (with_reducible rfl); (try simp only [Act.put, List.setIfInBounds_toArray, List.set_cons_zero, List.set_cons_succ, List.getElem_toArray, List.getElem_cons_succ, List.getElem_cons_zero])); (refine wpG_take (i := 15) (v := ?_) rfl (by kernel_rfl) (by kernel_rfl) (by kernel_rfl) (fun _ _ _ h => h) (From.refl _) (Or.inl ⟨by rfl, ?_⟩) ?_; rotate_left; (intro wx hx; go_simp) <;> (with_reducible rfl); (try simp only [Act.put, List.setIfInBounds_toArray, List.set_cons_zero, List.set_cons_succ, List.getElem_toArray, List.getElem_cons_succ, List.getElem_cons_zero])); (refine wpG_take (i := 18) (v := ?_) rfl (by kernel_rfl) (by kernel_rfl) (by kernel_rfl) (fun _ _ _ h => h) (From.refl _) (Or.inl ⟨by rfl, ?_⟩) ?_; rotate_left; (intro wx hx; go_simp) <;> (with_reducible rfl); (try simp only [Act.put, List.setIfInBounds_toArray, List.set_cons_zero, List.set_cons_succ, List.getElem_toArray, List.getElem_cons_succ, List.getElem_cons_zero])); (refine wpG_take (i := 19) (v := ?_) rfl (by kernel_rfl) (by kernel_rfl) (by kernel_rfl) (fun _ _ _ h => h) (From.refl _) (Or.inl ⟨by rfl, ?_⟩) ?_; rotate_left; (intro wx hx; go_simp) <;> (with_reducible rfl); (try simp only [Act.put, List.setIfInBounds_toArray, List.set_cons_zero, List.set_cons_succ, List.getElem_toArray, List.getElem_cons_succ, List.getElem_cons_zero])); (refine wpG_take (i := 20) (v := ?_) rfl (by kernel_rfl) (by kernel_rfl) (by kernel_rfl) (fun _ _ _ h => h) (From.refl _) (Or.inl ⟨by rfl, ?_⟩) ?_; rotate_left; (intro wx hx; go_simp) <;> (with_reducible rfl); (try simp only [Act.put, List.setIfInBounds_toArray, List.set_cons_zero, List.set_cons_succ, List.getElem_toArray, List.getElem_cons_succ, List.getElem_cons_zero])); (refine wpG_take (i := 21) (v := ?_) rfl (by kernel_rfl) (by kernel_rfl) (by kernel_rfl) (fun _ _ _ h => h) (From.refl _) (Or.inl ⟨by rfl, ?_⟩) ?_; rotate_left; (intro wx hx; go_simp) <;> (with_reducible rfl); (try simp only [Act.put, List.setIfInBounds_toArray, List.set_cons_zero, List.set_cons_succ, List.getElem_toArray, List.getElem_cons_succ, List.getElem_cons_zero])); (refine wpG_take (i := 23) (v := ?_) rfl (by kernel_rfl) (by kernel_rfl) (by kernel_rfl) (fun _ _ _ h => h) (From.refl _) (Or.inl ⟨by rfl, ?_⟩) ?_; rotate_left; (intro wx hx; go_simp) <;> (with_reducible rfl); (try simp only [Act.put, List.setIfInBounds_toArray, List.set_cons_zero, List.set_cons_succ, List.getElem_toArray, List.getElem_cons_succ, List.getElem_cons_zero]))
      (refine wpG_one (i := 16) (by kernel_rfl) rfl ?_; intro K hK; (try simp only [Act.put, List.setIfInBounds_toArray, List.set_cons_zero, List.set_cons_succ, List.getElem_toArray, List.getElem_cons_succ, List.getElem_cons_zero]))
      refine step_call rfl rfl enMulAdd rfl (madC (madL_len X Y z32) HZL.out z32_len rq_28.out rz_28.out ro0_28.out) ?_
      rintro e w31 ⟨A31, c31, rfl, hb31, hr31⟩
      refine ⟨_, rfl, hK (From w31) _ _ (From.next hb31) (From.refl _) ?_⟩
      have q31 := hide hr31
      clear hr31
      clear hK K
      clear vd2_28
      (try simp only [Act.put, List.setIfInBounds_toArray, List.set_cons_zero, List.set_cons_succ, List.getElem_toArray, List.getElem_cons_succ, List.getElem_cons_zero])
      have B_29 := hide (show Below w.heap.size w (w31) from B_27.out.trans (hb31.mono B_27.out.size))
      clear B_27
      have rx_30 := hide (show Rd w31 (.slice A1 32 c1) 1 32 (bvs (X)) from rx_28.out.below hb31)
      clear rx_28
      have ry_30 := hide (show Rd w31 (.slice A2 32 c2) 1 32 (bvs (Y)) from ry_28.out.below hb31)
      clear ry_28
      have rz_30 := hide (show Rd w31 (.slice A3 32 c3) 1 32 (bvs (Z)) from rz_28.out.below hb31)
      clear rz_28
      have ro0_30 := hide (show Rd w31 (.slice A10 32 c10) 1 32 (bvs (z32)) from ro0_28.out.below hb31)
      clear ro0_28
      have ro1_30 := hide (show Rd w31 (.slice A11 32 c11) 1 32 (bvs (oneL)) from ro1_28.out.below hb31)
      clear ro1_28
      have rq_30 := hide (show Rd w31 (.slice A14 32 c14) 1 32 (bvs (madL X Y z32)) from rq_28.out.below hb31)
      clear rq_28
      have rr_30 := hide (show Rd w31 (.slice A15 32 c15) 1 32 (bvs (madL X Z z32)) from rr_28.out.below hb31)
      clear rr_28
      have ve1_30 : ∀ x, From (w31) x → (convert 22 9 (.slice A31 32 c31)).run Try.prog x = .ok (.string (strOf (madL (madL X Y z32) Z z32))) x := fun x hx => run_str Try.underlying22 Try.underlying5 Try.underlying9 (q31.out.below hx)
      (refine wpG_take (i := 17) (v := ?_) rfl (by kernel_rfl) (by kernel_rfl) (by kernel_rfl) (fun _ _ _ h => h) (From.refl _) (Or.inl ⟨by rfl, ?_⟩) ?_; rotate_left; (intro wx hx; go_simp) <;> (with_reducible rfl); (try simp only [Act.put, List.setIfInBounds_toArray, List.set_cons_zero, List.set_cons_succ, List.getElem_toArray, List.getElem_cons_succ, List.getElem_cons_zero]))
      (refine wpG_one (i := 22) (by kernel_rfl) rfl ?_; intro K hK; (try simp only [Act.put, List.setIfInBounds_toArray, List.set_cons_zero, List.set_cons_succ, List.getElem_toArray, List.getElem_cons_succ, List.getElem_cons_zero]))
      refine step_call rfl rfl enMulAdd rfl (madC HYL.out HZL.out z32_len ry_30.out rz_30.out ro0_30.out) ?_
      rintro e w32 ⟨A32, c32, rfl, hb32, hr32⟩
      refine ⟨_, rfl, hK (From w32) _ _ (From.next hb32) (From.refl _) ?_⟩
      have q32 := hide hr32
      clear hr32
      clear hK K
      clear ve1_30
      (try simp only [Act.put, List.setIfInBounds_toArray, List.set_cons_zero, List.set_cons_succ, List.getElem_toArray, List.getElem_cons_succ, List.getElem_cons_zero])
      have B_31 := hide (show Below w.heap.size w (w32) from B_29.out.trans (hb32.mono B_29.out.size))
      clear B_29
      have rx_32 := hide (show Rd w32 (.slice A1 32 c1) 1 32 (bvs (X)) from rx_30.out.below hb32)
      clear rx_30
      have ry_32 := hide (show Rd w32 (.slice A2 32 c2) 1 32 (bvs (Y)) from ry_30.out.below hb32)
      clear ry_30
      have rz_32 := hide (show Rd w32 (.slice A3 32 c3) 1 32 (bvs (Z)) from rz_30.out.below hb32)
      clear rz_30
      have ro0_32 := hide (show Rd w32 (.slice A10 32 c10) 1 32 (bvs (z32)) from ro0_30.out.below hb32)
      clear ro0_30
      have ro1_32 := hide (show Rd w32 (.slice A11 32 c11) 1 32 (bvs (oneL)) from ro1_30.out.below hb32)
      clear ro1_30
      have rq_32 := hide (show Rd w32 (.slice A14 32 c14) 1 32 (bvs (madL X Y z32)) from rq_30.out.below hb32)
      clear rq_30
      have rr_32 := hide (show Rd w32 (.slice A15 32 c15) 1 32 (bvs (madL X Z z32)) from rr_30.out.below hb32)
      clear rr_30
      (refine wpG_one (i := 24) (by kernel_rfl) rfl ?_; intro K hK; (try simp only [Act.put, List.setIfInBounds_toArray, List.set_cons_zero, List.set_cons_succ, List.getElem_toArray, List.getElem_cons_succ, List.getElem_cons_zero]))
      refine step_call rfl rfl enMulAdd rfl (madC HXL.out (by first | exact sumL_len _ _ | exact madL_len _ _ _) z32_len rx_32.out q32.out ro0_32.out) ?_
      rintro e w33 ⟨A33, c33, rfl, hb33, hr33⟩
      rw [madL_assoc X Y Z] at hr33
      refine ⟨_, rfl, hK (From w33) _ _ (From.next hb33) (From.refl _) ?_⟩
      have q33 := hide hr33
      clear hr33
      clear hK K
      (try simp only [Act.put, List.setIfInBounds_toArray, List.set_cons_zero, List.set_cons_succ, List.getElem_toArray, List.getElem_cons_succ, List.getElem_cons_zero])
      have B_33 := hide (show Below w.heap.size w (w33) from B_31.out.trans (hb33.mono B_31.out.size))
      clear B_31
      have rx_34 := hide (show Rd w33 (.slice A1 32 c1) 1 32 (bvs (X)) from rx_32.out.below hb33)
      clear rx_32
      have ry_34 := hide (show Rd w33 (.slice A2 32 c2) 1 32 (bvs (Y)) from ry_32.out.below hb33)
      clear ry_32
      have rz_34 := hide (show Rd w33 (.slice A3 32 c3) 1 32 (bvs (Z)) from rz_32.out.below hb33)
      clear rz_32
      have ro0_34 := hide (show Rd w33 (.slice A10 32 c10) 1 32 (bvs (z32)) from ro0_32.out.below hb33)
      clear ro0_32
      have ro1_34 := hide (show Rd w33 (.slice A11 32 c11) 1 32 (bvs (oneL)) from ro1_32.out.below hb33)
      clear ro1_32
      have rq_34 := hide (show Rd w33 (.slice A14 32 c14) 1 32 (bvs (madL X Y z32)) from rq_32.out.below hb33)
      clear rq_32
      have rr_34 := hide (show Rd w33 (.slice A15 32 c15) 1 32 (bvs (madL X Z z32)) from rr_32.out.below hb33)
      clear rr_32
      have ryz_34 := hide (show Rd w33 (.slice A32 32 c32) 1 32 (bvs (madL Y Z z32)) from q32.out.below hb33)
      clear q32
      have ve2_34 : ∀ x, From (w33) x → (convert 22 9 (.slice A33 32 c33)).run Try.prog x = .ok (.string (strOf (madL (madL X Y z32) Z z32))) x := fun x hx => run_str Try.underlying22 Try.underlying5 Try.underlying9 (q33.out.below hx)
      (refine wpG_take (i := 25) (v := ?_) rfl (by kernel_rfl) (by kernel_rfl) (by kernel_rfl) (fun _ _ _ h => h) (From.refl _) (Or.inl ⟨by rfl, ?_⟩) ?_; rotate_left; (intro wx hx; go_simp) <;> (with_reducible rfl); (try simp only [Act.put, List.setIfInBounds_toArray, List.set_cons_zero, List.set_cons_succ, List.getElem_toArray, List.getElem_cons_succ, List.getElem_cons_zero])); (refine wpG_take (i := 26) (v := ?_) rfl (by kernel_rfl) (by kernel_rfl) (by kernel_rfl) (fun _ _ _ h => h) (From.refl _) (Or.inl ⟨by rfl, ?_⟩) ?_; rotate_left; (intro wx hx; go_simp) <;> (with_reducible rfl); (try simp only [Act.put, List.setIfInBounds_toArray, List.set_cons_zero, List.set_cons_succ, List.getElem_toArray, List.getElem_cons_succ, List.getElem_cons_zero])); (refine wpG_take (i := 27) (v := ?_) rfl (by kernel_rfl) (by kernel_rfl) (by kernel_rfl) (fun _ _ _ h => h) (From.refl _) (Or.inl ⟨by rfl, ?_⟩) ?_; rotate_left; (intro wx hx; go_simp) <;> (with_reducible rfl); (try simp only [Act.put, List.setIfInBounds_toArray, List.set_cons_zero, List.set_cons_succ, List.getElem_toArray, List.getElem_cons_succ, List.getElem_cons_zero])); (refine wpG_take (i := 28) (v := ?_) rfl (by kernel_rfl) (by kernel_rfl) (by kernel_rfl) (fun _ _ _ h => h) (From.refl _) (Or.inl ⟨by rfl, ?_⟩) ?_; rotate_left; (intro wx hx; go_simp) <;> (with_reducible rfl); (try simp only [Act.put, List.setIfInBounds_toArray, List.set_cons_zero, List.set_cons_succ, List.getElem_toArray, List.getElem_cons_succ, List.getElem_cons_zero])); (refine wpG_take (i := 29) (v := ?_) rfl (by kernel_rfl) (by kernel_rfl) (by kernel_rfl) (fun _ _ _ h => h) (From.refl _) (Or.inl ⟨by rfl, ?_⟩) ?_; rotate_left; (intro wx hx; go_simp) <;> (with_reducible rfl); (try simp only [Act.put, List.setIfInBounds_toArray, List.set_cons_zero, List.set_cons_succ, List.getElem_toArray, List.getElem_cons_succ, List.getElem_cons_zero])); (refine wpG_take (i := 30) (v := ?_) rfl (by kernel_rfl) (by kernel_rfl) (by kernel_rfl) (fun _ _ _ h => h) (From.refl _) (Or.inl ⟨by rfl, ?_⟩) ?_; rotate_left; (intro wx hx; go_simp) <;> (with_reducible rfl); (try simp only [Act.put, List.setIfInBounds_toArray, List.set_cons_zero, List.set_cons_succ, List.getElem_toArray, List.getElem_cons_succ, List.getElem_cons_zero])); (refine wpG_take (i := 31) (v := ?_) rfl (by kernel_rfl) (by kernel_rfl) (by kernel_rfl) (fun _ _ _ h => h) (From.refl _) (Or.inl ⟨by rfl, ?_⟩) ?_; rotate_left; (intro wx hx; go_simp) <;> (with_reducible rfl); (try simp only [Act.put, List.setIfInBounds_toArray, List.set_cons_zero, List.set_cons_succ, List.getElem_toArray, List.getElem_cons_succ, List.getElem_cons_zero])); (refine wpG_take (i := 34) (v := ?_) rfl (by kernel_rfl) (by kernel_rfl) (by kernel_rfl) (fun _ _ _ h => h) (From.refl _) (Or.inl ⟨by rfl, ?_⟩) ?_; rotate_left; (intro wx hx; go_simp) <;> (with_reducible rfl); (try simp only [Act.put, List.setIfInBounds_toArray, List.set_cons_zero, List.set_cons_succ, List.getElem_toArray, List.getElem_cons_succ, List.getElem_cons_zero]))
      (refine wpG_one (i := 32) (by kernel_rfl) rfl ?_; intro K hK; (try simp only [Act.put, List.setIfInBounds_toArray, List.set_cons_zero, List.set_cons_succ, List.getElem_toArray, List.getElem_cons_succ, List.getElem_cons_zero]))
      refine step_call rfl rfl enMulAdd rfl (madC HXL.out oneL_len z32_len rx_34.out ro1_34.out ro0_34.out) ?_
      rintro e w34 ⟨A34, c34, rfl, hb34, hr34⟩
      rw [madL_one X oneL oneL_val] at hr34
      refine ⟨_, rfl, hK (From w34) _ _ (From.next hb34) (From.refl _) ?_⟩
      have q34 := hide hr34
      clear hr34
      clear hK K
      clear ve2_34
      (try simp only [Act.put, List.setIfInBounds_toArray, List.set_cons_zero, List.set_cons_succ, List.getElem_toArray, List.getElem_cons_succ, List.getElem_cons_zero])
      have B_35 := hide (show Below w.heap.size w (w34) from B_33.out.trans (hb34.mono B_33.out.size))
      clear B_33
      have rx_36 := hide (show Rd w34 (.slice A1 32 c1) 1 32 (bvs (X)) from rx_34.out.below hb34)
      clear rx_34
      have ry_36 := hide (show Rd w34 (.slice A2 32 c2) 1 32 (bvs (Y)) from ry_34.out.below hb34)
      clear ry_34
      have rz_36 := hide (show Rd w34 (.slice A3 32 c3) 1 32 (bvs (Z)) from rz_34.out.below hb34)
      clear rz_34
      have ro0_36 := hide (show Rd w34 (.slice A10 32 c10) 1 32 (bvs (z32)) from ro0_34.out.below hb34)
      clear ro0_34
      have ro1_36 := hide (show Rd w34 (.slice A11 32 c11) 1 32 (bvs (oneL)) from ro1_34.out.below hb34)
      clear ro1_34
      have rq_36 := hide (show Rd w34 (.slice A14 32 c14) 1 32 (bvs (madL X Y z32)) from rq_34.out.below hb34)
      clear rq_34
      have rr_36 := hide (show Rd w34 (.slice A15 32 c15) 1 32 (bvs (madL X Z z32)) from rr_34.out.below hb34)
      clear rr_34
      have vf1_36 : ∀ x, From (w34) x → (convert 22 9 (.slice A34 32 c34)).run Try.prog x = .ok (.string (strOf (redL X))) x := fun x hx => run_str Try.underlying22 Try.underlying5 Try.underlying9 (q34.out.below hx)
      (refine wpG_take (i := 33) (v := ?_) rfl (by kernel_rfl) (by kernel_rfl) (by kernel_rfl) (fun _ _ _ h => h) (From.refl _) (Or.inl ⟨by rfl, ?_⟩) ?_; rotate_left; (intro wx hx; go_simp) <;> (with_reducible rfl); (try simp only [Act.put, List.setIfInBounds_toArray, List.set_cons_zero, List.set_cons_succ, List.getElem_toArray, List.getElem_cons_succ, List.getElem_cons_zero]))
      (refine wpG_one (i := 35) (by kernel_rfl) rfl ?_; intro K hK; (try simp only [Act.put, List.setIfInBounds_toArray, List.set_cons_zero, List.set_cons_succ, List.getElem_toArray, List.getElem_cons_succ, List.getElem_cons_zero]))
      refine step_call rfl rfl enReduce rfl (redC HXL.out (by decide) rx_36.out) ?_
      rintro e w35 ⟨A35, c35, rfl, hb35, hr35⟩
      refine ⟨_, rfl, hK (From w35) _ _ (From.next hb35) (From.refl _) ?_⟩
      have q35 := hide hr35
      clear hr35
      clear hK K
      clear vf1_36
      (try simp only [Act.put, List.setIfInBounds_toArray, List.set_cons_zero, List.set_cons_succ, List.getElem_toArray, List.getElem_cons_succ, List.getElem_cons_zero])
      have B_37 := hide (show Below w.heap.size w (w35) from B_35.out.trans (hb35.mono B_35.out.size))
      clear B_35
      have rx_38 := hide (show Rd w35 (.slice A1 32 c1) 1 32 (bvs (X)) from rx_36.out.below hb35)
      clear rx_36
      have ry_38 := hide (show Rd w35 (.slice A2 32 c2) 1 32 (bvs (Y)) from ry_36.out.below hb35)
      clear ry_36
      have rz_38 := hide (show Rd w35 (.slice A3 32 c3) 1 32 (bvs (Z)) from rz_36.out.below hb35)
      clear rz_36
      have ro0_38 := hide (show Rd w35 (.slice A10 32 c10) 1 32 (bvs (z32)) from ro0_36.out.below hb35)
      clear ro0_36
      have ro1_38 := hide (show Rd w35 (.slice A11 32 c11) 1 32 (bvs (oneL)) from ro1_36.out.below hb35)
      clear ro1_36
      have rq_38 := hide (show Rd w35 (.slice A14 32 c14) 1 32 (bvs (madL X Y z32)) from rq_36.out.below hb35)
      clear rq_36
      have rr_38 := hide (show Rd w35 (.slice A15 32 c15) 1 32 (bvs (madL X Z z32)) from rr_36.out.below hb35)
      clear rr_36
      have vf2_38 : ∀ x, From (w35) x → (convert 22 9 (.slice A35 32 c35)).run Try.prog x = .ok (.string (strOf (redL X))) x := fun x hx => run_str Try.underlying22 Try.underlying5 Try.underlying9 (q35.out.below hx)
      (refine wpG_take (i := 36) (v := ?_) rfl (by kernel_rfl) (by kernel_rfl) (by kernel_rfl) (fun _ _ _ h => h) (From.refl _) (Or.inl ⟨by rfl, ?_⟩) ?_; rotate_left; (intro wx hx; go_simp) <;> (with_reducible rfl); (try simp only [Act.put, List.setIfInBounds_toArray, List.set_cons_zero, List.set_cons_succ, List.getElem_toArray, List.getElem_cons_succ, List.getElem_cons_zero])); (refine wpG_take (i := 37) (v := ?_) rfl (by kernel_rfl) (by kernel_rfl) (by kernel_rfl) (fun _ _ _ h => h) (From.refl _) (Or.inl ⟨by rfl, ?_⟩) ?_; rotate_left; (intro wx hx; go_simp) <;> (with_reducible rfl); (try simp only [Act.put, List.setIfInBounds_toArray, List.set_cons_zero, List.set_cons_succ, List.getElem_toArray, List.getElem_cons_succ, List.getElem_cons_zero])); (refine wpG_take (i := 38) (v := ?_) rfl (by kernel_rfl) (by kernel_rfl) (by kernel_rfl) (fun _ _ _ h => h) (From.refl _) (Or.inl ⟨by rfl, ?_⟩) ?_; rotate_left; (intro wx hx; go_simp) <;> (with_reducible rfl); (try simp only [Act.put, List.setIfInBounds_toArray, List.set_cons_zero, List.set_cons_succ, List.getElem_toArray, List.getElem_cons_succ, List.getElem_cons_zero])); (refine wpG_take (i := 39) (v := ?_) rfl (by kernel_rfl) (by kernel_rfl) (by kernel_rfl) (fun _ _ _ h => h) (From.refl _) (Or.inl ⟨by rfl, ?_⟩) ?_; rotate_left; (intro wx hx; go_simp) <;> (with_reducible rfl); (try simp only [Act.put, List.setIfInBounds_toArray, List.set_cons_zero, List.set_cons_succ, List.getElem_toArray, List.getElem_cons_succ, List.getElem_cons_zero]))
      (refine wpG_one (i := 40) (by kernel_rfl) rfl ?_; intro K hK; (try simp only [Act.put, List.setIfInBounds_toArray, List.set_cons_zero, List.set_cons_succ, List.getElem_toArray, List.getElem_cons_succ, List.getElem_cons_zero]))
      refine step_call rfl rfl enAwake rfl (awake_any _) ?_
      rintro e w36 ⟨rfl, hb36⟩
      refine ⟨_, rfl, hK (From w36) _ _ (From.next hb36) (From.refl _) ?_⟩
      clear hK K
      clear vf2_38
      (try simp only [Act.put, List.setIfInBounds_toArray, List.set_cons_zero, List.set_cons_succ, List.getElem_toArray, List.getElem_cons_succ, List.getElem_cons_zero])
      have B_39 := hide (show Below w.heap.size w (w36) from B_37.out.trans (hb36.mono B_37.out.size))
      clear B_37
      have rx_40 := hide (show Rd w36 (.slice A1 32 c1) 1 32 (bvs (X)) from rx_38.out.below hb36)
      clear rx_38
      have ry_40 := hide (show Rd w36 (.slice A2 32 c2) 1 32 (bvs (Y)) from ry_38.out.below hb36)
      clear ry_38
      have rz_40 := hide (show Rd w36 (.slice A3 32 c3) 1 32 (bvs (Z)) from rz_38.out.below hb36)
      clear rz_38
      have ro0_40 := hide (show Rd w36 (.slice A10 32 c10) 1 32 (bvs (z32)) from ro0_38.out.below hb36)
      clear ro0_38
      have ro1_40 := hide (show Rd w36 (.slice A11 32 c11) 1 32 (bvs (oneL)) from ro1_38.out.below hb36)
      clear ro1_38
      have rq_40 := hide (show Rd w36 (.slice A14 32 c14) 1 32 (bvs (madL X Y z32)) from rq_38.out.below hb36)
      clear rq_38
      have rr_40 := hide (show Rd w36 (.slice A15 32 c15) 1 32 (bvs (madL X Z z32)) from rr_38.out.below hb36)
      clear rr_38
      (refine wpG_take (i := 41) (v := ?_) rfl (by kernel_rfl) (by kernel_rfl) (by kernel_rfl) (fun _ _ _ h => h) (From.refl _) (Or.inl ⟨by rfl, ?_⟩) ?_; rotate_left; (intro wx hx; go_simp) <;> (with_reducible rfl); (try simp only [Act.put, List.setIfInBounds_toArray, List.set_cons_zero, List.set_cons_succ, List.getElem_toArray, List.getElem_cons_succ, List.getElem_cons_zero])); (refine wpG_take (i := 42) (v := ?_) rfl (by kernel_rfl) (by kernel_rfl) (by kernel_rfl) (fun _ _ _ h => h) (From.refl _) (Or.inl ⟨by rfl, ?_⟩) ?_; rotate_left; (intro wx hx; go_simp) <;> (with_reducible rfl); (try simp only [Act.put, List.setIfInBounds_toArray, List.set_cons_zero, List.set_cons_succ, List.getElem_toArray, List.getElem_cons_succ, List.getElem_cons_zero]))
      refine wpG_done (by kernel_rfl) ?_ _
      go_wp2_with fail
      go_ret
      exact ⟨rfl, B_39.out⟩
end Go.Proofs.Ytgofcefggdlalaa
