/-
  Layer 1: the walk of ShaTwo.
-/
import Derived.Test.YtabdbddmmbccjaaHh
namespace Go.Proofs.Ytabdbddmmbccjaa
open Go.RowKit
set_option linter.unusedSimpArgs false

theorem step_lit {yl : Nat → Option Bool} {o : Oper} {a : Act} {K : Act → World → Prop} {Q : Exit → Act → World → Prop} {E : Prop} (hw : Region.wanted o yl = true) {P : Program} {w : World} {us : List Value} {n : Nat} {e : TypeId}
    (hrun : ∀ w, (execOp a.eval o).run P w = .ok (.value (.slice (some ⟨w.heap.size, 0, none⟩) n n)) (w.alloc (.cells us.toArray e))) (hl : us.length = n) (hn : n ≤ 4294967296)
    (h : ∀ g w', St w NoB w' [.row (.slice (some ⟨g, 0, none⟩) n n) e 1 n us] → K (a.put o.dst (.slice (some ⟨g, 0, none⟩) n n)) w') : if Region.wanted o yl = true then Oper.wp P o a w K Q else E :=
  step_run hw (hrun w) (h w.heap.size _ ((St.init w NoB).lit us e 1 n (by omega) (by unfold maxLen; omega)))
/-- Bytes turned about, the first k of them. -/
def flipL (l : List UInt8) (k : Nat) : List UInt8 := (l.take k).map (· ^^^ 255) ++ l.drop k
theorem flipL_len (l : List UInt8) (k : Nat) (h : k ≤ l.length) : (flipL l k).length = l.length := by unfold flipL; rw [List.length_append, List.length_map, List.length_take, List.length_drop]; omega
theorem flipL_get (l : List UInt8) (k : Nat) (c : UInt8) (h : l[k]? = some c) : (flipL l k)[k]? = some c := by
  obtain ⟨hk, _⟩ := List.getElem?_eq_some_iff.1 h
  have hl : ((l.take k).map (· ^^^ (255 : UInt8))).length = k := by rw [List.length_map, List.length_take]; omega
  unfold flipL
  rw [List.getElem?_append_right (by rw [hl]; exact Nat.le_refl _), hl, Nat.sub_self, List.getElem?_drop, Nat.add_zero, h]
theorem flipL_set (l : List UInt8) (k : Nat) (c : UInt8) (h : l[k]? = some c) : (flipL l k).set k (c ^^^ 255) = flipL l (k + 1) := by
  obtain ⟨hk, hc⟩ := List.getElem?_eq_some_iff.1 h
  have hl : ((l.take k).map (· ^^^ (255 : UInt8))).length = k := by rw [List.length_map, List.length_take]; omega
  unfold flipL
  rw [List.set_append_right _ _ (by rw [hl]; exact Nat.le_refl _), hl, Nat.sub_self, List.drop_eq_getElem_cons hk, List.set_cons_zero, List.take_succ_eq_append_getElem hk, List.map_append, hc, List.append_assoc]
  rfl
theorem xor8 (c : UInt8) : bits .xor .u8 (c.toNat : Int) 255 = ((c ^^^ 255).toNat : Int) := by
  have h := u8_xor_nat c.toNat 255 c.toNat_lt (by decide)
  rw [show (255 : Int) = ((255 : Nat) : Int) from rfl, h]
  rfl
def RdF (v : World) (s : Value) (l : List UInt8) (x : World) : Prop := From v x ∧ Rd x s 1 64 (bvs l)
theorem enSumF (args : Array Value) (w : World) : (callFunc 9 args).run Try.prog w = .ok (.enter 9 args) w := by kernel_rfl
theorem enSumM (args : Array Value) (w : World) : (callFunc 13 args).run Try.prog w = .ok (.enter 13 args) w := by kernel_rfl
theorem enAwake (args : Array Value) (w : World) : (callFunc 8 args).run Try.prog w = .ok (.enter 8 args) w := by kernel_rfl
def TwoRel (w : World) (g1 g2 : Nat) (X1 : Option Addr) (x1 : Nat) (A3 : Option Addr) (c3 n1 : Nat) (l1 : List UInt8) (iv : Value) (wr : World) : Prop :=
  ∃ k : Nat, k ≤ n1 ∧ iv = .int .i64 (k : Int) ∧ St w NoB wr [HCk g1 X1 x1 l1, HRk X1 x1 l1, .row (.slice A3 n1 c3) 5 1 n1 (bvs (flipL l1 k)), HCk g2 none 0 [], HRk none 0 []]
set_option maxRecDepth 100000 in
set_option maxHeartbeats 1600000 in
theorem shaTwo_walk (A1 A2 : Option Addr) (q1 q2 : Nat) (l1 l2 : List UInt8) (w : World) (hr1 : Rd w (.slice A1 l1.length q1) 1 l1.length (bvs l1)) (hr2 : Rd w (.slice A2 l2.length q2) 1 l2.length (bvs l2)) (hm1 : l1.length ≤ 140737488351232) (hm2 : l2.length ≤ 140737488351232) :
    Calls Try.prog 7 #[.slice A1 l1.length q1, .slice A2 l2.length q2] w fun e w' => e = .returned (.bool true) ∧ Below w.heap.size w w' := by
  have HR1 := hide hr1
  have HR2 := hide hr2
  obtain ⟨n1, hn1⟩ : ∃ n, n = l1.length := ⟨_, rfl⟩
  rw [← hn1] at HR1 hm1 ⊢
  obtain ⟨n2, hn2⟩ : ∃ n, n = l2.length := ⟨_, rfl⟩
  rw [← hn2] at HR2 hm2 ⊢
  have HL1 := hide hn1.symm
  have HL2 := hide hn2.symm
  clear hr1 hr2 hn1 hn2
  by_cases hg : n1 + n2 > 1000
  · have d1 : decide ((1000 : Int) < (n1 : Int) + (n2 : Int)) = true := by simp; omega
    go_enter Try.func7, Try.ntmps7
    go_wp2_with (go_at_call 8; refine (awake_any _).mono ?_; rintro e w1 ⟨rfl, hb1⟩)
    go_ret
    exact ⟨rfl, hb1⟩
  · have d1 : decide ((1000 : Int) < (n1 : Int) + (n2 : Int)) = false := by simp; omega
    have l1000 : n1 ≤ 1000 := by omega
    have l2000 : n2 ≤ 1000 := by omega
    clear hm1 hm2 hg
    go_enter Try.func7, Try.ntmps7
    go_upto_region 5 with (first
      | (have _q := HN2; go_at_call 11; refine (new_any _ HN1.out).mono ?_; rintro e w2 ⟨g2, rfl, hS2, hb2⟩; have HN2' := hide hS2; clear hS2)
      | (go_at_call 11; refine (new_any w (St.init w NoB)).mono ?_; rintro e w1 ⟨g1, rfl, hS1, hb1⟩; have HN1 := hide hS1; have HN2 : True := trivial; clear hS1)
      | (at_builtin; refine wl_append rfl rfl tyB (HN2'.out.lit [] 5 1 0 rfl (by decide)) 0 rfl rfl rfl (HR1.out.st (HN2'.out.lit [] 5 1 0 rfl (by decide))) (one_bvs _) (by omega) (by decide) ?_; intro A3 c3 w3 hS3; have HN3 := hide hS3; clear hS3))
    have hT : St w NoB w3 [.row (.slice A3 n1 c3) 5 1 n1 (bvs l1), HCk g2 none 0 [], HRk none 0 [], HCk g1 none 0 [], HRk none 0 []] := by
      have h := HN3.out
      simp only [Nat.zero_add, List.nil_append, List.set_cons_zero] at h
      exact h
    have hg1 := (hT.own 3 _ g1 rfl rfl).resolve_right (fun x => x)
    have hg2 := (hT.own 1 _ g2 rfl rfl).resolve_right (fun x => x)
    have HG1 := hide hg1
    have HG2 := hide hg2
    have HT1 := hide (hT.pickL (H' := [HCk g1 none 0 [], HRk none 0 [], .row (.slice A3 n1 c3) 5 1 n1 (bvs l1), HCk g2 none 0 [], HRk none 0 []]) [3, 4, 0, 1, 2] (by decide) rfl)
    clear hT hg1 hg2 HN1 HN2 HN2' HN3 _q hb1 hb2
    go_upto_region 6 with (go_at_call 12; refine (write_msg (H := [.row (.slice A3 n1 c3) 5 1 n1 (bvs l1), HCk g2 none 0 [], HRk none 0 []]) g1 none 0 [] A3 c3 n1 l1 _ HL1.out (by simp; omega) HT1.out (HT1.out.rd 2 rfl) (fun hp h => HT1.out.apart 2 0 _ _ g1 (by decide) rfl rfl h rfl)).mono ?_; rintro e w4 ⟨rfl, X1, x1, hS4⟩; have HS4 := hide hS4; clear hS4)
    replace HS4 : Hid (St w NoB w4 [HCk g1 X1 x1 l1, HRk X1 x1 l1, .row (.slice A3 n1 c3) 5 1 n1 (bvs (flipL l1 0)), HCk g2 none 0 [], HRk none 0 []]) := HS4
    clear HT1
    go_wp2_with fail
    go_loopw [27] (fun i wr => TwoRel w g1 g2 X1 x1 A3 c3 n1 l1 i wr) (fun i _ => n1 - (intOf i).toNat)
    case atStart => exact ⟨0, by omega, rfl, HS4.out⟩
    case round =>
      clear HS4
      obtain ⟨k, hk, rfl, hS⟩ := hrel
      by_cases hlt : k < n1
      · obtain ⟨gr, c', hv, _, _, hcs, hfr, _⟩ := hS.rowOpen 2 rfl (by omega)
        injection hv with hv1 _ hv3
        subst hv1 hv3
        obtain ⟨x, hx⟩ : ∃ x, l1[k]? = some x := ⟨l1[k]'(by rw [HL1.out]; exact hlt), List.getElem?_eq_getElem _⟩
        have kc := hcs k _ (bvs_get (flipL_get l1 k x hx))
        have kf := hfr k
        have hxo := xor8 x
        have HFS := hide (flipL_set l1 k x hx)
        have HLT := hide ((x ^^^ 255).toNat_lt)
        have HOF : Hid (UInt8.ofNat (x ^^^ 255).toNat = x ^^^ 255) := hide (UInt8.ofNat_toNat)
        have dk : decide ((k : Int) < (n1 : Int)) = true := by simp; omega
        have ik : (k : Int) < (n1 : Int) := by omega
        have HS := hide (hS.rowSet 2 rfl k (.int .u8 ((x ^^^ 255).toNat : Int)) (by omega))
        clear hS hcs hfr hx
        generalize (x ^^^ 255).toNat = y at *
        generalize x.toNat = xn at *
        go_wp2_with fail
        go_roundw
        case rel =>
          have h3 := HS.out
          rw [bvs_set _ _ _ HLT.out, HOF.out, HFS.out] at h3
          exact ⟨k + 1, by omega, by go_num, h3⟩
        case measure => (simp [intOf]) <;> omega
      · obtain rfl : k = n1 := by omega
        have HT2 := hide (hS.pickL (H' := [HCk g2 none 0 [], HRk none 0 [], HCk g1 X1 x1 l1, HRk X1 x1 l1]) [3, 4, 0, 1] (by decide) rfl)
        clear hS
        go_upto_region 14 with (first
          | (have _q := q3; go_at_call 12; refine (write_msg (H := [.row (.slice B 64 d) 5 1 64 (bvs (shaL l1)), HCk g2 X2 x2 l2, HRk X2 x2 l2]) g1 X1 x1 l1 A2 q2 n2 l2 _ HL2.out (by rw [HL1.out]; omega) HT4.out (HR2.out.st HT4.out) (rd_far HR2.out HG1.out)).mono ?_; rintro e w7 ⟨rfl, X3, x3, hS7⟩; have HT5 := hide hS7; clear hS7)
          | (have _q := q2'; go_at_call 13; refine (sum_ro g1 X1 x1 l1 _ (by rw [HL1.out]; omega) (HT3.out.sat 2 _ rfl) (HT3.out.rd 3 rfl)).mono ?_; rintro e w6 ⟨B, d, rfl, hb6, ho6⟩; have HT4 := hide ((HT3.out.row hb6 ho6).pickL (H' := [HCk g1 X1 x1 l1, HRk X1 x1 l1, .row (.slice B 64 d) 5 1 64 (bvs (shaL l1)), HCk g2 X2 x2 l2, HRk X2 x2 l2]) [3, 4, 0, 1, 2] (by decide) rfl); have q3 : True := trivial; clear hb6 ho6)
          | (go_at_call 12; refine (write_msg (H := [HCk g1 X1 x1 l1, HRk X1 x1 l1]) g2 none 0 [] A2 q2 n2 l2 _ HL2.out (by simp; omega) HT2.out (HR2.out.st HT2.out) (rd_far HR2.out HG2.out)).mono ?_; rintro e w5 ⟨rfl, X2, x2, hS5⟩; have HT3 := hide (show St w NoB w5 [HCk g2 X2 x2 l2, HRk X2 x2 l2, HCk g1 X1 x1 l1, HRk X1 x1 l1] from hS5); have q2' : True := trivial; clear hS5))
        have HS20 := hide HT5.out.drew
        have HV0 := hide (HS20.out.rd 2 rfl)
        have cv0 : ∀ x, From w7.drew x → (convert 22 9 (.slice B 64 d)).run Try.prog x = .ok (.string (strOf (shaL l1))) x := fun x hx => run_str Try.underlying22 Try.underlying5 Try.underlying9 (HV0.out.below hx)
        refine wp_region_F (by kernel_rfl) ?_
        (refine wpG_take (i := 0) (v := ?_) rfl (by kernel_rfl) (by kernel_rfl) (by kernel_rfl) (fun _ _ _ h => h) (From.refl _) (Or.inl ⟨by first | kernel_rfl | rfl, ?_⟩) ?_; rotate_left; (intro wx hx; go_simp) <;> (with_reducible rfl); (try simp only [Act.put, List.setIfInBounds_toArray, List.set_cons_zero, List.set_cons_succ, List.getElem_toArray, List.getElem_cons_succ, List.getElem_cons_zero])); (refine wpG_take (i := 1) (v := ?_) rfl (by kernel_rfl) (by kernel_rfl) (by kernel_rfl) (fun _ _ _ h => h) (From.refl _) (Or.inl ⟨by first | kernel_rfl | rfl, ?_⟩) ?_; rotate_left; (intro wx hx; go_simp) <;> (with_reducible rfl); (try simp only [Act.put, List.setIfInBounds_toArray, List.set_cons_zero, List.set_cons_succ, List.getElem_toArray, List.getElem_cons_succ, List.getElem_cons_zero])); (refine wpG_take (i := 2) (v := ?_) rfl (by kernel_rfl) (by kernel_rfl) (by kernel_rfl) (fun _ _ _ h => h) (From.refl _) (Or.inl ⟨by first | kernel_rfl | rfl, ?_⟩) ?_; rotate_left; (intro wx hx; go_simp) <;> (with_reducible rfl); (try simp only [Act.put, List.setIfInBounds_toArray, List.set_cons_zero, List.set_cons_succ, List.getElem_toArray, List.getElem_cons_succ, List.getElem_cons_zero]))
        (refine wpG_one (i := 3) (by kernel_rfl) rfl ?_; intro K hK; (try simp only [Act.put, List.setIfInBounds_toArray, List.set_cons_zero, List.set_cons_succ, List.getElem_toArray, List.getElem_cons_succ, List.getElem_cons_zero]))
        refine step_call rfl rfl enSumF rfl (sumf_any A1 k q1 l1 w7.drew HL1.out (by omega) (HR1.out.st HS20.out)) ?_
        rintro e v1 ⟨B1, d1, rfl, hb1, ho1⟩
        refine ⟨_, rfl, hK (From v1) _ _ (From.next hb1) (From.refl _) ?_⟩
        clear hK K
        (try simp only [Act.put, List.setIfInBounds_toArray, List.set_cons_zero, List.set_cons_succ, List.getElem_toArray, List.getElem_cons_succ, List.getElem_cons_zero])
        have HS21 := hide (HS20.out.call hb1)
        have HV1 := hide (rd_own ho1)
        clear hb1 ho1
        have cv1 : ∀ x, From v1 x → (convert 22 9 (.slice B1 64 d1)).run Try.prog x = .ok (.string (strOf (shaL l1))) x := fun x hx => run_str Try.underlying22 Try.underlying5 Try.underlying9 (HV1.out.below hx)
        (refine wpG_take (i := 4) (v := ?_) rfl (by kernel_rfl) (by kernel_rfl) (by kernel_rfl) (fun _ _ _ h => h) (From.refl _) (Or.inl ⟨by first | kernel_rfl | rfl, ?_⟩) ?_; rotate_left; (intro wx hx; go_simp) <;> (with_reducible rfl); (try simp only [Act.put, List.setIfInBounds_toArray, List.set_cons_zero, List.set_cons_succ, List.getElem_toArray, List.getElem_cons_succ, List.getElem_cons_zero])); (refine wpG_take (i := 5) (v := ?_) rfl (by kernel_rfl) (by kernel_rfl) (by kernel_rfl) (fun _ _ _ h => h) (From.refl _) (Or.inl ⟨by first | kernel_rfl | rfl, ?_⟩) ?_; rotate_left; (intro wx hx; go_simp) <;> (with_reducible rfl); (try simp only [Act.put, List.setIfInBounds_toArray, List.set_cons_zero, List.set_cons_succ, List.getElem_toArray, List.getElem_cons_succ, List.getElem_cons_zero])); (refine wpG_take (i := 6) (v := ?_) rfl (by kernel_rfl) (by kernel_rfl) (by kernel_rfl) (fun _ _ _ h => h) (From.refl _) (Or.inl ⟨by first | kernel_rfl | rfl, ?_⟩) ?_; rotate_left; (intro wx hx; go_simp) <;> (with_reducible rfl); (try simp only [Act.put, List.setIfInBounds_toArray, List.set_cons_zero, List.set_cons_succ, List.getElem_toArray, List.getElem_cons_succ, List.getElem_cons_zero])); (refine wpG_take (i := 7) (v := ?_) rfl (by kernel_rfl) (by kernel_rfl) (by kernel_rfl) (fun _ _ _ h => h) (From.refl _) (Or.inl ⟨by first | kernel_rfl | rfl, ?_⟩) ?_; rotate_left; (intro wx hx; go_simp) <;> (with_reducible rfl); (try simp only [Act.put, List.setIfInBounds_toArray, List.set_cons_zero, List.set_cons_succ, List.getElem_toArray, List.getElem_cons_succ, List.getElem_cons_zero])); (refine wpG_take (i := 10) (v := ?_) rfl (by kernel_rfl) (by kernel_rfl) (by kernel_rfl) (fun _ _ _ h => h) (From.refl _) (Or.inl ⟨by first | kernel_rfl | rfl, ?_⟩) ?_; rotate_left; (intro wx hx; go_simp) <;> (with_reducible rfl); (try simp only [Act.put, List.setIfInBounds_toArray, List.set_cons_zero, List.set_cons_succ, List.getElem_toArray, List.getElem_cons_succ, List.getElem_cons_zero]))
        clear cv0 cv1
        (refine wpG_one (i := 8) (by kernel_rfl) rfl ?_; intro K hK; (try simp only [Act.put, List.setIfInBounds_toArray, List.set_cons_zero, List.set_cons_succ, List.getElem_toArray, List.getElem_cons_succ, List.getElem_cons_zero]))
        refine step_call rfl rfl enSumM rfl (sum_ro g2 X2 x2 l2 v1 (by rw [HL2.out]; omega) (HS21.out.sat 3 _ rfl) (HS21.out.rd 4 rfl)) ?_
        rintro e v2 ⟨B2, d2, rfl, hb2, ho2⟩
        refine ⟨_, rfl, hK (From v2) _ _ (From.next hb2) (From.refl _) ?_⟩
        clear hK K
        (try simp only [Act.put, List.setIfInBounds_toArray, List.set_cons_zero, List.set_cons_succ, List.getElem_toArray, List.getElem_cons_succ, List.getElem_cons_zero])
        have HS22 := hide (HS21.out.call hb2)
        have HV2 := hide (rd_own ho2)
        clear hb2 ho2
        have cv2 : ∀ x, From v2 x → (convert 22 9 (.slice B2 64 d2)).run Try.prog x = .ok (.string (strOf (shaL l2))) x := fun x hx => run_str Try.underlying22 Try.underlying5 Try.underlying9 (HV2.out.below hx)
        (refine wpG_take (i := 9) (v := ?_) rfl (by kernel_rfl) (by kernel_rfl) (by kernel_rfl) (fun _ _ _ h => h) (From.refl _) (Or.inl ⟨by first | kernel_rfl | rfl, ?_⟩) ?_; rotate_left; (intro wx hx; go_simp) <;> (with_reducible rfl); (try simp only [Act.put, List.setIfInBounds_toArray, List.set_cons_zero, List.set_cons_succ, List.getElem_toArray, List.getElem_cons_succ, List.getElem_cons_zero]))
        clear cv2
        (refine wpG_one (i := 11) (by kernel_rfl) rfl ?_; intro K hK; (try simp only [Act.put, List.setIfInBounds_toArray, List.set_cons_zero, List.set_cons_succ, List.getElem_toArray, List.getElem_cons_succ, List.getElem_cons_zero]))
        refine step_call rfl rfl enSumF rfl (sumf_any A2 n2 q2 l2 v2 HL2.out (by omega) (HR2.out.st HS22.out)) ?_
        rintro e v3 ⟨B3, d3, rfl, hb3, ho3⟩
        refine ⟨_, rfl, hK (From v3) _ _ (From.next hb3) (From.refl _) ?_⟩
        clear hK K
        (try simp only [Act.put, List.setIfInBounds_toArray, List.set_cons_zero, List.set_cons_succ, List.getElem_toArray, List.getElem_cons_succ, List.getElem_cons_zero])
        have HS23 := hide (HS22.out.call hb3)
        have HV3 := hide (rd_own ho3)
        clear hb3 ho3
        have cv3 : ∀ x, From v3 x → (convert 22 9 (.slice B3 64 d3)).run Try.prog x = .ok (.string (strOf (shaL l2))) x := fun x hx => run_str Try.underlying22 Try.underlying5 Try.underlying9 (HV3.out.below hx)
        (refine wpG_take (i := 12) (v := ?_) rfl (by kernel_rfl) (by kernel_rfl) (by kernel_rfl) (fun _ _ _ h => h) (From.refl _) (Or.inl ⟨by first | kernel_rfl | rfl, ?_⟩) ?_; rotate_left; (intro wx hx; go_simp) <;> (with_reducible rfl); (try simp only [Act.put, List.setIfInBounds_toArray, List.set_cons_zero, List.set_cons_succ, List.getElem_toArray, List.getElem_cons_succ, List.getElem_cons_zero])); (refine wpG_take (i := 13) (v := ?_) rfl (by kernel_rfl) (by kernel_rfl) (by kernel_rfl) (fun _ _ _ h => h) (From.refl _) (Or.inl ⟨by first | kernel_rfl | rfl, ?_⟩) ?_; rotate_left; (intro wx hx; go_simp) <;> (with_reducible rfl); (try simp only [Act.put, List.setIfInBounds_toArray, List.set_cons_zero, List.set_cons_succ, List.getElem_toArray, List.getElem_cons_succ, List.getElem_cons_zero])); (refine wpG_take (i := 14) (v := ?_) rfl (by kernel_rfl) (by kernel_rfl) (by kernel_rfl) (fun _ _ _ h => h) (From.refl _) (Or.inl ⟨by first | kernel_rfl | rfl, ?_⟩) ?_; rotate_left; (intro wx hx; go_simp) <;> (with_reducible rfl); (try simp only [Act.put, List.setIfInBounds_toArray, List.set_cons_zero, List.set_cons_succ, List.getElem_toArray, List.getElem_cons_succ, List.getElem_cons_zero])); (refine wpG_take (i := 15) (v := ?_) rfl (by kernel_rfl) (by kernel_rfl) (by kernel_rfl) (fun _ _ _ h => h) (From.refl _) (Or.inl ⟨by first | kernel_rfl | rfl, ?_⟩) ?_; rotate_left; (intro wx hx; go_simp) <;> (with_reducible rfl); (try simp only [Act.put, List.setIfInBounds_toArray, List.set_cons_zero, List.set_cons_succ, List.getElem_toArray, List.getElem_cons_succ, List.getElem_cons_zero])); (refine wpG_take (i := 16) (v := ?_) rfl (by kernel_rfl) (by kernel_rfl) (by kernel_rfl) (fun _ _ _ h => h) (From.refl _) (Or.inl ⟨by first | kernel_rfl | rfl, ?_⟩) ?_; rotate_left; (intro wx hx; go_simp) <;> (with_reducible rfl); (try simp only [Act.put, List.setIfInBounds_toArray, List.set_cons_zero, List.set_cons_succ, List.getElem_toArray, List.getElem_cons_succ, List.getElem_cons_zero])); (refine wpG_take (i := 20) (v := ?_) rfl (by kernel_rfl) (by kernel_rfl) (by kernel_rfl) (fun _ _ _ h => h) (From.refl _) (Or.inl ⟨by first | kernel_rfl | rfl, ?_⟩) ?_; rotate_left; (intro wx hx; go_simp) <;> (with_reducible rfl); (try simp only [Act.put, List.setIfInBounds_toArray, List.set_cons_zero, List.set_cons_succ, List.getElem_toArray, List.getElem_cons_succ, List.getElem_cons_zero])); (refine wpG_take (i := 22) (v := ?_) rfl (by kernel_rfl) (by kernel_rfl) (by kernel_rfl) (fun _ _ _ h => h) (From.refl _) (Or.inl ⟨by first | kernel_rfl | rfl, ?_⟩) ?_; rotate_left; (intro wx hx; go_simp) <;> (with_reducible rfl); (try simp only [Act.put, List.setIfInBounds_toArray, List.set_cons_zero, List.set_cons_succ, List.getElem_toArray, List.getElem_cons_succ, List.getElem_cons_zero]))
        clear cv3
        refine wpG_two (i := 17) (j := 19) (by kernel_rfl) rfl rfl ?_ ?_ <;> intro K hK <;> (try simp only [Act.put, List.setIfInBounds_toArray, List.set_cons_zero, List.set_cons_succ, List.getElem_toArray, List.getElem_cons_succ, List.getElem_cons_zero])
        · refine step_call rfl rfl enSumM rfl (sum_ro g1 X3 x3 (l1 ++ l2) v3 (by rw [List.length_append, HL1.out, HL2.out]; omega) (HS23.out.sat 0 _ rfl) (HS23.out.rd 1 rfl)) ?_
          rintro e v4 ⟨B4, d4, rfl, hb4, ho4⟩
          refine ⟨_, rfl, hK (RdF v3 (.slice B4 64 d4) (shaL (l1 ++ l2))) _ _ (fun _ h => h.1) ⟨hb4, rd_own ho4⟩ ?_⟩
          clear hK K
          (try simp only [Act.put, List.setIfInBounds_toArray, List.set_cons_zero, List.set_cons_succ, List.getElem_toArray, List.getElem_cons_succ, List.getElem_cons_zero])
          have HU1 := hide ((St.init v3 NoB).row hb4 ho4)
          clear hb4 ho4
          have cv4 : ∀ x, RdF v3 (.slice B4 64 d4) (shaL (l1 ++ l2)) x → (convert 22 9 (.slice B4 64 d4)).run Try.prog x = .ok (.string (strOf (shaL (l1 ++ l2)))) x := fun x hx => run_str Try.underlying22 Try.underlying5 Try.underlying9 hx.2
          (refine wpG_take (i := 18) (v := ?_) rfl (by kernel_rfl) (by kernel_rfl) (by kernel_rfl) (fun _ _ _ h => h) (⟨HU1.out.below, HU1.out.rd 0 rfl⟩) (Or.inl ⟨by first | kernel_rfl | rfl, ?_⟩) ?_; rotate_left; (intro wx hx; go_simp) <;> (with_reducible rfl); (try simp only [Act.put, List.setIfInBounds_toArray, List.set_cons_zero, List.set_cons_succ, List.getElem_toArray, List.getElem_cons_succ, List.getElem_cons_zero]))
          clear cv4
          (refine wpG_one (i := 19) (by kernel_rfl) rfl ?_; intro K hK; (try simp only [Act.put, List.setIfInBounds_toArray, List.set_cons_zero, List.set_cons_succ, List.getElem_toArray, List.getElem_cons_succ, List.getElem_cons_zero]))
          refine step_lit (us := []) (n := 0) (e := 5) rfl (fun _ => by go_simp) rfl (by decide) ?_
          intro g5 v5 hT5
          have HU2 := hide (show St v3 NoB v5 [.row (.slice (some ⟨g5, 0, none⟩) 0 0) 5 1 0 [], .row (.slice B4 64 d4) 5 1 64 (bvs (shaL (l1 ++ l2)))] from HU1.out.add hT5.below (c := .row (.slice (some ⟨g5, 0, none⟩) 0 0) 5 1 0 []) (hT5.sat 0 _ rfl) (fun k hk => (hT5.own 0 _ k rfl hk).resolve_right (fun x => x)))
          refine hK (RdF v3 (.slice B4 64 d4) (shaL (l1 ++ l2))) _ _ (fun _ h => h) ⟨HU2.out.below, HU2.out.rd 1 rfl⟩ ?_
          clear hK K hT5
          (try simp only [Act.put, List.setIfInBounds_toArray, List.set_cons_zero, List.set_cons_succ, List.getElem_toArray, List.getElem_cons_succ, List.getElem_cons_zero])
          (refine wpG_one (i := 21) (by kernel_rfl) rfl ?_; intro K hK; (try simp only [Act.put, List.setIfInBounds_toArray, List.set_cons_zero, List.set_cons_succ, List.getElem_toArray, List.getElem_cons_succ, List.getElem_cons_zero]))
          refine step_append rfl rfl tyB HU2.out 0 rfl rfl rfl ((HR1.out.st HS23.out).st HU2.out) (one_bvs _) (by omega) (by decide) ?_
          intro A6 c6 v6 hS6
          have HU3 := hide (show St v3 NoB v6 [.row (.slice A6 (0 + k) c6) 5 1 (0 + k) (bvs l1), .row (.slice B4 64 d4) 5 1 64 (bvs (shaL (l1 ++ l2)))] from hS6)
          refine hK (RdF v3 (.slice B4 64 d4) (shaL (l1 ++ l2))) _ _ (fun _ h => h) ⟨HU3.out.below, HU3.out.rd 1 rfl⟩ ?_
          clear hK K hS6
          (try simp only [Act.put, List.setIfInBounds_toArray, List.set_cons_zero, List.set_cons_succ, List.getElem_toArray, List.getElem_cons_succ, List.getElem_cons_zero])
          (refine wpG_one (i := 23) (by kernel_rfl) rfl ?_; intro K hK; (try simp only [Act.put, List.setIfInBounds_toArray, List.set_cons_zero, List.set_cons_succ, List.getElem_toArray, List.getElem_cons_succ, List.getElem_cons_zero]))
          refine step_append rfl rfl tyB HU3.out 0 rfl rfl rfl ((HR2.out.st HS23.out).st HU3.out) (one_bvs _) (by omega) (by decide) ?_
          intro A7 c7 v7 hS7
          rw [← bvs_append] at hS7
          have HU4 := hide (show St v3 NoB v7 [.row (.slice A7 (0 + k + n2) c7) 5 1 (0 + k + n2) (bvs (l1 ++ l2)), .row (.slice B4 64 d4) 5 1 64 (bvs (shaL (l1 ++ l2)))] from hS7)
          refine hK (RdF v3 (.slice B4 64 d4) (shaL (l1 ++ l2))) _ _ (fun _ h => h) ⟨HU4.out.below, HU4.out.rd 1 rfl⟩ ?_
          clear hK K hS7
          (try simp only [Act.put, List.setIfInBounds_toArray, List.set_cons_zero, List.set_cons_succ, List.getElem_toArray, List.getElem_cons_succ, List.getElem_cons_zero])
          (refine wpG_one (i := 24) (by kernel_rfl) rfl ?_; intro K hK; (try simp only [Act.put, List.setIfInBounds_toArray, List.set_cons_zero, List.set_cons_succ, List.getElem_toArray, List.getElem_cons_succ, List.getElem_cons_zero]))
          refine step_call rfl rfl enSumF rfl (sumf_any A7 (0 + k + n2) c7 (l1 ++ l2) v7 (by rw [List.length_append, HL1.out, HL2.out]; omega) (by omega) (HU4.out.rd 0 rfl)) ?_
          rintro e v8 ⟨B8, d8, rfl, hb8, ho8⟩
          have HU5 := hide (HU4.out.call hb8)
          refine ⟨_, rfl, hK (From v8) _ _ (fun x hx => ⟨From.next HU5.out.below _ hx, (HU5.out.rd 1 rfl).below hx⟩) (From.refl _) ?_⟩
          clear hK K hb8
          (try simp only [Act.put, List.setIfInBounds_toArray, List.set_cons_zero, List.set_cons_succ, List.getElem_toArray, List.getElem_cons_succ, List.getElem_cons_zero])
          have HV8 := hide (rd_own ho8)
          clear ho8
          have cv8 : ∀ x, From v8 x → (convert 22 9 (.slice B8 64 d8)).run Try.prog x = .ok (.string (strOf (shaL (l1 ++ l2)))) x := fun x hx => run_str Try.underlying22 Try.underlying5 Try.underlying9 (HV8.out.below hx)
          (refine wpG_take (i := 25) (v := ?_) rfl (by kernel_rfl) (by kernel_rfl) (by kernel_rfl) (fun _ _ _ h => h) (From.refl _) (Or.inl ⟨by first | kernel_rfl | rfl, ?_⟩) ?_; rotate_left; (intro wx hx; go_simp) <;> (with_reducible rfl); (try simp only [Act.put, List.setIfInBounds_toArray, List.set_cons_zero, List.set_cons_succ, List.getElem_toArray, List.getElem_cons_succ, List.getElem_cons_zero])); (refine wpG_take (i := 26) (v := ?_) rfl (by kernel_rfl) (by kernel_rfl) (by kernel_rfl) (fun _ _ _ h => h) (From.refl _) (Or.inl ⟨by first | kernel_rfl | rfl, ?_⟩) ?_; rotate_left; (intro wx hx; go_simp) <;> (with_reducible rfl); (try simp only [Act.put, List.setIfInBounds_toArray, List.set_cons_zero, List.set_cons_succ, List.getElem_toArray, List.getElem_cons_succ, List.getElem_cons_zero])); (refine wpG_take (i := 27) (v := ?_) rfl (by kernel_rfl) (by kernel_rfl) (by kernel_rfl) (fun _ _ _ h => h) (From.refl _) (Or.inl ⟨by first | kernel_rfl | rfl, ?_⟩) ?_; rotate_left; (intro wx hx; go_simp) <;> (with_reducible rfl); (try simp only [Act.put, List.setIfInBounds_toArray, List.set_cons_zero, List.set_cons_succ, List.getElem_toArray, List.getElem_cons_succ, List.getElem_cons_zero])); (refine wpG_take (i := 28) (v := ?_) rfl (by kernel_rfl) (by kernel_rfl) (by kernel_rfl) (fun _ _ _ h => h) (From.refl _) (Or.inl ⟨by first | kernel_rfl | rfl, ?_⟩) ?_; rotate_left; (intro wx hx; go_simp) <;> (with_reducible rfl); (try simp only [Act.put, List.setIfInBounds_toArray, List.set_cons_zero, List.set_cons_succ, List.getElem_toArray, List.getElem_cons_succ, List.getElem_cons_zero]))
          clear cv8
          (refine wpG_one (i := 29) (by kernel_rfl) rfl ?_; intro K hK; (try simp only [Act.put, List.setIfInBounds_toArray, List.set_cons_zero, List.set_cons_succ, List.getElem_toArray, List.getElem_cons_succ, List.getElem_cons_zero]))
          refine step_call rfl rfl enAwake rfl (awake_any _) ?_
          rintro e v9 ⟨rfl, hb9⟩
          refine ⟨_, rfl, hK (From v9) _ _ (From.next hb9) (From.refl _) ?_⟩
          clear hK K
          (try simp only [Act.put, List.setIfInBounds_toArray, List.set_cons_zero, List.set_cons_succ, List.getElem_toArray, List.getElem_cons_succ, List.getElem_cons_zero])
          (refine wpG_take (i := 30) (v := ?_) rfl (by kernel_rfl) (by kernel_rfl) (by kernel_rfl) (fun _ _ _ h => h) (From.refl _) (Or.inl ⟨by first | kernel_rfl | rfl, ?_⟩) ?_; rotate_left; (intro wx hx; go_simp) <;> (with_reducible rfl); (try simp only [Act.put, List.setIfInBounds_toArray, List.set_cons_zero, List.set_cons_succ, List.getElem_toArray, List.getElem_cons_succ, List.getElem_cons_zero])); (refine wpG_take (i := 31) (v := ?_) rfl (by kernel_rfl) (by kernel_rfl) (by kernel_rfl) (fun _ _ _ h => h) (From.refl _) (Or.inl ⟨by first | kernel_rfl | rfl, ?_⟩) ?_; rotate_left; (intro wx hx; go_simp) <;> (with_reducible rfl); (try simp only [Act.put, List.setIfInBounds_toArray, List.set_cons_zero, List.set_cons_succ, List.getElem_toArray, List.getElem_cons_succ, List.getElem_cons_zero]))
          refine wpG_done (by kernel_rfl) ?_ _
          go_wp2_with fail
          go_ret
          exact ⟨rfl, bnx (bnx HS23.out.below HU5.out.below) hb9⟩
        · refine step_lit (us := []) (n := 0) (e := 5) rfl (fun _ => by go_simp) rfl (by decide) ?_
          intro g5 v4 hT5
          refine hK (From v3) _ _ (fun _ h => h) hT5.below ?_
          clear hK K
          (try simp only [Act.put, List.setIfInBounds_toArray, List.set_cons_zero, List.set_cons_succ, List.getElem_toArray, List.getElem_cons_succ, List.getElem_cons_zero])
          have HU1 := hide hT5
          clear hT5
          have HS24 := hide (HS23.out.call HU1.out.below)
          (refine wpG_one (i := 17) (by kernel_rfl) rfl ?_; intro K hK; (try simp only [Act.put, List.setIfInBounds_toArray, List.set_cons_zero, List.set_cons_succ, List.getElem_toArray, List.getElem_cons_succ, List.getElem_cons_zero]))
          refine step_call rfl rfl enSumM rfl (sum_ro g1 X3 x3 (l1 ++ l2) v4 (by rw [List.length_append, HL1.out, HL2.out]; omega) (HS24.out.sat 0 _ rfl) (HS24.out.rd 1 rfl)) ?_
          rintro e v5 ⟨B4, d4, rfl, hb4, ho4⟩
          have HU2 := hide ((HU1.out.row hb4 ho4).swap)
          refine ⟨_, rfl, hK (RdF v3 (.slice B4 64 d4) (shaL (l1 ++ l2))) _ _ (fun _ h => h.1) ⟨HU2.out.below, HU2.out.rd 1 rfl⟩ ?_⟩
          clear hK K hb4 ho4
          (try simp only [Act.put, List.setIfInBounds_toArray, List.set_cons_zero, List.set_cons_succ, List.getElem_toArray, List.getElem_cons_succ, List.getElem_cons_zero])
          have cv4 : ∀ x, RdF v3 (.slice B4 64 d4) (shaL (l1 ++ l2)) x → (convert 22 9 (.slice B4 64 d4)).run Try.prog x = .ok (.string (strOf (shaL (l1 ++ l2)))) x := fun x hx => run_str Try.underlying22 Try.underlying5 Try.underlying9 hx.2
          (refine wpG_take (i := 18) (v := ?_) rfl (by kernel_rfl) (by kernel_rfl) (by kernel_rfl) (fun _ _ _ h => h) (⟨HU2.out.below, HU2.out.rd 1 rfl⟩) (Or.inl ⟨by first | kernel_rfl | rfl, ?_⟩) ?_; rotate_left; (intro wx hx; go_simp) <;> (with_reducible rfl); (try simp only [Act.put, List.setIfInBounds_toArray, List.set_cons_zero, List.set_cons_succ, List.getElem_toArray, List.getElem_cons_succ, List.getElem_cons_zero]))
          clear cv4
          (refine wpG_one (i := 21) (by kernel_rfl) rfl ?_; intro K hK; (try simp only [Act.put, List.setIfInBounds_toArray, List.set_cons_zero, List.set_cons_succ, List.getElem_toArray, List.getElem_cons_succ, List.getElem_cons_zero]))
          refine step_append rfl rfl tyB HU2.out 0 rfl rfl rfl ((HR1.out.st HS23.out).st HU2.out) (one_bvs _) (by omega) (by decide) ?_
          intro A6 c6 v6 hS6
          have HU3 := hide (show St v3 NoB v6 [.row (.slice A6 (0 + k) c6) 5 1 (0 + k) (bvs l1), .row (.slice B4 64 d4) 5 1 64 (bvs (shaL (l1 ++ l2)))] from hS6)
          refine hK (RdF v3 (.slice B4 64 d4) (shaL (l1 ++ l2))) _ _ (fun _ h => h) ⟨HU3.out.below, HU3.out.rd 1 rfl⟩ ?_
          clear hK K hS6
          (try simp only [Act.put, List.setIfInBounds_toArray, List.set_cons_zero, List.set_cons_succ, List.getElem_toArray, List.getElem_cons_succ, List.getElem_cons_zero])
          (refine wpG_one (i := 23) (by kernel_rfl) rfl ?_; intro K hK; (try simp only [Act.put, List.setIfInBounds_toArray, List.set_cons_zero, List.set_cons_succ, List.getElem_toArray, List.getElem_cons_succ, List.getElem_cons_zero]))
          refine step_append rfl rfl tyB HU3.out 0 rfl rfl rfl ((HR2.out.st HS23.out).st HU3.out) (one_bvs _) (by omega) (by decide) ?_
          intro A7 c7 v7 hS7
          rw [← bvs_append] at hS7
          have HU4 := hide (show St v3 NoB v7 [.row (.slice A7 (0 + k + n2) c7) 5 1 (0 + k + n2) (bvs (l1 ++ l2)), .row (.slice B4 64 d4) 5 1 64 (bvs (shaL (l1 ++ l2)))] from hS7)
          refine hK (RdF v3 (.slice B4 64 d4) (shaL (l1 ++ l2))) _ _ (fun _ h => h) ⟨HU4.out.below, HU4.out.rd 1 rfl⟩ ?_
          clear hK K hS7
          (try simp only [Act.put, List.setIfInBounds_toArray, List.set_cons_zero, List.set_cons_succ, List.getElem_toArray, List.getElem_cons_succ, List.getElem_cons_zero])
          (refine wpG_one (i := 24) (by kernel_rfl) rfl ?_; intro K hK; (try simp only [Act.put, List.setIfInBounds_toArray, List.set_cons_zero, List.set_cons_succ, List.getElem_toArray, List.getElem_cons_succ, List.getElem_cons_zero]))
          refine step_call rfl rfl enSumF rfl (sumf_any A7 (0 + k + n2) c7 (l1 ++ l2) v7 (by rw [List.length_append, HL1.out, HL2.out]; omega) (by omega) (HU4.out.rd 0 rfl)) ?_
          rintro e v8 ⟨B8, d8, rfl, hb8, ho8⟩
          have HU5 := hide (HU4.out.call hb8)
          refine ⟨_, rfl, hK (From v8) _ _ (fun x hx => ⟨From.next HU5.out.below _ hx, (HU5.out.rd 1 rfl).below hx⟩) (From.refl _) ?_⟩
          clear hK K hb8
          (try simp only [Act.put, List.setIfInBounds_toArray, List.set_cons_zero, List.set_cons_succ, List.getElem_toArray, List.getElem_cons_succ, List.getElem_cons_zero])
          have HV8 := hide (rd_own ho8)
          clear ho8
          have cv8 : ∀ x, From v8 x → (convert 22 9 (.slice B8 64 d8)).run Try.prog x = .ok (.string (strOf (shaL (l1 ++ l2)))) x := fun x hx => run_str Try.underlying22 Try.underlying5 Try.underlying9 (HV8.out.below hx)
          (refine wpG_take (i := 25) (v := ?_) rfl (by kernel_rfl) (by kernel_rfl) (by kernel_rfl) (fun _ _ _ h => h) (From.refl _) (Or.inl ⟨by first | kernel_rfl | rfl, ?_⟩) ?_; rotate_left; (intro wx hx; go_simp) <;> (with_reducible rfl); (try simp only [Act.put, List.setIfInBounds_toArray, List.set_cons_zero, List.set_cons_succ, List.getElem_toArray, List.getElem_cons_succ, List.getElem_cons_zero])); (refine wpG_take (i := 26) (v := ?_) rfl (by kernel_rfl) (by kernel_rfl) (by kernel_rfl) (fun _ _ _ h => h) (From.refl _) (Or.inl ⟨by first | kernel_rfl | rfl, ?_⟩) ?_; rotate_left; (intro wx hx; go_simp) <;> (with_reducible rfl); (try simp only [Act.put, List.setIfInBounds_toArray, List.set_cons_zero, List.set_cons_succ, List.getElem_toArray, List.getElem_cons_succ, List.getElem_cons_zero])); (refine wpG_take (i := 27) (v := ?_) rfl (by kernel_rfl) (by kernel_rfl) (by kernel_rfl) (fun _ _ _ h => h) (From.refl _) (Or.inl ⟨by first | kernel_rfl | rfl, ?_⟩) ?_; rotate_left; (intro wx hx; go_simp) <;> (with_reducible rfl); (try simp only [Act.put, List.setIfInBounds_toArray, List.set_cons_zero, List.set_cons_succ, List.getElem_toArray, List.getElem_cons_succ, List.getElem_cons_zero])); (refine wpG_take (i := 28) (v := ?_) rfl (by kernel_rfl) (by kernel_rfl) (by kernel_rfl) (fun _ _ _ h => h) (From.refl _) (Or.inl ⟨by first | kernel_rfl | rfl, ?_⟩) ?_; rotate_left; (intro wx hx; go_simp) <;> (with_reducible rfl); (try simp only [Act.put, List.setIfInBounds_toArray, List.set_cons_zero, List.set_cons_succ, List.getElem_toArray, List.getElem_cons_succ, List.getElem_cons_zero]))
          clear cv8
          (refine wpG_one (i := 29) (by kernel_rfl) rfl ?_; intro K hK; (try simp only [Act.put, List.setIfInBounds_toArray, List.set_cons_zero, List.set_cons_succ, List.getElem_toArray, List.getElem_cons_succ, List.getElem_cons_zero]))
          refine step_call rfl rfl enAwake rfl (awake_any _) ?_
          rintro e v9 ⟨rfl, hb9⟩
          refine ⟨_, rfl, hK (From v9) _ _ (From.next hb9) (From.refl _) ?_⟩
          clear hK K
          (try simp only [Act.put, List.setIfInBounds_toArray, List.set_cons_zero, List.set_cons_succ, List.getElem_toArray, List.getElem_cons_succ, List.getElem_cons_zero])
          (refine wpG_take (i := 30) (v := ?_) rfl (by kernel_rfl) (by kernel_rfl) (by kernel_rfl) (fun _ _ _ h => h) (From.refl _) (Or.inl ⟨by first | kernel_rfl | rfl, ?_⟩) ?_; rotate_left; (intro wx hx; go_simp) <;> (with_reducible rfl); (try simp only [Act.put, List.setIfInBounds_toArray, List.set_cons_zero, List.set_cons_succ, List.getElem_toArray, List.getElem_cons_succ, List.getElem_cons_zero])); (refine wpG_take (i := 31) (v := ?_) rfl (by kernel_rfl) (by kernel_rfl) (by kernel_rfl) (fun _ _ _ h => h) (From.refl _) (Or.inl ⟨by first | kernel_rfl | rfl, ?_⟩) ?_; rotate_left; (intro wx hx; go_simp) <;> (with_reducible rfl); (try simp only [Act.put, List.setIfInBounds_toArray, List.set_cons_zero, List.set_cons_succ, List.getElem_toArray, List.getElem_cons_succ, List.getElem_cons_zero]))
          refine wpG_done (by kernel_rfl) ?_ _
          go_wp2_with fail
          go_ret
          exact ⟨rfl, bnx (bnx HS23.out.below HU5.out.below) hb9⟩
end Go.Proofs.Ytabdbddmmbccjaa
