/-
  Layer 18: the walk of StoreTurned.
-/
import Derived.Test.YthpioncehigoaaaYu
set_option linter.unusedVariables false
namespace Go.Proofs.Ythpioncehigoaaa
open Go.RowKit
set_option linter.unusedSimpArgs false

theorem allS {p : Nat} {S : List Fc} {W : World} (h : Sto W p S) (h6 : S.length ≤ 1000000) :
    Calls Try.prog 13 #[.pointer (some ⟨p, 0, none⟩)] W fun e w' => ∃ B l', e = .returned (.slice B l'.length l'.length) ∧ l'.map shF = S.map shF ∧ FcsAt w' (.slice B l'.length l'.length) l' ∧ Below W.heap.size W w' := by
  obtain ⟨A, c, h1, h2, h3, h4⟩ := h
  exact all18_any p A c S W h1 h2 h6 h4
theorem lenS {p : Nat} {S : List Fc} {W : World} (h : Sto W p S) : Calls Try.prog 15 #[.pointer (some ⟨p, 0, none⟩)] W fun e w' => e = .returned (.int .i64 (S.length : Int)) ∧ W = w' := by
  obtain ⟨A, c, h1, _, _, _⟩ := h
  exact len_any p A S.length c W h1
theorem hasS {p : Nat} {S : List Fc} {W : World} (h : Sto W p S) (h6 : S.length ≤ 1000000) {f : Fc} (hf : FcOK W f) : Calls Try.prog 17 #[.pointer (some ⟨p, 0, none⟩), f.val] W fun e w' => e = .returned (.bool (hasX S f)) ∧ Below W.heap.size W w' := by
  obtain ⟨A, c, h1, h2, h3, _⟩ := h
  exact has18_any p A c S f W h1 h2 h3 hf h6
theorem rotF_mem (l : List Fc) (k : Nat) (x : Fc) : x ∈ l.drop k ++ l.take k ↔ x ∈ l := by
  conv => rhs; rw [← List.take_append_drop k l]
  rw [List.mem_append, List.mem_append, or_comm]
theorem rotF_len (l : List Fc) (k : Nat) : (l.drop k ++ l.take k).length = l.length := by
  rw [List.length_append, List.length_drop, List.length_take]
  omega
theorem risF_up : ∀ (l : List Fc), RisF l → ∀ (i : Nat) (x y : Fc), l[i]? = some x → l[i + 1]? = some y → cmpF x y < 0
  | [], _, i, x, y, h, _ => by simp at h
  | a :: l, hr, 0, x, y, h, h' => by
    simp only [List.getElem?_cons_zero, Option.some.injEq] at h
    rw [← h]
    exact hr.1 y (List.mem_of_getElem? (by simpa using h'))
  | a :: l, hr, i + 1, x, y, h, h' => risF_up l hr.2 i x y (by simpa using h) (by simpa using h')
theorem St.rowF0 {w0 w : World} {M : Nat → Prop} {H : List Chunk} (hS : St w0 M w H) (e : TypeId) (size : Nat) : St w0 M (w.alloc (.cells #[] e)) (.row (.slice (some ⟨w.heap.size, 0, none⟩) 0 0) e size 0 [] :: H) :=
  hS.row ((Below.refl w.heap.size w).alloc (Nat.le_refl _) _) ⟨by simp, .inr ⟨w.heap.size, 0, #[], rfl, Nat.le_refl _, by show (w.heap.push _)[w.heap.size]? = _; simp, Nat.le_refl _, by decide, by simp, by simp⟩⟩
theorem same_made {l m S T x y : List Fc} (h : ∀ f, f ∈ l ↔ f ∈ m) (hS : S.map shF = made l) (hT : T.map shF = made m) (hx : x.map shF = S.map shF) (hy : y.map shF = T.map shF) : sameF x y = true := by
  rw [sameF_sh (a' := made l) (b' := made m) (hx.trans (sh_self hS)) (hy.trans (sh_self hT))]
  exact sameF_eq (made_same h)
theorem ris_made {l S x : List Fc} (hS : S.map shF = made l) (hx : x.map shF = S.map shF) : RisF x := risF_sh ((hx.trans (sh_self hS)).symm) (made_ris l)
theorem has_made {l S : List Fc} (hS : S.map shF = made l) {f : Fc} (hf : f ∈ l) : hasX S f = okF f := by
  rw [has_sh (f := f) (f' := f) rfl (sh_self hS), made_has l hf]
set_option maxRecDepth 100000 in
set_option maxHeartbeats 1600000 in
theorem storeTurned_walk (l : List Fc) (turn : Int) (v : Value) (w : World) (hv : FcsAt w v l) (hm : l.length ≤ 140737488351232) :
    Calls Try.prog 4 #[v, .int .i64 turn] w fun e w' => e = .returned (.bool true) ∧ Below w.heap.size w w' := by
  obtain ⟨A, c, rfl, hr⟩ := Rd.isSlice hv.1
  have HFW := hide (few18_any (.slice A l.length c) l w hv hm)
  have HAW := hide (fun W => awake18_any W)
  obtain ⟨n, hn⟩ : ∃ n, n = l.length := ⟨_, rfl⟩
  cases hfe : fewF 0 l with
  | false =>
    rw [hfe] at HFW
    rw [← hn] at HFW ⊢
    clear hv hr hn hm hfe
    go_enter Try.func4, Try.ntmps4
    go_wp2_with (first
      | (go_at_call 9; (with_reducible refine HFW.out.mono ?_); rintro e w1 ⟨rfl, hb⟩; have HB1 := hide hb)
      | (go_at_call 10; (with_reducible refine (HAW.out _).mono ?_); rintro e w' ⟨rfl, hb⟩; have HB := hide (HB1.out.trans (hb.mono HB1.out.size))))
    go_ret
    exact ⟨rfl, HB.out⟩
  | true =>
    rw [hfe] at HFW
    have h600 : n ≤ 600 := by have := few_len l 0 (by decide) hfe; omega
    obtain ⟨m, hmn⟩ : ∃ m, m = n + 1 := ⟨_, rfl⟩
    obtain ⟨k, eK⟩ : ∃ Y : Nat, IntKind.u64.wrap turn % (m : Int) = (Y : Int) := ⟨(IntKind.u64.wrap turn % (m : Int)).toNat, by
      have := Int.emod_nonneg (IntKind.u64.wrap turn) (show (m : Int) ≠ 0 by omega)
      omega⟩
    have hK : k ≤ n := by
      have := Int.emod_lt_of_pos (IntKind.u64.wrap turn) (show (0 : Int) < (m : Int) by omega)
      omega
    have tK : (IntKind.u64.wrap turn).tmod ((n : Int) + 1) = (k : Int) := by rw [show (n : Int) + 1 = (m : Int) by omega, Int.tmod_eq_emod_of_nonneg (by rw [IntKind.wrap_u64]; omega)]; exact eK
    have hn6 : n ≤ 4294967296 := by omega
    have m0 : ((n : Int) + 1) ≠ 0 := by omega
    clear hmn
    have hcap := rd_nilcap hr
    rw [← hn] at hcap
    have tk := fun W => run_takeG (t := 29) (P := Try.prog) Try.underlying29 szFc A n c k (by omega) hcap.2 W
    have dr := fun W => run_dropG (t := 29) (P := Try.prog) Try.underlying29 szFc A n c k (by omega) W
    obtain ⟨sv, hsv⟩ : ∃ v, v = sliced A k n c 3 := ⟨_, rfl⟩
    rw [← hsv] at dr
    have HR1 := hide (fun W (h : Below w.heap.size w W) => rd_dropG (hr.below h) k (by omega) (by decide))
    rw [← hn, ← hsv] at HR1
    clear hsv
    have HR2 := hide (fun W (h : Below w.heap.size w W) => rd_takeG (hr.below h) k (by omega))
    have HX1 := hide (one_drop (fcCells_one l) (k * 3))
    have HX2 := hide (one_take (fcCells_one l) (k * 3))
    have HRW : Hid ((fcCells l).drop (k * 3) ++ (fcCells l).take (k * 3) = fcCells (l.drop k ++ l.take k)) := hide (by rw [fcCells_append, fcCells_take, fcCells_drop])
    have hnk : n - k + k = n := by omega
    have HMA := hide (fun W (h : Below w.heap.size w W) => made_any (.slice A l.length c) l W (hv.on h) (by omega))
    have HMB := hide (fun W B d (h : Below w.heap.size w W) (hR : Rd W (.slice B (l.drop k ++ l.take k).length d) 3 (l.drop k ++ l.take k).length (fcCells (l.drop k ++ l.take k))) => made_any (.slice B (l.drop k ++ l.take k).length d) (l.drop k ++ l.take k) W ⟨hR, fun x hx => (hv.2 x ((rotF_mem l k x).1 hx)).on h⟩ (by rw [rotF_len]; omega))
    rw [rotF_len] at HMB
    have HN := hide hn
    have HA := hide hr
    have HOK := hide hv.2
    rw [← hn] at HFW HMA HMB HA ⊢
    have HRM := hide (rotF_mem l k)
    have HSAME := hide (fun (S T x y : List Fc) (hS : S.map shF = made l) (hT : T.map shF = made (l.drop k ++ l.take k)) (hx : x.map shF = S.map shF) (hy : y.map shF = T.map shF) => same_made (fun f => (HRM.out f).symm) hS hT hx hy)
    have HALL := hide (fun W p (S : List Fc) (h : Sto W p S) (h6 : S.length ≤ n) => allS h (by omega))
    have HLEN := hide (fun W p (S : List Fc) (h : Sto W p S) => lenS h)
    have HHAS := hide (fun W p (S : List Fc) (h : Sto W p S) (h6 : S.length ≤ n) f (hf : FcOK W f) => hasS h (by omega) hf)
    have HSF := hide (fun W va vb (xs ys : List Fc) (h1 : xs.length ≤ 1000000) (h2 : ys.length ≤ 1000000) ha hb => sameFacts_any va vb xs ys W ha hb (by omega) (by omega))
    clear hv hr hfe hn eK hcap hm
    go_enter Try.func4, Try.ntmps4
    go_wp2_with (first
      | (go_at_call 9; (with_reducible refine HFW.out.mono ?_); rintro e w1 ⟨rfl, hb⟩; have HB1 := hide hb)
      | (go_at_call 12; (with_reducible refine (HMA.out _ HB1.out).mono ?_); rintro e w2 ⟨pa, qa, Sa, rfl, hst, hsh, hle, hb⟩; have HB2 := hide (HB1.out.trans (hb.mono HB1.out.size)); have HPA := hide hst; have HSA := hide hsh; have HLA := hide hle; clear hst hsh hle hb))
    refine wp_region_T [(1, 1), (2, 1), (3, 1), (5, 1), (6, 1), (7, 1), (0, 2), (4, 3), (8, 4), (9, 4), (10, 1), (11, 1), (12, 1), (13, 1), (14, 1)] (by kernel_rfl) (by kernel_rfl) (fun _ _ _ _ h => h) ?_
    have HB2 := hide HB2.out.drew
    have HPA := hide (HPA.out.on (Below.refl _ _).drew)
    generalize w2.drew = wm at HB2 HPA ⊢
    have HS0 := hide ((St.init wm NoB).rowF0 27 3)
    have hb0 : Below wm.heap.size wm (wm.alloc (.cells #[] 27)) := (Below.refl _ _).al _
    go_wp2_with (first
      | (refine wpT_late rfl rfl ?_; intro K hK; refine wp_append (n := 0) rfl rowFc HS0.out 0 rfl rfl rfl (HR1.out _ (HB2.out.trans (HS0.out.below.mono HB2.out.size))) HX1.out (by omega) (by decide) ?_; intro A1 c1 w8 hS8; rw [Nat.zero_add, List.nil_append] at hS8; have HS8 := hide hS8; clear hS8; rw [Nat.zero_add])
      | (refine wpT_any rfl rfl ?_; intro K hK; refine wp_append (n := n - k) rfl rowFc HS8.out 0 rfl rfl rfl (HR2.out _ (HB2.out.trans (HS8.out.below.mono HB2.out.size))) HX2.out (by omega) (by decide) ?_; intro A2 c2 w9 hS9; rw [hnk, HRW.out] at hS9; have HRD := hide (hS9.rd 0 rfl); have HB9 := hide (HB2.out.trans (hS9.below.mono HB2.out.size)); have HPA := hide (HPA.out.on hS9.below); clear hS9; rw [hnk])
      | (refine wpT_nil ?_)   | ((with_reducible refine fromT_refl ?_); (try simp only [Act.put, nq1, nq2, nq3, nq4, nq5, nq6]))   | ((with_reducible refine fromT_mk (by assumption) ?_); (try simp only [Act.put, nq1, nq2, nq3, nq4, nq5, nq6]))   | (refine wpT_pure (v := ?_) rfl rfl ?_ ?_; rotate_left; (intro wx; go_simp; try go_bits) <;> (with_reducible rfl); (try simp only [Act.put, nq1, nq2, nq3, nq4, nq5, nq6]))   | (refine wpT_load (v := ?_) rfl rfl rfl ?_ ?_; rotate_left; (go_simp; try go_bits) <;> (with_reducible rfl); (try simp only [Act.put, nq1, nq2, nq3, nq4, nq5, nq6]))   | (refine wpT_read (v := ?_) rfl rfl ?_ ?_; rotate_left; (intro wx hx; go_simp; try go_bits) <;> (with_reducible rfl); (try simp only [Act.put, nq1, nq2, nq3, nq4, nq5, nq6]))   | (refine wpT_call rfl rfl ?_; intro K hK)   | (refine wpT_late rfl rfl ?_; intro K hK)   | (refine wpT_any rfl rfl ?_; intro K hK)   | (refine wpT_skip rfl rfl ?_; (try simp only [Act.put, nq1, nq2, nq3, nq4, nq5, nq6])))
    go_wp2_with (first
      | (go_at_call 12; (with_reducible refine (HMB.out _ A2 c2 HB9.out HRD.out).mono ?_); rintro e w10 ⟨pb, qb, Sb, rfl, hst, hsh, hle, hb⟩; have HB10 := hide (HB9.out.trans (hb.mono HB9.out.size)); have HPA := hide (HPA.out.on hb); have HPB := hide hst; have HSB := hide hsh; have HLB := hide hle; clear hst hsh hle hb)
      | (go_at_call 13; (with_reducible refine (HALL.out _ pa Sa HPA.out HLA.out).mono ?_); rintro e w11 ⟨Bx, xs, rfl, hsh, hvx, hb⟩; have HB11 := hide (HB10.out.trans (hb.mono HB10.out.size)); have HPA11 := hide (HPA.out.on hb); have HPB11 := hide (HPB.out.on hb); have HXS := hide hsh; have HVX := hide hvx; clear hsh hvx hb)
      | (go_at_call 13; (with_reducible refine (HALL.out _ pb Sb HPB11.out HLB.out).mono ?_); rintro e w12 ⟨By, ys, rfl, hsh, hvy, hb⟩; have HB12 := hide (HB11.out.trans (hb.mono HB11.out.size)); have HPA12 := hide (HPA11.out.on hb); have HVX12 := hide (HVX.out.on hb); have HYS := hide hsh; have HVY := hide hvy; have HLX := hide (show xs.length = Sa.length by have := congrArg List.length HXS.out; rwa [List.length_map, List.length_map] at this); have HLY := hide (show ys.length = Sb.length by have := congrArg List.length HYS.out; rwa [List.length_map, List.length_map] at this); have HSM := hide (HSF.out w12 _ _ xs ys (by have := HLX.out; have := HLA.out; omega) (by have := HLY.out; have := HLB.out; omega) HVX12.out HVY.out); rw [HSAME.out Sa Sb xs ys HSA.out HSB.out HXS.out HYS.out] at HSM; clear hsh hvy hb)
      | (go_at_call 14; (with_reducible refine HSM.out.mono ?_); rintro e w13 ⟨rfl, hb⟩; have HB13 := hide (HB12.out.trans (hb.mono HB12.out.size)); have HPA13 := hide (HPA12.out.on hb); have HVX13 := hide (HVX12.out.on hb); have HLN := hide (HLEN.out w13 pa Sa HPA13.out); rw [← HLX.out] at HLN; clear hb)
      | (go_at_call 15; (with_reducible refine HLN.out.mono ?_); rintro e w14 ⟨rfl, rfl⟩)
      | (refine wpT_nil ?_)   | ((with_reducible refine fromT_refl ?_); (try simp only [Act.put, nq1, nq2, nq3, nq4, nq5, nq6]))   | ((with_reducible refine fromT_mk (by assumption) ?_); (try simp only [Act.put, nq1, nq2, nq3, nq4, nq5, nq6]))   | (refine wpT_pure (v := ?_) rfl rfl ?_ ?_; rotate_left; (intro wx; go_simp; try go_bits) <;> (with_reducible rfl); (try simp only [Act.put, nq1, nq2, nq3, nq4, nq5, nq6]))   | (refine wpT_load (v := ?_) rfl rfl rfl ?_ ?_; rotate_left; (go_simp; try go_bits) <;> (with_reducible rfl); (try simp only [Act.put, nq1, nq2, nq3, nq4, nq5, nq6]))   | (refine wpT_read (v := ?_) rfl rfl ?_ ?_; rotate_left; (intro wx hx; go_simp; try go_bits) <;> (with_reducible rfl); (try simp only [Act.put, nq1, nq2, nq3, nq4, nq5, nq6]))   | (refine wpT_call rfl rfl ?_; intro K hK)   | (refine wpT_late rfl rfl ?_; intro K hK)   | (refine wpT_any rfl rfl ?_; intro K hK)   | (refine wpT_skip rfl rfl ?_; (try simp only [Act.put, nq1, nq2, nq3, nq4, nq5, nq6])))
    obtain ⟨p, hp⟩ : ∃ p, p = xs.length := ⟨_, rfl⟩
    have HP := hide hp
    have HRX := hide (ris_made HSA.out HXS.out)
    have hp6 : p ≤ 600 := by have := HLX.out; have := HLA.out; omega
    rw [← hp] at HVX13 ⊢
    have HVX := HVX13
    have HPA := HPA13
    have HB := HB13
    clear hp HVX13 HVX12 HPA13 HPA12 HPA11 HPB11 HPB HB13 HB12 HB11 HB10 HB9 HB2 HB1 HS0 hb0 HRD HYS HVY HLY HSM HLN HMB HMA HFW HSF HSAME HR1 HR2 HX1 HX2 HRW
    go_loopw [11] (fun i wr => ∃ k : Nat, 1 ≤ k ∧ i = .int .i64 (k : Int) ∧ Hid (Below w.heap.size w wr) ∧ Hid (Sto wr pa Sa) ∧ Hid (FcsAt wr (.slice Bx p p) xs)) (fun i _ => (p - intOf i).toNat)
    case atStart => exact ⟨1, by omega, rfl, HB, HPA, HVX⟩
    case round =>
      clear HB HPA HVX
      obtain ⟨k, hk1, rfl, HB, HPA, HVX⟩ := hrel
      by_cases hlt : k < p
      · have hd : decide ((k : Int) < (p : Int)) = true := by simp; omega
        have hd' : decide (k < p) = true := by simp; omega
        have kn : (k : Int) < (p : Int) := by omega
        have ek : (k : Int) - 1 = ((k - 1 : Nat) : Int) := by omega
        have kp : ((k - 1 : Nat) : Int) < (p : Int) := by omega
        have kp' : k - 1 < p := by omega
        have kl : k < xs.length := by have := HP.out; omega
        have kl1 : k - 1 < xs.length := by omega
        have HVD := hide (HVX.out.on (Below.refl _ _).drew)
        have hup := risF_up xs HRX.out (k - 1) xs[k - 1] xs[k] (List.getElem?_eq_getElem kl1) (by rw [show k - 1 + 1 = k by omega]; exact List.getElem?_eq_getElem kl)
        have hrd : Rd wr.drew (.slice Bx p p) 3 p (fcCells xs) := by
          have h := HVD.out.1
          rwa [← HP.out] at h
        obtain ⟨b, o, rfl, hb8, c0, c1, c2⟩ := fc_at hrd (List.getElem?_eq_getElem kl1)
        obtain ⟨b', o', e', _, e0, e1, e2⟩ := fc_at hrd (List.getElem?_eq_getElem kl)
        injection e' with e'
        injection e' with e1' e2'
        subst e1' e2'
        have HC := hide (cmpFc_any xs[k - 1] xs[k] wr.drew (HVD.out.2 _ (List.getElem_mem kl1)) (HVD.out.2 _ (List.getElem_mem kl)))
        generalize xs[k - 1] = x at c0 c1 c2 hup HC
        generalize xs[k] = y at e0 e1 e2 hup HC
        generalize cmpF x y = z at hup HC
        have dz : decide ((0 : Int) ≤ z) = false := by simp; omega
        have HL := hide hlt
        have HK := hide hk1
        unfold Fc.row at c1 e1
        unfold Fc.val Fc.row at HC
        clear hlt hk1 kl kl1 hup hrd
        go_wp2_with fail
        refine wp_region_T [(0, 1), (1, 1), (2, 1), (3, 1), (4, 0), (5, 1), (6, 1), (7, 1), (8, 0), (9, 2), (10, 1)] (by kernel_rfl) (by kernel_rfl) (fun _ _ _ _ h => h) ?_
        have HBd := hide HB.out.drew
        have HPd := hide (HPA.out.on (Below.refl _ _).drew)
        go_wp2_with (first
          | (go_at_call 11; (with_reducible refine HC.out.mono ?_); rintro e w2 ⟨rfl, hb⟩; have HB2 := hide (HBd.out.trans (hb.mono HBd.out.size)); have HPA2 := hide (HPd.out.on hb); have HVX2 := hide (HVD.out.on hb))
          | (refine wpT_nil ?_)   | ((with_reducible refine fromT_refl ?_); (try simp only [Act.put, nq1, nq2, nq3, nq4, nq5, nq6]))   | ((with_reducible refine fromT_mk (by assumption) ?_); (try simp only [Act.put, nq1, nq2, nq3, nq4, nq5, nq6]))   | (refine wpT_pure (v := ?_) rfl rfl ?_ ?_; rotate_left; (intro wx; go_simp; try go_bits) <;> (with_reducible rfl); (try simp only [Act.put, nq1, nq2, nq3, nq4, nq5, nq6]))   | (refine wpT_load (v := ?_) rfl rfl rfl ?_ ?_; rotate_left; (go_simp; try go_bits) <;> (with_reducible rfl); (try simp only [Act.put, nq1, nq2, nq3, nq4, nq5, nq6]))   | (refine wpT_read (v := ?_) rfl rfl ?_ ?_; rotate_left; (intro wx hx; go_simp; try go_bits) <;> (with_reducible rfl); (try simp only [Act.put, nq1, nq2, nq3, nq4, nq5, nq6]))   | (refine wpT_call rfl rfl ?_; intro K hK)   | (refine wpT_late rfl rfl ?_; intro K hK)   | (refine wpT_any rfl rfl ?_; intro K hK)   | (refine wpT_skip rfl rfl ?_; (try simp only [Act.put, nq1, nq2, nq3, nq4, nq5, nq6])))
        go_roundw
        case rel => exact ⟨k + 1, by omega, by go_num, HB2, HPA2, HVX2⟩
        case measure => (have := HL.out); (simp [intOf]) <;> omega
      · have hd : decide ((k : Int) < (p : Int)) = false := by simp; omega
        have hd' : decide (k < p) = false := by simp; omega
        clear hlt
        go_wp2_with fail
        go_loopw [77] (fun i wr => ∃ j : Nat, j ≤ n ∧ i = .int .i64 (j : Int) ∧ Hid (Below w.heap.size w wr) ∧ Hid (Sto wr pa Sa)) (fun i _ => (n - intOf i).toNat)
        case atStart => exact ⟨0, by omega, rfl, HB, HPA⟩
        case round =>
          clear HB HPA HVX
          obtain ⟨j, hj, rfl, HB, HPA⟩ := hrel
          by_cases hlt : j < n
          · have hd2 : decide ((j : Int) < (n : Int)) = true := by simp; omega
            have hd2' : decide (j < n) = true := by simp; omega
            have jn : (j : Int) < (n : Int) := by omega
            have kl : j < l.length := by have := HN.out; omega
            obtain ⟨b, o, rfl, hb8, e0, e1, e2⟩ := fc_at (HA.out.below HB.out) (List.getElem?_eq_getElem kl)
            have HOF := hide (HOK.out l[j] (List.getElem_mem kl))
            have HHM := hide (has_made HSA.out (List.getElem_mem kl))
            generalize l[j] = f at e0 e1 e2 HOF HHM
            have HS1 := hide (((St.init wr NoB).alloc #[.string (strOf f.name), .slice f.A f.ts.length f.c, .int .u32 f.o] 27).drew)
            have HB1 := hide (HB.out.trans (HS1.out.below.mono HB.out.size))
            have HPA1 := hide (HPA.out.on HS1.out.below)
            have HMY := hide (mayR18_any f _ (HOF.out.on HB1.out))
            have HHS := hide (fun W (h : Sto W pa Sa) (hb : Below w.heap.size w W) => HHAS.out W pa Sa h HLA.out f (HOF.out.on hb))
            rw [HHM.out] at HHS
            have HL := hide hlt
            clear hlt kl
            generalize okF f = ok at HMY HHS
            unfold Fc.val Fc.row at HMY HHS
            unfold Fc.row at e1
            have f0 := HS1.out.cell 0 rfl 0
            have f1 := HS1.out.cell 0 rfl 1
            have f2 := HS1.out.cell 0 rfl 2
            have hne : (ok != ok) = false := by cases ok <;> rfl
            go_wp2_with fail
            refine wp_region_T [(0, 0), (2, 1), (3, 0), (1, 2), (4, 2), (5, 1)] (by kernel_rfl) (by kernel_rfl) (fun _ _ _ _ h => h) ?_
            go_wp2_with (first
              | (go_at_call 16; (with_reducible refine HMY.out.mono ?_); rintro e w2 ⟨rfl, hb⟩; have HS2 := hide (HS1.out.call hb); have HB2 := hide (HB1.out.trans (hb.mono HB1.out.size)); have HPA2 := hide (HPA1.out.on hb); have g0 := HS2.out.cell 0 rfl 0; have g1 := HS2.out.cell 0 rfl 1; have g2 := HS2.out.cell 0 rfl 2)
              | (go_at_call 17; (with_reducible refine (HHS.out _ HPA2.out HB2.out).mono ?_); rintro e w3 ⟨rfl, hb⟩; have HB3 := hide (HB2.out.trans (hb.mono HB2.out.size)); have HPA3 := hide (HPA2.out.on hb))
              | (refine wpT_nil ?_)   | ((with_reducible refine fromT_refl ?_); (try simp only [Act.put, nq1, nq2, nq3, nq4, nq5, nq6]))   | ((with_reducible refine fromT_mk (by assumption) ?_); (try simp only [Act.put, nq1, nq2, nq3, nq4, nq5, nq6]))   | (refine wpT_pure (v := ?_) rfl rfl ?_ ?_; rotate_left; (intro wx; go_simp; try go_bits) <;> (with_reducible rfl); (try simp only [Act.put, nq1, nq2, nq3, nq4, nq5, nq6]))   | (refine wpT_load (v := ?_) rfl rfl rfl ?_ ?_; rotate_left; (go_simp; try go_bits) <;> (with_reducible rfl); (try simp only [Act.put, nq1, nq2, nq3, nq4, nq5, nq6]))   | (refine wpT_read (v := ?_) rfl rfl ?_ ?_; rotate_left; (intro wx hx; go_simp; try go_bits) <;> (with_reducible rfl); (try simp only [Act.put, nq1, nq2, nq3, nq4, nq5, nq6]))   | (refine wpT_call rfl rfl ?_; intro K hK)   | (refine wpT_late rfl rfl ?_; intro K hK)   | (refine wpT_any rfl rfl ?_; intro K hK)   | (refine wpT_skip rfl rfl ?_; (try simp only [Act.put, nq1, nq2, nq3, nq4, nq5, nq6])))
            go_roundw
            case rel => exact ⟨j + 1, by have := HL.out; omega, by go_num, HB3, HPA3⟩
            case measure => (have := HL.out); (simp [intOf]) <;> omega
          · obtain rfl : j = n := by omega
            have hd2 : decide ((j : Int) < (j : Int)) = false := by simp
            have hd2' : decide (j < j) = false := by simp
            go_wp2_with (go_at_call 10; (with_reducible refine (HAW.out _).mono ?_); rintro e w' ⟨rfl, hb⟩; have HB' := hide (HB.out.trans (hb.mono HB.out.size)))
            go_ret
            exact ⟨rfl, HB'.out⟩
end Go.Proofs.Ythpioncehigoaaa
