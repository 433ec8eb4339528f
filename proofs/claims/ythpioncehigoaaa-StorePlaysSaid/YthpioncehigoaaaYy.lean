/-
  Layer 18: StoreNamed: of all names and lengths together.
-/
import Derived.Test.YthpioncehigoaaaYv
import Derived.Test.YthpioncehigoaaaYw
namespace Go.Proofs.Ythpioncehigoaaa
open Go.RowKit
set_option linter.unusedSimpArgs false

theorem key_sh (f : Fc) : keyF (shF f) = keyF f := by
  show (f.name, ((f.ts.map shT).length : Int)) = _
  rw [List.length_map]
  rfl
theorem namF_sh (s : List UInt8) (n : Int) : ∀ {l l' : List Fc}, l.map shF = l'.map shF → (namF s n l).map shF = (namF s n l').map shF
  | [], [], _ => rfl
  | x :: l, y :: l', h => by
    simp only [List.map_cons, List.cons.injEq] at h
    have hk : keyF x = keyF y := by rw [← key_sh x, h.1, key_sh]
    have ih := namF_sh s n h.2
    have e : cmpN s n x = cmpN s n y := by unfold cmpN; rw [hk]
    unfold namF at ih ⊢
    rw [List.filter_cons, List.filter_cons, e]
    split
    · rw [List.map_cons, List.map_cons, h.1, ih]
    · exact ih
  | [], _ :: _, h => by simp at h
  | _ :: _, [], h => by simp at h
theorem cmpK_eq {a b : List UInt8 × Int} (h : cmpK a b = 0) : a = b := by
  obtain ⟨h1, h2⟩ := orI_zero (show orI (cmpS a.1 b.1) (cmpI a.2 b.2) = 0 from h)
  exact Prod.ext (cmpS_eq.1 h1) (cmpI_zero h2)
noncomputable def gE (c : List UInt8 × Int) (f : Fc) : Int := if cmpK (keyF f) c ≤ 0 then -1 else 1
theorem gE_neg {c : List UInt8 × Int} {f : Fc} : gE c f < 0 ↔ cmpK (keyF f) c ≤ 0 := by
  unfold gE
  split
  · rename_i h; exact ⟨fun _ => h, fun _ => by decide⟩
  · rename_i h; exact ⟨fun h' => absurd h' (by decide), fun h' => absurd h' h⟩
/-- Where what is no further than this ends. -/
noncomputable def endK (c : List UInt8 × Int) (l : List Fc) : Nat := plc (gE c) l
theorem plc_uniq {g : Fc → Int} {l : List Fc} {j : Nat} {f : Fc} (lo : ∀ i x, l[i]? = some x → i < j → g x < 0) (hf : l[j]? = some f) (h : ¬ g f < 0) : plc g l = j := by
  have hjl := (List.getElem?_eq_some_iff.1 hf).1
  by_cases h1 : plc g l < j
  · have h2 := plc_at g l _ (List.getElem?_eq_getElem (by omega))
    exact absurd (lo _ _ (List.getElem?_eq_getElem (by omega)) h1) h2
  · by_cases h2 : j < plc g l
    · exact absurd (plc_lo g l j f hf h2) h
    · omega
theorem key_lt {l : List Fc} (hr : RisF l) {i : Nat} {f : Fc} (hf : l[i]? = some f) (hst : ∀ x, 0 < i → l[i - 1]? = some x → keyF x ≠ keyF f) : ∀ j x, l[j]? = some x → j < i → cmpK (keyF x) (keyF f) < 0 := fun j x hx hj => by
  have hil := (List.getElem?_eq_some_iff.1 hf).1
  have hy : l[i - 1]? = some l[i - 1] := List.getElem?_eq_getElem (by omega)
  have hyl : cmpK (keyF l[i - 1]) (keyF f) < 0 := by
    have h1 := key_le (risF_lt l hr (i - 1) i _ f (by omega) hy hf)
    have h2 : cmpK (keyF l[i - 1]) (keyF f) ≠ 0 := fun e => hst _ (by omega) hy (cmpK_eq e)
    omega
  by_cases e : j = i - 1
  · rw [e, hy] at hx
    injection hx with hx
    rw [← hx]
    exact hyl
  · exact cmpN_lo (s := f.name) (n := (f.ts.length : Int)) (risF_lt l hr j (i - 1) x _ (by omega) hx hy) hyl
theorem endK_law {l : List Fc} (hr : RisF l) {i : Nat} {f : Fc} (hf : l[i]? = some f) (hst : ∀ x, 0 < i → l[i - 1]? = some x → keyF x ≠ keyF f) :
    namF f.name (f.ts.length : Int) l = (l.drop i).take (endK (keyF f) l - i) ∧ i < endK (keyF f) l := by
  have hil := (List.getElem?_eq_some_iff.1 hf).1
  have h0 : cmpN f.name (f.ts.length : Int) f = 0 := cmpK_ord.self (keyF f)
  have hp : plc (cmpN f.name (f.ts.length : Int)) l = i := plc_uniq (fun j x hx hj => key_lt hr hf hst j x hx hj) hf (by rw [h0]; decide)
  have hie : i < endK (keyF f) l := by
    refine Nat.lt_of_not_le fun hle => ?_
    have hel : endK (keyF f) l < l.length := by omega
    have h1 := plc_at (gE (keyF f)) l _ (List.getElem?_eq_getElem hel)
    rw [gE_neg] at h1
    by_cases e : endK (keyF f) l = i
    · have h2 : l[endK (keyF f) l]? = some l[endK (keyF f) l] := List.getElem?_eq_getElem hel
      have h3 : l[i]? = some l[endK (keyF f) l] := by rw [← h2, e]
      rw [hf] at h3
      injection h3 with h3
      refine h1 ?_
      show cmpK (keyF l[endK (keyF f) l]) (keyF f) ≤ 0
      rw [← h3, cmpK_ord.self]
      decide
    · refine h1 (key_le (risF_lt l hr _ i _ f (by omega) (List.getElem?_eq_getElem hel) hf))
  refine ⟨?_, hie⟩
  have h := nam_mid hr f.name (f.ts.length : Int) (endK (keyF f) l) (by rw [hp]; omega) (fun j x hx hj hjt => ?_) (fun x hx => ?_)
  · rw [hp] at h
    exact h
  · have h1 := (gE_neg (c := keyF f)).1 (plc_lo (gE (keyF f)) l j x hx hjt)
    have h2 := (part_n hr f.name (f.ts.length : Int)).hi j x hx hj
    have h3 : cmpN f.name (f.ts.length : Int) x = cmpK (keyF x) (keyF f) := rfl
    omega
  · have h1 := plc_at (gE (keyF f)) l x hx
    rw [gE_neg] at h1
    intro h
    exact h1 (by have h3 : cmpN f.name (f.ts.length : Int) x = cmpK (keyF x) (keyF f) := rfl; omega)
/-- How many have been named when the i-th is come to. -/
noncomputable def enI (l : List Fc) : Nat → Nat
  | 0 => 0
  | k + 1 => match l[k]? with
    | some x => endK (keyF x) l
    | none => 0
theorem enI_succ {l : List Fc} {i : Nat} {f : Fc} (hf : l[i]? = some f) : enI l (i + 1) = endK (keyF f) l := by
  rw [enI, hf]
theorem enI_same {l : List Fc} {i : Nat} {x f : Fc} (hi : 0 < i) (hx : l[i - 1]? = some x) (hf : l[i]? = some f) (h : keyF x = keyF f) : enI l (i + 1) = enI l i := by
  rw [enI_succ hf]
  obtain ⟨k, rfl⟩ : ∃ k, i = k + 1 := ⟨i - 1, by omega⟩
  rw [enI_succ (f := x) (by simpa using hx), h]
theorem enI_new {l : List Fc} (hr : RisF l) {i : Nat} {f : Fc} (hf : l[i]? = some f) (hst : ∀ x, 0 < i → l[i - 1]? = some x → keyF x ≠ keyF f) : enI l i = i ∧ enI l (i + 1) = endK (keyF f) l := by
  refine ⟨?_, enI_succ hf⟩
  cases i with
  | zero => rfl
  | succ k =>
    have hil := (List.getElem?_eq_some_iff.1 hf).1
    have hx : l[k]? = some l[k] := List.getElem?_eq_getElem (by omega)
    have hlt := key_lt hr hf hst k _ hx (by omega)
    rw [enI_succ hx]
    refine plc_uniq (fun j y hy hj => gE_neg.2 ?_) hf (fun h => ?_)
    · by_cases e : j = k
      · rw [e, hx] at hy
        injection hy with hy
        rw [← hy, cmpK_ord.self]
        decide
      · exact key_le (risF_lt l hr j k y _ (by omega) hy hx)
    · have h1 := gE_neg.1 h
      have h2 := cmpK_ord.anti (keyF f) (keyF l[k])
      omega
theorem enI_end {l : List Fc} (hr : RisF l) : enI l l.length = l.length := by
  cases hl : l.length with
  | zero => rfl
  | succ k =>
    have hx : l[k]? = some l[k] := List.getElem?_eq_getElem (by omega)
    rw [enI_succ hx]
    have h1 := plc_le (gE (keyF l[k])) l
    by_cases h : plc (gE (keyF l[k])) l < l.length
    · have h2 := plc_at (gE (keyF l[k])) l _ (List.getElem?_eq_getElem h)
      rw [gE_neg] at h2
      by_cases e : plc (gE (keyF l[k])) l = k
      · have h3 : l[plc (gE (keyF l[k])) l]? = some l[plc (gE (keyF l[k])) l] := List.getElem?_eq_getElem h
        have h4 : l[k]? = some l[plc (gE (keyF l[k])) l] := by rw [← h3, e]
        rw [hx] at h4
        injection h4 with h4
        refine absurd ?_ h2
        rw [← h4, cmpK_ord.self]
        decide
      · exact absurd (key_le (risF_lt l hr _ k _ _ (by omega) (List.getElem?_eq_getElem h) hx)) h2
    · show plc (gE (keyF l[k])) l = k + 1
      omega
set_option maxRecDepth 100000 in
set_option maxHeartbeats 8000000 in
theorem storeNamed_walk (l : List Fc) (v : Value) (w : World) (hv : FcsAt w v l) (hm : l.length ≤ 140737488351232) :
    Calls Try.prog 7 #[v] w fun e w' => e = .returned (.bool true) ∧ Below w.heap.size w w' := by
  obtain ⟨A, c, rfl, hr⟩ := Rd.isSlice hv.1
  have HFW := hide (few18_any (.slice A l.length c) l w hv hm)
  have HAW := hide (fun W => awake18_any W)
  obtain ⟨n, hn⟩ : ∃ n, n = l.length := ⟨_, rfl⟩
  cases hfe : fewF 0 l with
  | false =>
    rw [hfe] at HFW
    rw [← hn] at HFW ⊢
    clear hv hr hn hm hfe
    go_enter Try.func7, Try.ntmps7
    go_wp2_with (first
      | (go_at_call 9; (with_reducible refine HFW.out.mono ?_); rintro e w1 ⟨rfl, hb⟩; have HB1 := hide hb)
      | (go_at_call 10; (with_reducible refine (HAW.out _).mono ?_); rintro e w' ⟨rfl, hb⟩; have HB := hide (HB1.out.trans (hb.mono HB1.out.size))))
    go_ret
    exact ⟨rfl, HB.out⟩
  | true =>
    rw [hfe] at HFW
    have h600 : n ≤ 600 := by have := few_len l 0 (by decide) hfe; omega
    have HMA := hide (fun W (h : Below w.heap.size w W) => made_any (.slice A l.length c) l W (hv.on h) (by omega))
    rw [← hn] at HFW HMA ⊢
    have HALL := hide (fun W p (S : List Fc) (h : Sto W p S) (h6 : S.length ≤ n) => allS h (by omega))
    have HLEN := hide (fun W p (S : List Fc) (h : Sto W p S) => lenS h)
    clear hv hr hfe hn hm
    go_enter Try.func7, Try.ntmps7
    go_wp2_with (first
      | (go_at_call 9; (with_reducible refine HFW.out.mono ?_); rintro e w1 ⟨rfl, hb⟩; have HB1 := hide hb)
      | (go_at_call 12; (with_reducible refine (HMA.out _ HB1.out).mono ?_); rintro e w2 ⟨pa, qa, Sa, rfl, hst, hsh, hle, hb⟩; have HB2 := hide (HB1.out.trans (hb.mono HB1.out.size)); have HPA := hide hst; have HSA := hide hsh; have HLA := hide hle; clear hst hsh hle hb)
      | (go_at_call 13; (with_reducible refine (HALL.out _ pa Sa HPA.out HLA.out).mono ?_); rintro e w11 ⟨Bx, xs, rfl, hsh, hvx, hb⟩; have HB := hide (HB2.out.trans (hb.mono HB2.out.size)); have HPA11 := hide (HPA.out.on hb); have HXS := hide hsh; have HVX := hide hvx; clear hsh hvx hb))
    obtain ⟨p, hp⟩ : ∃ p, p = xs.length := ⟨_, rfl⟩
    have HP := hide hp
    have HRX := hide (ris_made HSA.out HXS.out)
    have HSX := hide HXS.out.symm
    have HLX := hide (show xs.length = Sa.length by have := congrArg List.length HXS.out; rwa [List.length_map, List.length_map] at this)
    have hp6 : p ≤ 600 := by have := HLX.out; have := HLA.out; omega
    rw [← hp] at HVX ⊢
    have HPA := HPA11
    clear hp HPA11 HB2 HB1 HMA HFW HALL
    go_loopw [6, 24] (fun nv iv wr => ∃ i e : Nat, i ≤ p ∧ iv = .int .i64 (i : Int) ∧ nv = .int .i64 (e : Int) ∧ Hid (e = enI xs i) ∧ Hid (Below w.heap.size w wr) ∧ Hid (Sto wr pa Sa) ∧ Hid (FcsAt wr (.slice Bx p p) xs)) (fun _ i _ => (p - intOf i).toNat)
    case atStart => exact ⟨0, 0, by omega, rfl, rfl, hide rfl, HB, HPA, HVX⟩
    case round =>
      clear HB HPA HVX
      obtain ⟨i, e, hi, rfl, rfl, HE, HB, HPA, HVX⟩ := hrel
      by_cases hlt : i < p
      · have hd : decide ((i : Int) < (p : Int)) = true := by simp; omega
        have hd' : decide (i < p) = true := by simp; omega
        have kn : (i : Int) < (p : Int) := by omega
        have kl : i < xs.length := by have := HP.out; omega
        have hrd : Rd wr (.slice Bx p p) 3 p (fcCells xs) := by
          have h := HVX.out.1
          rwa [← HP.out] at h
        have hlk : xs[i]? = some xs[i] := List.getElem?_eq_getElem kl
        obtain ⟨b, o, rfl, hb8, e0, e1, e2⟩ := fc_at hrd hlk
        generalize xs[i] = f at e0 e1 e2 hlk
        have HS1 := hide (((St.init wr NoB).alloc #[.string (strOf f.name), .slice f.A f.ts.length f.c, .int .u32 f.o] 27).drew)
        have HB1 := hide (HB.out.trans (HS1.out.below.mono HB.out.size))
        have HP1 := hide (HPA.out.on HS1.out.below)
        have HV1 := hide (HVX.out.on HS1.out.below)
        have f0 := HS1.out.cell 0 rfl 0
        have f1 := HS1.out.cell 0 rfl 1
        have f2 := HS1.out.cell 0 rfl 2
        have HL := hide hlt
        clear hlt kl hrd
        by_cases hi0 : i = 0
        · have di : decide ((0 : Int) < (i : Int)) = false := by simp; omega
          have di' : decide (0 < i) = false := by simp; omega
          have hst : ∀ x, 0 < i → xs[i - 1]? = some x → keyF x ≠ keyF f := fun x h => by omega
          clear hi0
          have HNM := hide (fun W (h : Sto W pa Sa) => named18_any pa Sa f.name (f.ts.length : Int) W h (by have := HLA.out; omega))
          obtain ⟨hg1, hg2⟩ := endK_law HRX.out hlk hst
          obtain ⟨hg3, hg4⟩ := enI_new HRX.out hlk hst
          obtain ⟨t, ht⟩ : ∃ t, t = endK (keyF f) xs := ⟨_, rfl⟩
          rw [← ht] at hg1 hg2 hg4
          have htp : t ≤ p := by have h := plc_le (gE (keyF f)) xs; rw [HP.out, ht]; exact h
          have HGR := hide hg1
          have HEN := hide hg4
          have HIT := hide hg2
          obtain rfl : e = i := by have := HE.out; omega
          have HTP := hide htp
          clear ht htp hg1 hg2 hg3 hg4 hst hlk
          unfold Fc.val Fc.row at *
          go_wp2_with fail
          refine wp_region_T [(0, 1), (1, 1), (2, 1), (3, 1), (4, 1), (5, 1), (6, 1), (7, 1), (8, 1), (9, 0), (10, 1), (11, 1), (12, 0), (13, 1), (14, 1), (15, 1), (16, 1), (17, 1), (18, 1), (19, 1), (20, 1), (21, 1), (22, 0), (23, 1), (24, 1), (25, 1), (26, 0), (27, 1), (28, 1), (29, 1)] (by kernel_rfl) (by kernel_rfl) (fun _ _ _ _ h => h) ?_
          go_wp2_with (first
            | (go_at_call 23; (with_reducible refine (HNM.out _ HP1.out).mono ?_); rintro e2 w2 ⟨By, ys, rfl, hsh, hv, hb⟩; have HB2 := hide (HB1.out.trans (hb.mono HB1.out.size)); have HP2 := hide (HP1.out.on hb); have HV2 := hide (HV1.out.on hb); have HYS := hide hsh; have HVY := hide hv; clear hsh hv hb)
            | (refine wpT_nil ?_)   | ((with_reducible refine fromT_refl ?_); (try simp only [Act.put, List.setIfInBounds_toArray, List.set_cons_zero, List.set_cons_succ, List.getElem_toArray, List.getElem_cons_succ, List.getElem_cons_zero]))   | ((with_reducible refine fromT_mk (by assumption) ?_); (try simp only [Act.put, List.setIfInBounds_toArray, List.set_cons_zero, List.set_cons_succ, List.getElem_toArray, List.getElem_cons_succ, List.getElem_cons_zero]))   | (refine wpT_pure (v := ?_) rfl rfl ?_ ?_; rotate_left; (intro wx; go_simp; try go_bits) <;> (with_reducible rfl); (try simp only [Act.put, List.setIfInBounds_toArray, List.set_cons_zero, List.set_cons_succ, List.getElem_toArray, List.getElem_cons_succ, List.getElem_cons_zero]))   | (refine wpT_load (v := ?_) rfl rfl rfl ?_ ?_; rotate_left; (go_simp; try go_bits) <;> (with_reducible rfl); (try simp only [Act.put, List.setIfInBounds_toArray, List.set_cons_zero, List.set_cons_succ, List.getElem_toArray, List.getElem_cons_succ, List.getElem_cons_zero]))   | (refine wpT_read (v := ?_) rfl rfl ?_ ?_; rotate_left; (intro wx hx; go_simp; try go_bits) <;> (with_reducible rfl); (try simp only [Act.put, List.setIfInBounds_toArray, List.set_cons_zero, List.set_cons_succ, List.getElem_toArray, List.getElem_cons_succ, List.getElem_cons_zero]))   | (refine wpT_call rfl rfl ?_; intro K hK)   | (refine wpT_late rfl rfl ?_; intro K hK)   | (refine wpT_any rfl rfl ?_; intro K hK)   | (refine wpT_skip rfl rfl ?_; (try simp only [Act.put, List.setIfInBounds_toArray, List.set_cons_zero, List.set_cons_succ, List.getElem_toArray, List.getElem_cons_succ, List.getElem_cons_zero])))
          obtain ⟨m, hm⟩ : ∃ m, m = ys.length := ⟨_, rfl⟩
          have HYX := hide (show ys.map shF = ((xs.drop e).take (t - e)).map shF by rw [HYS.out, ← HGR.out]; exact namF_sh _ _ HSX.out)
          have hmt : m = t - e := by
            have h := congrArg List.length HYX.out
            rw [List.length_map, List.length_map, List.length_take, List.length_drop] at h
            have := HP.out
            have := HTP.out
            omega
          have HMT := hide hmt
          have HM := hide hm
          rw [← hm] at HVY ⊢
          clear hm hmt HYS HGR HNM
          go_loopw [6, 69] (fun nv kv wr => ∃ k : Nat, k ≤ m ∧ kv = .int .i64 (k : Int) ∧ nv = .int .i64 ((e + k : Nat) : Int) ∧ Hid (Below w.heap.size w wr) ∧ Hid (Sto wr pa Sa) ∧ Hid (FcsAt wr (.slice (some ⟨b, o, none⟩) p p) xs) ∧ Hid (FcsAt wr (.slice By m m) ys)) (fun _ k _ => (m - intOf k).toNat)
          case atStart => exact ⟨0, by omega, rfl, rfl, HB2, HP2, HV2, HVY⟩
          case round =>
            clear HB2 HP2 HV2 HVY
            obtain ⟨k, hk, rfl, rfl, HB2, HP2, HV2, HVY⟩ := hrel
            by_cases hkm : k < m
            · have kd : decide ((k : Int) < (m : Int)) = true := by simp; omega
              have kd' : decide (k < m) = true := by simp; omega
              have km : (k : Int) < (m : Int) := by omega
              have ekp : e + k < p := by have := HMT.out; have := HTP.out; omega
              have ekl : (e : Int) + (k : Int) < (p : Int) := by omega
              have ek0 : (0 : Int) ≤ (e : Int) + (k : Int) := by omega
              have et : ((e : Int) + (k : Int)).toNat = e + k := by omega
              have edl : decide ((p : Int) ≤ (e : Int) + (k : Int)) = false := by simp; omega
              have edl' : decide (p ≤ e + k) = false := by simp; omega
              have kl : k < ys.length := by have := HM.out; omega
              have xl : e + k < xs.length := by have := HP.out; omega
              have hyk : Rd wr (.slice By m m) 3 m (fcCells ys) := by
                have h := HVY.out.1
                rwa [← HM.out] at h
              obtain ⟨b3, o3, rfl, hb3, y0, y1, y2⟩ := fc_at hyk (List.getElem?_eq_getElem kl)
              have HZ := hide (show cmpF xs[e + k] ys[k] = 0 by
                have h1 : (ys.map shF)[k]? = some (shF ys[k]) := by rw [List.getElem?_map, List.getElem?_eq_getElem kl]; rfl
                rw [HYX.out, List.getElem?_map, List.getElem?_take_of_lt (by have := HMT.out; omega), List.getElem?_drop, List.getElem?_eq_getElem xl] at h1
                have h2 : shF xs[e + k] = shF ys[k] := by injection h1
                rw [cmpF_like (f := xs[e + k]) (f' := xs[e + k]) (g := ys[k]) (g' := xs[e + k]) rfl h2.symm]
                exact cmpF_ord.self _)
              have HOG := hide (HVY.out.2 _ (List.getElem_mem kl))
              have HOY := hide (HV2.out.2 _ (List.getElem_mem xl))
              have hlx := List.getElem?_eq_getElem xl
              generalize ys[k] = g at y0 y1 y2 HZ HOG
              generalize xs[e + k] = y at HZ HOY hlx
              have HS4 := hide (((St.init wr NoB).alloc #[.string (strOf g.name), .slice g.A g.ts.length g.c, .int .u32 g.o] 27).drew)
              have HB4 := hide (HB2.out.trans (HS4.out.below.mono HB2.out.size))
              have HP4 := hide (HP2.out.on HS4.out.below)
              have HV4 := hide (HV2.out.on HS4.out.below)
              have HY4 := hide (HVY.out.on HS4.out.below)
              have hrx := HV4.out.1
              rw [← HP.out] at hrx
              obtain ⟨b4, o4, e4, hb4, z0, z1, z2⟩ := fc_at hrx hlx
              injection e4 with e4
              injection e4 with e4a e4b
              subst e4a e4b
              have HC := hide (cmpFc_any y g _ (HOY.out.on HS4.out.below) (HOG.out.on HS4.out.below))
              rw [HZ.out] at HC
              have g0 := HS4.out.cell 0 rfl 0
              have g1 := HS4.out.cell 0 rfl 1
              have g2 := HS4.out.cell 0 rfl 2
              have HKM := hide hkm
              clear hkm kl xl hlx hrx hyk
              unfold Fc.val Fc.row at HC
              unfold Fc.row at y1 z1
              go_wp2_with fail
              refine wp_region_T [(0, 1), (1, 1), (2, 1), (3, 1), (4, 1), (5, 1), (6, 1), (7, 1), (8, 1), (9, 1), (10, 1), (11, 1), (12, 0), (13, 0), (14, 2), (15, 1), (16, 1)] (by kernel_rfl) (by kernel_rfl) (fun _ _ _ _ h => h) ?_
              go_wp2_with (first
                | (go_at_call 11; (with_reducible refine HC.out.mono ?_); rintro e5 w5 ⟨rfl, hb⟩; have HB5 := hide (HB4.out.trans (hb.mono HB4.out.size)); have HP5 := hide (HP4.out.on hb); have HV5 := hide (HV4.out.on hb); have HY5 := hide (HY4.out.on hb))
                | (refine wpT_nil ?_)   | ((with_reducible refine fromT_refl ?_); (try simp only [Act.put, List.setIfInBounds_toArray, List.set_cons_zero, List.set_cons_succ, List.getElem_toArray, List.getElem_cons_succ, List.getElem_cons_zero]))   | ((with_reducible refine fromT_mk (by assumption) ?_); (try simp only [Act.put, List.setIfInBounds_toArray, List.set_cons_zero, List.set_cons_succ, List.getElem_toArray, List.getElem_cons_succ, List.getElem_cons_zero]))   | (refine wpT_pure (v := ?_) rfl rfl ?_ ?_; rotate_left; (intro wx; go_simp; try go_bits) <;> (with_reducible rfl); (try simp only [Act.put, List.setIfInBounds_toArray, List.set_cons_zero, List.set_cons_succ, List.getElem_toArray, List.getElem_cons_succ, List.getElem_cons_zero]))   | (refine wpT_load (v := ?_) rfl rfl rfl ?_ ?_; rotate_left; (go_simp; try go_bits) <;> (with_reducible rfl); (try simp only [Act.put, List.setIfInBounds_toArray, List.set_cons_zero, List.set_cons_succ, List.getElem_toArray, List.getElem_cons_succ, List.getElem_cons_zero]))   | (refine wpT_read (v := ?_) rfl rfl ?_ ?_; rotate_left; (intro wx hx; go_simp; try go_bits) <;> (with_reducible rfl); (try simp only [Act.put, List.setIfInBounds_toArray, List.set_cons_zero, List.set_cons_succ, List.getElem_toArray, List.getElem_cons_succ, List.getElem_cons_zero]))   | (refine wpT_call rfl rfl ?_; intro K hK)   | (refine wpT_late rfl rfl ?_; intro K hK)   | (refine wpT_any rfl rfl ?_; intro K hK)   | (refine wpT_skip rfl rfl ?_; (try simp only [Act.put, List.setIfInBounds_toArray, List.set_cons_zero, List.set_cons_succ, List.getElem_toArray, List.getElem_cons_succ, List.getElem_cons_zero])))
              go_roundw
              case rel => exact ⟨k + 1, by have := HKM.out; omega, by go_num, by go_num, HB5, HP5, HV5, HY5⟩
              case measure => (have := HKM.out); (simp [intOf]) <;> omega
            · obtain rfl : k = m := by omega
              have kd : decide ((k : Int) < (k : Int)) = false := by simp
              have kd' : decide (k < k) = false := by simp
              go_wp2_with fail
              go_roundw
              case rel => exact ⟨e + 1, t, by have := HL.out; omega, by go_num, (by have := HMT.out; have := HIT.out; rw [show e + k = t by omega]), hide HEN.out.symm, HB2, HP2, HV2⟩
              case measure => (have := HL.out); (simp [intOf]) <;> omega
        · have di : decide ((0 : Int) < (i : Int)) = true := by simp; omega
          have di' : decide (0 < i) = true := by simp; omega
          have ek : (i : Int) - 1 = ((i - 1 : Nat) : Int) := by omega
          have kp : ((i - 1 : Nat) : Int) < (p : Int) := by have := HL.out; omega
          have kp' : i - 1 < p := by have := HL.out; omega
          have kl : i - 1 < xs.length := by have := HP.out; omega
          have hlx : xs[i - 1]? = some xs[i - 1] := List.getElem?_eq_getElem kl
          have hrx := HV1.out.1
          rw [← HP.out] at hrx
          obtain ⟨b', o', e', _, x0, x1, x2⟩ := fc_at hrx hlx
          injection e' with e'
          injection e' with e1' e2'
          subst e1' e2'
          have hip : 0 < i := by omega
          generalize xs[i - 1] = x at x0 x1 x2 hlx
          clear hrx kl hi0
          unfold Fc.row at x1
          by_cases hnm : x.name = f.name
          · by_cases hln : x.ts.length = f.ts.length
            · have q1 : (x.name == f.name) = true := by simp [hnm]
              have q2 : ((x.ts.length : Int) == (f.ts.length : Int)) = true := by simp [hln]
              have HE2 := hide (show e = enI xs (i + 1) by rw [HE.out]; exact (enI_same hip hlx hlk (by unfold keyF; rw [hnm, hln])).symm)
              clear hnm hln hlx hlk
              unfold Fc.val Fc.row at *
              go_wp2_with fail
              refine wp_region_T [(0, 1), (1, 1), (2, 1), (3, 1), (4, 1), (5, 1), (6, 1), (7, 1), (8, 1), (9, 0), (10, 1), (11, 1), (12, 0), (13, 1), (14, 1), (15, 1), (16, 1), (17, 1), (18, 1), (19, 1), (20, 1), (21, 1), (22, 0), (23, 1), (24, 1), (25, 1), (26, 0), (27, 1), (28, 1), (29, 1)] (by kernel_rfl) (by kernel_rfl) (fun _ _ _ _ h => h) ?_
              go_wp2_with (first
                | (refine wpT_nil ?_)   | ((with_reducible refine fromT_refl ?_); (try simp only [Act.put, List.setIfInBounds_toArray, List.set_cons_zero, List.set_cons_succ, List.getElem_toArray, List.getElem_cons_succ, List.getElem_cons_zero]))   | ((with_reducible refine fromT_mk (by assumption) ?_); (try simp only [Act.put, List.setIfInBounds_toArray, List.set_cons_zero, List.set_cons_succ, List.getElem_toArray, List.getElem_cons_succ, List.getElem_cons_zero]))   | (refine wpT_pure (v := ?_) rfl rfl ?_ ?_; rotate_left; (intro wx; go_simp; try go_bits) <;> (with_reducible rfl); (try simp only [Act.put, List.setIfInBounds_toArray, List.set_cons_zero, List.set_cons_succ, List.getElem_toArray, List.getElem_cons_succ, List.getElem_cons_zero]))   | (refine wpT_load (v := ?_) rfl rfl rfl ?_ ?_; rotate_left; (go_simp; try go_bits) <;> (with_reducible rfl); (try simp only [Act.put, List.setIfInBounds_toArray, List.set_cons_zero, List.set_cons_succ, List.getElem_toArray, List.getElem_cons_succ, List.getElem_cons_zero]))   | (refine wpT_read (v := ?_) rfl rfl ?_ ?_; rotate_left; (intro wx hx; go_simp; try go_bits) <;> (with_reducible rfl); (try simp only [Act.put, List.setIfInBounds_toArray, List.set_cons_zero, List.set_cons_succ, List.getElem_toArray, List.getElem_cons_succ, List.getElem_cons_zero]))   | (refine wpT_call rfl rfl ?_; intro K hK)   | (refine wpT_late rfl rfl ?_; intro K hK)   | (refine wpT_any rfl rfl ?_; intro K hK)   | (refine wpT_skip rfl rfl ?_; (try simp only [Act.put, List.setIfInBounds_toArray, List.set_cons_zero, List.set_cons_succ, List.getElem_toArray, List.getElem_cons_succ, List.getElem_cons_zero])))
              go_roundw
              case rel => exact ⟨i + 1, e, by have := HL.out; omega, by go_num, rfl, HE2, HB1, HP1, HV1⟩
              case measure => (have := HL.out); (simp [intOf]) <;> omega
            · have q1 : (x.name == f.name) = true := by simp [hnm]
              have q2 : ((x.ts.length : Int) == (f.ts.length : Int)) = false := by simp; omega
              have hst : ∀ y, 0 < i → xs[i - 1]? = some y → keyF y ≠ keyF f := fun y _ hy hk => by
                rw [hlx] at hy
                injection hy with hy
                rw [← hy] at hk
                unfold keyF at hk
                injection hk with _ hk
                omega
              clear hnm hln hlx
              have HNM := hide (fun W (h : Sto W pa Sa) => named18_any pa Sa f.name (f.ts.length : Int) W h (by have := HLA.out; omega))
              obtain ⟨hg1, hg2⟩ := endK_law HRX.out hlk hst
              obtain ⟨hg3, hg4⟩ := enI_new HRX.out hlk hst
              obtain ⟨t, ht⟩ : ∃ t, t = endK (keyF f) xs := ⟨_, rfl⟩
              rw [← ht] at hg1 hg2 hg4
              have htp : t ≤ p := by have h := plc_le (gE (keyF f)) xs; rw [HP.out, ht]; exact h
              have HGR := hide hg1
              have HEN := hide hg4
              have HIT := hide hg2
              obtain rfl : e = i := by have := HE.out; omega
              have HTP := hide htp
              clear ht htp hg1 hg2 hg3 hg4 hst hlk
              unfold Fc.val Fc.row at *
              go_wp2_with fail
              refine wp_region_T [(0, 1), (1, 1), (2, 1), (3, 1), (4, 1), (5, 1), (6, 1), (7, 1), (8, 1), (9, 0), (10, 1), (11, 1), (12, 0), (13, 1), (14, 1), (15, 1), (16, 1), (17, 1), (18, 1), (19, 1), (20, 1), (21, 1), (22, 0), (23, 1), (24, 1), (25, 1), (26, 0), (27, 1), (28, 1), (29, 1)] (by kernel_rfl) (by kernel_rfl) (fun _ _ _ _ h => h) ?_
              go_wp2_with (first
                | (go_at_call 23; (with_reducible refine (HNM.out _ HP1.out).mono ?_); rintro e2 w2 ⟨By, ys, rfl, hsh, hv, hb⟩; have HB2 := hide (HB1.out.trans (hb.mono HB1.out.size)); have HP2 := hide (HP1.out.on hb); have HV2 := hide (HV1.out.on hb); have HYS := hide hsh; have HVY := hide hv; clear hsh hv hb)
                | (refine wpT_nil ?_)   | ((with_reducible refine fromT_refl ?_); (try simp only [Act.put, List.setIfInBounds_toArray, List.set_cons_zero, List.set_cons_succ, List.getElem_toArray, List.getElem_cons_succ, List.getElem_cons_zero]))   | ((with_reducible refine fromT_mk (by assumption) ?_); (try simp only [Act.put, List.setIfInBounds_toArray, List.set_cons_zero, List.set_cons_succ, List.getElem_toArray, List.getElem_cons_succ, List.getElem_cons_zero]))   | (refine wpT_pure (v := ?_) rfl rfl ?_ ?_; rotate_left; (intro wx; go_simp; try go_bits) <;> (with_reducible rfl); (try simp only [Act.put, List.setIfInBounds_toArray, List.set_cons_zero, List.set_cons_succ, List.getElem_toArray, List.getElem_cons_succ, List.getElem_cons_zero]))   | (refine wpT_load (v := ?_) rfl rfl rfl ?_ ?_; rotate_left; (go_simp; try go_bits) <;> (with_reducible rfl); (try simp only [Act.put, List.setIfInBounds_toArray, List.set_cons_zero, List.set_cons_succ, List.getElem_toArray, List.getElem_cons_succ, List.getElem_cons_zero]))   | (refine wpT_read (v := ?_) rfl rfl ?_ ?_; rotate_left; (intro wx hx; go_simp; try go_bits) <;> (with_reducible rfl); (try simp only [Act.put, List.setIfInBounds_toArray, List.set_cons_zero, List.set_cons_succ, List.getElem_toArray, List.getElem_cons_succ, List.getElem_cons_zero]))   | (refine wpT_call rfl rfl ?_; intro K hK)   | (refine wpT_late rfl rfl ?_; intro K hK)   | (refine wpT_any rfl rfl ?_; intro K hK)   | (refine wpT_skip rfl rfl ?_; (try simp only [Act.put, List.setIfInBounds_toArray, List.set_cons_zero, List.set_cons_succ, List.getElem_toArray, List.getElem_cons_succ, List.getElem_cons_zero])))
              obtain ⟨m, hm⟩ : ∃ m, m = ys.length := ⟨_, rfl⟩
              have HYX := hide (show ys.map shF = ((xs.drop e).take (t - e)).map shF by rw [HYS.out, ← HGR.out]; exact namF_sh _ _ HSX.out)
              have hmt : m = t - e := by
                have h := congrArg List.length HYX.out
                rw [List.length_map, List.length_map, List.length_take, List.length_drop] at h
                have := HP.out
                have := HTP.out
                omega
              have HMT := hide hmt
              have HM := hide hm
              rw [← hm] at HVY ⊢
              clear hm hmt HYS HGR HNM
              go_loopw [6, 69] (fun nv kv wr => ∃ k : Nat, k ≤ m ∧ kv = .int .i64 (k : Int) ∧ nv = .int .i64 ((e + k : Nat) : Int) ∧ Hid (Below w.heap.size w wr) ∧ Hid (Sto wr pa Sa) ∧ Hid (FcsAt wr (.slice (some ⟨b, o, none⟩) p p) xs) ∧ Hid (FcsAt wr (.slice By m m) ys)) (fun _ k _ => (m - intOf k).toNat)
              case atStart => exact ⟨0, by omega, rfl, rfl, HB2, HP2, HV2, HVY⟩
              case round =>
                clear HB2 HP2 HV2 HVY
                obtain ⟨k, hk, rfl, rfl, HB2, HP2, HV2, HVY⟩ := hrel
                by_cases hkm : k < m
                · have kd : decide ((k : Int) < (m : Int)) = true := by simp; omega
                  have kd' : decide (k < m) = true := by simp; omega
                  have km : (k : Int) < (m : Int) := by omega
                  have ekp : e + k < p := by have := HMT.out; have := HTP.out; omega
                  have ekl : (e : Int) + (k : Int) < (p : Int) := by omega
                  have ek0 : (0 : Int) ≤ (e : Int) + (k : Int) := by omega
                  have et : ((e : Int) + (k : Int)).toNat = e + k := by omega
                  have edl : decide ((p : Int) ≤ (e : Int) + (k : Int)) = false := by simp; omega
                  have edl' : decide (p ≤ e + k) = false := by simp; omega
                  have kl : k < ys.length := by have := HM.out; omega
                  have xl : e + k < xs.length := by have := HP.out; omega
                  have hyk : Rd wr (.slice By m m) 3 m (fcCells ys) := by
                    have h := HVY.out.1
                    rwa [← HM.out] at h
                  obtain ⟨b3, o3, rfl, hb3, y0, y1, y2⟩ := fc_at hyk (List.getElem?_eq_getElem kl)
                  have HZ := hide (show cmpF xs[e + k] ys[k] = 0 by
                    have h1 : (ys.map shF)[k]? = some (shF ys[k]) := by rw [List.getElem?_map, List.getElem?_eq_getElem kl]; rfl
                    rw [HYX.out, List.getElem?_map, List.getElem?_take_of_lt (by have := HMT.out; omega), List.getElem?_drop, List.getElem?_eq_getElem xl] at h1
                    have h2 : shF xs[e + k] = shF ys[k] := by injection h1
                    rw [cmpF_like (f := xs[e + k]) (f' := xs[e + k]) (g := ys[k]) (g' := xs[e + k]) rfl h2.symm]
                    exact cmpF_ord.self _)
                  have HOG := hide (HVY.out.2 _ (List.getElem_mem kl))
                  have HOY := hide (HV2.out.2 _ (List.getElem_mem xl))
                  have hlx := List.getElem?_eq_getElem xl
                  generalize ys[k] = g at y0 y1 y2 HZ HOG
                  generalize xs[e + k] = y at HZ HOY hlx
                  have HS4 := hide (((St.init wr NoB).alloc #[.string (strOf g.name), .slice g.A g.ts.length g.c, .int .u32 g.o] 27).drew)
                  have HB4 := hide (HB2.out.trans (HS4.out.below.mono HB2.out.size))
                  have HP4 := hide (HP2.out.on HS4.out.below)
                  have HV4 := hide (HV2.out.on HS4.out.below)
                  have HY4 := hide (HVY.out.on HS4.out.below)
                  have hrx := HV4.out.1
                  rw [← HP.out] at hrx
                  obtain ⟨b4, o4, e4, hb4, z0, z1, z2⟩ := fc_at hrx hlx
                  injection e4 with e4
                  injection e4 with e4a e4b
                  subst e4a e4b
                  have HC := hide (cmpFc_any y g _ (HOY.out.on HS4.out.below) (HOG.out.on HS4.out.below))
                  rw [HZ.out] at HC
                  have g0 := HS4.out.cell 0 rfl 0
                  have g1 := HS4.out.cell 0 rfl 1
                  have g2 := HS4.out.cell 0 rfl 2
                  have HKM := hide hkm
                  clear hkm kl xl hlx hrx hyk
                  unfold Fc.val Fc.row at HC
                  unfold Fc.row at y1 z1
                  go_wp2_with fail
                  refine wp_region_T [(0, 1), (1, 1), (2, 1), (3, 1), (4, 1), (5, 1), (6, 1), (7, 1), (8, 1), (9, 1), (10, 1), (11, 1), (12, 0), (13, 0), (14, 2), (15, 1), (16, 1)] (by kernel_rfl) (by kernel_rfl) (fun _ _ _ _ h => h) ?_
                  go_wp2_with (first
                    | (go_at_call 11; (with_reducible refine HC.out.mono ?_); rintro e5 w5 ⟨rfl, hb⟩; have HB5 := hide (HB4.out.trans (hb.mono HB4.out.size)); have HP5 := hide (HP4.out.on hb); have HV5 := hide (HV4.out.on hb); have HY5 := hide (HY4.out.on hb))
                    | (refine wpT_nil ?_)   | ((with_reducible refine fromT_refl ?_); (try simp only [Act.put, List.setIfInBounds_toArray, List.set_cons_zero, List.set_cons_succ, List.getElem_toArray, List.getElem_cons_succ, List.getElem_cons_zero]))   | ((with_reducible refine fromT_mk (by assumption) ?_); (try simp only [Act.put, List.setIfInBounds_toArray, List.set_cons_zero, List.set_cons_succ, List.getElem_toArray, List.getElem_cons_succ, List.getElem_cons_zero]))   | (refine wpT_pure (v := ?_) rfl rfl ?_ ?_; rotate_left; (intro wx; go_simp; try go_bits) <;> (with_reducible rfl); (try simp only [Act.put, List.setIfInBounds_toArray, List.set_cons_zero, List.set_cons_succ, List.getElem_toArray, List.getElem_cons_succ, List.getElem_cons_zero]))   | (refine wpT_load (v := ?_) rfl rfl rfl ?_ ?_; rotate_left; (go_simp; try go_bits) <;> (with_reducible rfl); (try simp only [Act.put, List.setIfInBounds_toArray, List.set_cons_zero, List.set_cons_succ, List.getElem_toArray, List.getElem_cons_succ, List.getElem_cons_zero]))   | (refine wpT_read (v := ?_) rfl rfl ?_ ?_; rotate_left; (intro wx hx; go_simp; try go_bits) <;> (with_reducible rfl); (try simp only [Act.put, List.setIfInBounds_toArray, List.set_cons_zero, List.set_cons_succ, List.getElem_toArray, List.getElem_cons_succ, List.getElem_cons_zero]))   | (refine wpT_call rfl rfl ?_; intro K hK)   | (refine wpT_late rfl rfl ?_; intro K hK)   | (refine wpT_any rfl rfl ?_; intro K hK)   | (refine wpT_skip rfl rfl ?_; (try simp only [Act.put, List.setIfInBounds_toArray, List.set_cons_zero, List.set_cons_succ, List.getElem_toArray, List.getElem_cons_succ, List.getElem_cons_zero])))
                  go_roundw
                  case rel => exact ⟨k + 1, by have := HKM.out; omega, by go_num, by go_num, HB5, HP5, HV5, HY5⟩
                  case measure => (have := HKM.out); (simp [intOf]) <;> omega
                · obtain rfl : k = m := by omega
                  have kd : decide ((k : Int) < (k : Int)) = false := by simp
                  have kd' : decide (k < k) = false := by simp
                  go_wp2_with fail
                  go_roundw
                  case rel => exact ⟨e + 1, t, by have := HL.out; omega, by go_num, (by have := HMT.out; have := HIT.out; rw [show e + k = t by omega]), hide HEN.out.symm, HB2, HP2, HV2⟩
                  case measure => (have := HL.out); (simp [intOf]) <;> omega
          · have q1 : (x.name == f.name) = false := by simp [hnm]
            have hst : ∀ y, 0 < i → xs[i - 1]? = some y → keyF y ≠ keyF f := fun y _ hy hk => by
              rw [hlx] at hy
              injection hy with hy
              rw [← hy] at hk
              unfold keyF at hk
              injection hk with hk _
              exact hnm hk
            clear hnm hlx
            have HNM := hide (fun W (h : Sto W pa Sa) => named18_any pa Sa f.name (f.ts.length : Int) W h (by have := HLA.out; omega))
            obtain ⟨hg1, hg2⟩ := endK_law HRX.out hlk hst
            obtain ⟨hg3, hg4⟩ := enI_new HRX.out hlk hst
            obtain ⟨t, ht⟩ : ∃ t, t = endK (keyF f) xs := ⟨_, rfl⟩
            rw [← ht] at hg1 hg2 hg4
            have htp : t ≤ p := by have h := plc_le (gE (keyF f)) xs; rw [HP.out, ht]; exact h
            have HGR := hide hg1
            have HEN := hide hg4
            have HIT := hide hg2
            obtain rfl : e = i := by have := HE.out; omega
            have HTP := hide htp
            clear ht htp hg1 hg2 hg3 hg4 hst hlk
            unfold Fc.val Fc.row at *
            go_wp2_with fail
            refine wp_region_T [(0, 1), (1, 1), (2, 1), (3, 1), (4, 1), (5, 1), (6, 1), (7, 1), (8, 1), (9, 0), (10, 1), (11, 1), (12, 0), (13, 1), (14, 1), (15, 1), (16, 1), (17, 1), (18, 1), (19, 1), (20, 1), (21, 1), (22, 0), (23, 1), (24, 1), (25, 1), (26, 0), (27, 1), (28, 1), (29, 1)] (by kernel_rfl) (by kernel_rfl) (fun _ _ _ _ h => h) ?_
            go_wp2_with (first
              | (go_at_call 23; (with_reducible refine (HNM.out _ HP1.out).mono ?_); rintro e2 w2 ⟨By, ys, rfl, hsh, hv, hb⟩; have HB2 := hide (HB1.out.trans (hb.mono HB1.out.size)); have HP2 := hide (HP1.out.on hb); have HV2 := hide (HV1.out.on hb); have HYS := hide hsh; have HVY := hide hv; clear hsh hv hb)
              | (refine wpT_nil ?_)   | ((with_reducible refine fromT_refl ?_); (try simp only [Act.put, List.setIfInBounds_toArray, List.set_cons_zero, List.set_cons_succ, List.getElem_toArray, List.getElem_cons_succ, List.getElem_cons_zero]))   | ((with_reducible refine fromT_mk (by assumption) ?_); (try simp only [Act.put, List.setIfInBounds_toArray, List.set_cons_zero, List.set_cons_succ, List.getElem_toArray, List.getElem_cons_succ, List.getElem_cons_zero]))   | (refine wpT_pure (v := ?_) rfl rfl ?_ ?_; rotate_left; (intro wx; go_simp; try go_bits) <;> (with_reducible rfl); (try simp only [Act.put, List.setIfInBounds_toArray, List.set_cons_zero, List.set_cons_succ, List.getElem_toArray, List.getElem_cons_succ, List.getElem_cons_zero]))   | (refine wpT_load (v := ?_) rfl rfl rfl ?_ ?_; rotate_left; (go_simp; try go_bits) <;> (with_reducible rfl); (try simp only [Act.put, List.setIfInBounds_toArray, List.set_cons_zero, List.set_cons_succ, List.getElem_toArray, List.getElem_cons_succ, List.getElem_cons_zero]))   | (refine wpT_read (v := ?_) rfl rfl ?_ ?_; rotate_left; (intro wx hx; go_simp; try go_bits) <;> (with_reducible rfl); (try simp only [Act.put, List.setIfInBounds_toArray, List.set_cons_zero, List.set_cons_succ, List.getElem_toArray, List.getElem_cons_succ, List.getElem_cons_zero]))   | (refine wpT_call rfl rfl ?_; intro K hK)   | (refine wpT_late rfl rfl ?_; intro K hK)   | (refine wpT_any rfl rfl ?_; intro K hK)   | (refine wpT_skip rfl rfl ?_; (try simp only [Act.put, List.setIfInBounds_toArray, List.set_cons_zero, List.set_cons_succ, List.getElem_toArray, List.getElem_cons_succ, List.getElem_cons_zero])))
            obtain ⟨m, hm⟩ : ∃ m, m = ys.length := ⟨_, rfl⟩
            have HYX := hide (show ys.map shF = ((xs.drop e).take (t - e)).map shF by rw [HYS.out, ← HGR.out]; exact namF_sh _ _ HSX.out)
            have hmt : m = t - e := by
              have h := congrArg List.length HYX.out
              rw [List.length_map, List.length_map, List.length_take, List.length_drop] at h
              have := HP.out
              have := HTP.out
              omega
            have HMT := hide hmt
            have HM := hide hm
            rw [← hm] at HVY ⊢
            clear hm hmt HYS HGR HNM
            go_loopw [6, 69] (fun nv kv wr => ∃ k : Nat, k ≤ m ∧ kv = .int .i64 (k : Int) ∧ nv = .int .i64 ((e + k : Nat) : Int) ∧ Hid (Below w.heap.size w wr) ∧ Hid (Sto wr pa Sa) ∧ Hid (FcsAt wr (.slice (some ⟨b, o, none⟩) p p) xs) ∧ Hid (FcsAt wr (.slice By m m) ys)) (fun _ k _ => (m - intOf k).toNat)
            case atStart => exact ⟨0, by omega, rfl, rfl, HB2, HP2, HV2, HVY⟩
            case round =>
              clear HB2 HP2 HV2 HVY
              obtain ⟨k, hk, rfl, rfl, HB2, HP2, HV2, HVY⟩ := hrel
              by_cases hkm : k < m
              · have kd : decide ((k : Int) < (m : Int)) = true := by simp; omega
                have kd' : decide (k < m) = true := by simp; omega
                have km : (k : Int) < (m : Int) := by omega
                have ekp : e + k < p := by have := HMT.out; have := HTP.out; omega
                have ekl : (e : Int) + (k : Int) < (p : Int) := by omega
                have ek0 : (0 : Int) ≤ (e : Int) + (k : Int) := by omega
                have et : ((e : Int) + (k : Int)).toNat = e + k := by omega
                have edl : decide ((p : Int) ≤ (e : Int) + (k : Int)) = false := by simp; omega
                have edl' : decide (p ≤ e + k) = false := by simp; omega
                have kl : k < ys.length := by have := HM.out; omega
                have xl : e + k < xs.length := by have := HP.out; omega
                have hyk : Rd wr (.slice By m m) 3 m (fcCells ys) := by
                  have h := HVY.out.1
                  rwa [← HM.out] at h
                obtain ⟨b3, o3, rfl, hb3, y0, y1, y2⟩ := fc_at hyk (List.getElem?_eq_getElem kl)
                have HZ := hide (show cmpF xs[e + k] ys[k] = 0 by
                  have h1 : (ys.map shF)[k]? = some (shF ys[k]) := by rw [List.getElem?_map, List.getElem?_eq_getElem kl]; rfl
                  rw [HYX.out, List.getElem?_map, List.getElem?_take_of_lt (by have := HMT.out; omega), List.getElem?_drop, List.getElem?_eq_getElem xl] at h1
                  have h2 : shF xs[e + k] = shF ys[k] := by injection h1
                  rw [cmpF_like (f := xs[e + k]) (f' := xs[e + k]) (g := ys[k]) (g' := xs[e + k]) rfl h2.symm]
                  exact cmpF_ord.self _)
                have HOG := hide (HVY.out.2 _ (List.getElem_mem kl))
                have HOY := hide (HV2.out.2 _ (List.getElem_mem xl))
                have hlx := List.getElem?_eq_getElem xl
                generalize ys[k] = g at y0 y1 y2 HZ HOG
                generalize xs[e + k] = y at HZ HOY hlx
                have HS4 := hide (((St.init wr NoB).alloc #[.string (strOf g.name), .slice g.A g.ts.length g.c, .int .u32 g.o] 27).drew)
                have HB4 := hide (HB2.out.trans (HS4.out.below.mono HB2.out.size))
                have HP4 := hide (HP2.out.on HS4.out.below)
                have HV4 := hide (HV2.out.on HS4.out.below)
                have HY4 := hide (HVY.out.on HS4.out.below)
                have hrx := HV4.out.1
                rw [← HP.out] at hrx
                obtain ⟨b4, o4, e4, hb4, z0, z1, z2⟩ := fc_at hrx hlx
                injection e4 with e4
                injection e4 with e4a e4b
                subst e4a e4b
                have HC := hide (cmpFc_any y g _ (HOY.out.on HS4.out.below) (HOG.out.on HS4.out.below))
                rw [HZ.out] at HC
                have g0 := HS4.out.cell 0 rfl 0
                have g1 := HS4.out.cell 0 rfl 1
                have g2 := HS4.out.cell 0 rfl 2
                have HKM := hide hkm
                clear hkm kl xl hlx hrx hyk
                unfold Fc.val Fc.row at HC
                unfold Fc.row at y1 z1
                go_wp2_with fail
                refine wp_region_T [(0, 1), (1, 1), (2, 1), (3, 1), (4, 1), (5, 1), (6, 1), (7, 1), (8, 1), (9, 1), (10, 1), (11, 1), (12, 0), (13, 0), (14, 2), (15, 1), (16, 1)] (by kernel_rfl) (by kernel_rfl) (fun _ _ _ _ h => h) ?_
                go_wp2_with (first
                  | (go_at_call 11; (with_reducible refine HC.out.mono ?_); rintro e5 w5 ⟨rfl, hb⟩; have HB5 := hide (HB4.out.trans (hb.mono HB4.out.size)); have HP5 := hide (HP4.out.on hb); have HV5 := hide (HV4.out.on hb); have HY5 := hide (HY4.out.on hb))
                  | (refine wpT_nil ?_)   | ((with_reducible refine fromT_refl ?_); (try simp only [Act.put, List.setIfInBounds_toArray, List.set_cons_zero, List.set_cons_succ, List.getElem_toArray, List.getElem_cons_succ, List.getElem_cons_zero]))   | ((with_reducible refine fromT_mk (by assumption) ?_); (try simp only [Act.put, List.setIfInBounds_toArray, List.set_cons_zero, List.set_cons_succ, List.getElem_toArray, List.getElem_cons_succ, List.getElem_cons_zero]))   | (refine wpT_pure (v := ?_) rfl rfl ?_ ?_; rotate_left; (intro wx; go_simp; try go_bits) <;> (with_reducible rfl); (try simp only [Act.put, List.setIfInBounds_toArray, List.set_cons_zero, List.set_cons_succ, List.getElem_toArray, List.getElem_cons_succ, List.getElem_cons_zero]))   | (refine wpT_load (v := ?_) rfl rfl rfl ?_ ?_; rotate_left; (go_simp; try go_bits) <;> (with_reducible rfl); (try simp only [Act.put, List.setIfInBounds_toArray, List.set_cons_zero, List.set_cons_succ, List.getElem_toArray, List.getElem_cons_succ, List.getElem_cons_zero]))   | (refine wpT_read (v := ?_) rfl rfl ?_ ?_; rotate_left; (intro wx hx; go_simp; try go_bits) <;> (with_reducible rfl); (try simp only [Act.put, List.setIfInBounds_toArray, List.set_cons_zero, List.set_cons_succ, List.getElem_toArray, List.getElem_cons_succ, List.getElem_cons_zero]))   | (refine wpT_call rfl rfl ?_; intro K hK)   | (refine wpT_late rfl rfl ?_; intro K hK)   | (refine wpT_any rfl rfl ?_; intro K hK)   | (refine wpT_skip rfl rfl ?_; (try simp only [Act.put, List.setIfInBounds_toArray, List.set_cons_zero, List.set_cons_succ, List.getElem_toArray, List.getElem_cons_succ, List.getElem_cons_zero])))
                go_roundw
                case rel => exact ⟨k + 1, by have := HKM.out; omega, by go_num, by go_num, HB5, HP5, HV5, HY5⟩
                case measure => (have := HKM.out); (simp [intOf]) <;> omega
              · obtain rfl : k = m := by omega
                have kd : decide ((k : Int) < (k : Int)) = false := by simp
                have kd' : decide (k < k) = false := by simp
                go_wp2_with fail
                go_roundw
                case rel => exact ⟨e + 1, t, by have := HL.out; omega, by go_num, (by have := HMT.out; have := HIT.out; rw [show e + k = t by omega]), hide HEN.out.symm, HB2, HP2, HV2⟩
                case measure => (have := HL.out); (simp [intOf]) <;> omega
      · obtain rfl : i = p := by omega
        have hd : decide ((i : Int) < (i : Int)) = false := by simp
        have hd' : decide (i < i) = false := by simp
        have hee : e = i := by rw [HE.out, HP.out, enI_end HRX.out]
        have HLN := hide (HLEN.out wr pa Sa HPA.out)
        rw [← HLX.out, ← HP.out] at HLN
        clear HE
        subst hee
        go_wp2_with (first
          | (go_at_call 15; (with_reducible refine HLN.out.mono ?_); rintro e6 w6 ⟨rfl, rfl⟩)
          | (go_at_call 10; (with_reducible refine (HAW.out _).mono ?_); rintro e w' ⟨rfl, hb⟩; have HB' := hide (HB.out.trans (hb.mono HB.out.size))))
        go_ret
        exact ⟨rfl, HB'.out⟩
end Go.Proofs.Ythpioncehigoaaa
