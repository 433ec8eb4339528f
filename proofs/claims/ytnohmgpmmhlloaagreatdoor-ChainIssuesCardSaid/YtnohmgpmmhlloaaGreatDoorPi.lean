/-
 Joined of texts of mine, in build order: Rc, Rd, Hw, Md, Oa. Each says what it proves at its own head.
-/
import Derived.Test.YtnohmgpmmhlloaaGreatDoorPh
set_option linter.unusedSimpArgs false
set_option linter.unusedVariables false
set_option maxRecDepth 100000
set_option maxHeartbeats 25600000

namespace Go.Proofs.YtnohmgpmmhlloaaGreatDoor.S3
open Go.RowKit
set_option linter.unusedSimpArgs false

def muR (a : Int) (b : List Int) (i : Nat) : Nat → List Int → List Int
 | 0, t => t
 | j + 1, t => (muR a b i j t).set (i + j) ((muR a b i j t).getD (i + j) 0 + a * b.getD j 0)
def muC (ws t : List Int) (i : Nat) : List Int := t.set i (t.getD i 0 + ws.getD i 0)
def muS (us vs ws : List Int) : Nat → List Int
 | 0 => List.replicate 64 0
 | i + 1 => muR (us.getD i 0) vs i 32 (muC ws (muS us vs ws i) i)
theorem muR_len (a : Int) (b : List Int) (i : Nat) (t : List Int) : ∀ j, (muR a b i j t).length = t.length
 | 0 => rfl
 | j + 1 => by rw [muR, List.length_set, muR_len a b i t j]
theorem muC_len (ws t : List Int) (i : Nat) : (muC ws t i).length = t.length := by unfold muC; rw [List.length_set]
theorem muS_len (us vs ws : List Int) : ∀ i, (muS us vs ws i).length = 64
 | 0 => rfl
 | i + 1 => by rw [muS, muR_len, muC_len, muS_len us vs ws i]
theorem muR_bd (a : Int) (b : List Int) (i : Nat) (t : List Int) (C M : Int) (hM : 0 ≤ M) (ht : ∀ k, 0 ≤ t.getD k 0 ∧ t.getD k 0 ≤ C) (hm : ∀ k, 0 ≤ a * b.getD k 0 ∧ a * b.getD k 0 ≤ M) :
  ∀ (j : Nat) (k : Nat), 0 ≤ (muR a b i j t).getD k 0 ∧ (muR a b i j t).getD k 0 ≤ C + j * M
 | 0, k => by have := ht k; simp only [muR]; omega
 | j + 1, k => by
  have ih := muR_bd a b i t C M hM ht hm j
  have h1 := ih k
  have h2 := ih (i + j)
  have h3 := hm j
  rw [muR, getD_set]
  have e : ((j + 1 : Nat) : Int) * M = (j : Int) * M + M := by rw [Int.natCast_add, Int.add_mul]; omega
  rw [e]
  split <;> omega
theorem muC_bd (ws t : List Int) (i : Nat) (C : Int) (ht : ∀ k, 0 ≤ t.getD k 0 ∧ t.getD k 0 ≤ C) (hw : Byt ws) (k : Nat) : 0 ≤ (muC ws t i).getD k 0 ∧ (muC ws t i).getD k 0 ≤ C + 256 := by
 have h1 := ht k
 have h2 := ht i
 have h3 := byt_getD hw i
 unfold muC
 rw [getD_set]
 split <;> omega
theorem byt_mul {us vs : List Int} (h1 : Byt us) (h2 : Byt vs) (i k : Nat) : 0 ≤ us.getD i 0 * vs.getD k 0 ∧ us.getD i 0 * vs.getD k 0 ≤ 65536 := by
 have a := byt_getD h1 i
 have b := byt_getD h2 k
 exact ⟨Int.mul_nonneg a.1 b.1, Int.le_trans (Int.mul_le_mul (by omega : us.getD i 0 ≤ 256) (by omega : vs.getD k 0 ≤ 256) b.1 (by omega)) (by omega)⟩
theorem muS_bd {us vs ws : List Int} (h1 : Byt us) (h2 : Byt vs) (h3 : Byt ws) : ∀ (i k : Nat), 0 ≤ (muS us vs ws i).getD k 0 ∧ (muS us vs ws i).getD k 0 ≤ i * 2097408
 | 0, k => by
  have : (List.replicate 64 (0 : Int)).getD k 0 = 0 := by rw [List.getD_eq_getElem?_getD, List.getElem?_replicate]; split <;> rfl
  rw [muS, this]
  omega
 | i + 1, k => by
  have := muR_bd (us.getD i 0) vs i (muC ws (muS us vs ws i) i) (i * 2097408 + 256) 65536 (by omega) (muC_bd ws _ i _ (muS_bd h1 h2 h3 i) h3) (byt_mul h1 h2 i) 32 k
  rw [muS]
  omega
theorem muR_dv (a : Int) (b : List Int) (i : Nat) (t : List Int) (hb : b.length = 32) : ∀ j, j ≤ 32 → i + j ≤ t.length → dv (muR a b i j t) = dv t + a * 256 ^ i * dv (b.take j)
 | 0, _, _ => by simp [muR, dv]
 | j + 1, hj, h => by
  have hx : b[j]? = some b[j] := List.getElem?_eq_getElem (by omega)
  rw [muR, dv_set _ _ _ (by rw [muR_len]; omega), muR_dv a b i t hb j (by omega) (by omega), dv_take hx, getD_of hx, Int.pow_add,
   show (muR a b i j t).getD (i + j) 0 + a * b[j] - (muR a b i j t).getD (i + j) 0 = a * b[j] from by omega]
  have : a * b[j] * (256 ^ i * 256 ^ j) = a * 256 ^ i * (b[j] * 256 ^ j) := by grind
  rw [this, Int.mul_add]
  omega
theorem muC_dv (ws t : List Int) (i : Nat) (h : i < t.length) : dv (muC ws t i) = dv t + ws.getD i 0 * 256 ^ i := by
 unfold muC
 rw [dv_set _ _ _ h, show t.getD i 0 + ws.getD i 0 - t.getD i 0 = ws.getD i 0 from by omega]
theorem zr64 : dv (List.replicate 64 0) = 0 + 0 := by decide +kernel
theorem bnx {w0 w w' : World} (h : Below w0.heap.size w0 w) (h2 : Below w.heap.size w w') : Below w0.heap.size w0 w' := h.trans (h2.mono h.size)
theorem muS_dv (us vs ws : List Int) (h1 : us.length = 32) (h2 : vs.length = 32) (h3 : ws.length = 32) : ∀ i, i ≤ 32 → dv (muS us vs ws i) = dv (us.take i) * dv vs + dv (ws.take i)
 | 0, _ => by simp only [muS, List.take_zero, dv, Int.zero_mul]; exact zr64
 | i + 1, h => by
  rw [muS, muR_dv _ _ _ _ h2 32 (by omega) (by rw [muC_len, muS_len]; omega), muC_dv _ _ _ (by rw [muS_len]; omega), muS_dv us vs ws h1 h2 h3 i (by omega),
   dv_take (some_getD (xs := us) (k := i) (by omega)), dv_take (some_getD (xs := ws) (k := i) (by omega)), List.take_of_length_le (l := vs) (i := 32) (by omega), Int.add_mul]
  omega
def MsRel (w : World) (us vs ws : List Int) (g : Nat) (iv : Value) (wr : World) : Prop :=
 ∃ i : Nat, i ≤ 32 ∧ iv = .int .i64 (i : Int) ∧ St w NoB wr [.cells g (ivs (muS us vs ws i)).toArray 188]
def MtRel (w : World) (us vs ws : List Int) (g i : Nat) (jv : Value) (wr : World) : Prop :=
 ∃ j : Nat, j ≤ 32 ∧ jv = .int .i64 (j : Int) ∧ St w NoB wr [.cells g (ivs (muR (us.getD i 0) vs i j (muC ws (muS us vs ws i) i))).toArray 188]
def MoRel (w : World) (t : List Int) (g gb : Nat) (cv kv : Value) (wr : World) : Prop :=
 ∃ k : Nat, k ≤ 64 ∧ kv = .int .i64 (k : Int) ∧ cv = .int .i64 (crS 0 t k) ∧ St w NoB wr [.row (.slice (some ⟨gb, 0, none⟩) 64 64) 5 1 64 (bvs ((dgL 0 t k).map (fun x : Int => UInt8.ofNat x.toNat) ++ List.replicate (64 - k) 0)), .cells g (ivs t).toArray 188]
theorem crS_nn {t : List Int} (C : Int) (hC : 0 ≤ C) (ht : ∀ k, 0 ≤ t.getD k 0 ∧ t.getD k 0 ≤ C) : ∀ k, 0 ≤ crS 0 t k ∧ crS 0 t k ≤ C
 | 0 => by simp only [crS]; omega
 | k + 1 => by
  have ih := crS_nn C hC ht k
  have := ht k
  rw [crS]
  omega
theorem zero64v (w : World) : (zeroValue 188).run Tryz.prog w = .ok (.agg (ivs (List.replicate 64 0)).toArray) w := by kernel_rfl
theorem rd_atR {w : World} {b o n c size : Nat} {xs : List Value} (h : Rd w (.slice (some ⟨b, o, none⟩) n c) size n xs) {j : Nat} {u : Value} (hu : xs[j]? = some u) : w.cell? ⟨b, o + j, none⟩ = some u := by
 obtain ⟨A', c', e, _, _, _, _, h5⟩ := h
 injection e with e1 _ _
 subst e1
 exact (h5 b o none rfl).2 j u hu
theorem bvs_rw {l : List UInt8} {n k : Nat} (hl : l.length = n) (hk : k < n) : (bvs l)[k]? = some (.int .u8 ((rwL l).getD k 0)) := by
 have h : l[k]? = some (l[k]'(by omega)) := List.getElem?_eq_getElem _
 rw [bvs_get h, getD_of (rwL_get h)]
theorem rd_open32 {w : World} {B : Option Addr} {d : Nat} {l : List UInt8} (hl : l.length = 32) (h : Rd w (.slice B 32 d) 1 32 (bvs l)) : ∃ b o, B = some ⟨b, o, none⟩ := by
 obtain ⟨b, o, e, _⟩ := rd_at' h (bvs_rw hl (show 0 < 32 by omega))
 exact ⟨b, o, e⟩
theorem own_mono {w : World} {b1 b2 : Nat} {e : TypeId} {size n : Nat} {v : Value} {xs : List Value} (h : w.ownsRow b2 e size v n xs) (hle : b1 ≤ b2) : w.ownsRow b1 e size v n xs :=
 ⟨h.1, h.2.imp id fun ⟨g, cap, cur, e1, hg, r⟩ => ⟨g, cap, cur, e1, Nat.le_trans hle hg, r⟩⟩
theorem muladdR (A B C : Option Addr) (ca cb cc : Nat) (x y z : List UInt8) (w : World) (hx : x.length = 32) (hy : y.length = 32) (hz : z.length = 32)
  (rx : Rd w (.slice A 32 ca) 1 32 (bvs x)) (ry : Rd w (.slice B 32 cb) 1 32 (bvs y)) (rz : Rd w (.slice C 32 cc) 1 32 (bvs z)) :
  Calls Tryz.prog 106 #[.slice A 32 ca, .slice B 32 cb, .slice C 32 cc] w fun e w' => ∃ B d, e = .returned (.slice B 32 d) ∧ Below w.heap.size w w' ∧ w'.ownsRow w.heap.size 5 1 (.slice B 32 d) 32 (bvs (madL x y z)) := by
 have HX := hide rx
 have HY := hide ry
 have HZ := hide rz
 have LX := hide hx
 have LY := hide hy
 have LZ := hide hz
 have hz64 := zero64v
 clear rx ry rz hx hy hz
 go_enter Tryz.func106, Tryz.ntmps106
 go_upto_region 3 with fail
 refine wp_region_list ?_
 refine wpList_plain rfl ?_
 intro K hK
 go_simp
 refine hK _ _ ?_
 clear hK K
 refine wl_callN rfl rfl enReduceR rfl (reduceR A 32 ca x _ LX.out (by omega) HX.out) ?_
 rintro e w1 ⟨B1, d1, rfl, hb1, ho1⟩
 refine ⟨_, rfl, ?_⟩
 have R1 := hide (rd_own ho1)
 refine wpList_plain rfl ?_
 intro K hK
 go_simp
 refine hK _ _ ?_
 clear hK K
 refine wl_callN rfl rfl enReduceR rfl (reduceR B 32 cb y _ LY.out (by omega) (HY.out.below hb1)) ?_
 rintro e w2 ⟨B2, d2, rfl, hb2, ho2⟩
 refine ⟨_, rfl, ?_⟩
 have R2 := hide (rd_own ho2)
 refine wpList_plain rfl ?_
 intro K hK
 go_simp
 refine hK _ _ ?_
 clear hK K
 refine wl_callN rfl rfl enReduceR rfl (reduceR C 32 cc z _ LZ.out (by omega) ((HZ.out.below hb1).below hb2)) ?_
 rintro e w3 ⟨B3, d3, rfl, hb3, ho3⟩
 refine ⟨_, rfl, ?_⟩
 have R3 := hide (rd_own ho3)
 have RA := hide ((R1.out.below hb2).below hb3)
 have RB := hide (R2.out.below hb3)
 have HW := hide (bnx (bnx hb1 hb2) hb3)
 clear hb1 hb2 hb3 ho1 ho2 ho3 R1 R2 HX HY HZ
 obtain ⟨p1, o1, rfl⟩ := rd_open32 (redL_len x) RA.out
 obtain ⟨p2, o2, rfl⟩ := rd_open32 (redL_len y) RB.out
 obtain ⟨p3, o3, rfl⟩ := rd_open32 (redL_len z) R3.out
 have hcapA := rd_cap RA.out
 have hcapB := rd_cap RB.out
 have hcapC := rd_cap R3.out
 have HS0 := hide ((St.init w3 NoB).alloc (ivs (List.replicate 64 0)).toArray 188)
 (try simp only [Act.put, nq1, nq2, nq3, nq4, nq5, nq6])
 go_wp2_with fail
 obtain ⟨g, hg⟩ : ∃ g, g = w3.heap.size := ⟨_, rfl⟩
 rw [← hg] at HS0 ⊢
 clear hg hz64
 obtain ⟨us, hus⟩ : ∃ u, u = rwL (redL x) := ⟨_, rfl⟩
 obtain ⟨vs, hvs⟩ : ∃ u, u = rwL (redL y) := ⟨_, rfl⟩
 obtain ⟨ws, hws⟩ : ∃ u, u = rwL (redL z) := ⟨_, rfl⟩
 have hu : us.length = 32 ∧ Byt us ∧ dv us = (bval (redL x) : Int) := by rw [hus]; exact ⟨by rw [rwL_len, redL_len], rwL_byt _, rwL_dv _⟩
 have hv : vs.length = 32 ∧ Byt vs ∧ dv vs = (bval (redL y) : Int) := by rw [hvs]; exact ⟨by rw [rwL_len, redL_len], rwL_byt _, rwL_dv _⟩
 have hw : ws.length = 32 ∧ Byt ws ∧ dv ws = (bval (redL z) : Int) := by rw [hws]; exact ⟨by rw [rwL_len, redL_len], rwL_byt _, rwL_dv _⟩
 have HU := hide hu
 have HV := hide hv
 have HWW := hide hw
 have HUS := hide hus
 have HVS := hide hvs
 have HWS := hide hws
 clear hu hv hw hus hvs hws
 go_loopw [32] (fun i wr => MsRel w3 us vs ws g i wr) (fun i _ => 32 - (intOf i).toNat)
 case atStart => exact ⟨0, by omega, rfl, HS0.out⟩
 case round =>
  clear HS0
  obtain ⟨i, hi, rfl, hS⟩ := hrel
  have HS := hide hS
  by_cases hlt : i < 32
  ·have d32 : decide ((i : Int) < 32) = true := by simp; omega
   have i32 : (i : Int) < 32 := by omega
   have i64 : (i : Int) < 64 := by omega
   have c0 : wr.drew.cell? ⟨g, i, none⟩ = some (.int .i64 ((muS us vs ws i).getD i 0)) := by rw [hS.drew.cell 0 rfl i]; exact ivs_get (some_getD (by rw [muS_len]; omega))
   have f0 := hS.drew.free 0 rfl i
   have c3 := rd_atR (R3.out.st hS.drew) (bvs_rw (redL_len z) hlt)
   rw [← HWS.out] at c3
   have HT := hide (show (muS us vs ws i).set i ((muS us vs ws i).getD i 0 + ws.getD i 0) = muC ws (muS us vs ws i) i from rfl)
   have hbd := muS_bd HU.out.2.1 HV.out.2.1 HWW.out.2.1 i i
   have hwb := byt_getD HWW.out.2.1 i
   obtain ⟨t, ht⟩ : ∃ t, t = (muS us vs ws i).getD i 0 := ⟨_, rfl⟩
   obtain ⟨v, hv⟩ : ∃ t, t = ws.getD i 0 := ⟨_, rfl⟩
   rw [← ht] at c0 HT hbd
   rw [← hv] at c3 HT hwb
   obtain ⟨v0, v1⟩ := hwb
   have t0 : 0 ≤ t := hbd.1
   have t1 : t ≤ 67117056 := by omega
   clear hS ht hv hbd
   go_upto_region 8 with fail
   refine wp_region_T [(0, 1), (1, 1), (2, 0), (3, 1), (4, 1), (5, 1), (6, 0), (7, 1), (8, 1), (9, 1), (10, 3)] (by kernel_rfl) (by kernel_rfl) (fun _ _ _ _ h => h) ?_
   go_wp2_with (first | (refine wpT_nil ?_)   | ((with_reducible refine fromT_refl ?_); (try simp only [Act.put, nq1, nq2, nq3, nq4, nq5, nq6]))   | ((with_reducible refine fromT_mk (by assumption) ?_); (try simp only [Act.put, nq1, nq2, nq3, nq4, nq5, nq6]))   | (refine wpT_pure (v := ?_) rfl rfl ?_ ?_; rotate_left; (intro wx; go_simp; try go_bits) <;> (with_reducible rfl); (try simp only [Act.put, nq1, nq2, nq3, nq4, nq5, nq6]))   | (refine wpT_load (v := ?_) rfl rfl rfl ?_ ?_; rotate_left; (go_simp; try go_bits) <;> (with_reducible rfl); (try simp only [Act.put, nq1, nq2, nq3, nq4, nq5, nq6]))   | (refine wpT_read (v := ?_) rfl rfl ?_ ?_; rotate_left; (intro wx hx; go_simp; try go_bits) <;> (with_reducible rfl); (try simp only [Act.put, nq1, nq2, nq3, nq4, nq5, nq6]))   | (refine wpT_call rfl rfl ?_; intro K hK)   | (refine wpT_late rfl rfl ?_; intro K hK)   | (refine wpT_any rfl rfl ?_; intro K hK)   | (refine wpT_skip rfl rfl ?_; (try simp only [Act.put, nq1, nq2, nq3, nq4, nq5, nq6])))
   have HS2 := hide (show St w3 NoB (wr.setCell ⟨g, i, none⟩ (.int .i64 (t + v))).drew [.cells g (ivs (muC ws (muS us vs ws i) i)).toArray 188] by
    have h3 := (HS.out.setCell 0 rfl i (.int .i64 (t + v))).drew
    rw [List.set_cons_zero, ivs_set, HT.out] at h3
    exact h3)
   clear HS c0 f0 c3 HT t0 t1 v0 v1
   go_loopw [45] (fun j wr => MtRel w3 us vs ws g i j wr) (fun j _ => 32 - (intOf j).toNat)
   case atStart => exact ⟨0, by omega, rfl, HS2.out⟩
   case round =>
    clear HS2
    obtain ⟨j, hj, rfl, hS⟩ := hrel
    have HS := hide hS
    by_cases hjt : j < 32
    ·have e32 : decide ((j : Int) < 32) = true := by simp; omega
     have j32 : (j : Int) < 32 := by omega
     obtain ⟨ij, hij⟩ : ∃ k, k = i + j := ⟨_, rfl⟩
     have s1 : wrap64 ((i : Int) + (j : Int)) = (ij : Int) := by rw [hij]; exact IntWalk.wrap64_in _ ⟨by omega, by omega⟩
     have s2 : (i : Int) + (j : Int) = (ij : Int) := by omega
     have s3 : (ij : Int) < 64 := by omega
     have c0 : wr.drew.cell? ⟨g, ij, none⟩ = some (.int .i64 ((muR (us.getD i 0) vs i j (muC ws (muS us vs ws i) i)).getD ij 0)) := by rw [hS.drew.cell 0 rfl ij]; exact ivs_get (some_getD (by rw [muR_len, muC_len, muS_len]; omega))
     have f0 := hS.drew.free 0 rfl ij
     have c1 := rd_atR (RA.out.st hS.drew) (bvs_rw (redL_len x) hlt)
     have c2 := rd_atR (RB.out.st hS.drew) (bvs_rw (redL_len y) hjt)
     rw [← HUS.out] at c1
     rw [← HVS.out] at c2
     have HT := hide (show (muR (us.getD i 0) vs i j (muC ws (muS us vs ws i) i)).set ij ((muR (us.getD i 0) vs i j (muC ws (muS us vs ws i) i)).getD ij 0 + us.getD i 0 * vs.getD j 0) = muR (us.getD i 0) vs i (j + 1) (muC ws (muS us vs ws i) i) by rw [hij]; rfl)
     have hbd := muR_bd (us.getD i 0) vs i (muC ws (muS us vs ws i) i) (i * 2097408 + 256) 65536 (by omega) (muC_bd ws _ i _ (muS_bd HU.out.2.1 HV.out.2.1 HWW.out.2.1 i) HWW.out.2.1) (byt_mul HU.out.2.1 HV.out.2.1 i) j ij
     have hpd := byt_mul HU.out.2.1 HV.out.2.1 i j
     have hub := byt_getD HU.out.2.1 i
     have hvb := byt_getD HV.out.2.1 j
     obtain ⟨t, ht⟩ : ∃ t, t = (muR (us.getD i 0) vs i j (muC ws (muS us vs ws i) i)).getD ij 0 := ⟨_, rfl⟩
     rw [← ht] at c0 HT hbd
     obtain ⟨u, hu⟩ : ∃ t, t = us.getD i 0 := ⟨_, rfl⟩
     obtain ⟨v, hv⟩ : ∃ t, t = vs.getD j 0 := ⟨_, rfl⟩
     have HU1 := hide hu
     have HT2 := hide (show (muR (us.getD i 0) vs i j (muC ws (muS us vs ws i) i)).set ij (t + u * v) = muR (us.getD i 0) vs i (j + 1) (muC ws (muS us vs ws i) i) by rw [hu, hv]; exact HT.out)
     rw [← hu] at c1 hpd hub
     rw [← hv] at c2 hpd hvb
     obtain ⟨u0, u1⟩ := hub
     obtain ⟨v0, v1⟩ := hvb
     have t0 : 0 ≤ t := hbd.1
     have t1 : t ≤ 67117056 + 2097408 := by omega
     obtain ⟨pr, hpr⟩ : ∃ p, p = u * v := ⟨_, rfl⟩
     rw [← hpr] at hpd HT2
     have w1 : wrap64 (u * v) = pr := by rw [← hpr]; exact IntWalk.wrap64_in _ ⟨by omega, by omega⟩
     obtain ⟨q, hq⟩ : ∃ z, z = t + pr := ⟨_, rfl⟩
     rw [← hq] at HT2
     have w2 : wrap64 (t + pr) = q := by rw [hq]; exact IntWalk.wrap64_in _ ⟨by omega, by omega⟩
     clear hS ht hu hv hbd hpd hpr hq hij HT t0 t1
     go_upto_region 12 with fail
     refine wp_region_T [(0, 1), (1, 1), (2, 1), (3, 1), (4, 0), (5, 1), (6, 1), (7, 1), (8, 0), (9, 1), (10, 1), (11, 1), (12, 1), (13, 0), (14, 1), (15, 1), (16, 1), (17, 1), (18, 3)] (by kernel_rfl) (by kernel_rfl) (fun _ _ _ _ h => h) ?_
     go_wp2_with (first | (refine wpT_nil ?_)   | ((with_reducible refine fromT_refl ?_); (try simp only [Act.put, nq1, nq2, nq3, nq4, nq5, nq6]))   | ((with_reducible refine fromT_mk (by assumption) ?_); (try simp only [Act.put, nq1, nq2, nq3, nq4, nq5, nq6]))   | (refine wpT_pure (v := ?_) rfl rfl ?_ ?_; rotate_left; (intro wx; go_simp; try go_bits) <;> (with_reducible rfl); (try simp only [Act.put, nq1, nq2, nq3, nq4, nq5, nq6]))   | (refine wpT_load (v := ?_) rfl rfl rfl ?_ ?_; rotate_left; (go_simp; try go_bits) <;> (with_reducible rfl); (try simp only [Act.put, nq1, nq2, nq3, nq4, nq5, nq6]))   | (refine wpT_read (v := ?_) rfl rfl ?_ ?_; rotate_left; (intro wx hx; go_simp; try go_bits) <;> (with_reducible rfl); (try simp only [Act.put, nq1, nq2, nq3, nq4, nq5, nq6]))   | (refine wpT_call rfl rfl ?_; intro K hK)   | (refine wpT_late rfl rfl ?_; intro K hK)   | (refine wpT_any rfl rfl ?_; intro K hK)   | (refine wpT_skip rfl rfl ?_; (try simp only [Act.put, nq1, nq2, nq3, nq4, nq5, nq6])))
     go_roundw
     case rel =>
      have h3 := HS.out.drew.setCell 0 rfl ij (.int .i64 q)
      rw [List.set_cons_zero, ivs_set, HT2.out] at h3
      exact ⟨j + 1, by omega, by go_num, h3⟩
     case measure => (simp [intOf]) <;> omega
    ·obtain rfl : j = 32 := by omega
     clear hS
     go_wp2_with fail
     go_roundw
     case rel => exact ⟨i + 1, by omega, by go_num, HS.out⟩
     case measure => (simp [intOf]) <;> omega
  ·obtain rfl : i = 32 := by omega
   simp only [Int.cast_ofNat_Int]
   obtain ⟨t, ht⟩ : ∃ t, t = muS us vs ws 32 := ⟨_, rfl⟩
   have htl : t.length = 64 := by rw [ht]; exact muS_len _ _ _ _
   have htb : ∀ k, 0 ≤ t.getD k 0 ∧ t.getD k 0 ≤ 67117056 := fun k => by
    have := muS_bd HU.out.2.1 HV.out.2.1 HWW.out.2.1 32 k
    rw [ht]
    omega
   have htv : dv t = (bval (redL x) * bval (redL y) + bval (redL z) : Nat) := by
    rw [ht, muS_dv us vs ws HU.out.1 HV.out.1 HWW.out.1 32 (by omega), List.take_of_length_le (by rw [HU.out.1]; exact Nat.le_refl _), List.take_of_length_le (by rw [HWW.out.1]; exact Nat.le_refl _), HU.out.2.2, HV.out.2.2, HWW.out.2.2]
    rw [Int.natCast_add, Int.natCast_mul]
   rw [← ht] at hS
   have HTL := hide htl
   have HTB := hide htb
   have HTV := hide htv
   have HS := hide hS
   clear hS ht htl htb htv
   go_upto_region 16 with (refine wl_makeB (n := 64) rfl rfl Tryz.underlying22 infoB HS.out rfl rfl (by decide) ?_; intro gb w6 hS6 hb6; have HS6 := hide hS6; clear hS6 hb6)
   clear HS
   go_wp2_with fail
   go_loopw [11, 69] (fun c k wr => MoRel w3 t g gb c k wr) (fun _ k _ => 64 - (intOf k).toNat)
   case atStart => exact ⟨0, by omega, rfl, rfl, HS6.out⟩
   case round =>
    clear HS6
    obtain ⟨k, hk, rfl, rfl, hS⟩ := hrel
    have HS := hide hS
    have hlen : ((dgL 0 t k).map (fun x : Int => UInt8.ofNat x.toNat)).length = k := by rw [List.length_map, dgL_len]
    by_cases hlt : k < 64
    ·have d64 : decide ((k : Int) < 64) = true := by simp; omega
     have k64 : (k : Int) < 64 := by omega
     have c0 : wr.cell? ⟨g, k, none⟩ = some (.int .i64 (t.getD k 0)) := by rw [hS.cell 1 rfl k]; exact ivs_get (some_getD (by rw [HTL.out]; omega))
     have hne : gb ≠ g := fun e => hS.apart 0 1 _ _ g (by decide) rfl rfl (by rw [e]; rfl) rfl
     have hne2 : g ≠ gb := fun e => hne e.symm
     obtain ⟨g', c', hv, _, _, hcell, hfree, _⟩ := hS.rowOpen 0 rfl (by omega)
     injection hv with hv1 _ hv3
     injection hv1 with hv1
     injection hv1 with hv1
     subst hv1 hv3
     have ce := hcell k (.int .u8 ((0 : UInt8).toNat : Int)) (bvs_get (by rw [List.getElem?_append_right (by rw [hlen]; exact Nat.le_refl _), hlen, Nat.sub_self, List.getElem?_replicate, if_pos (by omega)]))
     have fe := hfree k
     have hcn := crS_nn 67117056 (by omega) HTB.out k
     have htk := HTB.out k
     have hD : dgS 0 t k = (crS 0 t k + t.getD k 0) % 256 := rfl
     have hE : crS 0 t (k + 1) = (crS 0 t k + t.getD k 0) / 256 := rfl
     obtain ⟨D, hDD⟩ : ∃ y : Nat, (y : Int) = dgS 0 t k := ⟨(dgS 0 t k).toNat, by rw [hD]; omega⟩
     have hT : ((dgL 0 t k).map (fun x : Int => UInt8.ofNat x.toNat) ++ List.replicate (64 - k) 0).set k (UInt8.ofNat D) = (dgL 0 t (k + 1)).map (fun x : Int => UInt8.ofNat x.toNat) ++ List.replicate (64 - (k + 1)) 0 := by
      rw [List.set_append_right _ _ (by rw [hlen]; exact Nat.le_refl _), hlen, Nat.sub_self, show 64 - k = (64 - (k + 1)) + 1 from by omega, List.replicate_succ, List.set_cons_zero, dgL_succ, ← hDD, List.map_append, List.append_assoc]
      rfl
     have hRow := hS.rowSet 0 rfl k (.int .u8 (D : Int)) (by omega)
     have D256 : D < 256 := by omega
     rw [List.set_cons_zero, bvs_set _ _ _ D256, hT] at hRow
     have HRow := hide hRow
     obtain ⟨cr, hcr⟩ : ∃ x, x = crS 0 t k := ⟨_, rfl⟩
     obtain ⟨v, hv⟩ : ∃ x, x = t.getD k 0 := ⟨_, rfl⟩
     obtain ⟨E, hEE⟩ : ∃ y, y = crS 0 t (k + 1) := ⟨_, rfl⟩
     rw [← hcr] at hD hE hcn
     rw [← hv] at hD hE htk c0
     rw [← hEE] at hE
     simp only [← hcr]
     have HEE := hide hEE
     obtain ⟨b0, b1⟩ := hcn
     obtain ⟨b2, b3⟩ := htk
     have a1 : IntKind.u8.wrap (cr + v) = (D : Int) := by rw [IntKind.wrap_u8, hDD, hD]
     have a2 : (cr + v) % 256 = (D : Int) := by rw [hDD, hD]
     have a3 : (cr + v) / 256 = E := hE.symm
     clear hcell hfree hlen hT hRow hS hD hE hDD hcr hv hEE
     go_wp2_with fail
     go_roundw
     case rel => exact ⟨k + 1, by omega, by go_num, by rw [HEE.out], HRow.out⟩
     case measure => (simp [intOf]) <;> omega
    ·obtain rfl : k = 64 := by omega
     rw [Nat.sub_self, List.replicate_zero, List.append_nil] at hS
     have hdl := dgL_dv 0 t 64 (by rw [HTL.out]; exact Nat.le_refl _)
     have hbt := dv_byt _ (dgL_byt 0 t 64)
     rw [dgL_len] at hbt
     rw [List.take_of_length_le (by rw [HTL.out]; exact Nat.le_refl _), HTV.out, Int.zero_add] at hdl
     have hsm : (bval (redL x) * bval (redL y) + bval (redL z) : Nat) < 256 ^ 64 := by
      have a := bval_lt (redL x)
      have b := bval_lt (redL y)
      have c := bval_lt (redL z)
      rw [redL_len] at a b c
      have e : (256 : Nat) ^ 64 = 256 ^ 32 * 256 ^ 32 := by rw [← Nat.pow_add]
      have h1 : bval (redL x) * bval (redL y) ≤ (256 ^ 32 - 1) * (256 ^ 32 - 1) := Nat.mul_le_mul (by omega) (by omega)
      have h2 : (256 ^ 32 - 1) * (256 ^ 32 - 1) + 256 ^ 32 ≤ (256 : Nat) ^ 64 := by decide
      omega
     have hdv : dv (dgL 0 t 64) = (bval (redL x) * bval (redL y) + bval (redL z) : Nat) := by
      generalize crS 0 t 64 = kk at *
      generalize (bval (redL x) * bval (redL y) + bval (redL z) : Nat) = V at *
      have hT : (256 : Int) ^ 64 = ((256 ^ 64 : Nat) : Int) := by rw [Int.natCast_pow]; rfl
      rw [hT] at hbt hdl
      generalize (256 : Nat) ^ 64 = T at *
      rcases Int.lt_trichotomy kk 0 with h | h | h
      ·have : (T : Int) * kk ≤ (T : Int) * (-1) := Int.mul_le_mul_of_nonneg_left (by omega) (by omega)
       omega
      ·subst h
       omega
      ·have : (T : Int) * 1 ≤ (T : Int) * kk := Int.mul_le_mul_of_nonneg_left (by omega) (by omega)
       omega
     obtain ⟨ob, hob⟩ : ∃ b, b = (dgL 0 t 64).map (fun x : Int => UInt8.ofNat x.toNat) := ⟨_, rfl⟩
     have hol : ob.length = 64 := by rw [hob]; exact hlen
     have hov : bval ob = bval (redL x) * bval (redL y) + bval (redL z) := by
      rw [hob, byt_leB _ (dgL_byt 0 t 64), dgL_len, hdv, bval_leB, Int.toNat_natCast, Nat.mod_eq_of_lt hsm]
     have hfin : redL ob = madL x y z := by
      have e1 : bval (redL x) = bval x % Lq := bval_redL x
      unfold redL madL
      rw [hov, bval_redL, bval_redL, bval_redL, Nat.add_mod, ← Nat.mul_mod, Nat.mod_mod, ← Nat.add_mod]
     rw [← hob] at hS
     have HS9 := hide hS
     have HRR := hide (reduceR (some ⟨gb, 0, none⟩) 64 64 ob wr hol (by omega) (hS.rd 0 rfl))
     rw [hfin] at HRR
     clear hS HS hdl hbt hsm hdv hob hol hov hfin hlen
     go_wp2_with (go_at_call 104; (with_reducible refine HRR.out.mono ?_); rintro e w9 ⟨B9, d9, rfl, hb9, ho9⟩; have HB9 := hide hb9; have HO9 := hide ho9; clear hb9 ho9)
     go_ret
     have hbw := bnx HW.out HS9.out.below
     exact ⟨B9, d9, rfl, bnx hbw HB9.out, own_mono HO9.out hbw.size⟩
end Go.Proofs.YtnohmgpmmhlloaaGreatDoor.S3

namespace Go.Proofs.YtnohmgpmmhlloaaGreatDoor.S3
open Go.RowKit
set_option linter.unusedSimpArgs false

theorem clamp_walkR (A : Option Addr) (c : Nat) (l : List UInt8) (w : World) (hl : l.length = 32) (hr : Rd w (.slice A 32 c) 1 32 (bvs l)) :
  Calls Tryz.prog 102 #[.slice A 32 c] w (ResB 5 w (clampL l)) := by
 obtain ⟨a, ha⟩ : ∃ a, l[0]? = some a := ⟨l[0], List.getElem?_eq_getElem _⟩
 obtain ⟨b, hb⟩ : ∃ b, l[31]? = some b := ⟨l[31], List.getElem?_eq_getElem _⟩
 have e := clampL_eq l a b ha hb
 have a2 := UInt8.toNat_lt a
 have b2 := UInt8.toNat_lt b
 have ga := bvs_get ha
 have gb := bvs_get hb
 obtain ⟨an, han⟩ : ∃ an, an = a.toNat := ⟨_, rfl⟩
 obtain ⟨bn, hbn⟩ : ∃ bn, bn = b.toNat := ⟨_, rfl⟩
 rw [← han] at e a2 ga
 rw [← hbn] at e b2 gb
 have eA := clA_eq an a2
 have eB := clB_eq bn b2
 have hS := St.init w NoB
 have HR := hide hr
 have HE := hide e
 have HL := hide hl
 have GA := hide ga
 have GB := hide gb
 have LA := hide (clA_lt an a2)
 have LB := hide (clB_lt bn b2)
 clear hr e hl ga gb ha hb han hbn
 go_enter Tryz.func102, Tryz.ntmps102
 go_wp2_with (at_builtin; refine wl_append0 rfl rfl tyB hS rfl rfl HR.out (one_bvs _) (by omega) (by decide) ?_; intro A1 c1 w1 hS1; obtain ⟨g, c1', hv, hc1, hcm, hcs, hfr, _⟩ := hS1.rowOpen 0 rfl (by omega); injection hv with hv1 _ hv3; subst hv1 hv3; have k0 := hcs 0 _ GA.out; have k31 := hcs 31 _ GB.out; have f0 := hfr 0; have f31 := hfr 31; have HS1 := hide hS1; clear hS1 hcs hfr)
 go_ret
 have h2 := (HS1.out.rowSet 0 rfl 0 (.int .u8 (clA an : Nat)) (by omega)).rowSet 0 rfl 31 (.int .u8 (clB bn : Nat)) (by omega)
 rw [bvs_set _ _ _ LA.out, bvs_set _ _ _ LB.out, ← HE.out] at h2
 have h3 := resB_of (l := clampL l) h2 0 rfl rfl
 exact h3
end Go.Proofs.YtnohmgpmmhlloaaGreatDoor.S3

namespace Go.Proofs.YtnohmgpmmhlloaaGreatDoor.S1
open Go.RowKit
set_option linter.unusedSimpArgs false

theorem enConst2 (args : Array Value) (w : World) : (callFunc 141 args).run Tryz.prog w = .ok (.enter 141 args) w := by kernel_rfl
theorem enRotr (args : Array Value) (w : World) : (callFunc 142 args).run Tryz.prog w = .ok (.enter 142 args) w := by kernel_rfl
def lenOf : Value → Nat
 | .slice _ n _ => n
 | _ => 0
abbrev RC (g3 g4 : Nat) (B : Option Addr) (m d : Nat) (x : List UInt8) (s : List Nat) : List Chunk :=
 [.row (.slice B m d) 5 1 m (bvs x), .cells g4 kA 181, .cells g3 (uvs s).toArray 170]
def PadRel (w : World) (g3 g4 n : Nat) (l : List UInt8) (v : Value) (wr : World) : Prop :=
 ∃ (k : Nat) (B : Option Addr) (m d : Nat), k ≤ zsL n ∧ m = n + 1 + k ∧ v = .slice B m d ∧ St w NoB wr (RC g3 g4 B m d (l ++ [128] ++ List.replicate k 0) h0L)
theorem rep_snoc (x : List UInt8) (k : Nat) : bvs (x ++ List.replicate k 0) ++ [.int .u8 0] = bvs (x ++ List.replicate (k + 1) 0) := by
 rw [List.replicate_succ', ← List.append_assoc]
 exact (bvs_snoc _ 0 (by decide)).symm
def LenRel (w : World) (g3 g4 N n8 : Nat) (x : List UInt8) (v i : Value) (wr : World) : Prop :=
 ∃ (j : Nat) (B : Option Addr) (m d : Nat) (y : List UInt8), j ≤ 8 ∧ i = .int .i64 ((j : Int) - 1) ∧ v = .slice B m d ∧ m + j = N ∧ y ++ beL j n8 = x ∧ St w NoB wr (RC g3 g4 B m d y h0L)
def BlkRel (w : World) (g3 g4 b o N d : Nat) (x : List UInt8) (v : Value) (wr : World) : Prop :=
 ∃ (i a : Nat), 128 * i ≤ N ∧ (128 * i < N → a = o + 128 * i) ∧ v = .slice (some ⟨b, a, none⟩) (N - 128 * i) (d - 128 * i) ∧ St w NoB wr (RC g3 g4 (some ⟨b, o, none⟩) N d x (runN h0L i x))
def W4Rel (w : World) (gW : Nat) (bb : List UInt8) (H : List Chunk) (iv : Value) (wr : World) : Prop :=
 ∃ j : Nat, j ≤ 16 ∧ iv = .int .i64 (j : Int) ∧ St w NoB wr (.cells gW (uvs (schA bb j)).toArray 181 :: H)
def W5Rel (w : World) (gW j : Nat) (bb : List UInt8) (H : List Chunk) (iv : Value) (wr : World) : Prop :=
 ∃ t : Nat, t ≤ 8 ∧ iv = .int .i64 (t : Int) ∧ St w NoB wr (.cells gW (uvs ((schA bb j).set j (beV (((bb.drop (8 * j)).take 8).take t)))).toArray 181 :: H)
theorem byte_at (x : List UInt8) (i j t : Nat) (h : 128 * i + 128 ≤ x.length) (hj : j < 16) (ht : t < 8) :
  ∃ cc, x[128 * i + (8 * j + t)]? = some cc ∧ ((((x.drop (128 * i)).take 128).drop (8 * j)).take 8)[t]? = some cc := by
 have hlt : 128 * i + (8 * j + t) < x.length := by omega
 refine ⟨x[128 * i + (8 * j + t)], List.getElem?_eq_getElem hlt, ?_⟩
 rw [List.getElem?_take_of_lt ht, List.getElem?_drop, List.getElem?_take_of_lt (by omega), List.getElem?_drop]
 exact List.getElem?_eq_getElem hlt
theorem schA_zero (b : List UInt8) (i : Nat) (h : i < 80) : (schA b i).set i 0 = schA b i := by
 apply List.ext_getElem?
 intro k
 rw [List.getElem?_set]
 split
 ·subst_vars
  rw [if_pos (by rw [schA_len b _ (by omega)]; exact h)]
  unfold schA
  rw [List.getElem?_append_right (by rw [schL_len]; exact Nat.le_refl _), schL_len, Nat.sub_self, List.getElem?_replicate, if_pos (by omega)]
 ·rfl
theorem z80_eq (b : List UInt8) : z80 = (uvs (schA b 0)).toArray := by unfold z80 schA schL; rfl
theorem beV8 (l : List UInt8) (t : Nat) (ht : t ≤ 7) (h : t ≤ l.length) : beV (l.take t) < 72057594037927936 := by
 have h1 := beV_lt l t h
 have h2 : 256 ^ t ≤ 256 ^ 7 := Nat.pow_le_pow_right (by omega) ht
 exact Nat.lt_of_lt_of_le h1 (Nat.le_trans h2 (by decide))
def W6Rel (w : World) (gW : Nat) (bb : List UInt8) (H : List Chunk) (iv : Value) (wr : World) : Prop :=
 ∃ j : Nat, 16 ≤ j ∧ j ≤ 80 ∧ iv = .int .i64 (j : Int) ∧ St w NoB wr (.cells gW (uvs (schA bb j)).toArray 181 :: H)
theorem spr_of (x a b s d : Nat) (hx : x < W1) (hds : d = 2 ^ s) : bits .xor .u64 (bits .xor .u64 ((rot x a : Nat) : Int) ((rot x b : Nat) : Int)) ((x : Int) / (d : Int)) = ((spr x a b s : Nat) : Int) := by
 subst hds
 have hd : (x : Int) / ((2 ^ s : Nat) : Int) = ((x / 2 ^ s : Nat) : Int) := by rw [Int.natCast_ediv]
 rw [u64_xor_nat _ _ (rot_lt _ _ hx) (rot_lt _ _ hx), hd, u64_xor_nat _ _ (xor_lt _ _ (rot_lt _ _ hx) (rot_lt _ _ hx)) (Nat.lt_of_le_of_lt (Nat.div_le_self _ _) hx)]
 unfold spr
 rfl
theorem mix_of (x a b c : Nat) (hx : x < W1) : bits .xor .u64 (bits .xor .u64 ((rot x a : Nat) : Int) ((rot x b : Nat) : Int)) ((rot x c : Nat) : Int) = ((mix x a b c : Nat) : Int) := by
 rw [u64_xor_nat _ _ (rot_lt _ _ hx) (rot_lt _ _ hx), u64_xor_nat _ _ (xor_lt _ _ (rot_lt _ _ hx) (rot_lt _ _ hx)) (rot_lt _ _ hx)]
 unfold mix
 rfl
def W7Rel (w : World) (g6 gW : Nat) (st ws : List Nat) (H : List Chunk) (iv : Value) (wr : World) : Prop :=
 ∃ j : Nat, j ≤ 80 ∧ iv = .int .i64 (j : Int) ∧ St w NoB wr (.cells g6 (uvs (rnds st ws j)).toArray 170 :: .cells gW (uvs ws).toArray 181 :: H)
def W8Rel (w : World) (g3 g4 g6 gW : Nat) (st s ws : List Nat) (B : Option Addr) (N d : Nat) (y : List UInt8) (iv : Value) (wr : World) : Prop :=
 ∃ j : Nat, j ≤ 8 ∧ iv = .int .i64 (j : Int) ∧ St w NoB wr (.cells g6 (uvs s).toArray 170 :: .cells gW (uvs ws).toArray 181 :: RC g3 g4 B N d y (zipP st s j))
def OutRel (w : World) (s : List Nat) (v i : Value) (wr : World) : Prop :=
 ∃ (j : Nat) (B : Option Addr) (d : Nat), j ≤ 8 ∧ i = .int .i64 (j : Int) ∧ v = .slice B (8 * j) d ∧ St w NoB wr [.row (.slice B (8 * j) d) 5 1 (8 * j) (bvs (outL (s.take j)))]
def LenO (w : World) (N x : Nat) (T : List UInt8) (v i : Value) (wr : World) : Prop :=
 ∃ (t : Nat) (B : Option Addr) (m d : Nat) (y : List UInt8), t ≤ 8 ∧ i = .int .i64 ((t : Int) - 1) ∧ v = .slice B m d ∧ m + t = N ∧ y ++ beL t x = T ∧ St w NoB wr [.row (.slice B m d) 5 1 m (bvs y)]
theorem shaR_any (A : Option Addr) (n c : Nat) (l : List UInt8) (w : World) (hl : l.length = n) (hm : n ≤ 3000) (hr : Rd w (.slice A n c) 1 n (bvs l)) :
  Calls Tryz.prog 103 #[.slice A n c] w (Sum64 w (shaL l)) := by
 have HR := hide hr
 have HL := hide hl
 clear hr hl
 go_enter Tryz.func103, Tryz.ntmps103
 go_upto_region 2 with fail
 have HSA := hide ((St.init w NoB).alloc (uvs h0L).toArray 170)
 refine wp_region_list ?_
 refine wl_call rfl rfl enConst2 rfl (const2_any _) ?_
 rintro e w1 ⟨rfl, hb1⟩
 refine ⟨_, rfl, ?_⟩
 (try simp only [Act.put, nq1, nq2, nq3, nq4, nq5, nq6])
 refine wl_allocS rfl (zs := z80) (e := 181) (fun W => alloc80 rfl W) (HSA.out.call hb1) ?_
 intro g4 w3 hS3
 (try simp only [Act.put, nq1, nq2, nq3, nq4, nq5, nq6])
 refine wl_storeRow rfl rfl hS3 0 rfl rfl rfl (info80 _ kA_size) (z80_size.trans kA_size.symm) kA_all ?_
 intro w5 hS5
 refine wpList_nil ?_
 (try simp only [Act.put, nq1, nq2, nq3, nq4, nq5, nq6])
 replace hS5 : St w NoB w5 [.cells g4 kA 181, .cells w.heap.size (uvs h0L).toArray 170] := hS5
 generalize w.heap.size = g3 at hS5 ⊢
 have HS5 := hide hS5
 clear hS3 hS5 hb1 HSA
 go_upto_region 4 with (first
  | (have _q := HS6; at_builtin; refine wl_append1 rfl rfl tyB HS6.out 0 rfl rfl (us := [_]) rfl rfl ?_ ?_ (by decide) ?_; (intro u hu; simp only [List.mem_singleton] at hu; subst hu; rfl); (simp only [List.length_singleton]; omega); intro B7 d7 w7 hS7; have HS7 := hide hS7; clear hS7)
  | (at_builtin; refine wl_append0 rfl rfl tyB HS5.out rfl rfl (HR.out.st HS5.out) (one_bvs _) (by omega) (by decide) ?_; intro B6 d6 w6 hS6; have HS6 := hide hS6; clear hS6))
 have HP0 : Hid (St w NoB w7 (RC g3 g4 B7 (n + 1) d7 (l ++ [128] ++ List.replicate 0 0) h0L)) := hide (by
  have h := HS7.out
  have e : bvs l ++ [.int .u8 128] = bvs (l ++ [128] ++ List.replicate 0 0) := by rw [List.replicate_zero, List.append_nil]; exact (bvs_snoc l 128 (by decide)).symm
  rw [e] at h
  exact h)
 clear HS5 HS6 HS7 _q
 have HZ := hide (show zsL n ≤ 127 ∧ (n + 1 + zsL n) % 128 = 112 from by unfold zsL; omega)
 have hz127 := HZ.out.1
 have hz112 := HZ.out.2
 obtain ⟨z, hz⟩ : ∃ z, z = zsL n := ⟨_, rfl⟩
 rw [← hz] at hz127 hz112
 have HZ := hide hz
 clear hz
 go_loopw [5] (fun v wr => PadRel w g3 g4 n l v wr) (fun v _ => (n + 1 + z - lenOf v))
 case atStart => exact ⟨0, B7, n + 1, d7, by omega, rfl, rfl, HP0.out⟩
 case round =>
  clear HP0
  obtain ⟨k, B, m, d, hk, hmk, rfl, hS⟩ := hrel
  rw [← HZ.out] at hk
  have hmt : (m : Int).tmod 128 = ((m % 128 : Nat) : Int) := by rw [Int.tmod_eq_emod_of_nonneg (by omega)]; omega
  have HS := hide hS
  have HMK := hide hmk
  have hmb : m ≤ 3200 := by omega
  by_cases hlt : k < z
  ·have hr112 : m % 128 ≠ 112 := by omega
   clear hS hz112 hmk
   generalize m % 128 = r at hmt hr112
   have ir : ((r : Int) == 112) = false := by simp; omega
   go_wp2_with (at_builtin; refine wl_append1 rfl rfl tyB HS.out 0 rfl rfl (us := [_]) rfl rfl ?_ ?_ (by decide) ?_; (intro u hu; simp only [List.mem_singleton] at hu; subst hu; rfl); (simp only [List.length_singleton]; omega); intro B8 d8 w8 hS8; have HS8 := hide hS8; clear hS8)
   go_roundw
   case rel =>
    refine ⟨k + 1, B8, m + 1, d8, by rw [← HZ.out]; omega, by have := HMK.out; omega, rfl, ?_⟩
    have h := HS8.out
    rw [rep_snoc] at h
    exact h
   case measure => (have := HMK.out); (simp [lenOf]) <;> omega
  ·obtain rfl : k = z := by omega
   have hr112 : m % 128 = 112 := by omega
   have ir : ((112 : Int) == 112) = true := by decide
   have H112 := hide hr112
   rw [hr112] at hmt
   clear hS hz112 hmk hr112
   go_upto_region 7 with (at_builtin; refine wl_appendZ (k := 8) (l := l ++ [128] ++ List.replicate k 0) rfl rfl Tryz.underlying22 Tryz.underlying3 infoB HS.out 0 rfl rfl rfl (by omega) (by omega) ?_; intro B9 d9 w9 hS9; have HS9 := hide hS9; clear hS9)
   obtain ⟨n8, hn8⟩ : ∃ q, q = 8 * n := ⟨_, rfl⟩
   have HN8 := hide hn8
   have h8b : n8 < 18446744073709551616 := by omega
   have h8w : IntKind.u64.wrap ((n : Int) * 8) = (n8 : Int) := by rw [IntKind.wrap_u64]; omega
   obtain ⟨x, hx⟩ : ∃ x, x = l ++ padL n := ⟨_, rfl⟩
   have hT : l ++ [128] ++ List.replicate k 0 ++ List.replicate 8 0 ++ beL 8 n8 = x := by
    rw [hx, hn8]
    unfold padL
    rw [← HZ.out, show beL 8 0 = List.replicate 8 0 from by decide +kernel]
    simp only [List.append_assoc]
   have HX := hide hx
   have HT := hide hT
   have HNX : Hid (x.length = m + 8 + 8) := hide (by
    have := congrArg List.length hT
    rw [← this]
    simp only [List.length_append, List.length_replicate, beL_len, HL.out, List.length_singleton]
    have := HMK.out
    omega)
   clear hn8 hx hT
   go_wp2_with fail
   go_loopw [5, 6] (fun v i wr => LenRel w g3 g4 (m + 8 + 8) n8 x v i wr) (fun _ i _ => (intOf i + 1).toNat)
   case atStart => exact ⟨8, B9, m + 8, d9, _, Nat.le_refl _, rfl, rfl, rfl, HT.out, HS9.out⟩
   case round =>
    clear HS9
    obtain ⟨j, B2, m2, d2, y, hj, rfl, rfl, hmj, hy, hS⟩ := hrel
    have HY := hide hy
    have HMJ := hide hmj
    have HS2 := hide hS
    have hm2 : m2 ≤ 4000 := by omega
    clear hy hS hmj
    cases j with
    | zero =>
     rw [show (((0 : Nat) : Int) - 1) = (-1 : Int) from rfl]
     obtain rfl : m2 = m + 8 + 8 := by have := HMJ.out; omega
     obtain rfl : y = x := by have := HY.out; rwa [beL, List.append_nil] at this
     obtain ⟨N, hN⟩ : ∃ N, N = m + 8 + 8 := ⟨_, rfl⟩
     obtain ⟨Q, hQ⟩ : ∃ Q, N = 128 * Q := ⟨N / 128, by have := H112.out; omega⟩
     have hN1 : 1 ≤ Q := by omega
     rw [← hN] at HS2 HNX ⊢
     have hNb : N ≤ 4000 := by omega
     obtain ⟨b, o, rfl⟩ := rd_some (HS2.out.rd 0 rfl) (by omega)
     have HNX := hide HNX.out
     clear HMJ HY H112 hN hmt hk hlt ir hz127 h8b h8w HS HMK hmb hj hm2 HT HN8
     go_wp2_with fail
     go_loopw [5] (fun v wr => BlkRel w g3 g4 b o N d2 y v wr) (fun v _ => lenOf v)
     case atStart => exact ⟨0, o, by omega, fun _ => rfl, rfl, HS2.out⟩
     case round =>
      clear HS2
      obtain ⟨i, oo, hi, hoo, rfl, hS⟩ := hrel
      have HS := hide hS
      clear hS
      by_cases hlt : 128 * i < N
      ·have hi1 : 128 * i + 128 ≤ N := by omega
       have hst := runN_ok i h0L y h0_ok.1 h0_ok.2
       have HSN := hide (runN_snoc i h0L y)
       obtain ⟨st, hst0⟩ : ∃ s, s = runN h0L i y := ⟨_, rfl⟩
       rw [← hst0] at HS hst HSN
       have HST := hide hst
       obtain ⟨L, hLe⟩ : ∃ q, q = N - 128 * i := ⟨_, rfl⟩
       obtain ⟨d', hde⟩ : ∃ q, q = d2 - 128 * i := ⟨_, rfl⟩
       rw [← hLe, ← hde]
       replace hoo := hoo hlt
       have hdc : N ≤ d2 := rd_cap (HS.out.rd 0 rfl)
       have HOO := hide hoo
       have HLE := hide hLe
       have HDE := hide hde
       have hL1 : 128 ≤ L := by omega
       have hLb : L ≤ 4000 := by omega
       have hdL : L ≤ d' := by omega
       have dL : decide ((0 : Int) < (L : Int)) = true := by simp; omega
       clear hoo hLe hde hst hst0
       go_upto_region 13 with fail
       refine wp_region_list ?_
       refine wl_allocS rfl (zs := z80) (e := 181) (fun W => alloc80 rfl W) HS.out ?_
       intro gW w3 hS3
       refine wpList_nil ?_
       (try simp only [Act.put, nq1, nq2, nq3, nq4, nq5, nq6])
       obtain ⟨bb, hbb⟩ : ∃ l, l = (y.drop (128 * i)).take 128 := ⟨_, rfl⟩
       have hbl : bb.length = 128 := by rw [hbb, List.length_take, List.length_drop, HNX.out]; omega
       rw [z80_eq bb] at hS3
       rw [← hbb] at HSN
       have HBA : Hid (∀ j t, j < 16 → t < 8 → ∃ cc, y[128 * i + (8 * j + t)]? = some cc ∧ ((bb.drop (8 * j)).take 8)[t]? = some cc) := hide (fun j t hj ht => by rw [hbb]; exact byte_at y i j t (by rw [HNX.out]; exact hi1) hj ht)
       have HBL := hide hbl
       have HS3 := hide hS3
       clear hS3 HS hbb hbl
       go_wp2_with fail
       go_loopw [60] (fun q wr => W4Rel w gW bb (RC g3 g4 (some ⟨b, o, none⟩) N d2 y st) q wr) (fun q _ => 16 - (intOf q).toNat)
       case atStart => exact ⟨0, by omega, rfl, HS3.out⟩
       case round =>
        clear HS3
        obtain ⟨j, hj, rfl, hS⟩ := hrel
        by_cases hlt2 : j < 16
        ·rw [← schA_zero bb j (by omega)] at hS
         have HS := hide hS
         have HSE := hide (schA_set bb j (by omega))
         have dj : decide ((j : Int) < 16) = true := by simp; omega
         have hj15 : j ≤ 15 := by omega
         have HRL : Hid (((bb.drop (8 * j)).take 8).length = 8) := hide (by rw [List.length_take, List.length_drop, HBL.out]; omega)
         clear hS hj
         go_wp2_with fail
         go_loopw [63] (fun q wr => W5Rel w gW j bb (RC g3 g4 (some ⟨b, o, none⟩) N d2 y st) q wr) (fun q _ => 8 - (intOf q).toNat)
         case atStart => exact ⟨0, by omega, rfl, HS.out⟩
         case round =>
          clear HS
          obtain ⟨t, ht, rfl, hS⟩ := hrel
          by_cases hlt3 : t < 8
          ·obtain ⟨cc, hc1, hc2⟩ := HBA.out j t (by omega) hlt3
           have hV := beV8 ((bb.drop (8 * j)).take 8) t (by omega) (by rw [HRL.out]; omega)
           have hVN := beV_take hc2
           have HS := hide hS.drew
           obtain ⟨V, hVe⟩ : ∃ q, q = beV (((bb.drop (8 * j)).take 8).take t) := ⟨_, rfl⟩
           rw [← hVe] at HS hV hVN
           have HVN := hide hVN
           have HVE := hide hVe
           have hor := shl_or V cc.toNat hV cc.toNat_lt
           obtain ⟨e, he⟩ : ∃ q, q = 8 * j + t := ⟨_, rfl⟩
           rw [← he] at hc1
           obtain ⟨s8, hs8⟩ : ∃ q, q = 8 * j := ⟨_, rfl⟩
           have hsj : (8 : Int) * (j : Int) = (s8 : Int) := by omega
           have hse : (s8 : Int) + (t : Int) = (e : Int) := by omega
           have he127 : e ≤ 127 := by omega
           have hw1 : IntKind.i64.wrap (s8 : Int) = (s8 : Int) := by rw [IntKind.wrap_i64]; omega
           have hw2 : IntKind.i64.wrap ((s8 : Int) + (t : Int)) = (e : Int) := by rw [IntKind.wrap_i64]; omega
           have hs120 : s8 ≤ 120 := by omega
           have ie : (e : Int) < (L : Int) := by omega
           have dt : decide ((t : Int) < 8) = true := by simp; omega
           have ij : (j : Int) < 80 := by omega
           have ct : ∀ z, From wr.drew z → z.cell? ⟨gW, j, none⟩ = some (.int .u64 (V : Int)) := fun z hz => by
            rw [hz.cell (p := ⟨gW, j, none⟩) (Chunk.lt (HS.out.sat 0 _ rfl) rfl), HS.out.cell 0 rfl j]
            exact uvs_get (by rw [List.getElem?_set, if_pos rfl, if_pos (by rw [schA_len bb j (by omega)]; omega)])
           have cb : ∀ z, From wr.drew z → z.cell? ⟨b, oo + e, none⟩ = some (.int .u8 (cc.toNat : Int)) := fun z hz => by
            have h := rd_at0 ((HS.out.rd 1 rfl).below hz) (bvs_get hc1)
            rw [HOO.out, Nat.add_assoc]
            exact h
           have hcw : IntKind.u64.wrap (cc.toNat : Int) = (cc.toNat : Int) := by (have := cc.toNat_lt); rw [IntKind.wrap_u64]; omega
           have HC := hide cc.toNat_lt
           have HSL := hide (schA_len bb j (by omega))
           generalize cc.toNat = cn at *
           clear hS hc1 hc2 hV hVN hVe he hs8 hse
           generalize V * 256 + cn = V2 at *
           go_wp2_with fail
           refine wp_region_M (fun i => i == 15) (From wr.drew) (by kernel_rfl) ?_
           (refine wpM_takeU (i := 0) (v := ?_) rfl (by kernel_rfl) (by kernel_rfl) (by kernel_rfl) (fun _ _ _ h => h) ((From.refl wr.drew)) rfl (Or.inl ⟨by first | kernel_rfl | rfl, ?_⟩) ?_; rotate_left; (intro wx; go_simp) <;> (with_reducible rfl); (try simp only [Act.put, nq1, nq2, nq3, nq4, nq5, nq6])); (refine wpM_takeU (i := 1) (v := ?_) rfl (by kernel_rfl) (by kernel_rfl) (by kernel_rfl) (fun _ _ _ h => h) ((From.refl wr.drew)) rfl (Or.inl ⟨by first | kernel_rfl | rfl, ?_⟩) ?_; rotate_left; (intro wx; go_simp) <;> (with_reducible rfl); (try simp only [Act.put, nq1, nq2, nq3, nq4, nq5, nq6])); (refine wpM_takeU (i := 2) (v := ?_) rfl (by kernel_rfl) (by kernel_rfl) (by kernel_rfl) (fun _ _ _ h => h) ((From.refl wr.drew)) rfl (Or.inl ⟨by first | kernel_rfl | rfl, ?_⟩) ?_; rotate_left; (intro wx; go_simp) <;> (with_reducible rfl); (try simp only [Act.put, nq1, nq2, nq3, nq4, nq5, nq6]))
           (refine wpM_take (i := 3) (v := ?_) rfl (by kernel_rfl) (by kernel_rfl) (by kernel_rfl) (fun _ _ _ h => h) ((From.refl wr.drew)) rfl (by kernel_rfl) (Or.inl ⟨by first | kernel_rfl | rfl, ?_⟩) ?_; rotate_left; (intro wx hx; go_simp) <;> (with_reducible rfl); (try simp only [Act.put, nq1, nq2, nq3, nq4, nq5, nq6]))
           (refine wpM_takeU (i := 4) (v := ?_) rfl (by kernel_rfl) (by kernel_rfl) (by kernel_rfl) (fun _ _ _ h => h) ((From.refl wr.drew)) rfl (Or.inl ⟨by first | kernel_rfl | rfl, ?_⟩) ?_; rotate_left; (intro wx; go_simp) <;> (with_reducible rfl); (try simp only [Act.put, nq1, nq2, nq3, nq4, nq5, nq6])); (refine wpM_takeU (i := 5) (v := ?_) rfl (by kernel_rfl) (by kernel_rfl) (by kernel_rfl) (fun _ _ _ h => h) ((From.refl wr.drew)) rfl (Or.inl ⟨by first | kernel_rfl | rfl, ?_⟩) ?_; rotate_left; (intro wx; go_simp) <;> (with_reducible rfl); (try simp only [Act.put, nq1, nq2, nq3, nq4, nq5, nq6])); (refine wpM_takeU (i := 6) (v := ?_) rfl (by kernel_rfl) (by kernel_rfl) (by kernel_rfl) (fun _ _ _ h => h) ((From.refl wr.drew)) rfl (Or.inl ⟨by first | kernel_rfl | rfl, ?_⟩) ?_; rotate_left; (intro wx; go_simp) <;> (with_reducible rfl); (try simp only [Act.put, nq1, nq2, nq3, nq4, nq5, nq6])); (refine wpM_takeU (i := 7) (v := ?_) rfl (by kernel_rfl) (by kernel_rfl) (by kernel_rfl) (fun _ _ _ h => h) ((From.refl wr.drew)) rfl (Or.inl ⟨by first | kernel_rfl | rfl, ?_⟩) ?_; rotate_left; (intro wx; go_simp) <;> (with_reducible rfl); (try simp only [Act.put, nq1, nq2, nq3, nq4, nq5, nq6])); (refine wpM_takeU (i := 8) (v := ?_) rfl (by kernel_rfl) (by kernel_rfl) (by kernel_rfl) (fun _ _ _ h => h) ((From.refl wr.drew)) rfl (Or.inl ⟨by first | kernel_rfl | rfl, ?_⟩) ?_; rotate_left; (intro wx; go_simp) <;> (with_reducible rfl); (try simp only [Act.put, nq1, nq2, nq3, nq4, nq5, nq6])); (refine wpM_takeU (i := 9) (v := ?_) rfl (by kernel_rfl) (by kernel_rfl) (by kernel_rfl) (fun _ _ _ h => h) ((From.refl wr.drew)) rfl (Or.inl ⟨by first | kernel_rfl | rfl, ?_⟩) ?_; rotate_left; (intro wx; go_simp) <;> (with_reducible rfl); (try simp only [Act.put, nq1, nq2, nq3, nq4, nq5, nq6])); (refine wpM_takeU (i := 10) (v := ?_) rfl (by kernel_rfl) (by kernel_rfl) (by kernel_rfl) (fun _ _ _ h => h) ((From.refl wr.drew)) rfl (Or.inl ⟨by first | kernel_rfl | rfl, ?_⟩) ?_; rotate_left; (intro wx; go_simp) <;> (with_reducible rfl); (try simp only [Act.put, nq1, nq2, nq3, nq4, nq5, nq6]))
           (refine wpM_take (i := 11) (v := ?_) rfl (by kernel_rfl) (by kernel_rfl) (by kernel_rfl) (fun _ _ _ h => h) ((From.refl wr.drew)) rfl (by kernel_rfl) (Or.inl ⟨by first | kernel_rfl | rfl, ?_⟩) ?_; rotate_left; (intro wx hx; go_simp) <;> (with_reducible rfl); (try simp only [Act.put, nq1, nq2, nq3, nq4, nq5, nq6]))
           (refine wpM_takeU (i := 12) (v := ?_) rfl (by kernel_rfl) (by kernel_rfl) (by kernel_rfl) (fun _ _ _ h => h) ((From.refl wr.drew)) rfl (Or.inl ⟨by first | kernel_rfl | rfl, ?_⟩) ?_; rotate_left; (intro wx; go_simp) <;> (with_reducible rfl); (try simp only [Act.put, nq1, nq2, nq3, nq4, nq5, nq6])); (refine wpM_takeU (i := 13) (v := ?_) rfl (by kernel_rfl) (by kernel_rfl) (by kernel_rfl) (fun _ _ _ h => h) ((From.refl wr.drew)) rfl (Or.inl ⟨by first | kernel_rfl | rfl, ?_⟩) ?_; rotate_left; (intro wx; go_simp) <;> (with_reducible rfl); (try simp only [Act.put, nq1, nq2, nq3, nq4, nq5, nq6])); (refine wpM_takeU (i := 14) (v := ?_) rfl (by kernel_rfl) (by kernel_rfl) (by kernel_rfl) (fun _ _ _ h => h) ((From.refl wr.drew)) rfl (Or.inl ⟨by first | kernel_rfl | rfl, ?_⟩) ?_; rotate_left; (intro wx; go_simp) <;> (with_reducible rfl); (try simp only [Act.put, nq1, nq2, nq3, nq4, nq5, nq6]))
           (refine wpM_late (i := 15) (by kernel_rfl) rfl rfl ?_; intro K hK; (try simp only [Act.put, nq1, nq2, nq3, nq4, nq5, nq6]))
           refine step_store rfl rfl tyU64 HS.out 0 rfl j (by rw [List.size_toArray, uvs_len, List.length_set, HSL.out]; omega) rfl (v := .int .u64 (V2 : Int)) (by first | rfl | exact congrArg (Value.int .u64) hor) rfl ?_
           intro w9 hS9
           refine hK _ _ ?_
           clear hK K
           (try simp only [Act.put, nq1, nq2, nq3, nq4, nq5, nq6])
           refine wpAny_done (by kernel_rfl) ?_ _
           go_wp2_with fail
           go_roundw
           case rel =>
            refine ⟨t + 1, by omega, by go_num, ?_⟩
            have h := hS9
            rw [List.set_cons_zero, uvs_set, List.set_set, ← HVN.out] at h
            exact h
           case measure => (simp [intOf]) <;> omega
          ·obtain rfl : t = 8 := by omega
           have h8 : ((bb.drop (8 * j)).take 8).take 8 = (bb.drop (8 * j)).take 8 := List.take_of_length_le (by rw [HRL.out]; exact Nat.le_refl _)
           have hse := HSE.out
           rw [if_pos (by omega)] at hse
           rw [h8, hse] at hS
           have HS := hide hS
           clear hS h8 hse
           go_wp2_with fail
           go_roundw
           case rel => exact ⟨j + 1, by omega, by go_num, HS.out⟩
           case measure => (simp [intOf]) <;> omega
        ·obtain rfl : j = 16 := by omega
         have HS4 := hide hS
         clear hS
         go_wp2_with fail
         go_loopw [10] (fun q wr => W6Rel w gW bb (RC g3 g4 (some ⟨b, o, none⟩) N d2 y st) q wr) (fun q _ => 80 - (intOf q).toNat)
         case atStart => exact ⟨16, by omega, by omega, rfl, HS4.out⟩
         case round =>
          clear HS4
          obtain ⟨j, hj16, hj, rfl, hS⟩ := hrel
          by_cases hlt4 : j < 80
          ·have dj : decide ((j : Int) < 80) = true := by simp; omega
           have HT := hide (schA_set bb j hlt4)
           have HS' := hide hS.drew
           obtain ⟨i2, hi2⟩ : ∃ m, m = j - 2 := ⟨_, rfl⟩
           obtain ⟨y2, hy2⟩ : ∃ y, y = (schL bb j).getD i2 0 := ⟨_, rfl⟩
           have g2 : (schA bb j)[i2]? = some y2 := by rw [hy2]; exact schA_get bb j i2 (by omega)
           have b2 : y2 < W1 := by rw [hy2, List.getD_eq_getElem?_getD, List.getElem?_eq_getElem (by rw [schL_len]; omega)]; exact schL_words bb j _ (List.getElem_mem _)
           have s2 : IntKind.i64.wrap ((j : Int) - 2) = (i2 : Int) := by rw [IntKind.wrap_i64]; omega
           have t2 : (i2 : Int) < 80 := by omega
           have c2 : ∀ z, From wr.drew z → z.cell? ⟨gW, i2, none⟩ = some (.int .u64 (y2 : Int)) := fun z hz => by rw [hz.cell (p := ⟨gW, i2, none⟩) (Chunk.lt (HS'.out.sat 0 _ rfl) rfl), HS'.out.cell 0 rfl i2]; exact uvs_get g2
           obtain ⟨i7, hi7⟩ : ∃ m, m = j - 7 := ⟨_, rfl⟩
           obtain ⟨y7, hy7⟩ : ∃ y, y = (schL bb j).getD i7 0 := ⟨_, rfl⟩
           have g7 : (schA bb j)[i7]? = some y7 := by rw [hy7]; exact schA_get bb j i7 (by omega)
           have b7 : y7 < W1 := by rw [hy7, List.getD_eq_getElem?_getD, List.getElem?_eq_getElem (by rw [schL_len]; omega)]; exact schL_words bb j _ (List.getElem_mem _)
           have s7 : IntKind.i64.wrap ((j : Int) - 7) = (i7 : Int) := by rw [IntKind.wrap_i64]; omega
           have t7 : (i7 : Int) < 80 := by omega
           have c7 : ∀ z, From wr.drew z → z.cell? ⟨gW, i7, none⟩ = some (.int .u64 (y7 : Int)) := fun z hz => by rw [hz.cell (p := ⟨gW, i7, none⟩) (Chunk.lt (HS'.out.sat 0 _ rfl) rfl), HS'.out.cell 0 rfl i7]; exact uvs_get g7
           obtain ⟨i15, hi15⟩ : ∃ m, m = j - 15 := ⟨_, rfl⟩
           obtain ⟨y15, hy15⟩ : ∃ y, y = (schL bb j).getD i15 0 := ⟨_, rfl⟩
           have g15 : (schA bb j)[i15]? = some y15 := by rw [hy15]; exact schA_get bb j i15 (by omega)
           have b15 : y15 < W1 := by rw [hy15, List.getD_eq_getElem?_getD, List.getElem?_eq_getElem (by rw [schL_len]; omega)]; exact schL_words bb j _ (List.getElem_mem _)
           have s15 : IntKind.i64.wrap ((j : Int) - 15) = (i15 : Int) := by rw [IntKind.wrap_i64]; omega
           have t15 : (i15 : Int) < 80 := by omega
           have c15 : ∀ z, From wr.drew z → z.cell? ⟨gW, i15, none⟩ = some (.int .u64 (y15 : Int)) := fun z hz => by rw [hz.cell (p := ⟨gW, i15, none⟩) (Chunk.lt (HS'.out.sat 0 _ rfl) rfl), HS'.out.cell 0 rfl i15]; exact uvs_get g15
           obtain ⟨i16, hi16⟩ : ∃ m, m = j - 16 := ⟨_, rfl⟩
           obtain ⟨y16, hy16⟩ : ∃ y, y = (schL bb j).getD i16 0 := ⟨_, rfl⟩
           have g16 : (schA bb j)[i16]? = some y16 := by rw [hy16]; exact schA_get bb j i16 (by omega)
           have b16 : y16 < W1 := by rw [hy16, List.getD_eq_getElem?_getD, List.getElem?_eq_getElem (by rw [schL_len]; omega)]; exact schL_words bb j _ (List.getElem_mem _)
           have s16 : IntKind.i64.wrap ((j : Int) - 16) = (i16 : Int) := by rw [IntKind.wrap_i64]; omega
           have t16 : (i16 : Int) < 80 := by omega
           have c16 : ∀ z, From wr.drew z → z.cell? ⟨gW, i16, none⟩ = some (.int .u64 (y16 : Int)) := fun z hz => by rw [hz.cell (p := ⟨gW, i16, none⟩) (Chunk.lt (HS'.out.sat 0 _ rfl) rfl), HS'.out.cell 0 rfl i16]; exact uvs_get g16
           have hF : schF (schL bb j) j = wad (wad (wad (spr y2 19 61 6) y7) (spr y15 1 8 7)) y16 := by unfold schF; rw [← hi2, ← hi7, ← hi15, ← hi16, ← hy2, ← hy7, ← hy15, ← hy16]
           have i80 : (j : Int) < 80 := by omega
           have o2 : bits .xor .u64 (bits .xor .u64 ((rot y2 19 : Nat) : Int) ((rot y2 61 : Nat) : Int)) ((y2 : Int) / 64) = ((spr y2 19 61 6 : Nat) : Int) := spr_of y2 19 61 6 64 b2 rfl
           have o15 : bits .xor .u64 (bits .xor .u64 ((rot y15 1 : Nat) : Int) ((rot y15 8 : Nat) : Int)) ((y15 : Int) / 128) = ((spr y15 1 8 7 : Nat) : Int) := spr_of y15 1 8 7 128 b15 rfl
           have HA1 := hide (fun W => rotr_any y2 19 W b2 (by decide) (by decide))
           have HA2 := hide (fun W => rotr_any y2 61 W b2 (by decide) (by decide))
           have HB1 := hide (fun W => rotr_any y15 1 W b15 (by decide) (by decide))
           have HB2 := hide (fun W => rotr_any y15 8 W b15 (by decide) (by decide))
           have w1 : IntKind.u64.wrap (((spr y2 19 61 6 : Nat) : Int) + (y7 : Int)) = ((wad (spr y2 19 61 6) y7 : Nat) : Int) := wad_wrap _ _
           have w2 : IntKind.u64.wrap (((wad (spr y2 19 61 6) y7 : Nat) : Int) + ((spr y15 1 8 7 : Nat) : Int)) = ((wad (wad (spr y2 19 61 6) y7) (spr y15 1 8 7) : Nat) : Int) := wad_wrap _ _
           have w3 : IntKind.u64.wrap (((wad (wad (spr y2 19 61 6) y7) (spr y15 1 8 7) : Nat) : Int) + (y16 : Int)) = ((wad (wad (wad (spr y2 19 61 6) y7) (spr y15 1 8 7)) y16 : Nat) : Int) := wad_wrap _ _
           generalize wad (wad (wad (spr y2 19 61 6) y7) (spr y15 1 8 7)) y16 = z3 at *
           generalize wad (wad (spr y2 19 61 6) y7) (spr y15 1 8 7) = z2 at *
           generalize wad (spr y2 19 61 6) y7 = z1 at *
           generalize spr y2 19 61 6 = p1 at *
           generalize spr y15 1 8 7 = p2 at *
           have HF := hide hF
           have HLEN := hide (schA_len bb j hj)
           clear hF hS hi2 hy2 g2 b2 hi7 hy7 g7 b7 hi15 hy15 g15 b15 hi16 hy16 g16 b16
           go_upto_region 26 with fail
           refine wp_region_F (by kernel_rfl) ?_
           (refine wpG_take (i := 0) (v := ?_) rfl (by kernel_rfl) (by kernel_rfl) (by kernel_rfl) (fun _ _ _ h => h) (From.refl _) (Or.inl ⟨by first | kernel_rfl | rfl, ?_⟩) ?_; rotate_left; (intro wx hx; go_simp) <;> (with_reducible rfl); (try simp only [Act.put, nq1, nq2, nq3, nq4, nq5, nq6])); (refine wpG_take (i := 1) (v := ?_) rfl (by kernel_rfl) (by kernel_rfl) (by kernel_rfl) (fun _ _ _ h => h) (From.refl _) (Or.inl ⟨by first | kernel_rfl | rfl, ?_⟩) ?_; rotate_left; (intro wx hx; go_simp) <;> (with_reducible rfl); (try simp only [Act.put, nq1, nq2, nq3, nq4, nq5, nq6])); (refine wpG_take (i := 2) (v := ?_) rfl (by kernel_rfl) (by kernel_rfl) (by kernel_rfl) (fun _ _ _ h => h) (From.refl _) (Or.inl ⟨by first | kernel_rfl | rfl, ?_⟩) ?_; rotate_left; (intro wx hx; go_simp) <;> (with_reducible rfl); (try simp only [Act.put, nq1, nq2, nq3, nq4, nq5, nq6])); (refine wpG_take (i := 3) (v := ?_) rfl (by kernel_rfl) (by kernel_rfl) (by kernel_rfl) (fun _ _ _ h => h) (From.refl _) (Or.inl ⟨by first | kernel_rfl | rfl, ?_⟩) ?_; rotate_left; (intro wx hx; go_simp) <;> (with_reducible rfl); (try simp only [Act.put, nq1, nq2, nq3, nq4, nq5, nq6])); (refine wpG_take (i := 4) (v := ?_) rfl (by kernel_rfl) (by kernel_rfl) (by kernel_rfl) (fun _ _ _ h => h) (From.refl _) (Or.inl ⟨by first | kernel_rfl | rfl, ?_⟩) ?_; rotate_left; (intro wx hx; go_simp) <;> (with_reducible rfl); (try simp only [Act.put, nq1, nq2, nq3, nq4, nq5, nq6])); (refine wpG_take (i := 5) (v := ?_) rfl (by kernel_rfl) (by kernel_rfl) (by kernel_rfl) (fun _ _ _ h => h) (From.refl _) (Or.inl ⟨by first | kernel_rfl | rfl, ?_⟩) ?_; rotate_left; (intro wx hx; go_simp) <;> (with_reducible rfl); (try simp only [Act.put, nq1, nq2, nq3, nq4, nq5, nq6])); (refine wpG_take (i := 6) (v := ?_) rfl (by kernel_rfl) (by kernel_rfl) (by kernel_rfl) (fun _ _ _ h => h) (From.refl _) (Or.inl ⟨by first | kernel_rfl | rfl, ?_⟩) ?_; rotate_left; (intro wx hx; go_simp) <;> (with_reducible rfl); (try simp only [Act.put, nq1, nq2, nq3, nq4, nq5, nq6])); (refine wpG_take (i := 7) (v := ?_) rfl (by kernel_rfl) (by kernel_rfl) (by kernel_rfl) (fun _ _ _ h => h) (From.refl _) (Or.inl ⟨by first | kernel_rfl | rfl, ?_⟩) ?_; rotate_left; (intro wx hx; go_simp) <;> (with_reducible rfl); (try simp only [Act.put, nq1, nq2, nq3, nq4, nq5, nq6])); (refine wpG_take (i := 8) (v := ?_) rfl (by kernel_rfl) (by kernel_rfl) (by kernel_rfl) (fun _ _ _ h => h) (From.refl _) (Or.inl ⟨by first | kernel_rfl | rfl, ?_⟩) ?_; rotate_left; (intro wx hx; go_simp) <;> (with_reducible rfl); (try simp only [Act.put, nq1, nq2, nq3, nq4, nq5, nq6])); (refine wpG_take (i := 9) (v := ?_) rfl (by kernel_rfl) (by kernel_rfl) (by kernel_rfl) (fun _ _ _ h => h) (From.refl _) (Or.inl ⟨by first | kernel_rfl | rfl, ?_⟩) ?_; rotate_left; (intro wx hx; go_simp) <;> (with_reducible rfl); (try simp only [Act.put, nq1, nq2, nq3, nq4, nq5, nq6]))
           refine wpG_done (by kernel_rfl) ?_ _
           go_wp2_with fail
           have F0 : From wr.drew wr.drew.drew := (Below.refl _ _).drew
           refine wp_region_M (fun i => i == 29) (From wr.drew) (by kernel_rfl) ?_
           (refine wpM_takeU (i := 0) (v := ?_) rfl (by kernel_rfl) (by kernel_rfl) (by kernel_rfl) (fun _ _ _ h => h) (F0) rfl (Or.inl ⟨by first | kernel_rfl | rfl, ?_⟩) ?_; rotate_left; (intro wx; go_simp) <;> (with_reducible rfl); (try simp only [Act.put, nq1, nq2, nq3, nq4, nq5, nq6])); (refine wpM_takeU (i := 1) (v := ?_) rfl (by kernel_rfl) (by kernel_rfl) (by kernel_rfl) (fun _ _ _ h => h) (F0) rfl (Or.inl ⟨by first | kernel_rfl | rfl, ?_⟩) ?_; rotate_left; (intro wx; go_simp) <;> (with_reducible rfl); (try simp only [Act.put, nq1, nq2, nq3, nq4, nq5, nq6])); (refine wpM_takeU (i := 3) (v := ?_) rfl (by kernel_rfl) (by kernel_rfl) (by kernel_rfl) (fun _ _ _ h => h) (F0) rfl (Or.inl ⟨by first | kernel_rfl | rfl, ?_⟩) ?_; rotate_left; (intro wx; go_simp) <;> (with_reducible rfl); (try simp only [Act.put, nq1, nq2, nq3, nq4, nq5, nq6])); (refine wpM_takeU (i := 6) (v := ?_) rfl (by kernel_rfl) (by kernel_rfl) (by kernel_rfl) (fun _ _ _ h => h) (F0) rfl (Or.inl ⟨by first | kernel_rfl | rfl, ?_⟩) ?_; rotate_left; (intro wx; go_simp) <;> (with_reducible rfl); (try simp only [Act.put, nq1, nq2, nq3, nq4, nq5, nq6])); (refine wpM_takeU (i := 7) (v := ?_) rfl (by kernel_rfl) (by kernel_rfl) (by kernel_rfl) (fun _ _ _ h => h) (F0) rfl (Or.inl ⟨by first | kernel_rfl | rfl, ?_⟩) ?_; rotate_left; (intro wx; go_simp) <;> (with_reducible rfl); (try simp only [Act.put, nq1, nq2, nq3, nq4, nq5, nq6])); (refine wpM_takeU (i := 9) (v := ?_) rfl (by kernel_rfl) (by kernel_rfl) (by kernel_rfl) (fun _ _ _ h => h) (F0) rfl (Or.inl ⟨by first | kernel_rfl | rfl, ?_⟩) ?_; rotate_left; (intro wx; go_simp) <;> (with_reducible rfl); (try simp only [Act.put, nq1, nq2, nq3, nq4, nq5, nq6])); (refine wpM_takeU (i := 10) (v := ?_) rfl (by kernel_rfl) (by kernel_rfl) (by kernel_rfl) (fun _ _ _ h => h) (F0) rfl (Or.inl ⟨by first | kernel_rfl | rfl, ?_⟩) ?_; rotate_left; (intro wx; go_simp) <;> (with_reducible rfl); (try simp only [Act.put, nq1, nq2, nq3, nq4, nq5, nq6])); (refine wpM_takeU (i := 11) (v := ?_) rfl (by kernel_rfl) (by kernel_rfl) (by kernel_rfl) (fun _ _ _ h => h) (F0) rfl (Or.inl ⟨by first | kernel_rfl | rfl, ?_⟩) ?_; rotate_left; (intro wx; go_simp) <;> (with_reducible rfl); (try simp only [Act.put, nq1, nq2, nq3, nq4, nq5, nq6]))
           (refine wpM_take (i := 12) (v := ?_) rfl (by kernel_rfl) (by kernel_rfl) (by kernel_rfl) (fun _ _ _ h => h) (F0) rfl (by kernel_rfl) (Or.inl ⟨by first | kernel_rfl | rfl, ?_⟩) ?_; rotate_left; (intro wx hx; go_simp) <;> (with_reducible rfl); (try simp only [Act.put, nq1, nq2, nq3, nq4, nq5, nq6]))
           (refine wpM_takeU (i := 14) (v := ?_) rfl (by kernel_rfl) (by kernel_rfl) (by kernel_rfl) (fun _ _ _ h => h) (F0) rfl (Or.inl ⟨by first | kernel_rfl | rfl, ?_⟩) ?_; rotate_left; (intro wx; go_simp) <;> (with_reducible rfl); (try simp only [Act.put, nq1, nq2, nq3, nq4, nq5, nq6])); (refine wpM_takeU (i := 16) (v := ?_) rfl (by kernel_rfl) (by kernel_rfl) (by kernel_rfl) (fun _ _ _ h => h) (F0) rfl (Or.inl ⟨by first | kernel_rfl | rfl, ?_⟩) ?_; rotate_left; (intro wx; go_simp) <;> (with_reducible rfl); (try simp only [Act.put, nq1, nq2, nq3, nq4, nq5, nq6])); (refine wpM_takeU (i := 19) (v := ?_) rfl (by kernel_rfl) (by kernel_rfl) (by kernel_rfl) (fun _ _ _ h => h) (F0) rfl (Or.inl ⟨by first | kernel_rfl | rfl, ?_⟩) ?_; rotate_left; (intro wx; go_simp) <;> (with_reducible rfl); (try simp only [Act.put, nq1, nq2, nq3, nq4, nq5, nq6])); (refine wpM_takeU (i := 20) (v := ?_) rfl (by kernel_rfl) (by kernel_rfl) (by kernel_rfl) (fun _ _ _ h => h) (F0) rfl (Or.inl ⟨by first | kernel_rfl | rfl, ?_⟩) ?_; rotate_left; (intro wx; go_simp) <;> (with_reducible rfl); (try simp only [Act.put, nq1, nq2, nq3, nq4, nq5, nq6])); (refine wpM_takeU (i := 23) (v := ?_) rfl (by kernel_rfl) (by kernel_rfl) (by kernel_rfl) (fun _ _ _ h => h) (F0) rfl (Or.inl ⟨by first | kernel_rfl | rfl, ?_⟩) ?_; rotate_left; (intro wx; go_simp) <;> (with_reducible rfl); (try simp only [Act.put, nq1, nq2, nq3, nq4, nq5, nq6])); (refine wpM_takeU (i := 24) (v := ?_) rfl (by kernel_rfl) (by kernel_rfl) (by kernel_rfl) (fun _ _ _ h => h) (F0) rfl (Or.inl ⟨by first | kernel_rfl | rfl, ?_⟩) ?_; rotate_left; (intro wx; go_simp) <;> (with_reducible rfl); (try simp only [Act.put, nq1, nq2, nq3, nq4, nq5, nq6])); (refine wpM_takeU (i := 25) (v := ?_) rfl (by kernel_rfl) (by kernel_rfl) (by kernel_rfl) (fun _ _ _ h => h) (F0) rfl (Or.inl ⟨by first | kernel_rfl | rfl, ?_⟩) ?_; rotate_left; (intro wx; go_simp) <;> (with_reducible rfl); (try simp only [Act.put, nq1, nq2, nq3, nq4, nq5, nq6]))
           (refine wpM_take (i := 26) (v := ?_) rfl (by kernel_rfl) (by kernel_rfl) (by kernel_rfl) (fun _ _ _ h => h) (F0) rfl (by kernel_rfl) (Or.inl ⟨by first | kernel_rfl | rfl, ?_⟩) ?_; rotate_left; (intro wx hx; go_simp) <;> (with_reducible rfl); (try simp only [Act.put, nq1, nq2, nq3, nq4, nq5, nq6]))
           (refine wpM_one (i := 2) (by kernel_rfl) rfl rfl ?_; intro K hK; (try simp only [Act.put, nq1, nq2, nq3, nq4, nq5, nq6]))
           refine step_call rfl rfl enRotr rfl (HA1.out _) ?_
           rintro e v ⟨rfl, rfl⟩
           refine ⟨_, rfl, hK (From wr.drew) _ _ (fun _ h => h) F0 ?_⟩
           clear hK K
           (try simp only [Act.put, nq1, nq2, nq3, nq4, nq5, nq6])
           (refine wpM_one (i := 4) (by kernel_rfl) rfl rfl ?_; intro K hK; (try simp only [Act.put, nq1, nq2, nq3, nq4, nq5, nq6]))
           refine step_call rfl rfl enRotr rfl (HA2.out _) ?_
           rintro e v ⟨rfl, rfl⟩
           refine ⟨_, rfl, hK (From wr.drew) _ _ (fun _ h => h) F0 ?_⟩
           clear hK K
           (try simp only [Act.put, nq1, nq2, nq3, nq4, nq5, nq6])
           (refine wpM_takeU (i := 5) (v := ?_) rfl (by kernel_rfl) (by kernel_rfl) (by kernel_rfl) (fun _ _ _ h => h) (F0) rfl (Or.inl ⟨by first | kernel_rfl | rfl, ?_⟩) ?_; rotate_left; (intro wx; go_simp) <;> (with_reducible rfl); (try simp only [Act.put, nq1, nq2, nq3, nq4, nq5, nq6])); (refine wpM_takeU (i := 8) (v := ?_) rfl (by kernel_rfl) (by kernel_rfl) (by kernel_rfl) (fun _ _ _ h => h) (F0) rfl (Or.inl ⟨by first | kernel_rfl | rfl, ?_⟩) ?_; rotate_left; (intro wx; go_simp) <;> (with_reducible rfl); (try simp only [Act.put, nq1, nq2, nq3, nq4, nq5, nq6])); (refine wpM_takeU (i := 13) (v := ?_) rfl (by kernel_rfl) (by kernel_rfl) (by kernel_rfl) (fun _ _ _ h => h) (F0) rfl (Or.inl ⟨by first | kernel_rfl | rfl, ?_⟩) ?_; rotate_left; (intro wx; go_simp) <;> (with_reducible rfl); (try simp only [Act.put, nq1, nq2, nq3, nq4, nq5, nq6]))
           (refine wpM_one (i := 15) (by kernel_rfl) rfl rfl ?_; intro K hK; (try simp only [Act.put, nq1, nq2, nq3, nq4, nq5, nq6]))
           refine step_call rfl rfl enRotr rfl (HB1.out _) ?_
           rintro e v ⟨rfl, rfl⟩
           refine ⟨_, rfl, hK (From wr.drew) _ _ (fun _ h => h) F0 ?_⟩
           clear hK K
           (try simp only [Act.put, nq1, nq2, nq3, nq4, nq5, nq6])
           (refine wpM_one (i := 17) (by kernel_rfl) rfl rfl ?_; intro K hK; (try simp only [Act.put, nq1, nq2, nq3, nq4, nq5, nq6]))
           refine step_call rfl rfl enRotr rfl (HB2.out _) ?_
           rintro e v ⟨rfl, rfl⟩
           refine ⟨_, rfl, hK (From wr.drew) _ _ (fun _ h => h) F0 ?_⟩
           clear hK K
           (try simp only [Act.put, nq1, nq2, nq3, nq4, nq5, nq6])
           (refine wpM_takeU (i := 18) (v := ?_) rfl (by kernel_rfl) (by kernel_rfl) (by kernel_rfl) (fun _ _ _ h => h) (F0) rfl (Or.inl ⟨by first | kernel_rfl | rfl, ?_⟩) ?_; rotate_left; (intro wx; go_simp) <;> (with_reducible rfl); (try simp only [Act.put, nq1, nq2, nq3, nq4, nq5, nq6])); (refine wpM_takeU (i := 21) (v := ?_) rfl (by kernel_rfl) (by kernel_rfl) (by kernel_rfl) (fun _ _ _ h => h) (F0) rfl (Or.inl ⟨by first | kernel_rfl | rfl, ?_⟩) ?_; rotate_left; (intro wx; go_simp) <;> (with_reducible rfl); (try simp only [Act.put, nq1, nq2, nq3, nq4, nq5, nq6])); (refine wpM_takeU (i := 22) (v := ?_) rfl (by kernel_rfl) (by kernel_rfl) (by kernel_rfl) (fun _ _ _ h => h) (F0) rfl (Or.inl ⟨by first | kernel_rfl | rfl, ?_⟩) ?_; rotate_left; (intro wx; go_simp) <;> (with_reducible rfl); (try simp only [Act.put, nq1, nq2, nq3, nq4, nq5, nq6])); (refine wpM_takeU (i := 27) (v := ?_) rfl (by kernel_rfl) (by kernel_rfl) (by kernel_rfl) (fun _ _ _ h => h) (F0) rfl (Or.inl ⟨by first | kernel_rfl | rfl, ?_⟩) ?_; rotate_left; (intro wx; go_simp) <;> (with_reducible rfl); (try simp only [Act.put, nq1, nq2, nq3, nq4, nq5, nq6])); (refine wpM_takeU (i := 28) (v := ?_) rfl (by kernel_rfl) (by kernel_rfl) (by kernel_rfl) (fun _ _ _ h => h) (F0) rfl (Or.inl ⟨by first | kernel_rfl | rfl, ?_⟩) ?_; rotate_left; (intro wx; go_simp) <;> (with_reducible rfl); (try simp only [Act.put, nq1, nq2, nq3, nq4, nq5, nq6]))
           (refine wpM_late (i := 29) (by kernel_rfl) rfl rfl ?_; intro K hK; (try simp only [Act.put, nq1, nq2, nq3, nq4, nq5, nq6]))
           refine step_store rfl rfl tyU64 HS'.out.drew 0 rfl j (by rw [List.size_toArray, uvs_len, HLEN.out]; omega) rfl (v := .int .u64 (z3 : Int)) rfl rfl ?_
           intro w9 hS9
           refine hK _ _ ?_
           clear hK K
           (try simp only [Act.put, nq1, nq2, nq3, nq4, nq5, nq6])
           refine wpAny_done (by kernel_rfl) ?_ _
           go_wp2_with fail
           go_roundw
           case rel =>
            have ht := HT.out
            rw [if_neg (by omega), HF.out] at ht
            rw [List.set_cons_zero, uvs_set, ht] at hS9
            exact ⟨j + 1, by omega, by omega, by go_num, hS9⟩
           case measure => (simp [intOf]) <;> omega
          ·obtain rfl : j = 80 := by omega
           have hA : schA bb 80 = schL bb 80 := by unfold schA; simp
           rw [hA] at hS
           have HWL : Hid ((schL bb 80).length = 80) := hide (schL_len bb 80)
           have HWW := hide (schL_words bb 80)
           have HSN2 : Hid (runN h0L (i + 1) y = List.zipWith wad st (rnds st (schL bb 80) 80)) := hide HSN.out
           obtain ⟨ws, hws⟩ : ∃ ws, ws = schL bb 80 := ⟨_, rfl⟩
           rw [← hws] at hS HWL HWW HSN2
           obtain ⟨a0, a1, a2, a3, a4, a5, a6, a7, hst8⟩ := list8 HST.out.1
           rw [hst8] at hS
           have m0 : wr.cell? ⟨g3, 0, none⟩ = some (.int .u64 (a0 : Int)) := hS.cell 3 rfl 0
           have m1 : wr.cell? ⟨g3, 1, none⟩ = some (.int .u64 (a1 : Int)) := hS.cell 3 rfl 1
           have m2 : wr.cell? ⟨g3, 2, none⟩ = some (.int .u64 (a2 : Int)) := hS.cell 3 rfl 2
           have m3 : wr.cell? ⟨g3, 3, none⟩ = some (.int .u64 (a3 : Int)) := hS.cell 3 rfl 3
           have m4 : wr.cell? ⟨g3, 4, none⟩ = some (.int .u64 (a4 : Int)) := hS.cell 3 rfl 4
           have m5 : wr.cell? ⟨g3, 5, none⟩ = some (.int .u64 (a5 : Int)) := hS.cell 3 rfl 5
           have m6 : wr.cell? ⟨g3, 6, none⟩ = some (.int .u64 (a6 : Int)) := hS.cell 3 rfl 6
           have m7 : wr.cell? ⟨g3, 7, none⟩ = some (.int .u64 (a7 : Int)) := hS.cell 3 rfl 7
           have HS6 := hide (hS.alloc (uvs [a0, a1, a2, a3, a4, a5, a6, a7]).toArray 170)
           clear hS hA hws
           go_wp2_with fail
           clear m0 m1 m2 m3 m4 m5 m6 m7
           generalize wr.heap.size = g6 at HS6 ⊢
           have HS7 : Hid (St w NoB (wr.alloc (.cells #[.int .u64 (a0 : Int), .int .u64 (a1 : Int), .int .u64 (a2 : Int), .int .u64 (a3 : Int), .int .u64 (a4 : Int), .int .u64 (a5 : Int), .int .u64 (a6 : Int), .int .u64 (a7 : Int)] 170)) (.cells g6 (uvs st).toArray 170 :: .cells gW (uvs ws).toArray 181 :: RC g3 g4 (some ⟨b, o, none⟩) N d2 y st)) := hide (by rw [hst8]; exact HS6.out)
           clear HS6 hst8
           go_loopw [125] (fun q wr => W7Rel w g6 gW st ws (RC g3 g4 (some ⟨b, o, none⟩) N d2 y st) q wr) (fun q _ => 80 - (intOf q).toNat)
           case atStart => exact ⟨0, by omega, rfl, HS7.out⟩
           case round =>
            clear HS7
            obtain ⟨j, hj, rfl, hS⟩ := hrel
            by_cases hlt5 : j < 80
            ·have HST2 := HST.out
             obtain ⟨hl2, hw2⟩ := rnds_ok HST2.1 HST2.2 ws j
             have HNX : Hid (rnds st ws (j + 1) = rnd (rnds st ws j) (kL.getD j 0) (ws.getD j 0)) := hide rfl
             obtain ⟨b0, b1, b2, b3, b4, b5, b6, b7, hs8⟩ := list8 hl2
             rw [hs8] at hS HNX hw2
             obtain ⟨hk, hkw⟩ := kL_get j hlt5
             obtain ⟨x, hx⟩ : ∃ x, ws[j]? = some x := ⟨ws[j]'(by rw [HWL.out]; exact hlt5), List.getElem?_eq_getElem _⟩
             have hxw := HWW.out x (List.mem_of_getElem? hx)
             rw [show ws.getD j 0 = x from by rw [List.getD_eq_getElem?_getD, hx]; rfl] at HNX
             generalize kL.getD j 0 = kk at hk hkw HNX
             have HS := hide hS.drew
             have e0 : b0 < W1 := hw2 _ (by simp)
             have e1 : b1 < W1 := hw2 _ (by simp)
             have e2 : b2 < W1 := hw2 _ (by simp)
             have e3 : b3 < W1 := hw2 _ (by simp)
             have e4 : b4 < W1 := hw2 _ (by simp)
             have e5 : b5 < W1 := hw2 _ (by simp)
             have e6 : b6 < W1 := hw2 _ (by simp)
             have e7 : b7 < W1 := hw2 _ (by simp)
             have n0 : wr.cell? ⟨g6, 0, none⟩ = some (.int .u64 (b0 : Int)) := hS.cell 0 rfl 0
             have n1 : wr.cell? ⟨g6, 1, none⟩ = some (.int .u64 (b1 : Int)) := hS.cell 0 rfl 1
             have n2 : wr.cell? ⟨g6, 2, none⟩ = some (.int .u64 (b2 : Int)) := hS.cell 0 rfl 2
             have n3 : wr.cell? ⟨g6, 3, none⟩ = some (.int .u64 (b3 : Int)) := hS.cell 0 rfl 3
             have n4 : wr.cell? ⟨g6, 4, none⟩ = some (.int .u64 (b4 : Int)) := hS.cell 0 rfl 4
             have n5 : wr.cell? ⟨g6, 5, none⟩ = some (.int .u64 (b5 : Int)) := hS.cell 0 rfl 5
             have n6 : wr.cell? ⟨g6, 6, none⟩ = some (.int .u64 (b6 : Int)) := hS.cell 0 rfl 6
             have n7 : wr.cell? ⟨g6, 7, none⟩ = some (.int .u64 (b7 : Int)) := hS.cell 0 rfl 7
             have f0 := hS.free 0 rfl 0
             have f1 := hS.free 0 rfl 1
             have f2 := hS.free 0 rfl 2
             have f3 := hS.free 0 rfl 3
             have f4 := hS.free 0 rfl 4
             have f5 := hS.free 0 rfl 5
             have f6 := hS.free 0 rfl 6
             have f7 := hS.free 0 rfl 7
             have p0 : ∀ z, From wr.drew z → z.cell? ⟨g6, 0, none⟩ = some (.int .u64 (b0 : Int)) := fun z hz => by rw [hz.cell (p := ⟨g6, 0, none⟩) (Chunk.lt (HS.out.sat 0 _ rfl) rfl)]; exact HS.out.cell 0 rfl 0
             have p1 : ∀ z, From wr.drew z → z.cell? ⟨g6, 1, none⟩ = some (.int .u64 (b1 : Int)) := fun z hz => by rw [hz.cell (p := ⟨g6, 1, none⟩) (Chunk.lt (HS.out.sat 0 _ rfl) rfl)]; exact HS.out.cell 0 rfl 1
             have p2 : ∀ z, From wr.drew z → z.cell? ⟨g6, 2, none⟩ = some (.int .u64 (b2 : Int)) := fun z hz => by rw [hz.cell (p := ⟨g6, 2, none⟩) (Chunk.lt (HS.out.sat 0 _ rfl) rfl)]; exact HS.out.cell 0 rfl 2
             have p3 : ∀ z, From wr.drew z → z.cell? ⟨g6, 3, none⟩ = some (.int .u64 (b3 : Int)) := fun z hz => by rw [hz.cell (p := ⟨g6, 3, none⟩) (Chunk.lt (HS.out.sat 0 _ rfl) rfl)]; exact HS.out.cell 0 rfl 3
             have p4 : ∀ z, From wr.drew z → z.cell? ⟨g6, 4, none⟩ = some (.int .u64 (b4 : Int)) := fun z hz => by rw [hz.cell (p := ⟨g6, 4, none⟩) (Chunk.lt (HS.out.sat 0 _ rfl) rfl)]; exact HS.out.cell 0 rfl 4
             have p5 : ∀ z, From wr.drew z → z.cell? ⟨g6, 5, none⟩ = some (.int .u64 (b5 : Int)) := fun z hz => by rw [hz.cell (p := ⟨g6, 5, none⟩) (Chunk.lt (HS.out.sat 0 _ rfl) rfl)]; exact HS.out.cell 0 rfl 5
             have p6 : ∀ z, From wr.drew z → z.cell? ⟨g6, 6, none⟩ = some (.int .u64 (b6 : Int)) := fun z hz => by rw [hz.cell (p := ⟨g6, 6, none⟩) (Chunk.lt (HS.out.sat 0 _ rfl) rfl)]; exact HS.out.cell 0 rfl 6
             have p7 : ∀ z, From wr.drew z → z.cell? ⟨g6, 7, none⟩ = some (.int .u64 (b7 : Int)) := fun z hz => by rw [hz.cell (p := ⟨g6, 7, none⟩) (Chunk.lt (HS.out.sat 0 _ rfl) rfl)]; exact HS.out.cell 0 rfl 7
             have ck : ∀ z, From wr.drew z → z.cell? ⟨g4, j, none⟩ = some (.int .u64 (kk : Int)) := fun z hz => by
              rw [hz.cell (p := ⟨g4, j, none⟩) (Chunk.lt (HS.out.sat 3 _ rfl) rfl), HS.out.cell 3 rfl j]
              unfold kA
              exact uvs_get hk
             have cx : ∀ z, From wr.drew z → z.cell? ⟨gW, j, none⟩ = some (.int .u64 (x : Int)) := fun z hz => by
              rw [hz.cell (p := ⟨gW, j, none⟩) (Chunk.lt (HS.out.sat 1 _ rfl) rfl), HS.out.cell 1 rfl j]
              exact uvs_get hx
             have dk : decide ((j : Int) < 80) = true := by simp; omega
             have ik : (j : Int) < 80 := by omega
             have hmx : IntKind.u64.max = ((18446744073709551615 : Nat) : Int) := rfl
             have x1 := u64_and_nat b4 b5 e4 e5
             have x2 : bits .xor .u64 IntKind.u64.max (b4 : Int) = ((18446744073709551615 ^^^ b4 : Nat) : Int) := by rw [hmx]; exact u64_xor_nat 18446744073709551615 b4 (by decide) e4
             have x2b : bits .xor .u64 (if IntKind.u64.signed = true then -1 else IntKind.u64.max) (b4 : Int) = ((18446744073709551615 ^^^ b4 : Nat) : Int) := by rw [if_neg (by decide)]; exact x2
             have l2 : 18446744073709551615 ^^^ b4 < W1 := xor_lt _ _ (by decide) e4
             have x3 := u64_and_nat (18446744073709551615 ^^^ b4) b6 l2 e6
             have x4 := u64_xor_nat (b4 &&& b5) ((18446744073709551615 ^^^ b4) &&& b6) (and_lt _ _ e4) (and_lt _ _ l2)
             have y1 := u64_and_nat b0 b1 e0 e1
             have y2 := u64_and_nat b0 b2 e0 e2
             have y3 := u64_and_nat b1 b2 e1 e2
             have y4 := u64_xor_nat (b0 &&& b1) (b0 &&& b2) (and_lt _ _ e0) (and_lt _ _ e0)
             have y5 := u64_xor_nat ((b0 &&& b1) ^^^ (b0 &&& b2)) (b1 &&& b2) (xor_lt _ _ (and_lt _ _ e0) (and_lt _ _ e0)) (and_lt _ _ e1)
             have ech : ((b4 &&& b5) ^^^ ((18446744073709551615 ^^^ b4) &&& b6)) = chz b4 b5 b6 := rfl
             have emj : (((b0 &&& b1) ^^^ (b0 &&& b2)) ^^^ (b1 &&& b2)) = mjr b0 b1 b2 := rfl
             rw [ech] at x4
             rw [emj] at y5
             have v1 := mix_of b4 14 18 41 e4
             have v2 := mix_of b0 28 34 39 e0
             have HA1 := hide (fun W => rotr_any b4 14 W e4 (by decide) (by decide))
             have HA2 := hide (fun W => rotr_any b4 18 W e4 (by decide) (by decide))
             have HA3 := hide (fun W => rotr_any b4 41 W e4 (by decide) (by decide))
             have HB1 := hide (fun W => rotr_any b0 28 W e0 (by decide) (by decide))
             have HB2 := hide (fun W => rotr_any b0 34 W e0 (by decide) (by decide))
             have HB3 := hide (fun W => rotr_any b0 39 W e0 (by decide) (by decide))
             simp only [rnd] at HNX
             clear ech emj hmx
             generalize (18446744073709551615 ^^^ b4) &&& b6 = q3 at *
             generalize 18446744073709551615 ^^^ b4 = q2 at *
             generalize b4 &&& b5 = q1 at *
             generalize (b0 &&& b1) ^^^ (b0 &&& b2) = r4 at *
             generalize b0 &&& b1 = r1 at *
             generalize b0 &&& b2 = r2 at *
             generalize b1 &&& b2 = r3 at *
             generalize chz b4 b5 b6 = ch at *
             generalize mjr b0 b1 b2 = mj at *
             generalize mix b4 14 18 41 = m1 at *
             generalize mix b0 28 34 39 = m2 at *
             have w1 := wad_wrap b7 m1
             have w2 := wad_wrap (wad b7 m1) ch
             have w3 := wad_wrap (wad (wad b7 m1) ch) kk
             have w4 := wad_wrap (wad (wad (wad b7 m1) ch) kk) x
             have w5 := wad_wrap m2 mj
             have w6' := wad_wrap (wad (wad (wad (wad b7 m1) ch) kk) x) (wad m2 mj)
             have w7' := wad_wrap b3 (wad (wad (wad (wad b7 m1) ch) kk) x)
             generalize wad (wad (wad (wad (wad b7 m1) ch) kk) x) (wad m2 mj) = z0 at *
             generalize wad b3 (wad (wad (wad (wad b7 m1) ch) kk) x) = z4 at *
             generalize wad (wad (wad (wad b7 m1) ch) kk) x = t1 at *
             generalize wad (wad (wad b7 m1) ch) kk = u3 at *
             generalize wad (wad b7 m1) ch = u2 at *
             generalize wad b7 m1 = u1 at *
             generalize wad m2 mj = t2 at *
             have HSW := hide hS
             clear hs8 hl2 hk hx hS e0 e1 e2 e3 e4 e5 e6 e7 hxw hkw hw2 l2 HST2
             have F0 : From wr.drew wr.drew.drew := (Below.refl _ _).drew
             have F1 : From wr.drew wr.drew.drew.drew := ((Below.refl _ _).drew).drew
             go_wp2_with fail
             refine wp_region_G (From wr.drew) (by kernel_rfl) ?_
             (refine wpG_take (i := 0) (v := ?_) rfl (by kernel_rfl) (by kernel_rfl) (by kernel_rfl) (fun _ _ _ h => h) ((From.refl wr.drew)) (Or.inl ⟨by first | kernel_rfl | rfl, ?_⟩) ?_; rotate_left; (intro wx hx; go_simp) <;> (with_reducible rfl); (try simp only [Act.put, nq1, nq2, nq3, nq4, nq5, nq6])); (refine wpG_take (i := 1) (v := ?_) rfl (by kernel_rfl) (by kernel_rfl) (by kernel_rfl) (fun _ _ _ h => h) ((From.refl wr.drew)) (Or.inl ⟨by first | kernel_rfl | rfl, ?_⟩) ?_; rotate_left; (intro wx hx; go_simp) <;> (with_reducible rfl); (try simp only [Act.put, nq1, nq2, nq3, nq4, nq5, nq6])); (refine wpG_take (i := 2) (v := ?_) rfl (by kernel_rfl) (by kernel_rfl) (by kernel_rfl) (fun _ _ _ h => h) ((From.refl wr.drew)) (Or.inl ⟨by first | kernel_rfl | rfl, ?_⟩) ?_; rotate_left; (intro wx hx; go_simp) <;> (with_reducible rfl); (try simp only [Act.put, nq1, nq2, nq3, nq4, nq5, nq6])); (refine wpG_take (i := 3) (v := ?_) rfl (by kernel_rfl) (by kernel_rfl) (by kernel_rfl) (fun _ _ _ h => h) ((From.refl wr.drew)) (Or.inl ⟨by first | kernel_rfl | rfl, ?_⟩) ?_; rotate_left; (intro wx hx; go_simp) <;> (with_reducible rfl); (try simp only [Act.put, nq1, nq2, nq3, nq4, nq5, nq6])); (refine wpG_take (i := 4) (v := ?_) rfl (by kernel_rfl) (by kernel_rfl) (by kernel_rfl) (fun _ _ _ h => h) ((From.refl wr.drew)) (Or.inl ⟨by first | kernel_rfl | rfl, ?_⟩) ?_; rotate_left; (intro wx hx; go_simp) <;> (with_reducible rfl); (try simp only [Act.put, nq1, nq2, nq3, nq4, nq5, nq6])); (refine wpG_take (i := 5) (v := ?_) rfl (by kernel_rfl) (by kernel_rfl) (by kernel_rfl) (fun _ _ _ h => h) ((From.refl wr.drew)) (Or.inl ⟨by first | kernel_rfl | rfl, ?_⟩) ?_; rotate_left; (intro wx hx; go_simp) <;> (with_reducible rfl); (try simp only [Act.put, nq1, nq2, nq3, nq4, nq5, nq6]))
             refine wpG_done (by kernel_rfl) ?_ _
             go_upto_region 33 with fail
             refine wp_region_G (From wr.drew) (by kernel_rfl) ?_
             (refine wpG_take (i := 0) (v := ?_) rfl (by kernel_rfl) (by kernel_rfl) (by kernel_rfl) (fun _ _ _ h => h) (F0) (Or.inl ⟨by first | kernel_rfl | rfl, ?_⟩) ?_; rotate_left; (intro wx hx; go_simp) <;> (with_reducible rfl); (try simp only [Act.put, nq1, nq2, nq3, nq4, nq5, nq6])); (refine wpG_take (i := 1) (v := ?_) rfl (by kernel_rfl) (by kernel_rfl) (by kernel_rfl) (fun _ _ _ h => h) (F0) (Or.inl ⟨by first | kernel_rfl | rfl, ?_⟩) ?_; rotate_left; (intro wx hx; go_simp) <;> (with_reducible rfl); (try simp only [Act.put, nq1, nq2, nq3, nq4, nq5, nq6])); (refine wpG_take (i := 2) (v := ?_) rfl (by kernel_rfl) (by kernel_rfl) (by kernel_rfl) (fun _ _ _ h => h) (F0) (Or.inl ⟨by first | kernel_rfl | rfl, ?_⟩) ?_; rotate_left; (intro wx hx; go_simp) <;> (with_reducible rfl); (try simp only [Act.put, nq1, nq2, nq3, nq4, nq5, nq6])); (refine wpG_take (i := 4) (v := ?_) rfl (by kernel_rfl) (by kernel_rfl) (by kernel_rfl) (fun _ _ _ h => h) (F0) (Or.inl ⟨by first | kernel_rfl | rfl, ?_⟩) ?_; rotate_left; (intro wx hx; go_simp) <;> (with_reducible rfl); (try simp only [Act.put, nq1, nq2, nq3, nq4, nq5, nq6])); (refine wpG_take (i := 7) (v := ?_) rfl (by kernel_rfl) (by kernel_rfl) (by kernel_rfl) (fun _ _ _ h => h) (F0) (Or.inl ⟨by first | kernel_rfl | rfl, ?_⟩) ?_; rotate_left; (intro wx hx; go_simp) <;> (with_reducible rfl); (try simp only [Act.put, nq1, nq2, nq3, nq4, nq5, nq6])); (refine wpG_take (i := 11) (v := ?_) rfl (by kernel_rfl) (by kernel_rfl) (by kernel_rfl) (fun _ _ _ h => h) (F0) (Or.inl ⟨by first | kernel_rfl | rfl, ?_⟩) ?_; rotate_left; (intro wx hx; go_simp) <;> (with_reducible rfl); (try simp only [Act.put, nq1, nq2, nq3, nq4, nq5, nq6])); (refine wpG_take (i := 12) (v := ?_) rfl (by kernel_rfl) (by kernel_rfl) (by kernel_rfl) (fun _ _ _ h => h) (F0) (Or.inl ⟨by first | kernel_rfl | rfl, ?_⟩) ?_; rotate_left; (intro wx hx; go_simp) <;> (with_reducible rfl); (try simp only [Act.put, nq1, nq2, nq3, nq4, nq5, nq6])); (refine wpG_take (i := 13) (v := ?_) rfl (by kernel_rfl) (by kernel_rfl) (by kernel_rfl) (fun _ _ _ h => h) (F0) (Or.inl ⟨by first | kernel_rfl | rfl, ?_⟩) ?_; rotate_left; (intro wx hx; go_simp) <;> (with_reducible rfl); (try simp only [Act.put, nq1, nq2, nq3, nq4, nq5, nq6])); (refine wpG_take (i := 14) (v := ?_) rfl (by kernel_rfl) (by kernel_rfl) (by kernel_rfl) (fun _ _ _ h => h) (F0) (Or.inl ⟨by first | kernel_rfl | rfl, ?_⟩) ?_; rotate_left; (intro wx hx; go_simp) <;> (with_reducible rfl); (try simp only [Act.put, nq1, nq2, nq3, nq4, nq5, nq6])); (refine wpG_take (i := 15) (v := ?_) rfl (by kernel_rfl) (by kernel_rfl) (by kernel_rfl) (fun _ _ _ h => h) (F0) (Or.inl ⟨by first | kernel_rfl | rfl, ?_⟩) ?_; rotate_left; (intro wx hx; go_simp) <;> (with_reducible rfl); (try simp only [Act.put, nq1, nq2, nq3, nq4, nq5, nq6])); (refine wpG_take (i := 16) (v := ?_) rfl (by kernel_rfl) (by kernel_rfl) (by kernel_rfl) (fun _ _ _ h => h) (F0) (Or.inl ⟨by first | kernel_rfl | rfl, ?_⟩) ?_; rotate_left; (intro wx hx; go_simp) <;> (with_reducible rfl); (try simp only [Act.put, nq1, nq2, nq3, nq4, nq5, nq6])); (refine wpG_take (i := 17) (v := ?_) rfl (by kernel_rfl) (by kernel_rfl) (by kernel_rfl) (fun _ _ _ h => h) (F0) (Or.inl ⟨by first | kernel_rfl | rfl, ?_⟩) ?_; rotate_left; (intro wx hx; go_simp) <;> (with_reducible rfl); (try simp only [Act.put, nq1, nq2, nq3, nq4, nq5, nq6])); (refine wpG_take (i := 18) (v := ?_) rfl (by kernel_rfl) (by kernel_rfl) (by kernel_rfl) (fun _ _ _ h => h) (F0) (Or.inl ⟨by first | kernel_rfl | rfl, ?_⟩) ?_; rotate_left; (intro wx hx; go_simp) <;> (with_reducible rfl); (try simp only [Act.put, nq1, nq2, nq3, nq4, nq5, nq6])); (refine wpG_take (i := 19) (v := ?_) rfl (by kernel_rfl) (by kernel_rfl) (by kernel_rfl) (fun _ _ _ h => h) (F0) (Or.inl ⟨by first | kernel_rfl | rfl, ?_⟩) ?_; rotate_left; (intro wx hx; go_simp) <;> (with_reducible rfl); (try simp only [Act.put, nq1, nq2, nq3, nq4, nq5, nq6])); (refine wpG_take (i := 20) (v := ?_) rfl (by kernel_rfl) (by kernel_rfl) (by kernel_rfl) (fun _ _ _ h => h) (F0) (Or.inl ⟨by first | kernel_rfl | rfl, ?_⟩) ?_; rotate_left; (intro wx hx; go_simp) <;> (with_reducible rfl); (try simp only [Act.put, nq1, nq2, nq3, nq4, nq5, nq6])); (refine wpG_take (i := 22) (v := ?_) rfl (by kernel_rfl) (by kernel_rfl) (by kernel_rfl) (fun _ _ _ h => h) (F0) (Or.inl ⟨by first | kernel_rfl | rfl, ?_⟩) ?_; rotate_left; (intro wx hx; go_simp) <;> (with_reducible rfl); (try simp only [Act.put, nq1, nq2, nq3, nq4, nq5, nq6])); (refine wpG_take (i := 23) (v := ?_) rfl (by kernel_rfl) (by kernel_rfl) (by kernel_rfl) (fun _ _ _ h => h) (F0) (Or.inl ⟨by first | kernel_rfl | rfl, ?_⟩) ?_; rotate_left; (intro wx hx; go_simp) <;> (with_reducible rfl); (try simp only [Act.put, nq1, nq2, nq3, nq4, nq5, nq6])); (refine wpG_take (i := 24) (v := ?_) rfl (by kernel_rfl) (by kernel_rfl) (by kernel_rfl) (fun _ _ _ h => h) (F0) (Or.inl ⟨by first | kernel_rfl | rfl, ?_⟩) ?_; rotate_left; (intro wx hx; go_simp) <;> (with_reducible rfl); (try simp only [Act.put, nq1, nq2, nq3, nq4, nq5, nq6])); (refine wpG_take (i := 26) (v := ?_) rfl (by kernel_rfl) (by kernel_rfl) (by kernel_rfl) (fun _ _ _ h => h) (F0) (Or.inl ⟨by first | kernel_rfl | rfl, ?_⟩) ?_; rotate_left; (intro wx hx; go_simp) <;> (with_reducible rfl); (try simp only [Act.put, nq1, nq2, nq3, nq4, nq5, nq6])); (refine wpG_take (i := 27) (v := ?_) rfl (by kernel_rfl) (by kernel_rfl) (by kernel_rfl) (fun _ _ _ h => h) (F0) (Or.inl ⟨by first | kernel_rfl | rfl, ?_⟩) ?_; rotate_left; (intro wx hx; go_simp) <;> (with_reducible rfl); (try simp only [Act.put, nq1, nq2, nq3, nq4, nq5, nq6])); (refine wpG_take (i := 28) (v := ?_) rfl (by kernel_rfl) (by kernel_rfl) (by kernel_rfl) (fun _ _ _ h => h) (F0) (Or.inl ⟨by first | kernel_rfl | rfl, ?_⟩) ?_; rotate_left; (intro wx hx; go_simp) <;> (with_reducible rfl); (try simp only [Act.put, nq1, nq2, nq3, nq4, nq5, nq6]))
             (refine wpG_one (i := 3) (by kernel_rfl) rfl ?_; intro K hK; (try simp only [Act.put, nq1, nq2, nq3, nq4, nq5, nq6]))
             refine step_call rfl rfl enRotr rfl (HA1.out _) ?_
             rintro e v ⟨rfl, rfl⟩
             refine ⟨_, rfl, hK (From wr.drew) _ _ (fun _ h => h) F0 ?_⟩
             clear hK K
             (try simp only [Act.put, nq1, nq2, nq3, nq4, nq5, nq6])
             (refine wpG_one (i := 5) (by kernel_rfl) rfl ?_; intro K hK; (try simp only [Act.put, nq1, nq2, nq3, nq4, nq5, nq6]))
             refine step_call rfl rfl enRotr rfl (HA2.out _) ?_
             rintro e v ⟨rfl, rfl⟩
             refine ⟨_, rfl, hK (From wr.drew) _ _ (fun _ h => h) F0 ?_⟩
             clear hK K
             (try simp only [Act.put, nq1, nq2, nq3, nq4, nq5, nq6])
             (refine wpG_take (i := 6) (v := ?_) rfl (by kernel_rfl) (by kernel_rfl) (by kernel_rfl) (fun _ _ _ h => h) (F0) (Or.inl ⟨by first | kernel_rfl | rfl, ?_⟩) ?_; rotate_left; (intro wx hx; go_simp) <;> (with_reducible rfl); (try simp only [Act.put, nq1, nq2, nq3, nq4, nq5, nq6]))
             (refine wpG_one (i := 8) (by kernel_rfl) rfl ?_; intro K hK; (try simp only [Act.put, nq1, nq2, nq3, nq4, nq5, nq6]))
             refine step_call rfl rfl enRotr rfl (HA3.out _) ?_
             rintro e v ⟨rfl, rfl⟩
             refine ⟨_, rfl, hK (From wr.drew) _ _ (fun _ h => h) F0 ?_⟩
             clear hK K
             (try simp only [Act.put, nq1, nq2, nq3, nq4, nq5, nq6])
             (refine wpG_take (i := 9) (v := ?_) rfl (by kernel_rfl) (by kernel_rfl) (by kernel_rfl) (fun _ _ _ h => h) (F0) (Or.inl ⟨by first | kernel_rfl | rfl, ?_⟩) ?_; rotate_left; (intro wx hx; go_simp) <;> (with_reducible rfl); (try simp only [Act.put, nq1, nq2, nq3, nq4, nq5, nq6])); (refine wpG_take (i := 10) (v := ?_) rfl (by kernel_rfl) (by kernel_rfl) (by kernel_rfl) (fun _ _ _ h => h) (F0) (Or.inl ⟨by first | kernel_rfl | rfl, ?_⟩) ?_; rotate_left; (intro wx hx; go_simp) <;> (with_reducible rfl); (try simp only [Act.put, nq1, nq2, nq3, nq4, nq5, nq6])); (refine wpG_take (i := 21) (v := ?_) rfl (by kernel_rfl) (by kernel_rfl) (by kernel_rfl) (fun _ _ _ h => h) (F0) (Or.inl ⟨by first | kernel_rfl | rfl, ?_⟩) ?_; rotate_left; (intro wx hx; go_simp) <;> (with_reducible rfl); (try simp only [Act.put, nq1, nq2, nq3, nq4, nq5, nq6])); (refine wpG_take (i := 25) (v := ?_) rfl (by kernel_rfl) (by kernel_rfl) (by kernel_rfl) (fun _ _ _ h => h) (F0) (Or.inl ⟨by first | kernel_rfl | rfl, ?_⟩) ?_; rotate_left; (intro wx hx; go_simp) <;> (with_reducible rfl); (try simp only [Act.put, nq1, nq2, nq3, nq4, nq5, nq6])); (refine wpG_take (i := 29) (v := ?_) rfl (by kernel_rfl) (by kernel_rfl) (by kernel_rfl) (fun _ _ _ h => h) (F0) (Or.inl ⟨by first | kernel_rfl | rfl, ?_⟩) ?_; rotate_left; (intro wx hx; go_simp) <;> (with_reducible rfl); (try simp only [Act.put, nq1, nq2, nq3, nq4, nq5, nq6])); (refine wpG_take (i := 30) (v := ?_) rfl (by kernel_rfl) (by kernel_rfl) (by kernel_rfl) (fun _ _ _ h => h) (F0) (Or.inl ⟨by first | kernel_rfl | rfl, ?_⟩) ?_; rotate_left; (intro wx hx; go_simp) <;> (with_reducible rfl); (try simp only [Act.put, nq1, nq2, nq3, nq4, nq5, nq6]))
             refine wpG_done (by kernel_rfl) ?_ _
             go_upto_region 34 with fail
             refine wp_region_G (From wr.drew) (by kernel_rfl) ?_
             (refine wpG_take (i := 0) (v := ?_) rfl (by kernel_rfl) (by kernel_rfl) (by kernel_rfl) (fun _ _ _ h => h) (F1) (Or.inl ⟨by first | kernel_rfl | rfl, ?_⟩) ?_; rotate_left; (intro wx hx; go_simp) <;> (with_reducible rfl); (try simp only [Act.put, nq1, nq2, nq3, nq4, nq5, nq6])); (refine wpG_take (i := 2) (v := ?_) rfl (by kernel_rfl) (by kernel_rfl) (by kernel_rfl) (fun _ _ _ h => h) (F1) (Or.inl ⟨by first | kernel_rfl | rfl, ?_⟩) ?_; rotate_left; (intro wx hx; go_simp) <;> (with_reducible rfl); (try simp only [Act.put, nq1, nq2, nq3, nq4, nq5, nq6])); (refine wpG_take (i := 5) (v := ?_) rfl (by kernel_rfl) (by kernel_rfl) (by kernel_rfl) (fun _ _ _ h => h) (F1) (Or.inl ⟨by first | kernel_rfl | rfl, ?_⟩) ?_; rotate_left; (intro wx hx; go_simp) <;> (with_reducible rfl); (try simp only [Act.put, nq1, nq2, nq3, nq4, nq5, nq6])); (refine wpG_take (i := 8) (v := ?_) rfl (by kernel_rfl) (by kernel_rfl) (by kernel_rfl) (fun _ _ _ h => h) (F1) (Or.inl ⟨by first | kernel_rfl | rfl, ?_⟩) ?_; rotate_left; (intro wx hx; go_simp) <;> (with_reducible rfl); (try simp only [Act.put, nq1, nq2, nq3, nq4, nq5, nq6])); (refine wpG_take (i := 9) (v := ?_) rfl (by kernel_rfl) (by kernel_rfl) (by kernel_rfl) (fun _ _ _ h => h) (F1) (Or.inl ⟨by first | kernel_rfl | rfl, ?_⟩) ?_; rotate_left; (intro wx hx; go_simp) <;> (with_reducible rfl); (try simp only [Act.put, nq1, nq2, nq3, nq4, nq5, nq6])); (refine wpG_take (i := 10) (v := ?_) rfl (by kernel_rfl) (by kernel_rfl) (by kernel_rfl) (fun _ _ _ h => h) (F1) (Or.inl ⟨by first | kernel_rfl | rfl, ?_⟩) ?_; rotate_left; (intro wx hx; go_simp) <;> (with_reducible rfl); (try simp only [Act.put, nq1, nq2, nq3, nq4, nq5, nq6])); (refine wpG_take (i := 11) (v := ?_) rfl (by kernel_rfl) (by kernel_rfl) (by kernel_rfl) (fun _ _ _ h => h) (F1) (Or.inl ⟨by first | kernel_rfl | rfl, ?_⟩) ?_; rotate_left; (intro wx hx; go_simp) <;> (with_reducible rfl); (try simp only [Act.put, nq1, nq2, nq3, nq4, nq5, nq6])); (refine wpG_take (i := 12) (v := ?_) rfl (by kernel_rfl) (by kernel_rfl) (by kernel_rfl) (fun _ _ _ h => h) (F1) (Or.inl ⟨by first | kernel_rfl | rfl, ?_⟩) ?_; rotate_left; (intro wx hx; go_simp) <;> (with_reducible rfl); (try simp only [Act.put, nq1, nq2, nq3, nq4, nq5, nq6])); (refine wpG_take (i := 13) (v := ?_) rfl (by kernel_rfl) (by kernel_rfl) (by kernel_rfl) (fun _ _ _ h => h) (F1) (Or.inl ⟨by first | kernel_rfl | rfl, ?_⟩) ?_; rotate_left; (intro wx hx; go_simp) <;> (with_reducible rfl); (try simp only [Act.put, nq1, nq2, nq3, nq4, nq5, nq6])); (refine wpG_take (i := 14) (v := ?_) rfl (by kernel_rfl) (by kernel_rfl) (by kernel_rfl) (fun _ _ _ h => h) (F1) (Or.inl ⟨by first | kernel_rfl | rfl, ?_⟩) ?_; rotate_left; (intro wx hx; go_simp) <;> (with_reducible rfl); (try simp only [Act.put, nq1, nq2, nq3, nq4, nq5, nq6])); (refine wpG_take (i := 15) (v := ?_) rfl (by kernel_rfl) (by kernel_rfl) (by kernel_rfl) (fun _ _ _ h => h) (F1) (Or.inl ⟨by first | kernel_rfl | rfl, ?_⟩) ?_; rotate_left; (intro wx hx; go_simp) <;> (with_reducible rfl); (try simp only [Act.put, nq1, nq2, nq3, nq4, nq5, nq6])); (refine wpG_take (i := 16) (v := ?_) rfl (by kernel_rfl) (by kernel_rfl) (by kernel_rfl) (fun _ _ _ h => h) (F1) (Or.inl ⟨by first | kernel_rfl | rfl, ?_⟩) ?_; rotate_left; (intro wx hx; go_simp) <;> (with_reducible rfl); (try simp only [Act.put, nq1, nq2, nq3, nq4, nq5, nq6])); (refine wpG_take (i := 17) (v := ?_) rfl (by kernel_rfl) (by kernel_rfl) (by kernel_rfl) (fun _ _ _ h => h) (F1) (Or.inl ⟨by first | kernel_rfl | rfl, ?_⟩) ?_; rotate_left; (intro wx hx; go_simp) <;> (with_reducible rfl); (try simp only [Act.put, nq1, nq2, nq3, nq4, nq5, nq6])); (refine wpG_take (i := 18) (v := ?_) rfl (by kernel_rfl) (by kernel_rfl) (by kernel_rfl) (fun _ _ _ h => h) (F1) (Or.inl ⟨by first | kernel_rfl | rfl, ?_⟩) ?_; rotate_left; (intro wx hx; go_simp) <;> (with_reducible rfl); (try simp only [Act.put, nq1, nq2, nq3, nq4, nq5, nq6])); (refine wpG_take (i := 19) (v := ?_) rfl (by kernel_rfl) (by kernel_rfl) (by kernel_rfl) (fun _ _ _ h => h) (F1) (Or.inl ⟨by first | kernel_rfl | rfl, ?_⟩) ?_; rotate_left; (intro wx hx; go_simp) <;> (with_reducible rfl); (try simp only [Act.put, nq1, nq2, nq3, nq4, nq5, nq6])); (refine wpG_take (i := 20) (v := ?_) rfl (by kernel_rfl) (by kernel_rfl) (by kernel_rfl) (fun _ _ _ h => h) (F1) (Or.inl ⟨by first | kernel_rfl | rfl, ?_⟩) ?_; rotate_left; (intro wx hx; go_simp) <;> (with_reducible rfl); (try simp only [Act.put, nq1, nq2, nq3, nq4, nq5, nq6])); (refine wpG_take (i := 21) (v := ?_) rfl (by kernel_rfl) (by kernel_rfl) (by kernel_rfl) (fun _ _ _ h => h) (F1) (Or.inl ⟨by first | kernel_rfl | rfl, ?_⟩) ?_; rotate_left; (intro wx hx; go_simp) <;> (with_reducible rfl); (try simp only [Act.put, nq1, nq2, nq3, nq4, nq5, nq6])); (refine wpG_take (i := 22) (v := ?_) rfl (by kernel_rfl) (by kernel_rfl) (by kernel_rfl) (fun _ _ _ h => h) (F1) (Or.inl ⟨by first | kernel_rfl | rfl, ?_⟩) ?_; rotate_left; (intro wx hx; go_simp) <;> (with_reducible rfl); (try simp only [Act.put, nq1, nq2, nq3, nq4, nq5, nq6]))
             (refine wpG_one (i := 1) (by kernel_rfl) rfl ?_; intro K hK; (try simp only [Act.put, nq1, nq2, nq3, nq4, nq5, nq6]))
             refine step_call rfl rfl enRotr rfl (HB1.out _) ?_
             rintro e v ⟨rfl, rfl⟩
             refine ⟨_, rfl, hK (From wr.drew) _ _ (fun _ h => h) F1 ?_⟩
             clear hK K
             (try simp only [Act.put, nq1, nq2, nq3, nq4, nq5, nq6])
             (refine wpG_one (i := 3) (by kernel_rfl) rfl ?_; intro K hK; (try simp only [Act.put, nq1, nq2, nq3, nq4, nq5, nq6]))
             refine step_call rfl rfl enRotr rfl (HB2.out _) ?_
             rintro e v ⟨rfl, rfl⟩
             refine ⟨_, rfl, hK (From wr.drew) _ _ (fun _ h => h) F1 ?_⟩
             clear hK K
             (try simp only [Act.put, nq1, nq2, nq3, nq4, nq5, nq6])
             (refine wpG_take (i := 4) (v := ?_) rfl (by kernel_rfl) (by kernel_rfl) (by kernel_rfl) (fun _ _ _ h => h) (F1) (Or.inl ⟨by first | kernel_rfl | rfl, ?_⟩) ?_; rotate_left; (intro wx hx; go_simp) <;> (with_reducible rfl); (try simp only [Act.put, nq1, nq2, nq3, nq4, nq5, nq6]))
             (refine wpG_one (i := 6) (by kernel_rfl) rfl ?_; intro K hK; (try simp only [Act.put, nq1, nq2, nq3, nq4, nq5, nq6]))
             refine step_call rfl rfl enRotr rfl (HB3.out _) ?_
             rintro e v ⟨rfl, rfl⟩
             refine ⟨_, rfl, hK (From wr.drew) _ _ (fun _ h => h) F1 ?_⟩
             clear hK K
             (try simp only [Act.put, nq1, nq2, nq3, nq4, nq5, nq6])
             (refine wpG_take (i := 7) (v := ?_) rfl (by kernel_rfl) (by kernel_rfl) (by kernel_rfl) (fun _ _ _ h => h) (F1) (Or.inl ⟨by first | kernel_rfl | rfl, ?_⟩) ?_; rotate_left; (intro wx hx; go_simp) <;> (with_reducible rfl); (try simp only [Act.put, nq1, nq2, nq3, nq4, nq5, nq6])); (refine wpG_take (i := 23) (v := ?_) rfl (by kernel_rfl) (by kernel_rfl) (by kernel_rfl) (fun _ _ _ h => h) (F1) (Or.inl ⟨by first | kernel_rfl | rfl, ?_⟩) ?_; rotate_left; (intro wx hx; go_simp) <;> (with_reducible rfl); (try simp only [Act.put, nq1, nq2, nq3, nq4, nq5, nq6])); (refine wpG_take (i := 24) (v := ?_) rfl (by kernel_rfl) (by kernel_rfl) (by kernel_rfl) (fun _ _ _ h => h) (F1) (Or.inl ⟨by first | kernel_rfl | rfl, ?_⟩) ?_; rotate_left; (intro wx hx; go_simp) <;> (with_reducible rfl); (try simp only [Act.put, nq1, nq2, nq3, nq4, nq5, nq6]))
             refine wpG_done (by kernel_rfl) ?_ _
             clear p0 p1 p2 p3 p4 p5 p6 p7 ck cx
             go_wp2_with fail
             go_roundw
             case rel =>
              have h3 := ((((((((HSW.out.setCell 0 rfl 0 (.int .u64 (z0 : Int))).setCell 0 rfl 1 (.int .u64 (b0 : Int))).setCell 0 rfl 2 (.int .u64 (b1 : Int))).setCell 0 rfl 3 (.int .u64 (b2 : Int))).setCell 0 rfl 4 (.int .u64 (z4 : Int))).setCell 0 rfl 5 (.int .u64 (b4 : Int))).setCell 0 rfl 6 (.int .u64 (b5 : Int))).setCell 0 rfl 7 (.int .u64 (b6 : Int))).drew.drew.drew
              simp only [List.set_cons_zero, uvs_set, List.set_cons_succ] at h3
              rw [← HNX.out] at h3
              exact ⟨j + 1, by omega, by go_num, h3⟩
             case measure => (simp [intOf]) <;> omega
            ·obtain rfl : j = 80 := by omega
             have HST2 := HST.out
             obtain ⟨hl2, hw2⟩ := rnds_ok HST2.1 HST2.2 ws 80
             obtain ⟨s, hs⟩ : ∃ s, s = rnds st ws 80 := ⟨_, rfl⟩
             rw [← hs] at hS hl2 hw2 HSN2
             have HL2 := hide hl2
             have HL8 := hide HST2.1
             have HS := hide hS
             clear hs hS hl2 hw2 HST2
             go_wp2_with fail
             go_loopw [207] (fun q wr => W8Rel w g3 g4 g6 gW st s ws (some ⟨b, o, none⟩) N d2 y q wr) (fun q _ => 8 - (intOf q).toNat)
             case atStart => exact ⟨0, by omega, rfl, HS.out⟩
             case round =>
              clear HS
              obtain ⟨j, hj, rfl, hS⟩ := hrel
              by_cases hlt6 : j < 8
              ·obtain ⟨x, hx⟩ : ∃ x, st[j]? = some x := ⟨st[j]'(by rw [HL8.out]; exact hlt6), List.getElem?_eq_getElem _⟩
               obtain ⟨yy, hy⟩ : ∃ y, s[j]? = some y := ⟨s[j]'(by rw [HL2.out]; exact hlt6), List.getElem?_eq_getElem _⟩
               have HS := hide hS.drew
               have cx : ∀ z, From wr.drew z → z.cell? ⟨g3, j, none⟩ = some (.int .u64 (x : Int)) := fun z hz => by
                rw [hz.cell (p := ⟨g3, j, none⟩) (Chunk.lt (HS.out.sat 4 _ rfl) rfl), HS.out.cell 4 rfl j]
                exact uvs_get (zipP_get _ _ _ _ HL8.out HL2.out hx)
               have cy : ∀ z, From wr.drew z → z.cell? ⟨g6, j, none⟩ = some (.int .u64 (yy : Int)) := fun z hz => by
                rw [hz.cell (p := ⟨g6, j, none⟩) (Chunk.lt (HS.out.sat 0 _ rfl) rfl), HS.out.cell 0 rfl j]
                exact uvs_get hy
               have HT := hide (zipP_set _ _ _ _ _ HL8.out HL2.out hx hy)
               have HZL := hide (zipP_len st s j HL8.out HL2.out hj)
               have hwd := wad_wrap x yy
               have dk : decide ((j : Int) < 8) = true := by simp; omega
               have ik : (j : Int) < 8 := by omega
               generalize wad x yy = z at *
               clear hS hx hy
               go_wp2_with fail
               refine wp_region_M (fun i => i == 8) (From wr.drew) (by kernel_rfl) ?_
               (refine wpM_takeU (i := 0) (v := ?_) rfl (by kernel_rfl) (by kernel_rfl) (by kernel_rfl) (fun _ _ _ h => h) ((From.refl wr.drew)) rfl (Or.inl ⟨by first | kernel_rfl | rfl, ?_⟩) ?_; rotate_left; (intro wx; go_simp) <;> (with_reducible rfl); (try simp only [Act.put, nq1, nq2, nq3, nq4, nq5, nq6])); (refine wpM_takeU (i := 1) (v := ?_) rfl (by kernel_rfl) (by kernel_rfl) (by kernel_rfl) (fun _ _ _ h => h) ((From.refl wr.drew)) rfl (Or.inl ⟨by first | kernel_rfl | rfl, ?_⟩) ?_; rotate_left; (intro wx; go_simp) <;> (with_reducible rfl); (try simp only [Act.put, nq1, nq2, nq3, nq4, nq5, nq6]))
               (refine wpM_take (i := 2) (v := ?_) rfl (by kernel_rfl) (by kernel_rfl) (by kernel_rfl) (fun _ _ _ h => h) ((From.refl wr.drew)) rfl (by kernel_rfl) (Or.inl ⟨by first | kernel_rfl | rfl, ?_⟩) ?_; rotate_left; (intro wx hx; go_simp) <;> (with_reducible rfl); (try simp only [Act.put, nq1, nq2, nq3, nq4, nq5, nq6]))
               (refine wpM_takeU (i := 3) (v := ?_) rfl (by kernel_rfl) (by kernel_rfl) (by kernel_rfl) (fun _ _ _ h => h) ((From.refl wr.drew)) rfl (Or.inl ⟨by first | kernel_rfl | rfl, ?_⟩) ?_; rotate_left; (intro wx; go_simp) <;> (with_reducible rfl); (try simp only [Act.put, nq1, nq2, nq3, nq4, nq5, nq6])); (refine wpM_takeU (i := 4) (v := ?_) rfl (by kernel_rfl) (by kernel_rfl) (by kernel_rfl) (fun _ _ _ h => h) ((From.refl wr.drew)) rfl (Or.inl ⟨by first | kernel_rfl | rfl, ?_⟩) ?_; rotate_left; (intro wx; go_simp) <;> (with_reducible rfl); (try simp only [Act.put, nq1, nq2, nq3, nq4, nq5, nq6]))
               (refine wpM_take (i := 5) (v := ?_) rfl (by kernel_rfl) (by kernel_rfl) (by kernel_rfl) (fun _ _ _ h => h) ((From.refl wr.drew)) rfl (by kernel_rfl) (Or.inl ⟨by first | kernel_rfl | rfl, ?_⟩) ?_; rotate_left; (intro wx hx; go_simp) <;> (with_reducible rfl); (try simp only [Act.put, nq1, nq2, nq3, nq4, nq5, nq6]))
               (refine wpM_takeU (i := 6) (v := ?_) rfl (by kernel_rfl) (by kernel_rfl) (by kernel_rfl) (fun _ _ _ h => h) ((From.refl wr.drew)) rfl (Or.inl ⟨by first | kernel_rfl | rfl, ?_⟩) ?_; rotate_left; (intro wx; go_simp) <;> (with_reducible rfl); (try simp only [Act.put, nq1, nq2, nq3, nq4, nq5, nq6])); (refine wpM_takeU (i := 7) (v := ?_) rfl (by kernel_rfl) (by kernel_rfl) (by kernel_rfl) (fun _ _ _ h => h) ((From.refl wr.drew)) rfl (Or.inl ⟨by first | kernel_rfl | rfl, ?_⟩) ?_; rotate_left; (intro wx; go_simp) <;> (with_reducible rfl); (try simp only [Act.put, nq1, nq2, nq3, nq4, nq5, nq6]))
               (refine wpM_late (i := 8) (by kernel_rfl) rfl rfl ?_; intro K hK; (try simp only [Act.put, nq1, nq2, nq3, nq4, nq5, nq6]))
               refine step_store rfl rfl tyU64 HS.out 4 rfl j (by rw [List.size_toArray, uvs_len, HZL.out]; exact hlt6) rfl (v := .int .u64 (z : Int)) (by first | rfl | exact congrArg (Value.int .u64) hwd) rfl ?_
               intro w9 hS9
               refine hK _ _ ?_
               clear hK K
               (try simp only [Act.put, nq1, nq2, nq3, nq4, nq5, nq6])
               refine wpAny_done (by kernel_rfl) ?_ _
               go_wp2_with fail
               go_roundw
               case rel =>
                refine ⟨j + 1, by omega, by go_num, ?_⟩
                have h := hS9
                simp only [List.set_cons_zero, uvs_set, List.set_cons_succ] at h
                rw [HT.out] at h
                exact h
               case measure => (simp [intOf]) <;> omega
              ·obtain rfl : j = 8 := by omega
               have hz : zipP st s 8 = List.zipWith wad st s := by
                unfold zipP
                rw [List.take_of_length_le (by rw [List.length_zipWith, HL8.out, HL2.out]; decide), List.drop_eq_nil_of_le (by rw [HL8.out]; exact Nat.le_refl _), List.append_nil]
               rw [hz, ← HSN2.out] at hS
               have HS := hide hS.tail.tail
               clear hS hz
               have hLi : (128 : Int) ≤ (L : Int) := by omega
               have hdi : (L : Int) ≤ (d' : Int) := by omega
               go_wp2_with fail
               go_roundw
               case rel =>
                have e1 : L - 128 = N - 128 * (i + 1) := by have := HLE.out; omega
                have e2 : d' - 128 = d2 - 128 * (i + 1) := by have := HDE.out; omega
                refine ⟨i + 1, (if d' = 128 then oo else oo + 128), by omega, ?_, ?_, HS.out⟩
                ·intro h
                 rw [if_neg (by have := HDE.out; omega), HOO.out]
                 omega
                ·rw [← e1, ← e2]
                 split <;> rfl
               case measure =>
                show L - 128 < L
                omega
      ·obtain ⟨s, hs⟩ : ∃ s, s = runN h0L i y := ⟨_, rfl⟩
       have hQi : i = N / 128 := by omega
       have hok := runN_ok i h0L y h0_ok.1 h0_ok.2
       have hsh : shaL l = outL s := by unfold shaL stO; rw [HL.out, ← HX.out, HNX.out, hs, hQi]
       rw [← hs] at hok HS
       obtain ⟨b0, b1, b2, b3, b4, b5, b6, b7, hsb⟩ := list8 hok.1
       have hS9 := HS.out
       rw [hsb] at hS9
       have p0 : wr.cell? ⟨g3, 0, none⟩ = some (.int .u64 (b0 : Int)) := hS9.cell 2 rfl 0
       have p1 : wr.cell? ⟨g3, 1, none⟩ = some (.int .u64 (b1 : Int)) := hS9.cell 2 rfl 1
       have p2 : wr.cell? ⟨g3, 2, none⟩ = some (.int .u64 (b2 : Int)) := hS9.cell 2 rfl 2
       have p3 : wr.cell? ⟨g3, 3, none⟩ = some (.int .u64 (b3 : Int)) := hS9.cell 2 rfl 3
       have p4 : wr.cell? ⟨g3, 4, none⟩ = some (.int .u64 (b4 : Int)) := hS9.cell 2 rfl 4
       have p5 : wr.cell? ⟨g3, 5, none⟩ = some (.int .u64 (b5 : Int)) := hS9.cell 2 rfl 5
       have p6 : wr.cell? ⟨g3, 6, none⟩ = some (.int .u64 (b6 : Int)) := hS9.cell 2 rfl 6
       have p7 : wr.cell? ⟨g3, 7, none⟩ = some (.int .u64 (b7 : Int)) := hS9.cell 2 rfl 7
       have HS10 : Hid (St w NoB wr [.row (.slice none 0 0) 5 1 0 []]) := hide (HS.out.tail.tail.tail.row (Below.refl _ _) (World.ownsRow_nil _ _ 5 1))
       have hz0 : N - 128 * i = 0 := by omega
       rw [hz0]
       have HSB := hide hsb
       have HSH := hide hsh
       have HSW := hide hok.2
       have HSL := hide hok.1
       clear hoo hS9 hs hQi hok hsh hsb hz0 HS hi hlt hQ hN1
       go_wp2_with fail
       clear p0 p1 p2 p3 p4 p5 p6 p7
       go_loopw [20, 220] (fun v q wr => OutRel w s v q wr) (fun _ q _ => 8 - (intOf q).toNat)
       case atStart => exact ⟨0, none, 0, by omega, rfl, rfl, HS10.out⟩
       case round =>
        clear HS10
        obtain ⟨j, B, d, hj, rfl, rfl, hS⟩ := hrel
        by_cases hlt7 : j < 8
        ·obtain ⟨x, hx⟩ : ∃ x, s[j]? = some x := ⟨s[j]'(by rw [HSL.out]; exact hlt7), List.getElem?_eq_getElem _⟩
         have hix := ixh b0 b1 b2 b3 b4 b5 b6 b7 j x (by rw [← HSB.out]; exact hx)
         have HT := hide (outL_take s j x hx)
         have dk : decide ((j : Int) < 8) = true := by simp; omega
         have ik : (j : Int) < 8 := by omega
         have hl8 : (outL (s.take j)).length = 8 * j := by rw [outL_len, List.length_take, HSL.out]; show 8 * min j 8 = _; omega
         obtain ⟨z0, hz0⟩ : ∃ z, z = outL (s.take j) := ⟨_, rfl⟩
         rw [← hz0] at hS hl8 HT
         have HS := hide hS
         have HZL := hide hl8
         clear hS hx hz0 hl8
         go_wp2_with fail
         go_loopw [20, 23] (fun v q wr => LenO w (8 * j + 8) x (z0 ++ beL 8 x) v q wr) (fun _ q _ => (intOf q + 1).toNat)
         case atStart => exact ⟨8, B, 8 * j, d, z0, Nat.le_refl _, rfl, rfl, rfl, rfl, HS.out⟩
         case round =>
          clear HS hix
          obtain ⟨t, B2, m2, e2, zz, ht, rfl, rfl, hmj, hy, hS⟩ := hrel
          have HY := hide hy
          have HMJ := hide hmj
          have HS2 := hide hS
          have hm2 : m2 ≤ 4000 := by omega
          clear hy hS hmj
          cases t with
          | zero =>
           obtain rfl : m2 = 8 * j + 8 := HMJ.out
           have hyz : zz = z0 ++ beL 8 x := by have := HY.out; rwa [beL, List.append_nil] at this
           have HYZ := hide hyz
           clear hyz
           go_wp2_with fail
           go_roundw
           case rel =>
            refine ⟨j + 1, B2, e2, by omega, by go_num, by rw [Nat.mul_succ], ?_⟩
            rw [HT.out, ← HYZ.out, Nat.mul_succ]
            exact HS2.out
           case measure => (simp [intOf]) <;> omega
          | succ i2 =>
           have hi : (((i2 + 1 : Nat) : Int) - 1) = (i2 : Int) := by omega
           rw [hi]
           have hby := byte_of x (8 * i2)
           have hb2 : x / 2 ^ (8 * i2) % 256 < 256 := Nat.mod_lt _ (by decide)
           have hd : decide ((0 : Int) ≤ (i2 : Int)) = true := by simp
           have hi7 : i2 ≤ 7 := by omega
           obtain ⟨sh, hs⟩ : ∃ s, s = 8 * i2 := ⟨_, rfl⟩
           have hsi : (8 : Int) * (i2 : Int) = (sh : Int) := by omega
           rw [← hs] at hby hb2
           obtain ⟨q, hq⟩ : ∃ q, q = x / 2 ^ sh % 256 := ⟨_, rfl⟩
           rw [← hq] at hby hb2
           have hs56 : sh ≤ 56 := by omega
           have HQ := hide hq
           have HSS := hide hs
           clear hq hs ht hi
           go_wp2_with (at_builtin; refine wl_append1 rfl rfl tyB HS2.out 0 rfl rfl (us := [_]) rfl rfl ?_ ?_ (by decide) ?_; (intro u hu; simp only [List.mem_singleton] at hu; subst hu; rfl); (simp only [List.length_singleton]; omega); intro B3 d3 w3 hS3)
           go_roundw
           case rel =>
            refine ⟨i2, B3, m2 + 1, d3, zz ++ [UInt8.ofNat q], by omega, congrArg (Value.int .i64) (by omega), rfl, by have := HMJ.out; omega, ?_, ?_⟩
            ·have := HY.out
             rw [beL, ← HSS.out, ← HQ.out] at this
             rw [← this, List.append_assoc]
             rfl
            ·rw [bvs_snoc _ _ hb2]
             exact hS3
           case measure => (simp [intOf]) <;> omega
        ·obtain rfl : j = 8 := by omega
         have h8 : s.take 8 = s := List.take_of_length_le (by rw [HSL.out]; exact Nat.le_refl _)
         rw [h8, ← HSH.out] at hS
         have HS := hide hS
         clear hS h8
         go_wp2_with fail
         go_ret
         exact ⟨B, d, rfl, HS.out.below, HS.out.ownsRow 0 rfl⟩
    | succ i =>
     have hi : (((i + 1 : Nat) : Int) - 1) = (i : Int) := by omega
     rw [hi]
     have hby := byte_of n8 (8 * i)
     have hb2 : n8 / 2 ^ (8 * i) % 256 < 256 := Nat.mod_lt _ (by decide)
     have hd : decide ((0 : Int) ≤ (i : Int)) = true := by simp
     have hi7 : i ≤ 7 := by omega
     obtain ⟨s, hs⟩ : ∃ s, s = 8 * i := ⟨_, rfl⟩
     have hsi : (8 : Int) * (i : Int) = (s : Int) := by omega
     rw [← hs] at hby hb2
     obtain ⟨q, hq⟩ : ∃ q, q = n8 / 2 ^ s % 256 := ⟨_, rfl⟩
     rw [← hq] at hby hb2
     have hs56 : s ≤ 56 := by omega
     have HQ := hide hq
     have HSS := hide hs
     clear hq hs hj hi
     go_wp2_with (at_builtin; refine wl_append1 rfl rfl tyB HS2.out 0 rfl rfl (us := [_]) rfl rfl ?_ ?_ (by decide) ?_; (intro u hu; simp only [List.mem_singleton] at hu; subst hu; rfl); (simp only [List.length_singleton]; omega); intro B3 d3 w3 hS3)
     go_roundw
     case rel =>
      refine ⟨i, B3, m2 + 1, d3, y ++ [UInt8.ofNat q], by omega, congrArg (Value.int .i64) (by omega), rfl, by have := HMJ.out; omega, ?_, ?_⟩
      ·have := HY.out
       rw [beL, ← HSS.out, ← HQ.out] at this
       rw [← this, List.append_assoc]
       rfl
      ·unfold RC
       rw [bvs_snoc _ _ hb2]
       exact hS3
     case measure => (simp [intOf]) <;> omega
end Go.Proofs.YtnohmgpmmhlloaaGreatDoor.S1

namespace Go.Proofs.YtnohmgpmmhlloaaGreatDoor
open Go.RowKit
set_option linter.unusedSimpArgs false
theorem half_len (l : List UInt8) : ((S1.shaL l).take 32).length = 32 := by rw [List.length_take, S1.shaL_len]; rfl
theorem shaRB {A : Option Addr} {n c : Nat} {l : List UInt8} (w : World) (hl : l.length = n) (hm : n ≤ 3000) (hr : Rd w (.slice A n c) 1 n (bvs l)) : Calls Tryz.prog 103 #[.slice A n c] w (BN 64 w (S1.shaL l)) := S1.shaR_any A n c l w hl hm hr
theorem redRB {A : Option Addr} {n c : Nat} {l : List UInt8} (w : World) (hl : l.length = n) (hn : n ≤ 64) (hr : Rd w (.slice A n c) 1 n (bvs l)) : Calls Tryz.prog 104 #[.slice A n c] w (BN 32 w (S3.redL l)) := S3.reduceR A n c l w hl hn hr
theorem clampRB {A : Option Addr} {c : Nat} {l : List UInt8} (w : World) (hl : l.length = 32) (hr : Rd w (.slice A 32 c) 1 32 (bvs l)) : Calls Tryz.prog 102 #[.slice A 32 c] w (BN 32 w (S3.clampL l)) :=
 (S3.clamp_walkR A c l w hl hr).mono fun _ _ h => bn_of (by rw [S3.clampL_len, hl]) h
theorem madRB {A B C : Option Addr} {ca cb cc : Nat} {a b c : List UInt8} (w : World) (hla : a.length = 32) (hlb : b.length = 32) (hlc : c.length = 32) (ha : Rd w (.slice A 32 ca) 1 32 (bvs a)) (hb : Rd w (.slice B 32 cb) 1 32 (bvs b)) (hc : Rd w (.slice C 32 cc) 1 32 (bvs c)) :
  Calls Tryz.prog 106 #[.slice A 32 ca, .slice B 32 cb, .slice C 32 cc] w (BN 32 w (S3.madL a b c)) := S3.muladdR A B C ca cb cc a b c w hla hlb hlc ha hb hc
theorem join_any (A : Option Addr) (n c : Nat) (ps : List PcV) (w : World) (hn : ps.length = n) (hm : (allL ps).length ≤ 900000) (hr : Rd w (.slice A n c) 1 n (ps.flatMap PcV.cells)) (hp : ∀ p ∈ ps, PcOK w p) :
  Calls Tryz.prog 105 #[.slice A n c] w (BN (allL ps).length w (allL ps)) := by
 have HR := hide hr
 have HE := hide hp
 have HL := hide hn
 have HM := hide hm
 have HM2 := hide (allL_le ps)
 have hnm : n ≤ maxLen := hr.le
 unfold maxLen at hnm
 have HSN := hide ((St.init w NoB).row (Below.refl _ _) (World.ownsRow_nil _ _ _ _) : St w NoB w [.row (.slice none 0 0) 5 1 0 []])
 clear hr hp hn hm
 go_enter Tryz.func105, Tryz.ntmps105
 go_wp2_with fail
 go_loopw [3, 8] (fun v3 iv wr => ∃ (k m : Nat) (X : Option Addr) (x : Nat), k ≤ n ∧ iv = .int .i64 (k : Int) ∧ v3 = .slice X m x ∧ m = (allL (ps.take k)).length ∧ Hid (St w NoB wr [.row (.slice X m x) 5 1 m (bvs (allL (ps.take k)))])) (fun _ iv _ => n - (intOf iv).toNat)
 case atStart => exact ⟨0, 0, none, 0, by omega, rfl, rfl, rfl, HSN⟩
 case round =>
  clear HSN
  obtain ⟨k, m, X, x, hk, rfl, rfl, hmm, HS⟩ := hrel
  by_cases hlt : k < n
  ·obtain ⟨p, hp⟩ : ∃ p, ps[k]? = some p := ⟨ps[k]'(by rw [HL.out]; exact hlt), List.getElem?_eq_getElem _⟩
   obtain ⟨b, o, hA, hc⟩ := rd_cell (HR.out.st HS.out) (pcs_get hp)
   subst hA
   have HT := hide (allL_take hp)
   have HP := hide (show Rd w (.slice p.A p.b.length p.c) 1 p.b.length (bvs p.b) from HE.out p (List.mem_of_getElem? hp))
   have dk : decide ((k : Int) < (n : Int)) = true := by simp; omega
   have dk2 : decide (k < n) = true := by simp; omega
   have ik : (k : Int) < (n : Int) := by omega
   have HB := hide (show m + p.b.length ≤ 4294967296 by
    have h1 := HM2.out (k + 1)
    have h2 := HM.out
    rw [allL_take hp, List.length_append, ← hmm] at h1
    omega)
   have HMM := hide hmm
   clear hp hmm
   go_wp2_with (at_builtin; refine wl_append rfl rfl tyB8 HS.out 0 rfl rfl rfl (HP.out.st HS.out) (one_bvs _) HB.out (by decide) ?_; intro Az cz wz hS2; simp only [List.set_cons_zero] at hS2; rw [← bvs_append, ← HT.out] at hS2; have HS2 := hide hS2; clear hS2)
   go_roundw
   case rel => exact ⟨k + 1, m + p.b.length, Az, cz, by omega, by go_num, rfl, by rw [HT.out, List.length_append, HMM.out], HS2⟩
   case measure => (simp [intOf]) <;> omega
  ·obtain rfl : k = n := by omega
   rw [List.take_of_length_le (by rw [HL.out]; omega)] at HS hmm
   clear hlt hk
   have dk : decide ((k : Int) < (k : Int)) = false := by simp
   have HMM := hide hmm
   clear hmm
   go_wp2_with fail
   go_ret
   rw [← HMM.out]
   exact ⟨X, x, rfl, HS.out.below, HS.out.ownsRow 0 rfl⟩
theorem join2 {A1 A2 : Option Addr} {m1 m2 c1 c2 : Nat} {x1 x2 : List UInt8} (w : World) (h1 : x1.length = m1) (h2 : x2.length = m2) (hm : m1 + m2 ≤ 900000) (r1 : Rd w (.slice A1 m1 c1) 1 m1 (bvs x1)) (r2 : Rd w (.slice A2 m2 c2) 1 m2 (bvs x2)) :
  Calls Tryz.prog 105 #[.slice (some ⟨w.heap.size, 0, none⟩) 2 2] (w.alloc (.cells #[.slice A1 m1 c1, .slice A2 m2 c2] 22)) (BN (m1 + m2) (w.alloc (.cells #[.slice A1 m1 c1, .slice A2 m2 c2] 22)) (x1 ++ x2)) := by
 obtain ⟨ps, p1, p2, p3, p4⟩ := two_ps (o := .cells #[.slice A1 m1 c1, .slice A2 m2 c2] 22) h1 h2 r1 r2
 have := join_any _ 2 2 ps _ p1 (by rw [p2, List.length_append, h1, h2]; exact hm) (by rw [p3]; exact rd_new w [.slice A1 m1 c1, .slice A2 m2 c2] 22 1 2 rfl (by decide)) p4
 rw [p2, len_add h1 h2] at this
 exact this
theorem join3 {A1 A2 A3 : Option Addr} {m1 m2 m3 c1 c2 c3 : Nat} {x1 x2 x3 : List UInt8} (w : World) (h1 : x1.length = m1) (h2 : x2.length = m2) (h3 : x3.length = m3) (hm : m1 + (m2 + m3) ≤ 900000) (r1 : Rd w (.slice A1 m1 c1) 1 m1 (bvs x1)) (r2 : Rd w (.slice A2 m2 c2) 1 m2 (bvs x2)) (r3 : Rd w (.slice A3 m3 c3) 1 m3 (bvs x3)) :
  Calls Tryz.prog 105 #[.slice (some ⟨w.heap.size, 0, none⟩) 3 3] (w.alloc (.cells #[.slice A1 m1 c1, .slice A2 m2 c2, .slice A3 m3 c3] 22)) (BN (m1 + (m2 + m3)) (w.alloc (.cells #[.slice A1 m1 c1, .slice A2 m2 c2, .slice A3 m3 c3] 22)) (x1 ++ (x2 ++ x3))) := by
 obtain ⟨ps, p1, p2, p3, p4⟩ := three_ps (o := .cells #[.slice A1 m1 c1, .slice A2 m2 c2, .slice A3 m3 c3] 22) h1 h2 h3 r1 r2 r3
 have := join_any _ 3 3 ps _ p1 (by rw [p2, List.length_append, List.length_append, h1, h2, h3]; exact hm) (by rw [p3]; exact rd_new w [.slice A1 m1 c1, .slice A2 m2 c2, .slice A3 m3 c3] 22 1 3 rfl (by decide)) p4
 rw [p2, len_add3 h1 h2 h3] at this
 exact this
theorem pubR_32 (A : Option Addr) (c : Nat) (l : List UInt8) (w : World) (hl : l.length = 32) (hr : Rd w (.slice A 32 c) 1 32 (bvs l)) : Calls Tryz.prog 46 #[.slice A 32 c] w (BN 32 w (pubL l)) := by
 have HS := hide (St.init w NoB)
 have HR := hide hr
 have HL := hide hl
 have HV := hide (show pubL l = packL (tmE Bp (mulV (keyA l))) from rfl)
 clear hr hl
 go_enter Tryz.func46, Tryz.ntmps46
 have M0 := True.intro
 go_wp2_with (first | (clear M4; go_at_call 99; (with_reducible refine (packQ32 _ hz2).mono ?_); rintro e wy ⟨Bp, dp, rfl, hb, ho⟩; have HS := hide (HS.out.row hb ho); clear ho; have M5 := True.intro) | (clear M3; go_at_call 100; (with_reducible refine (timesQ _ _ _ _ _ hz1 (keyA_len _) (by omega) (HS.out.rd 0 rfl)).mono ?_); rintro e wy ⟨z2, hz2, rfl, hb⟩; have HS := hide (HS.out.call hb); have M4 := True.intro) | (clear M2; go_at_call 102; (with_reducible refine (clampRB _ (half_len _) HR1.out).mono ?_); rintro e wy ⟨Bc, dc, rfl, hb, ho⟩; have HS := hide (HS.out.row hb ho); clear ho; have M3 := True.intro) | (clear M1; go_at_call 103; (with_reducible refine (shaRB _ HL.out (by omega) (HR.out.below HS.out.below)).mono ?_); rintro e wy ⟨B, d, rfl, hb, ho⟩; obtain ⟨bs, os, rfl, hcd, hr1, hr2⟩ := rd_halves (S1.shaL_len _) (rd_own ho); have hcd2 : (64 : Int) ≤ (d : Int) := (by omega); have hcd3 : (32 : Int) ≤ (d : Int) := (by omega); have hcd4 : ¬ d = 32 := (by omega); have HR1 := hide hr1; clear hr1 hr2; have HS := hide (HS.out.call hb); have M2 := True.intro) | (clear M0; go_at_call 101; (with_reducible refine (baseQ _).mono ?_); rintro e wy ⟨z1, hz1, rfl, hb⟩; have HS := hide (HS.out.call hb); have M1 := True.intro))
 go_ret
 rw [HV.out]
 exact ⟨_, _, rfl, HS.out.below, HS.out.ownsRow 0 rfl⟩
theorem signR_32 (A B : Option Addr) (c m d : Nat) (l x : List UInt8) (w : World) (hl : l.length = 32) (hx : x.length = m) (hm : m ≤ 2900) (hr : Rd w (.slice A 32 c) 1 32 (bvs l)) (hrx : Rd w (.slice B m d) 1 m (bvs x)) :
  Calls Tryz.prog 47 #[.slice A 32 c, .slice B m d] w (BN 64 w (sigL l x)) := by
 have HS := hide (St.init w NoB)
 have HR := hide hr
 have HX := hide hrx
 have HL := hide hl
 have HLX := hide hx
 clear hr hrx hl hx
 go_enter Tryz.func47, Tryz.ntmps47
 have M0 := True.intro
 go_wp2_with (first | (clear M13; go_at_call 105; (with_reducible refine (join2 _ (packL_len _) (S3.madL_len _ _ _) (by omega) (HS.out.rd 4 rfl) (HS.out.rd 0 rfl)).mono ?_); rintro e wy ⟨Bz, dz, rfl, hb, ho⟩; have HS := hide ((HS.out.skip _).row hb ho); clear ho; have M14 := True.intro) | (clear M12; go_at_call 106; (with_reducible refine (madRB _ (sumS_len _) (keyA_len _) (sumS_len _) (HS.out.rd 0 rfl) (HS.out.rd 8 rfl) (HS.out.rd 4 rfl)).mono ?_); rintro e wy ⟨Bm, dm, rfl, hb, ho⟩; have HS := hide (HS.out.row hb ho); clear ho; have M13 := True.intro) | (clear M11; go_at_call 104; (with_reducible refine (redRB _ (S1.shaL_len _) (by decide) (HS.out.rd 0 rfl)).mono ?_); rintro e wy ⟨Bh, dh, rfl, hb, ho⟩; have HS := hide (HS.out.row hb ho); clear ho; have M12 := True.intro) | (clear M10; go_at_call 103; (with_reducible refine (shaRB _ (len_add3 (packL_len _) (pubL_len _) HLX.out) (by omega) (HS.out.rd 0 rfl)).mono ?_); rintro e wy ⟨Bs3, ds3, rfl, hb, ho⟩; have HS := hide (HS.out.row hb ho); clear ho; have M11 := True.intro) | (clear M9; go_at_call 105; (with_reducible refine (join3 _ (packL_len _) (pubL_len _) HLX.out (by omega) (HS.out.rd 0 rfl) (HS.out.rd 4 rfl) (HX.out.below HS.out.below)).mono ?_); rintro e wy ⟨Bj3, dj3, rfl, hb, ho⟩; have HS := hide ((HS.out.skip _).row hb ho); clear ho; have M10 := True.intro) | (clear M8; go_at_call 99; (with_reducible refine (packQ32 _ hz2).mono ?_); rintro e wy ⟨Bf, df, rfl, hb, ho⟩; have HS := hide (HS.out.row hb ho); clear ho; have M9 := True.intro) | (clear M7; go_at_call 100; (with_reducible refine (timesQ _ _ _ _ _ hz1 (sumS_len _) (by omega) (HS.out.rd 0 rfl)).mono ?_); rintro e wy ⟨z2, hz2, rfl, hb⟩; have HS := hide (HS.out.call hb); have M8 := True.intro) | (clear M6; go_at_call 101; (with_reducible refine (baseQ _).mono ?_); rintro e wy ⟨z1, hz1, rfl, hb⟩; have HS := hide (HS.out.call hb); have M7 := True.intro) | (clear M5; go_at_call 104; (with_reducible refine (redRB _ (S1.shaL_len _) (by decide) (HS.out.rd 0 rfl)).mono ?_); rintro e wy ⟨Br, dr, rfl, hb, ho⟩; have HS := hide (HS.out.row hb ho); clear ho; have M6 := True.intro) | (clear M4; go_at_call 103; (with_reducible refine (shaRB _ (len_add (keyP_len _) HLX.out) (by omega) (HS.out.rd 0 rfl)).mono ?_); rintro e wy ⟨Bs2, ds2, rfl, hb, ho⟩; have HS := hide (HS.out.row hb ho); clear ho; have M5 := True.intro) | (clear M3; go_at_call 105; (with_reducible refine (join2 _ (keyP_len _) HLX.out (by omega) (HR2.out _ HW.out) (HX.out.below HS.out.below)).mono ?_); rintro e wy ⟨Bj, dj, rfl, hb, ho⟩; have HS := hide ((HS.out.skip _).row hb ho); clear ho; have M4 := True.intro) | (clear M2; go_at_call 46; (with_reducible refine (pubR_32 _ _ _ _ HL.out (HR.out.below HS.out.below)).mono ?_); rintro e wy ⟨Bu, du, rfl, hb, ho⟩; have HS := hide (HS.out.row hb ho); clear ho; have HW := hide (bnx HW.out hb); have M3 := True.intro) | (clear M1; go_at_call 102; (with_reducible refine (clampRB _ (half_len _) (HR1.out _ HW.out)).mono ?_); rintro e wy ⟨Bc, dc, rfl, hb, ho⟩; have HS := hide (HS.out.row hb ho); clear ho; have HW := hide (bnx HW.out hb); have M2 := True.intro) | (clear M0; go_at_call 103; (with_reducible refine (shaRB _ HL.out (by omega) (HR.out.below HS.out.below)).mono ?_); rintro e wy ⟨B, d, rfl, hb, ho⟩; obtain ⟨bs, os, rfl, hcd, hr1, hr2⟩ := rd_halves (S1.shaL_len _) (rd_own ho); have hcd2 : (64 : Int) ≤ (d : Int) := (by omega); have hcd3 : (32 : Int) ≤ (d : Int) := (by omega); have hcd4 : ¬ d = 32 := (by omega); have HR1 := hide (fun W (h : Below wy.heap.size wy W) => hr1.below h); have HR2 := hide (fun W (h : Below wy.heap.size wy W) => hr2.below h); clear hr1 hr2; have HS := hide (HS.out.call hb); have HW := hide (Below.refl wy.heap.size wy); have M1 := True.intro))
 go_ret
 exact ⟨_, _, rfl, HS.out.below, HS.out.ownsRow 0 rfl⟩
end Go.Proofs.YtnohmgpmmhlloaaGreatDoor

namespace Go.Proofs.YtnohmgpmmhlloaaGreatDoor
open Go.RowKit
set_option linter.unusedSimpArgs false
theorem join23_any (A : Option Addr) (n c : Nat) (ps : List PcV) (w : World) (hn : ps.length = n) (hm : (allL ps).length ≤ 900000) (hr : Rd w (.slice A n c) 1 n (ps.flatMap PcV.cells)) (hp : ∀ p ∈ ps, PcOK w p) :
  Calls Tryz.prog 45 #[.slice A n c] w (BN (allL ps).length w (allL ps)) := by
 have HR := hide hr
 have HE := hide hp
 have HL := hide hn
 have HM := hide hm
 have HM2 := hide (allL_le ps)
 have hnm : n ≤ maxLen := hr.le
 unfold maxLen at hnm
 have HSN := hide ((St.init w NoB).row (Below.refl _ _) (World.ownsRow_nil _ _ _ _) : St w NoB w [.row (.slice none 0 0) 5 1 0 []])
 clear hr hp hn hm
 go_enter Tryz.func45, Tryz.ntmps45
 go_wp2_with fail
 go_loopw [3, 8] (fun v3 iv wr => ∃ (k m : Nat) (X : Option Addr) (x : Nat), k ≤ n ∧ iv = .int .i64 (k : Int) ∧ v3 = .slice X m x ∧ m = (allL (ps.take k)).length ∧ Hid (St w NoB wr [.row (.slice X m x) 5 1 m (bvs (allL (ps.take k)))])) (fun _ iv _ => n - (intOf iv).toNat)
 case atStart => exact ⟨0, 0, none, 0, by omega, rfl, rfl, rfl, HSN⟩
 case round =>
  clear HSN
  obtain ⟨k, m, X, x, hk, rfl, rfl, hmm, HS⟩ := hrel
  by_cases hlt : k < n
  ·obtain ⟨p, hp⟩ : ∃ p, ps[k]? = some p := ⟨ps[k]'(by rw [HL.out]; exact hlt), List.getElem?_eq_getElem _⟩
   obtain ⟨b, o, hA, hc⟩ := rd_cell (HR.out.st HS.out) (pcs_get hp)
   subst hA
   have HT := hide (allL_take hp)
   have HP := hide (show Rd w (.slice p.A p.b.length p.c) 1 p.b.length (bvs p.b) from HE.out p (List.mem_of_getElem? hp))
   have dk : decide ((k : Int) < (n : Int)) = true := by simp; omega
   have dk2 : decide (k < n) = true := by simp; omega
   have ik : (k : Int) < (n : Int) := by omega
   have HB := hide (show m + p.b.length ≤ 4294967296 by
    have h1 := HM2.out (k + 1)
    have h2 := HM.out
    rw [allL_take hp, List.length_append, ← hmm] at h1
    omega)
   have HMM := hide hmm
   clear hp hmm
   go_wp2_with (at_builtin; refine wl_append rfl rfl tyB8 HS.out 0 rfl rfl rfl (HP.out.st HS.out) (one_bvs _) HB.out (by decide) ?_; intro Az cz wz hS2; simp only [List.set_cons_zero] at hS2; rw [← bvs_append, ← HT.out] at hS2; have HS2 := hide hS2; clear hS2)
   go_roundw
   case rel => exact ⟨k + 1, m + p.b.length, Az, cz, by omega, by go_num, rfl, by rw [HT.out, List.length_append, HMM.out], HS2⟩
   case measure => (simp [intOf]) <;> omega
  ·obtain rfl : k = n := by omega
   rw [List.take_of_length_le (by rw [HL.out]; omega)] at HS hmm
   clear hlt hk
   have dk : decide ((k : Int) < (k : Int)) = false := by simp
   have HMM := hide hmm
   clear hmm
   go_wp2_with fail
   go_ret
   rw [← HMM.out]
   exact ⟨X, x, rfl, HS.out.below, HS.out.ownsRow 0 rfl⟩
theorem join23_2 {A1 A2 : Option Addr} {m1 m2 c1 c2 : Nat} {x1 x2 : List UInt8} (w : World) (h1 : x1.length = m1) (h2 : x2.length = m2) (hm : m1 + m2 ≤ 900000) (r1 : Rd w (.slice A1 m1 c1) 1 m1 (bvs x1)) (r2 : Rd w (.slice A2 m2 c2) 1 m2 (bvs x2)) :
  Calls Tryz.prog 45 #[.slice (some ⟨w.heap.size, 0, none⟩) 2 2] (w.alloc (.cells #[.slice A1 m1 c1, .slice A2 m2 c2] 22)) (BN (m1 + m2) (w.alloc (.cells #[.slice A1 m1 c1, .slice A2 m2 c2] 22)) (x1 ++ x2)) := by
 obtain ⟨ps, p1, p2, p3, p4⟩ := two_ps (o := .cells #[.slice A1 m1 c1, .slice A2 m2 c2] 22) h1 h2 r1 r2
 have := join23_any _ 2 2 ps _ p1 (by rw [p2, List.length_append, h1, h2]; exact hm) (by rw [p3]; exact rd_new w [.slice A1 m1 c1, .slice A2 m2 c2] 22 1 2 rfl (by decide)) p4
 rw [p2, len_add h1 h2] at this
 exact this
theorem join23_3 {A1 A2 A3 : Option Addr} {m1 m2 m3 c1 c2 c3 : Nat} {x1 x2 x3 : List UInt8} (w : World) (h1 : x1.length = m1) (h2 : x2.length = m2) (h3 : x3.length = m3) (hm : m1 + (m2 + m3) ≤ 900000) (r1 : Rd w (.slice A1 m1 c1) 1 m1 (bvs x1)) (r2 : Rd w (.slice A2 m2 c2) 1 m2 (bvs x2)) (r3 : Rd w (.slice A3 m3 c3) 1 m3 (bvs x3)) :
  Calls Tryz.prog 45 #[.slice (some ⟨w.heap.size, 0, none⟩) 3 3] (w.alloc (.cells #[.slice A1 m1 c1, .slice A2 m2 c2, .slice A3 m3 c3] 22)) (BN (m1 + (m2 + m3)) (w.alloc (.cells #[.slice A1 m1 c1, .slice A2 m2 c2, .slice A3 m3 c3] 22)) (x1 ++ (x2 ++ x3))) := by
 obtain ⟨ps, p1, p2, p3, p4⟩ := three_ps (o := .cells #[.slice A1 m1 c1, .slice A2 m2 c2, .slice A3 m3 c3] 22) h1 h2 h3 r1 r2 r3
 have := join23_any _ 3 3 ps _ p1 (by rw [p2, List.length_append, List.length_append, h1, h2, h3]; exact hm) (by rw [p3]; exact rd_new w [.slice A1 m1 c1, .slice A2 m2 c2, .slice A3 m3 c3] 22 1 3 rfl (by decide)) p4
 rw [p2, len_add3 h1 h2 h3] at this
 exact this
theorem join23_1 {A1 : Option Addr} {m1 c1 : Nat} {x1 : List UInt8} (w : World) (h1 : x1.length = m1) (hm : m1 ≤ 900000) (r1 : Rd w (.slice A1 m1 c1) 1 m1 (bvs x1)) :
  Calls Tryz.prog 45 #[.slice (some ⟨w.heap.size, 0, none⟩) 1 1] (w.alloc (.cells #[.slice A1 m1 c1] 22)) (BN m1 (w.alloc (.cells #[.slice A1 m1 c1] 22)) x1) := by
 have hb : Below w.heap.size w (w.alloc (.cells #[.slice A1 m1 c1] 22)) := (Below.refl _ _).alloc (Nat.le_refl _) _
 have hal : allL [PcV.mk A1 c1 x1] = x1 := by simp [allL]
 have := join23_any (some ⟨w.heap.size, 0, none⟩) 1 1 [PcV.mk A1 c1 x1] _ rfl (by rw [hal, h1]; exact hm) (by subst h1; exact rd_new w [.slice A1 x1.length c1] 22 1 1 rfl (by decide)) (fun p hp => by
  obtain rfl := List.mem_singleton.1 hp
  subst h1
  exact r1.below hb)
 rw [hal, h1] at this
 exact this
theorem seed23_yes (A : Option Addr) (c : Nat) (w : World) : Calls Tryz.prog 44 #[.slice A 32 c] w fun e w' => e = .returned (.bool true) ∧ w = w' := by
 go_enter Tryz.func44, Tryz.ntmps44
 go_wp2_with fail
 go_ret
 exact ⟨rfl, rfl⟩
theorem seed23_no (A : Option Addr) (n c : Nat) (w : World) (hn : n ≠ 32) : Calls Tryz.prog 44 #[.slice A n c] w fun e w' => e = .returned (.bool false) ∧ w = w' := by
 have q0 : ((n : Int) == 32) = false := by simp; omega
 have q1 : decide ((n : Int) = 32) = false := by simp; omega
 have q2 : ¬ (n : Int) = 32 := by omega
 clear hn
 go_enter Tryz.func44, Tryz.ntmps44
 go_wp2_with fail
 go_ret
 exact ⟨rfl, rfl⟩
theorem message23_core (A1 : Option Addr) (n1 c1 : Nat) (l1 : List UInt8) (A2 : Option Addr) (n2 c2 : Nat) (l2 : List UInt8) (A3 : Option Addr) (n3 c3 : Nat) (l3 : List UInt8) (A4 : Option Addr) (n4 c4 : Nat) (l4 : List UInt8) (A5 : Option Addr) (n5 c5 : Nat) (l5 : List UInt8) (w : World) (hl1 : l1.length = n1) (hn1 : n1 ≤ 70000) (hr1 : Rd w (.slice A1 n1 c1) 1 n1 (bvs l1)) (hl2 : l2.length = n2) (hn2 : n2 ≤ 70000) (hr2 : Rd w (.slice A2 n2 c2) 1 n2 (bvs l2)) (hl3 : l3.length = n3) (hn3 : n3 ≤ 70000) (hr3 : Rd w (.slice A3 n3 c3) 1 n3 (bvs l3)) (hl4 : l4.length = n4) (hn4 : n4 ≤ 70000) (hr4 : Rd w (.slice A4 n4 c4) 1 n4 (bvs l4)) (hl5 : l5.length = n5) (hn5 : n5 ≤ 70000) (hr5 : Rd w (.slice A5 n5 c5) 1 n5 (bvs l5)) :
  Calls Tryz.prog 48 #[.agg #[.slice A1 n1 c1, .slice A2 n2 c2, .slice A3 n3 c3, .slice A4 n4 c4, .slice A5 n5 c5]] w (BN (n1 + (n5 + n2)) w (l1 ++ (l5 ++ l2))) := by
 have hS0 := (St.init w NoB).alloc #[.slice A1 n1 c1, .slice A2 n2 c2, .slice A3 n3 c3, .slice A4 n4 c4, .slice A5 n5 c5] 32
 have HS := hide hS0
 clear hS0
 have HR1 := hide hr1
 have HL1 := hide hl1
 have HR2 := hide hr2
 have HL2 := hide hl2
 have HR3 := hide hr3
 have HL3 := hide hl3
 have HR4 := hide hr4
 have HL4 := hide hl4
 have HR5 := hide hr5
 have HL5 := hide hl5
 clear hr1 hl1 hr2 hl2 hr3 hl3 hr4 hl4 hr5 hl5
 go_enter Tryz.func48, Tryz.ntmps48
 go_upto_region 1 with fail
 generalize World.alloc w _ = wb at HS ⊢
 have t1 := HS.out.cell 0 rfl 0
 have t2 := HS.out.cell 0 rfl 1
 have t3 := HS.out.cell 0 rfl 2
 have t4 := HS.out.cell 0 rfl 3
 have t5 := HS.out.cell 0 rfl 4
 go_wp2_with (go_at_call 45; (with_reducible refine (join23_3 _ HL1.out HL5.out HL2.out (by omega) (HR1.out.below HS.out.below) (HR5.out.below HS.out.below) (HR2.out.below HS.out.below)).mono ?_); rintro e wy ⟨B, d, rfl, hb, ho⟩; have HS := hide ((HS.out.skip _).row hb ho); clear ho)
 go_ret
 exact ⟨_, _, rfl, HS.out.below, HS.out.ownsRow 0 rfl⟩
theorem vouch23_bad1 (A1 A2 A3 : Option Addr) (m1 m2 m3 c1 c2 c3 : Nat) (w : World) (hne : m1 ≠ 32) : Calls Tryz.prog 16 #[.slice A1 m1 c1, .slice A2 m2 c2, .slice A3 m3 c3] w (VoR w [] []) := by
 go_enter Tryz.func16, Tryz.ntmps16
 go_wp2_with (go_at_call 44; (with_reducible refine (seed23_no _ _ _ _ hne).mono ?_); rintro e wy ⟨rfl, rfl⟩)
 go_ret2
 exact vou_nil w
theorem vouch23_bad2 (A1 A2 A3 : Option Addr) (m2 m3 c1 c2 c3 : Nat) (w : World) (hne : m2 ≠ 32) : Calls Tryz.prog 16 #[.slice A1 32 c1, .slice A2 m2 c2, .slice A3 m3 c3] w (VoR w [] []) := by
 have q0 : ((m2 : Int) != 32) = true := by simp; omega
 go_enter Tryz.func16, Tryz.ntmps16
 go_wp2_with (go_at_call 44; (with_reducible refine (seed23_yes _ _ _).mono ?_); rintro e wy ⟨rfl, rfl⟩)
 go_ret2
 exact vou_nil w
theorem vouch23_ok (A1 A2 A3 : Option Addr) (c1 c2 c3 n : Nat) (y p b : List UInt8) (w : World) (hy : y.length = 32) (hp : p.length = 32) (hb : b.length = n) (hn : n ≤ 2000) (hry : Rd w (.slice A1 32 c1) 1 32 (bvs y)) (hrp : Rd w (.slice A2 32 c2) 1 32 (bvs p)) (hrb : Rd w (.slice A3 n c3) 1 n (bvs b)) :
  Calls Tryz.prog 16 #[.slice A1 32 c1, .slice A2 32 c2, .slice A3 n c3] w (VoR w (pubL y) (sigL y (b ++ p))) := by
 have HS := hide (St.init w NoB)
 have HY := hide hy
 have HP := hide hp
 have HB := hide hb
 have HRY := hide hry
 have HRP := hide hrp
 have HRB := hide hrb
 clear hy hp hb hry hrp hrb
 have HM := hide (len_add HB.out HP.out)
 have d1 : decide ((65536 : Int) < (n : Int)) = false := by simp; omega
 go_enter Tryz.func16, Tryz.ntmps16
 have M0 := True.intro
 go_wp2_with (first
  | (clear M2; go_at_call 47; (with_reducible refine (signR_32 _ _ _ _ _ _ _ _ HY.out HM.out (by omega) (HRY.out.below HS.out.below) (HS.out.rd 0 rfl)).mono ?_); rintro e wy ⟨D, f, rfl, hb, ho⟩; have HS := hide (HS.out.row hb ho); clear ho hb; have M3 := True.intro)
  | (clear M1; go_at_call 45; (with_reducible refine (join23_2 _ HB.out HP.out (by omega) (HRB.out.below HS.out.below) (HRP.out.below HS.out.below)).mono ?_); rintro e wy ⟨Bm, dm, rfl, hb, ho⟩; have HS := hide ((HS.out.skip _).row hb ho); clear ho hb; have M2 := True.intro)
  | (clear M0; go_at_call 46; (with_reducible refine (pubR_32 _ _ _ _ HY.out (HRY.out.below HS.out.below)).mono ?_); rintro e wy ⟨B, d, rfl, hb, ho⟩; have HS := hide (HS.out.row hb ho); clear ho hb; have M1 := True.intro)
  | (go_at_call 44; (with_reducible refine (seed23_yes _ _ _).mono ?_); rintro e wy ⟨rfl, rfl⟩))
 go_ret2
 refine ⟨B, d, D, f, ?_, ?_⟩
 ·rw [pubL_len, sigL_len]
  rfl
 ·unfold PcV.ch PcV.v
  rw [pubL_len, sigL_len]
  exact HS.out.pickL [2, 0] (by decide) rfl
theorem vouch23_any (A1 A2 A3 : Option Addr) (m1 m2 n c1 c2 c3 : Nat) (y p b : List UInt8) (w : World) (hy : y.length = m1) (hp : p.length = m2) (hb : b.length = n) (hn : n ≤ 2000) (hry : Rd w (.slice A1 m1 c1) 1 m1 (bvs y)) (hrp : Rd w (.slice A2 m2 c2) 1 m2 (bvs p)) (hrb : Rd w (.slice A3 n c3) 1 n (bvs b)) :
  Calls Tryz.prog 16 #[.slice A1 m1 c1, .slice A2 m2 c2, .slice A3 n c3] w (VoR w (vouK y p b) (vouV y p b)) := by
 unfold vouK vouV
 by_cases h1 : y.length ≠ 32
 ·rw [if_pos h1, if_pos h1]
  exact vouch23_bad1 _ _ _ _ _ _ _ _ _ _ (by omega)
 rw [if_neg h1, if_neg h1]
 obtain rfl : m1 = 32 := by omega
 by_cases h2 : p.length ≠ 32
 ·rw [if_pos h2, if_pos h2]
  exact vouch23_bad2 _ _ _ _ _ _ _ _ _ (by omega)
 rw [if_neg h2, if_neg h2]
 obtain rfl : m2 = 32 := by omega
 rw [if_neg (by omega), if_neg (by omega)]
 exact vouch23_ok _ _ _ _ _ _ _ _ _ _ _ (by omega) (by omega) hb hn hry hrp hrb
end Go.Proofs.YtnohmgpmmhlloaaGreatDoor
