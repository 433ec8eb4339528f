/-
  The page's MulAdd, AddScalar, Clamp.
-/
import Derived.Test.YtgofcefggdlalaaRb
namespace Go.Proofs.Ytgofcefggdlalaa
open Go.RowKit
set_option linter.unusedSimpArgs false

def muR (a : Int) (b : List Int) (i : Nat) : Nat → List Int → List Int
  | 0, t => t
  | j + 1, t => (muR a b i j t).set (i + j) ((muR a b i j t).getD (i + j) 0 + a * b.getD j 0)
def muC (ws t : List Int) (i : Nat) : List Int := t.set i (t.getD i 0 + ws.getD i 0)
def muS (us vs ws : List Int) : Nat → List Int
  | 0 => List.replicate 64 0
  | i + 1 => muR (us.getD i 0) vs i 32 (muC ws (muS us vs ws i) i)
theorem muR_len (a : Int) (b : List Int) (i : Nat) (t : List Int) : ∀ j, (muR a b i j t).length = t.length
  | 0 => rfl
  | j + 1 => by rw [muR, List.length_set, muR_len a b i t j]
theorem muC_len (ws t : List Int) (i : Nat) : (muC ws t i).length = t.length := by unfold muC; rw [List.length_set]
theorem muS_len (us vs ws : List Int) : ∀ i, (muS us vs ws i).length = 64
  | 0 => rfl
  | i + 1 => by rw [muS, muR_len, muC_len, muS_len us vs ws i]
theorem muR_bd (a : Int) (b : List Int) (i : Nat) (t : List Int) (C M : Int) (hM : 0 ≤ M) (ht : ∀ k, 0 ≤ t.getD k 0 ∧ t.getD k 0 ≤ C) (hm : ∀ k, 0 ≤ a * b.getD k 0 ∧ a * b.getD k 0 ≤ M) :
    ∀ (j : Nat) (k : Nat), 0 ≤ (muR a b i j t).getD k 0 ∧ (muR a b i j t).getD k 0 ≤ C + j * M
  | 0, k => by have := ht k; simp only [muR]; omega
  | j + 1, k => by
    have ih := muR_bd a b i t C M hM ht hm j
    have h1 := ih k
    have h2 := ih (i + j)
    have h3 := hm j
    rw [muR, getD_set]
    have e : ((j + 1 : Nat) : Int) * M = (j : Int) * M + M := by rw [Int.natCast_add, Int.add_mul]; omega
    rw [e]
    split <;> omega
theorem muC_bd (ws t : List Int) (i : Nat) (C : Int) (ht : ∀ k, 0 ≤ t.getD k 0 ∧ t.getD k 0 ≤ C) (hw : Byt ws) (k : Nat) : 0 ≤ (muC ws t i).getD k 0 ∧ (muC ws t i).getD k 0 ≤ C + 256 := by
  have h1 := ht k
  have h2 := ht i
  have h3 := byt_getD hw i
  unfold muC
  rw [getD_set]
  split <;> omega
theorem byt_mul {us vs : List Int} (h1 : Byt us) (h2 : Byt vs) (i k : Nat) : 0 ≤ us.getD i 0 * vs.getD k 0 ∧ us.getD i 0 * vs.getD k 0 ≤ 65536 := by
  have a := byt_getD h1 i
  have b := byt_getD h2 k
  exact ⟨Int.mul_nonneg a.1 b.1, Int.le_trans (Int.mul_le_mul (by omega : us.getD i 0 ≤ 256) (by omega : vs.getD k 0 ≤ 256) b.1 (by omega)) (by omega)⟩
theorem muS_bd {us vs ws : List Int} (h1 : Byt us) (h2 : Byt vs) (h3 : Byt ws) : ∀ (i k : Nat), 0 ≤ (muS us vs ws i).getD k 0 ∧ (muS us vs ws i).getD k 0 ≤ i * 2097408
  | 0, k => by
    have : (List.replicate 64 (0 : Int)).getD k 0 = 0 := by rw [List.getD_eq_getElem?_getD, List.getElem?_replicate]; split <;> rfl
    rw [muS, this]
    omega
  | i + 1, k => by
    have := muR_bd (us.getD i 0) vs i (muC ws (muS us vs ws i) i) (i * 2097408 + 256) 65536 (by omega) (muC_bd ws _ i _ (muS_bd h1 h2 h3 i) h3) (byt_mul h1 h2 i) 32 k
    rw [muS]
    omega
theorem muR_dv (a : Int) (b : List Int) (i : Nat) (t : List Int) (hb : b.length = 32) : ∀ j, j ≤ 32 → i + j ≤ t.length → dv (muR a b i j t) = dv t + a * 256 ^ i * dv (b.take j)
  | 0, _, _ => by simp [muR, dv]
  | j + 1, hj, h => by
    have hx : b[j]? = some b[j] := List.getElem?_eq_getElem (by omega)
    rw [muR, dv_set _ _ _ (by rw [muR_len]; omega), muR_dv a b i t hb j (by omega) (by omega), dv_take hx, getD_of hx, Int.pow_add,
      show (muR a b i j t).getD (i + j) 0 + a * b[j] - (muR a b i j t).getD (i + j) 0 = a * b[j] from by omega]
    have : a * b[j] * (256 ^ i * 256 ^ j) = a * 256 ^ i * (b[j] * 256 ^ j) := by grind
    rw [this, Int.mul_add]
    omega
theorem muC_dv (ws t : List Int) (i : Nat) (h : i < t.length) : dv (muC ws t i) = dv t + ws.getD i 0 * 256 ^ i := by
  unfold muC
  rw [dv_set _ _ _ h, show t.getD i 0 + ws.getD i 0 - t.getD i 0 = ws.getD i 0 from by omega]
theorem zr64 : dv (List.replicate 64 0) = 0 + 0 := by decide +kernel
theorem bnx {w0 w w' : World} (h : Below w0.heap.size w0 w) (h2 : Below w.heap.size w w') : Below w0.heap.size w0 w' := h.trans (h2.mono h.size)
theorem muS_dv (us vs ws : List Int) (h1 : us.length = 32) (h2 : vs.length = 32) (h3 : ws.length = 32) : ∀ i, i ≤ 32 → dv (muS us vs ws i) = dv (us.take i) * dv vs + dv (ws.take i)
  | 0, _ => by simp only [muS, List.take_zero, dv, Int.zero_mul]; exact zr64
  | i + 1, h => by
    rw [muS, muR_dv _ _ _ _ h2 32 (by omega) (by rw [muC_len, muS_len]; omega), muC_dv _ _ _ (by rw [muS_len]; omega), muS_dv us vs ws h1 h2 h3 i (by omega),
      dv_take (some_getD (xs := us) (k := i) (by omega)), dv_take (some_getD (xs := ws) (k := i) (by omega)), List.take_of_length_le (l := vs) (i := 32) (by omega), Int.add_mul]
    omega
def MsRel (w : World) (us vs ws : List Int) (g : Nat) (iv : Value) (wr : World) : Prop :=
  ∃ i : Nat, i ≤ 32 ∧ iv = .int .i64 (i : Int) ∧ St w NoB wr [.cells g (ivs (muS us vs ws i)).toArray 52]
def MtRel (w : World) (us vs ws : List Int) (g i : Nat) (jv : Value) (wr : World) : Prop :=
  ∃ j : Nat, j ≤ 32 ∧ jv = .int .i64 (j : Int) ∧ St w NoB wr [.cells g (ivs (muR (us.getD i 0) vs i j (muC ws (muS us vs ws i) i))).toArray 52]
def MoRel (w : World) (t : List Int) (g gb : Nat) (cv kv : Value) (wr : World) : Prop :=
  ∃ k : Nat, k ≤ 64 ∧ kv = .int .i64 (k : Int) ∧ cv = .int .i64 (crS 0 t k) ∧ St w NoB wr [.row (.slice (some ⟨gb, 0, none⟩) 64 64) 5 1 64 (bvs ((dgL 0 t k).map (fun x : Int => UInt8.ofNat x.toNat) ++ List.replicate (64 - k) 0)), .cells g (ivs t).toArray 52]
theorem crS_nn {t : List Int} (C : Int) (hC : 0 ≤ C) (ht : ∀ k, 0 ≤ t.getD k 0 ∧ t.getD k 0 ≤ C) : ∀ k, 0 ≤ crS 0 t k ∧ crS 0 t k ≤ C
  | 0 => by simp only [crS]; omega
  | k + 1 => by
    have ih := crS_nn C hC ht k
    have := ht k
    rw [crS]
    omega
theorem zero64v (w : World) : (zeroValue 52).run Try.prog w = .ok (.agg (ivs (List.replicate 64 0)).toArray) w := by kernel_rfl
theorem rd_atR {w : World} {b o n c size : Nat} {xs : List Value} (h : Rd w (.slice (some ⟨b, o, none⟩) n c) size n xs) {j : Nat} {u : Value} (hu : xs[j]? = some u) : w.cell? ⟨b, o + j, none⟩ = some u := by
  obtain ⟨A', c', e, _, _, _, _, h5⟩ := h
  injection e with e1 _ _
  subst e1
  exact (h5 b o none rfl).2 j u hu
theorem bvs_rw {l : List UInt8} {n k : Nat} (hl : l.length = n) (hk : k < n) : (bvs l)[k]? = some (.int .u8 ((rwL l).getD k 0)) := by
  have h : l[k]? = some (l[k]'(by omega)) := List.getElem?_eq_getElem _
  rw [bvs_get h, getD_of (rwL_get h)]
theorem rd_open32 {w : World} {B : Option Addr} {d : Nat} {l : List UInt8} (hl : l.length = 32) (h : Rd w (.slice B 32 d) 1 32 (bvs l)) : ∃ b o, B = some ⟨b, o, none⟩ := by
  obtain ⟨b, o, e, _⟩ := rd_at' h (bvs_rw hl (show 0 < 32 by omega))
  exact ⟨b, o, e⟩
theorem own_mono {w : World} {b1 b2 : Nat} {e : TypeId} {size n : Nat} {v : Value} {xs : List Value} (h : w.ownsRow b2 e size v n xs) (hle : b1 ≤ b2) : w.ownsRow b1 e size v n xs :=
  ⟨h.1, h.2.imp id fun ⟨g, cap, cur, e1, hg, r⟩ => ⟨g, cap, cur, e1, Nat.le_trans hle hg, r⟩⟩
set_option maxRecDepth 100000 in
set_option maxHeartbeats 4000000 in
theorem muladdR (A B C : Option Addr) (ca cb cc : Nat) (x y z : List UInt8) (w : World) (hx : x.length = 32) (hy : y.length = 32) (hz : z.length = 32)
    (rx : Rd w (.slice A 32 ca) 1 32 (bvs x)) (ry : Rd w (.slice B 32 cb) 1 32 (bvs y)) (rz : Rd w (.slice C 32 cc) 1 32 (bvs z)) :
    Calls Try.prog 18 #[.slice A 32 ca, .slice B 32 cb, .slice C 32 cc] w fun e w' => ∃ B d, e = .returned (.slice B 32 d) ∧ Below w.heap.size w w' ∧ w'.ownsRow w.heap.size 5 1 (.slice B 32 d) 32 (bvs (madL x y z)) := by
  have HX := hide rx
  have HY := hide ry
  have HZ := hide rz
  have LX := hide hx
  have LY := hide hy
  have LZ := hide hz
  have hz64 := zero64v
  clear rx ry rz hx hy hz
  go_enter Try.func18, Try.ntmps18
  go_upto_region 3 with fail
  refine wp_region_list ?_
  refine wpList_plain rfl ?_
  intro K hK
  go_simp
  refine hK _ _ ?_
  clear hK K
  refine wl_callN rfl rfl enReduceR rfl (reduceR A 32 ca x _ LX.out (by omega) HX.out) ?_
  rintro e w1 ⟨B1, d1, rfl, hb1, ho1⟩
  refine ⟨_, rfl, ?_⟩
  have R1 := hide (rd_own ho1)
  refine wpList_plain rfl ?_
  intro K hK
  go_simp
  refine hK _ _ ?_
  clear hK K
  refine wl_callN rfl rfl enReduceR rfl (reduceR B 32 cb y _ LY.out (by omega) (HY.out.below hb1)) ?_
  rintro e w2 ⟨B2, d2, rfl, hb2, ho2⟩
  refine ⟨_, rfl, ?_⟩
  have R2 := hide (rd_own ho2)
  refine wpList_plain rfl ?_
  intro K hK
  go_simp
  refine hK _ _ ?_
  clear hK K
  refine wl_callN rfl rfl enReduceR rfl (reduceR C 32 cc z _ LZ.out (by omega) ((HZ.out.below hb1).below hb2)) ?_
  rintro e w3 ⟨B3, d3, rfl, hb3, ho3⟩
  refine ⟨_, rfl, ?_⟩
  have R3 := hide (rd_own ho3)
  have RA := hide ((R1.out.below hb2).below hb3)
  have RB := hide (R2.out.below hb3)
  have HW := hide (bnx (bnx hb1 hb2) hb3)
  clear hb1 hb2 hb3 ho1 ho2 ho3 R1 R2 HX HY HZ
  obtain ⟨p1, o1, rfl⟩ := rd_open32 (redL_len x) RA.out
  obtain ⟨p2, o2, rfl⟩ := rd_open32 (redL_len y) RB.out
  obtain ⟨p3, o3, rfl⟩ := rd_open32 (redL_len z) R3.out
  have hcapA := rd_cap RA.out
  have hcapB := rd_cap RB.out
  have hcapC := rd_cap R3.out
  have HS0 := hide ((St.init w3 NoB).alloc (ivs (List.replicate 64 0)).toArray 52)
  (try simp only [Act.put, List.setIfInBounds_toArray, List.set_cons_zero, List.set_cons_succ, List.getElem_toArray, List.getElem_cons_succ, List.getElem_cons_zero])
  go_wp2_with fail
  obtain ⟨g, hg⟩ : ∃ g, g = w3.heap.size := ⟨_, rfl⟩
  rw [← hg] at HS0 ⊢
  clear hg hz64
  obtain ⟨us, hus⟩ : ∃ u, u = rwL (redL x) := ⟨_, rfl⟩
  obtain ⟨vs, hvs⟩ : ∃ u, u = rwL (redL y) := ⟨_, rfl⟩
  obtain ⟨ws, hws⟩ : ∃ u, u = rwL (redL z) := ⟨_, rfl⟩
  have hu : us.length = 32 ∧ Byt us ∧ dv us = (bval (redL x) : Int) := by rw [hus]; exact ⟨by rw [rwL_len, redL_len], rwL_byt _, rwL_dv _⟩
  have hv : vs.length = 32 ∧ Byt vs ∧ dv vs = (bval (redL y) : Int) := by rw [hvs]; exact ⟨by rw [rwL_len, redL_len], rwL_byt _, rwL_dv _⟩
  have hw : ws.length = 32 ∧ Byt ws ∧ dv ws = (bval (redL z) : Int) := by rw [hws]; exact ⟨by rw [rwL_len, redL_len], rwL_byt _, rwL_dv _⟩
  have HU := hide hu
  have HV := hide hv
  have HWW := hide hw
  have HUS := hide hus
  have HVS := hide hvs
  have HWS := hide hws
  clear hu hv hw hus hvs hws
  go_loopw [32] (fun i wr => MsRel w3 us vs ws g i wr) (fun i _ => 32 - (intOf i).toNat)
  case atStart => exact ⟨0, by omega, rfl, HS0.out⟩
  case round =>
    clear HS0
    obtain ⟨i, hi, rfl, hS⟩ := hrel
    have HS := hide hS
    by_cases hlt : i < 32
    · have d32 : decide ((i : Int) < 32) = true := by simp; omega
      have i32 : (i : Int) < 32 := by omega
      have i64 : (i : Int) < 64 := by omega
      have c0 : wr.drew.cell? ⟨g, i, none⟩ = some (.int .i64 ((muS us vs ws i).getD i 0)) := by rw [hS.drew.cell 0 rfl i]; exact ivs_get (some_getD (by rw [muS_len]; omega))
      have f0 := hS.drew.free 0 rfl i
      have c3 := rd_atR (R3.out.st hS.drew) (bvs_rw (redL_len z) hlt)
      rw [← HWS.out] at c3
      have HT := hide (show (muS us vs ws i).set i ((muS us vs ws i).getD i 0 + ws.getD i 0) = muC ws (muS us vs ws i) i from rfl)
      have hbd := muS_bd HU.out.2.1 HV.out.2.1 HWW.out.2.1 i i
      have hwb := byt_getD HWW.out.2.1 i
      obtain ⟨t, ht⟩ : ∃ t, t = (muS us vs ws i).getD i 0 := ⟨_, rfl⟩
      obtain ⟨v, hv⟩ : ∃ t, t = ws.getD i 0 := ⟨_, rfl⟩
      rw [← ht] at c0 HT hbd
      rw [← hv] at c3 HT hwb
      obtain ⟨v0, v1⟩ := hwb
      have t0 : 0 ≤ t := hbd.1
      have t1 : t ≤ 67117056 := by omega
      clear hS ht hv hbd
      go_upto_region 8 with fail
      refine wp_region_T [(0, 1), (1, 1), (2, 0), (3, 1), (4, 1), (5, 1), (6, 0), (7, 1), (8, 1), (9, 1), (10, 3)] (by kernel_rfl) (by kernel_rfl) (fun _ _ _ _ h => h) ?_
      go_wp2_with (first | (refine wpT_nil ?_)   | ((with_reducible refine fromT_refl ?_); (try simp only [Act.put, List.setIfInBounds_toArray, List.set_cons_zero, List.set_cons_succ, List.getElem_toArray, List.getElem_cons_succ, List.getElem_cons_zero]))   | ((with_reducible refine fromT_mk (by assumption) ?_); (try simp only [Act.put, List.setIfInBounds_toArray, List.set_cons_zero, List.set_cons_succ, List.getElem_toArray, List.getElem_cons_succ, List.getElem_cons_zero]))   | (refine wpT_pure (v := ?_) rfl rfl ?_ ?_; rotate_left; (intro wx; go_simp; try go_bits) <;> (with_reducible rfl); (try simp only [Act.put, List.setIfInBounds_toArray, List.set_cons_zero, List.set_cons_succ, List.getElem_toArray, List.getElem_cons_succ, List.getElem_cons_zero]))   | (refine wpT_load (v := ?_) rfl rfl rfl ?_ ?_; rotate_left; (go_simp; try go_bits) <;> (with_reducible rfl); (try simp only [Act.put, List.setIfInBounds_toArray, List.set_cons_zero, List.set_cons_succ, List.getElem_toArray, List.getElem_cons_succ, List.getElem_cons_zero]))   | (refine wpT_read (v := ?_) rfl rfl ?_ ?_; rotate_left; (intro wx hx; go_simp; try go_bits) <;> (with_reducible rfl); (try simp only [Act.put, List.setIfInBounds_toArray, List.set_cons_zero, List.set_cons_succ, List.getElem_toArray, List.getElem_cons_succ, List.getElem_cons_zero]))   | (refine wpT_call rfl rfl ?_; intro K hK)   | (refine wpT_late rfl rfl ?_; intro K hK)   | (refine wpT_any rfl rfl ?_; intro K hK)   | (refine wpT_skip rfl rfl ?_; (try simp only [Act.put, List.setIfInBounds_toArray, List.set_cons_zero, List.set_cons_succ, List.getElem_toArray, List.getElem_cons_succ, List.getElem_cons_zero])))
      have HS2 := hide (show St w3 NoB (wr.setCell ⟨g, i, none⟩ (.int .i64 (t + v))).drew [.cells g (ivs (muC ws (muS us vs ws i) i)).toArray 52] by
        have h3 := (HS.out.setCell 0 rfl i (.int .i64 (t + v))).drew
        rw [List.set_cons_zero, ivs_set, HT.out] at h3
        exact h3)
      clear HS c0 f0 c3 HT t0 t1 v0 v1
      go_loopw [45] (fun j wr => MtRel w3 us vs ws g i j wr) (fun j _ => 32 - (intOf j).toNat)
      case atStart => exact ⟨0, by omega, rfl, HS2.out⟩
      case round =>
        clear HS2
        obtain ⟨j, hj, rfl, hS⟩ := hrel
        have HS := hide hS
        by_cases hjt : j < 32
        · have e32 : decide ((j : Int) < 32) = true := by simp; omega
          have j32 : (j : Int) < 32 := by omega
          obtain ⟨ij, hij⟩ : ∃ k, k = i + j := ⟨_, rfl⟩
          have s1 : wrap64 ((i : Int) + (j : Int)) = (ij : Int) := by rw [hij]; exact IntWalk.wrap64_in _ ⟨by omega, by omega⟩
          have s2 : (i : Int) + (j : Int) = (ij : Int) := by omega
          have s3 : (ij : Int) < 64 := by omega
          have c0 : wr.drew.cell? ⟨g, ij, none⟩ = some (.int .i64 ((muR (us.getD i 0) vs i j (muC ws (muS us vs ws i) i)).getD ij 0)) := by rw [hS.drew.cell 0 rfl ij]; exact ivs_get (some_getD (by rw [muR_len, muC_len, muS_len]; omega))
          have f0 := hS.drew.free 0 rfl ij
          have c1 := rd_atR (RA.out.st hS.drew) (bvs_rw (redL_len x) hlt)
          have c2 := rd_atR (RB.out.st hS.drew) (bvs_rw (redL_len y) hjt)
          rw [← HUS.out] at c1
          rw [← HVS.out] at c2
          have HT := hide (show (muR (us.getD i 0) vs i j (muC ws (muS us vs ws i) i)).set ij ((muR (us.getD i 0) vs i j (muC ws (muS us vs ws i) i)).getD ij 0 + us.getD i 0 * vs.getD j 0) = muR (us.getD i 0) vs i (j + 1) (muC ws (muS us vs ws i) i) by rw [hij]; rfl)
          have hbd := muR_bd (us.getD i 0) vs i (muC ws (muS us vs ws i) i) (i * 2097408 + 256) 65536 (by omega) (muC_bd ws _ i _ (muS_bd HU.out.2.1 HV.out.2.1 HWW.out.2.1 i) HWW.out.2.1) (byt_mul HU.out.2.1 HV.out.2.1 i) j ij
          have hpd := byt_mul HU.out.2.1 HV.out.2.1 i j
          have hub := byt_getD HU.out.2.1 i
          have hvb := byt_getD HV.out.2.1 j
          obtain ⟨t, ht⟩ : ∃ t, t = (muR (us.getD i 0) vs i j (muC ws (muS us vs ws i) i)).getD ij 0 := ⟨_, rfl⟩
          rw [← ht] at c0 HT hbd
          obtain ⟨u, hu⟩ : ∃ t, t = us.getD i 0 := ⟨_, rfl⟩
          obtain ⟨v, hv⟩ : ∃ t, t = vs.getD j 0 := ⟨_, rfl⟩
          have HU1 := hide hu
          have HT2 := hide (show (muR (us.getD i 0) vs i j (muC ws (muS us vs ws i) i)).set ij (t + u * v) = muR (us.getD i 0) vs i (j + 1) (muC ws (muS us vs ws i) i) by rw [hu, hv]; exact HT.out)
          rw [← hu] at c1 hpd hub
          rw [← hv] at c2 hpd hvb
          obtain ⟨u0, u1⟩ := hub
          obtain ⟨v0, v1⟩ := hvb
          have t0 : 0 ≤ t := hbd.1
          have t1 : t ≤ 67117056 + 2097408 := by omega
          obtain ⟨pr, hpr⟩ : ∃ p, p = u * v := ⟨_, rfl⟩
          rw [← hpr] at hpd HT2
          have w1 : wrap64 (u * v) = pr := by rw [← hpr]; exact IntWalk.wrap64_in _ ⟨by omega, by omega⟩
          obtain ⟨q, hq⟩ : ∃ z, z = t + pr := ⟨_, rfl⟩
          rw [← hq] at HT2
          have w2 : wrap64 (t + pr) = q := by rw [hq]; exact IntWalk.wrap64_in _ ⟨by omega, by omega⟩
          clear hS ht hu hv hbd hpd hpr hq hij HT t0 t1
          go_upto_region 12 with fail
          refine wp_region_T [(0, 1), (1, 1), (2, 1), (3, 1), (4, 0), (5, 1), (6, 1), (7, 1), (8, 0), (9, 1), (10, 1), (11, 1), (12, 1), (13, 0), (14, 1), (15, 1), (16, 1), (17, 1), (18, 3)] (by kernel_rfl) (by kernel_rfl) (fun _ _ _ _ h => h) ?_
          go_wp2_with (first | (refine wpT_nil ?_)   | ((with_reducible refine fromT_refl ?_); (try simp only [Act.put, List.setIfInBounds_toArray, List.set_cons_zero, List.set_cons_succ, List.getElem_toArray, List.getElem_cons_succ, List.getElem_cons_zero]))   | ((with_reducible refine fromT_mk (by assumption) ?_); (try simp only [Act.put, List.setIfInBounds_toArray, List.set_cons_zero, List.set_cons_succ, List.getElem_toArray, List.getElem_cons_succ, List.getElem_cons_zero]))   | (refine wpT_pure (v := ?_) rfl rfl ?_ ?_; rotate_left; (intro wx; go_simp; try go_bits) <;> (with_reducible rfl); (try simp only [Act.put, List.setIfInBounds_toArray, List.set_cons_zero, List.set_cons_succ, List.getElem_toArray, List.getElem_cons_succ, List.getElem_cons_zero]))   | (refine wpT_load (v := ?_) rfl rfl rfl ?_ ?_; rotate_left; (go_simp; try go_bits) <;> (with_reducible rfl); (try simp only [Act.put, List.setIfInBounds_toArray, List.set_cons_zero, List.set_cons_succ, List.getElem_toArray, List.getElem_cons_succ, List.getElem_cons_zero]))   | (refine wpT_read (v := ?_) rfl rfl ?_ ?_; rotate_left; (intro wx hx; go_simp; try go_bits) <;> (with_reducible rfl); (try simp only [Act.put, List.setIfInBounds_toArray, List.set_cons_zero, List.set_cons_succ, List.getElem_toArray, List.getElem_cons_succ, List.getElem_cons_zero]))   | (refine wpT_call rfl rfl ?_; intro K hK)   | (refine wpT_late rfl rfl ?_; intro K hK)   | (refine wpT_any rfl rfl ?_; intro K hK)   | (refine wpT_skip rfl rfl ?_; (try simp only [Act.put, List.setIfInBounds_toArray, List.set_cons_zero, List.set_cons_succ, List.getElem_toArray, List.getElem_cons_succ, List.getElem_cons_zero])))
          go_roundw
          case rel =>
            have h3 := HS.out.drew.setCell 0 rfl ij (.int .i64 q)
            rw [List.set_cons_zero, ivs_set, HT2.out] at h3
            exact ⟨j + 1, by omega, by go_num, h3⟩
          case measure => (simp [intOf]) <;> omega
        · obtain rfl : j = 32 := by omega
          clear hS
          go_wp2_with fail
          go_roundw
          case rel => exact ⟨i + 1, by omega, by go_num, HS.out⟩
          case measure => (simp [intOf]) <;> omega
    · obtain rfl : i = 32 := by omega
      simp only [Int.cast_ofNat_Int]
      obtain ⟨t, ht⟩ : ∃ t, t = muS us vs ws 32 := ⟨_, rfl⟩
      have htl : t.length = 64 := by rw [ht]; exact muS_len _ _ _ _
      have htb : ∀ k, 0 ≤ t.getD k 0 ∧ t.getD k 0 ≤ 67117056 := fun k => by
        have := muS_bd HU.out.2.1 HV.out.2.1 HWW.out.2.1 32 k
        rw [ht]
        omega
      have htv : dv t = (bval (redL x) * bval (redL y) + bval (redL z) : Nat) := by
        rw [ht, muS_dv us vs ws HU.out.1 HV.out.1 HWW.out.1 32 (by omega), List.take_of_length_le (by rw [HU.out.1]; exact Nat.le_refl _), List.take_of_length_le (by rw [HWW.out.1]; exact Nat.le_refl _), HU.out.2.2, HV.out.2.2, HWW.out.2.2]
        rw [Int.natCast_add, Int.natCast_mul]
      rw [← ht] at hS
      have HTL := hide htl
      have HTB := hide htb
      have HTV := hide htv
      have HS := hide hS
      clear hS ht htl htb htv
      go_upto_region 16 with (refine wl_makeB (n := 64) rfl rfl Try.underlying22 infoB HS.out rfl rfl (by decide) ?_; intro gb w6 hS6 hb6; have HS6 := hide hS6; clear hS6 hb6)
      clear HS
      go_wp2_with fail
      go_loopw [11, 69] (fun c k wr => MoRel w3 t g gb c k wr) (fun _ k _ => 64 - (intOf k).toNat)
      case atStart => exact ⟨0, by omega, rfl, rfl, HS6.out⟩
      case round =>
        clear HS6
        obtain ⟨k, hk, rfl, rfl, hS⟩ := hrel
        have HS := hide hS
        have hlen : ((dgL 0 t k).map (fun x : Int => UInt8.ofNat x.toNat)).length = k := by rw [List.length_map, dgL_len]
        by_cases hlt : k < 64
        · have d64 : decide ((k : Int) < 64) = true := by simp; omega
          have k64 : (k : Int) < 64 := by omega
          have c0 : wr.cell? ⟨g, k, none⟩ = some (.int .i64 (t.getD k 0)) := by rw [hS.cell 1 rfl k]; exact ivs_get (some_getD (by rw [HTL.out]; omega))
          have hne : gb ≠ g := fun e => hS.apart 0 1 _ _ g (by decide) rfl rfl (by rw [e]; rfl) rfl
          have hne2 : g ≠ gb := fun e => hne e.symm
          obtain ⟨g', c', hv, _, _, hcell, hfree, _⟩ := hS.rowOpen 0 rfl (by omega)
          injection hv with hv1 _ hv3
          injection hv1 with hv1
          injection hv1 with hv1
          subst hv1 hv3
          have ce := hcell k (.int .u8 ((0 : UInt8).toNat : Int)) (bvs_get (by rw [List.getElem?_append_right (by rw [hlen]; exact Nat.le_refl _), hlen, Nat.sub_self, List.getElem?_replicate, if_pos (by omega)]))
          have fe := hfree k
          have hcn := crS_nn 67117056 (by omega) HTB.out k
          have htk := HTB.out k
          have hD : dgS 0 t k = (crS 0 t k + t.getD k 0) % 256 := rfl
          have hE : crS 0 t (k + 1) = (crS 0 t k + t.getD k 0) / 256 := rfl
          obtain ⟨D, hDD⟩ : ∃ y : Nat, (y : Int) = dgS 0 t k := ⟨(dgS 0 t k).toNat, by rw [hD]; omega⟩
          have hT : ((dgL 0 t k).map (fun x : Int => UInt8.ofNat x.toNat) ++ List.replicate (64 - k) 0).set k (UInt8.ofNat D) = (dgL 0 t (k + 1)).map (fun x : Int => UInt8.ofNat x.toNat) ++ List.replicate (64 - (k + 1)) 0 := by
            rw [List.set_append_right _ _ (by rw [hlen]; exact Nat.le_refl _), hlen, Nat.sub_self, show 64 - k = (64 - (k + 1)) + 1 from by omega, List.replicate_succ, List.set_cons_zero, dgL_succ, ← hDD, List.map_append, List.append_assoc]
            rfl
          have hRow := hS.rowSet 0 rfl k (.int .u8 (D : Int)) (by omega)
          have D256 : D < 256 := by omega
          rw [List.set_cons_zero, bvs_set _ _ _ D256, hT] at hRow
          have HRow := hide hRow
          obtain ⟨cr, hcr⟩ : ∃ x, x = crS 0 t k := ⟨_, rfl⟩
          obtain ⟨v, hv⟩ : ∃ x, x = t.getD k 0 := ⟨_, rfl⟩
          obtain ⟨E, hEE⟩ : ∃ y, y = crS 0 t (k + 1) := ⟨_, rfl⟩
          rw [← hcr] at hD hE hcn
          rw [← hv] at hD hE htk c0
          rw [← hEE] at hE
          simp only [← hcr]
          have HEE := hide hEE
          obtain ⟨b0, b1⟩ := hcn
          obtain ⟨b2, b3⟩ := htk
          have a1 : IntKind.u8.wrap (cr + v) = (D : Int) := by rw [IntKind.wrap_u8, hDD, hD]
          have a2 : (cr + v) % 256 = (D : Int) := by rw [hDD, hD]
          have a3 : (cr + v) / 256 = E := hE.symm
          clear hcell hfree hlen hT hRow hS hD hE hDD hcr hv hEE
          go_wp2_with fail
          go_roundw
          case rel => exact ⟨k + 1, by omega, by go_num, by rw [HEE.out], HRow.out⟩
          case measure => (simp [intOf]) <;> omega
        · obtain rfl : k = 64 := by omega
          rw [Nat.sub_self, List.replicate_zero, List.append_nil] at hS
          have hdl := dgL_dv 0 t 64 (by rw [HTL.out]; exact Nat.le_refl _)
          have hbt := dv_byt _ (dgL_byt 0 t 64)
          rw [dgL_len] at hbt
          rw [List.take_of_length_le (by rw [HTL.out]; exact Nat.le_refl _), HTV.out, Int.zero_add] at hdl
          have hsm : (bval (redL x) * bval (redL y) + bval (redL z) : Nat) < 256 ^ 64 := by
            have a := bval_lt (redL x)
            have b := bval_lt (redL y)
            have c := bval_lt (redL z)
            rw [redL_len] at a b c
            have e : (256 : Nat) ^ 64 = 256 ^ 32 * 256 ^ 32 := by rw [← Nat.pow_add]
            have h1 : bval (redL x) * bval (redL y) ≤ (256 ^ 32 - 1) * (256 ^ 32 - 1) := Nat.mul_le_mul (by omega) (by omega)
            have h2 : (256 ^ 32 - 1) * (256 ^ 32 - 1) + 256 ^ 32 ≤ (256 : Nat) ^ 64 := by decide
            omega
          have hdv : dv (dgL 0 t 64) = (bval (redL x) * bval (redL y) + bval (redL z) : Nat) := by
            generalize crS 0 t 64 = kk at *
            generalize (bval (redL x) * bval (redL y) + bval (redL z) : Nat) = V at *
            have hT : (256 : Int) ^ 64 = ((256 ^ 64 : Nat) : Int) := by rw [Int.natCast_pow]; rfl
            rw [hT] at hbt hdl
            generalize (256 : Nat) ^ 64 = T at *
            rcases Int.lt_trichotomy kk 0 with h | h | h
            · have : (T : Int) * kk ≤ (T : Int) * (-1) := Int.mul_le_mul_of_nonneg_left (by omega) (by omega)
              omega
            · subst h
              omega
            · have : (T : Int) * 1 ≤ (T : Int) * kk := Int.mul_le_mul_of_nonneg_left (by omega) (by omega)
              omega
          obtain ⟨ob, hob⟩ : ∃ b, b = (dgL 0 t 64).map (fun x : Int => UInt8.ofNat x.toNat) := ⟨_, rfl⟩
          have hol : ob.length = 64 := by rw [hob]; exact hlen
          have hov : bval ob = bval (redL x) * bval (redL y) + bval (redL z) := by
            rw [hob, byt_leB _ (dgL_byt 0 t 64), dgL_len, hdv, bval_leB, Int.toNat_natCast, Nat.mod_eq_of_lt hsm]
          have hfin : redL ob = madL x y z := by
            have e1 : bval (redL x) = bval x % Lq := bval_redL x
            unfold redL madL
            rw [hov, bval_redL, bval_redL, bval_redL, Nat.add_mod, ← Nat.mul_mod, Nat.mod_mod, ← Nat.add_mod]
          rw [← hob] at hS
          have HS9 := hide hS
          have HRR := hide (reduceR (some ⟨gb, 0, none⟩) 64 64 ob wr hol (by omega) (hS.rd 0 rfl))
          rw [hfin] at HRR
          clear hS HS hdl hbt hsm hdv hob hol hov hfin hlen
          go_wp2_with (go_at_call 16; (with_reducible refine HRR.out.mono ?_); rintro e w9 ⟨B9, d9, rfl, hb9, ho9⟩; have HB9 := hide hb9; have HO9 := hide ho9; clear hb9 ho9)
          go_ret
          have hbw := bnx HW.out HS9.out.below
          exact ⟨B9, d9, rfl, bnx hbw HB9.out, own_mono HO9.out hbw.size⟩
end Go.Proofs.Ytgofcefggdlalaa
