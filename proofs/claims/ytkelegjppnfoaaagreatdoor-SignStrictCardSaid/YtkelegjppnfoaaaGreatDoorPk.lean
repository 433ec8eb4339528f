/-
  Joined of texts of mine, in build order: Mj, Lift, Opg, Oq, Lm. Each says what it proves at its own head.
-/
import Derived.ProofKit
import Derived.OpenShut
import Derived.SizedLaws
import Derived.Carry
import Derived.Deep.Fields
import Derived.Deep.Slices
import Derived.ShutString
import Derived.Test.YtkelegjppnfoaaaGreatDoorRows
import Derived.LaidMore
import Derived.Stop.Joined
import Derived.Test.YtkelegjppnfoaaaGreatDoorPj
set_option linter.unusedSimpArgs false
set_option linter.unusedVariables false

namespace Go.Proofs.YtkelegjppnfoaaaGreatDoor
open Go.RowKit
set_option linter.unusedSimpArgs false
theorem two_len : ((List.replicate 32 (0 : UInt8)).set 0 (UInt8.ofNat 2)).length = 32 := rfl
theorem nil_len : ([] : List UInt8).length = 0 := rfl
theorem ver_nil {m g : List UInt8} : verL [] m g = false := ver_none (by unfold fromL; rw [if_neg (by decide)])
theorem ver_notmay {p m g : List UInt8} (h : S3.mayS (g.drop 32) = false) : verL p m g = false := by
  cases hf : fromL p with
  | none => exact ver_none hf
  | some P => exact ver_may hf h
theorem bval_byte {l : List UInt8} {q : Nat} {c : UInt8} (hc : l[q]? = some c) : c.toNat = bval l / 256 ^ q % 256 := by
  have hq := (List.getElem?_eq_some_iff.1 hc).1
  have h1 : bval l = bval (l.take q) + 256 ^ q * (c.toNat + 256 * bval (l.drop (q + 1))) := by
    have e := bval_append (l.take q) (l.drop q)
    rw [List.take_append_drop, List.length_take, Nat.min_eq_left (by omega)] at e
    rw [e, List.drop_eq_getElem_cons hq]
    rw [List.getElem?_eq_getElem hq] at hc
    injection hc with hc
    rw [hc, bval]
  have h2 := bval_lt (l.take q)
  rw [List.length_take, Nat.min_eq_left (by omega)] at h2
  have h3 := UInt8.toNat_lt c
  rw [h1, Nat.add_mul_div_left _ _ (Nat.pos_of_ne_zero (by omega)), Nat.div_eq_of_lt h2, Nat.zero_add]
  omega
def bgL (f : List UInt8) (V : Nat) (T : List UInt8) (j : Nat) : List UInt8 := f ++ (bL V j ++ T.drop j)
theorem bg_len {f T : List UInt8} {V j : Nat} (hf : f.length = 32) (hT : T.length = 32) (hj : j ≤ 32) : (bgL f V T j).length = 64 := by
  unfold bgL
  rw [List.length_append, List.length_append, bL_len, List.length_drop, hf, hT]
  omega
theorem bg_set {f T : List UInt8} {V j : Nat} (hf : f.length = 32) (hT : T.length = 32) (hj : j < 32) : (bgL f V T j).set (32 + j) (UInt8.ofNat (V / 256 ^ j % 256)) = bgL f V T (j + 1) := by
  unfold bgL
  rw [List.set_append_right _ _ (by omega), hf, Nat.add_sub_cancel_left, List.set_append_right _ _ (by rw [bL_len]; omega), bL_len, Nat.sub_self, List.drop_eq_getElem_cons (by omega), List.set_cons_zero, bL_succ, List.append_assoc]
  rfl
theorem bg_big {p m f T : List UInt8} {S : Nat} (hf : f.length = 32) (hT : T.length = 32) (hS : S < Lq) : verL p m (bgL f (S + Lq) T 32) = false := by
  refine ver_notmay ?_
  have e : (bgL f (S + Lq) T 32).drop 32 = bL (S + Lq) 32 := by
    unfold bgL
    rw [List.drop_left' hf, List.drop_of_length_le (by omega), List.append_nil]
  rw [e]
  unfold S3.mayS
  have h2 : 2 * Lq < 256 ^ 32 := by unfold Lq; decide
  rw [bL_val, Nat.mod_eq_of_lt (by omega), lq_eq, decide_eq_false (show ¬ (S + Lq < Lq) by omega), Bool.and_false]
set_option maxRecDepth 100000 in
set_option maxHeartbeats 6400000 in
theorem signStrict_walk (A B : Option Addr) (n c m d : Nat) (l x : List UInt8) (w : World) (hl : l.length = n) (hx : x.length = m) (hr : Rd w (.slice A n c) 1 n (bvs l)) (hrx : Rd w (.slice B m d) 1 m (bvs x)) :
    Calls Tryz.prog 5 #[.slice A n c, .slice B m d] w fun e w' => e = .returned (.bool true) ∧ Below w.heap.size w w' := by
  have HS := hide (St.init w NoB)
  have HR := hide hr
  have HX := hide hrx
  have HL := hide hl
  have HLX := hide hx
  clear hr hrx hl hx
  have d1 : decide ((100 : Int) < (n : Int)) = decide (100 < n) := decide_eq_decide.2 (by omega)
  have d2 : decide ((500 : Int) < (m : Int)) = decide (500 < m) := decide_eq_decide.2 (by omega)
  by_cases h1 : 100 < n
  · have e1 := decide_eq_true h1
    rw [e1] at d1
    clear h1 d2
    go_enter Tryz.func5, Tryz.ntmps5
    go_wp2_with (go_at_call 6; (with_reducible refine (awake5_any _).mono ?_); rintro e wy ⟨rfl, hb⟩; have HS := hide (HS.out.call hb))
    go_ret
    exact ⟨rfl, HS.out.below⟩
  have e1 := decide_eq_false h1
  rw [e1] at d1
  by_cases h2 : 500 < m
  · have e2 := decide_eq_true h2
    rw [e2] at d2
    clear h1 h2
    go_enter Tryz.func5, Tryz.ntmps5
    go_wp2_with (go_at_call 6; (with_reducible refine (awake5_any _).mono ?_); rintro e wy ⟨rfl, hb⟩; have HS := hide (HS.out.call hb))
    go_ret
    exact ⟨rfl, HS.out.below⟩
  have e2 := decide_eq_false h2
  rw [e2] at d2
  obtain ⟨T, hT⟩ : ∃ T, T = (sigL (S3.fullL l) x).drop 32 := ⟨_, rfl⟩
  obtain ⟨tS, htS⟩ : ∃ s, s = bval T := ⟨_, rfl⟩
  have HT := hide (show T.length = 32 by rw [hT, List.length_drop, sigL_len])
  have HTS := hide htS
  have HSL := hide (show tS < Lq by
    rw [htS, hT, sig_drop, S3.bval_madL, lq_eq]
    exact Nat.mod_lt _ (by unfold Lq; decide))
  have HSIG := hide (show sigL (S3.fullL l) x = bgL (firstL (S3.fullL l) x) (tS + Lq) T 0 by
    unfold bgL
    rw [show bL (tS + Lq) 0 = [] from rfl, List.nil_append, List.drop_zero, hT, ← sig_take, List.take_append_drop])
  have HSG := hide (fun (j : Nat) (cc : UInt8) (h : T[j]? = some cc) => show (sigL (S3.fullL l) x)[32 + j]? = some cc by rw [hT, List.getElem?_drop] at h; exact h)
  clear hT htS
  go_enter Tryz.func5, Tryz.ntmps5
  have M0 := True.intro
  go_upto_region 7 with (first | (clear M2; go_at_call 9; (with_reducible refine (sign_32 _ _ _ _ _ _ _ _ (S3.fullL_len _) HLX.out (by omega) (HS.out.rd 1 rfl) (HX.out.below HS.out.below)).mono ?_); rintro e wy ⟨Bg, dg, rfl, hb, ho⟩; have HS := hide (HS.out.row hb ho); clear ho; have M3 := True.intro) | (clear M1; go_at_call 7; (with_reducible refine (pub_32 _ _ _ _ (S3.fullL_len _) (HS.out.rd 0 rfl)).mono ?_); rintro e wy ⟨Bp, dp, rfl, hb, ho⟩; have HS := hide (HS.out.row hb ho); clear ho; have M2 := True.intro) | (clear M0; go_at_call 11; (with_reducible refine (seed_any _ _ _ _ _ HL.out (by omega) HR.out).mono ?_); rintro e wy ⟨Bk, dk, rfl, hb, ho⟩; have HS := hide (HS.out.row hb ho); clear ho; have M1 := True.intro))
  have hck := rd_cap (HS.out.rd 2 rfl)
  have hck2 : (31 : Int) ≤ (dk : Int) := by omega
  clear hck
  have hcv := Go.Joins.run_convert_bytes_const_at (P := Tryz.prog) wy 22 5 #[.int .u8 237, .int .u8 211, .int .u8 245, .int .u8 92, .int .u8 26, .int .u8 99, .int .u8 18, .int .u8 88, .int .u8 214, .int .u8 156, .int .u8 247, .int .u8 162, .int .u8 222, .int .u8 249, .int .u8 222, .int .u8 20] 16 16 wy.heap.size rfl Tryz.underlying22 Tryz.underlying5
  have R0 := rd_mark wy (bvs l0L) 5 (16, 17) 16 l0_len (by decide)
  rw [l0_arr] at R0
  have HR0 := hide R0
  clear R0
  go_upto_region 8 with (at_builtin; refine wl_appendZnew (k := 16) (l := l0L) (n := 16) (c := 16) rfl rfl Tryz.underlying22 Tryz.underlying3 infoB (HS.out.skip _) rfl HR0.out rfl rfl (by omega) (by omega) (by omega) (by omega) ?_; intro A2 cl w2 hS2 hb2; have HS := hide hS2; clear hS2 hb2)
  clear hcv
  obtain ⟨gl, c1', hv, hc1, hcm, hcs, hfr, _⟩ := HS.out.rowOpen 0 rfl (by omega)
  injection hv with hv1 _ hv3
  subst hv1 hv3
  have kl31 := hcs 31 _ (bvs_get (show (l0L ++ List.replicate 16 0)[31]? = some 0 from rfl))
  have fl31 := hfr 31
  clear hcs hfr hc1 hcm
  go_upto_region 9 with fail
  have h3 := HS.out.rowSet 0 rfl 31 (.int .u8 (16 : Nat)) (by omega)
  rw [List.set_cons_zero, bvs_set _ _ _ (by omega), l0_set] at h3
  change St w NoB (w2.setCell ⟨gl, 31, none⟩ (.int .u8 16)) _ at h3
  have HS := hide h3
  clear h3 fl31 kl31
  generalize w2.setCell ⟨gl, 31, none⟩ (.int .u8 16) = w5 at HS ⊢
  go_upto_region 10 with (at_builtin; refine wl_append rfl rfl tyB8 (HS.out.lit [] 5 1 0 rfl (by decide)) 0 rfl rfl rfl ((HS.out.lit [] 5 1 0 rfl (by decide)).rd 2 rfl) (one_bvs _) (by omega) (by decide) ?_; intro Ab cb wb hS2; simp only [Nat.zero_add, List.nil_append, List.set_cons_zero] at hS2; have HS := hide hS2; clear hS2)
  obtain ⟨gb, c1, hvv, _, _, _, _, _⟩ := HS.out.rowOpen 0 rfl (by omega)
  injection hvv with hvv1 _ hvv3
  subst hvv1 hvv3
  have hs := HS.out
  rw [HSIG.out] at hs
  have HS := hide hs
  clear hs
  go_wp2_with fail
  go_loopw [10, 40] (fun kv iv wr => ∃ (j cc : Nat), j ≤ 32 ∧ iv = .int .i64 (j : Int) ∧ kv = .int .i64 (cc : Int) ∧ Hid (tS / 256 ^ j + Lq / 256 ^ j + cc = (tS + Lq) / 256 ^ j ∧ cc ≤ 1) ∧ Hid (St w NoB wr [.row (.slice (some ⟨gb, 0, none⟩) 64 cb) 5 1 64 (bvs (bgL (firstL (S3.fullL l) x) (tS + Lq) T j)), .row (.slice (some ⟨gl, 0, none⟩) 32 cl) 5 1 32 (bvs lL), .row (.slice Bg 64 dg) 5 1 64 (bvs (sigL (S3.fullL l) x)), .row (.slice Bp 32 dp) 5 1 32 (bvs (pubL (S3.fullL l))), .row (.slice Bk 32 dk) 5 1 32 (bvs (S3.fullL l))])) (fun kv iv _ => 32 - (intOf iv).toNat)
  case atStart => exact ⟨0, 0, by omega, rfl, rfl, hide (by simp), by rw [HSIG.out]; exact HS⟩
  case round =>
    clear HS
    obtain ⟨j, cc, hj, rfl, rfl, HI, HS⟩ := hrel
    by_cases hlt : j < 32
    · have dj : decide ((j : Int) < 32) = true := by simp; omega
      have j32 : (j : Int) < 32 := by omega
      have q1 : (0 : Int) ≤ 32 + (j : Int) := by omega
      have q2 : 32 + (j : Int) < 64 := by omega
      have hcc1 := HI.out.2
      obtain ⟨t1, ht1⟩ : ∃ t1, T[j]? = some t1 := ⟨T[j]'(by rw [HT.out]; exact hlt), List.getElem?_eq_getElem _⟩
      obtain ⟨c1, hc1⟩ : ∃ c : Nat, c = t1.toNat := ⟨_, rfl⟩
      obtain ⟨c2, hc2⟩ : ∃ c : Nat, c = (lL.getD j 0).toNat := ⟨_, rfl⟩
      have hl2 : lL[j]? = some (lL.getD j 0) := by rw [List.getD_eq_getElem?_getD, List.getElem?_eq_getElem (by rw [lL_len]; exact hlt)]; rfl
      have b1 : c1 < 256 := by rw [hc1]; exact UInt8.toNat_lt _
      have b2 : c2 < 256 := by rw [hc2]; exact UInt8.toNat_lt _
      have i1 : (c1 : Int) < 256 := by omega
      have i2 : (c2 : Int) < 256 := by omega
      have i3 : (cc : Int) < 2 := by omega
      have hbl : bval lL = Lq := by
        have h := lL_val
        unfold mulV at h
        rw [List.take_of_length_le (by rw [lL_len]; exact Nat.le_refl _)] at h
        exact h
      have HV1 := hide (show c1 = tS / 256 ^ j % 256 by rw [hc1, HTS.out]; exact bval_byte ht1)
      have HV2 := hide (show c2 = Lq / 256 ^ j % 256 by rw [hc2, bval_byte hl2, hbl])
      have HN := hide (show (cc + (c1 + c2)) % 256 = (tS + Lq) / 256 ^ j % 256 ∧ tS / 256 ^ (j + 1) + Lq / 256 ^ (j + 1) + (cc + (c1 + c2)) / 256 = (tS + Lq) / 256 ^ (j + 1) ∧ (cc + (c1 + c2)) / 256 ≤ 1 by
        rw [Nat.pow_succ, ← Nat.div_div_eq_div_mul, ← Nat.div_div_eq_div_mul, ← Nat.div_div_eq_div_mul, ← HI.out.1, HV1.out, HV2.out]
        generalize tS / 256 ^ j = X
        generalize Lq / 256 ^ j = Y
        omega)
      have HD := hide HS.out.drew
      obtain ⟨b', o', hBg, kg⟩ := rd_at' (HD.out.rd 2 rfl) (bvs_get (HSG.out j t1 ht1))
      subst hBg
      obtain ⟨g9, c9, hvv, _, _, hcs, _, _⟩ := HD.out.rowOpen 1 rfl (by omega)
      injection hvv with hvv1 _ hvv3
      injection hvv1 with hvv1
      injection hvv1 with hvv1
      subst hvv1 hvv3
      have kl := hcs j _ (bvs_get hl2)
      clear hcs
      obtain ⟨tb, htb⟩ : ∃ tb, (bgL (firstL (S3.fullL l) x) (tS + Lq) T j)[32 + j]? = some tb := ⟨_, List.getElem?_eq_getElem (by rw [bg_len (firstL_len _ _) HT.out (by omega)]; omega)⟩
      obtain ⟨g9, c9, hvv, _, _, hcs, hfr, _⟩ := HD.out.rowOpen 0 rfl (by omega)
      injection hvv with hvv1 _ hvv3
      injection hvv1 with hvv1
      injection hvv1 with hvv1
      subst hvv1 hvv3
      have kb := hcs (32 + j) _ (bvs_get htb)
      have fb := hfr (32 + j)
      rw [← hc1] at kg
      rw [← hc2] at kl
      have HS := HD
      have HJ := hide hj
      have HLT := hide hlt
      have u1 : IntKind.u8.wrap ((cc : Int) + ((c1 : Int) + (c2 : Int))) = (((cc + (c1 + c2)) % 256 : Nat) : Int) := by rw [IntKind.wrap_u8]; omega
      have u2 : IntKind.u8.wrap ((cc + (c1 + c2) : Nat) : Int) = (((cc + (c1 + c2)) % 256 : Nat) : Int) := by rw [IntKind.wrap_u8]; omega
      clear hcs hfr hc1 hc2 hl2 hbl ht1 htb hj hlt HD
      go_upto_region 14 with fail
      refine wp_region_T [(0, 1), (1, 1), (2, 1), (3, 1), (4, 1), (5, 0), (7, 1), (8, 1), (9, 1), (10, 0), (6, 1), (11, 1), (12, 1), (13, 1), (14, 1)] (by kernel_rfl) (by kernel_rfl) (fun _ _ _ _ h => h) ?_
      generalize wr.drew = wq at HS kg kl kb fb ⊢
      (refine wpT_pure (v := ?_) rfl rfl ?_ ?_; rotate_left; (intro wx; go_simp; try go_bits) <;> (with_reducible rfl)); (try simp only [Act.put, nq1, nq2, nq3, nq4, nq5, nq6])
      (refine wpT_pure (v := ?_) rfl rfl ?_ ?_; rotate_left; (intro wx; go_simp; try go_bits) <;> (with_reducible rfl)); (try simp only [Act.put, nq1, nq2, nq3, nq4, nq5, nq6])
      (refine wpT_pure (v := ?_) rfl rfl ?_ ?_; rotate_left; (intro wx; go_simp; try go_bits) <;> (with_reducible rfl)); (try simp only [Act.put, nq1, nq2, nq3, nq4, nq5, nq6])
      (refine wpT_pure (v := ?_) rfl rfl ?_ ?_; rotate_left; (intro wx; go_simp; try go_bits) <;> (with_reducible rfl)); (try simp only [Act.put, nq1, nq2, nq3, nq4, nq5, nq6])
      (refine wpT_pure (v := ?_) rfl rfl ?_ ?_; rotate_left; (intro wx; go_simp; try go_bits) <;> (with_reducible rfl)); (try simp only [Act.put, nq1, nq2, nq3, nq4, nq5, nq6])
      (refine wpT_load (v := ?_) rfl rfl rfl ?_ ?_; rotate_left; (go_simp; try go_bits) <;> (with_reducible rfl)); (try simp only [Act.put, nq1, nq2, nq3, nq4, nq5, nq6])
      (refine wpT_pure (v := ?_) rfl rfl ?_ ?_; rotate_left; (intro wx; go_simp; try go_bits) <;> (with_reducible rfl)); (try simp only [Act.put, nq1, nq2, nq3, nq4, nq5, nq6])
      (refine wpT_pure (v := ?_) rfl rfl ?_ ?_; rotate_left; (intro wx; go_simp; try go_bits) <;> (with_reducible rfl)); (try simp only [Act.put, nq1, nq2, nq3, nq4, nq5, nq6])
      (refine wpT_pure (v := ?_) rfl rfl ?_ ?_; rotate_left; (intro wx; go_simp; try go_bits) <;> (with_reducible rfl)); (try simp only [Act.put, nq1, nq2, nq3, nq4, nq5, nq6])
      (refine wpT_load (v := ?_) rfl rfl rfl ?_ ?_; rotate_left; (go_simp; try go_bits) <;> (with_reducible rfl)); (try simp only [Act.put, nq1, nq2, nq3, nq4, nq5, nq6])
      (refine wpT_pure (v := ?_) rfl rfl ?_ ?_; rotate_left; (intro wx; go_simp; try go_bits) <;> (with_reducible rfl)); (try simp only [Act.put, nq1, nq2, nq3, nq4, nq5, nq6])
      (refine wpT_pure (v := ?_) rfl rfl ?_ ?_; rotate_left; (intro wx; go_simp; try go_bits) <;> (with_reducible rfl)); (try simp only [Act.put, nq1, nq2, nq3, nq4, nq5, nq6])
      (refine wpT_pure (v := ?_) rfl rfl ?_ ?_; rotate_left; (intro wx; go_simp; try go_bits) <;> (with_reducible rfl)); (try simp only [Act.put, nq1, nq2, nq3, nq4, nq5, nq6])
      (refine wpT_pure (v := ?_) rfl rfl ?_ ?_; rotate_left; (intro wx; go_simp; try go_bits) <;> (with_reducible rfl)); (try simp only [Act.put, nq1, nq2, nq3, nq4, nq5, nq6])
      (refine wpT_pure (v := ?_) rfl rfl ?_ ?_; rotate_left; (intro wx; go_simp; try go_bits) <;> (with_reducible rfl)); (try simp only [Act.put, nq1, nq2, nq3, nq4, nq5, nq6])
      refine wpT_nil ?_
      go_wp2_with fail
      go_roundw
      case rel =>
        have hE : ((cc : Int) + ((c1 : Int) + (c2 : Int))) % 256 = (((cc + (c1 + c2)) % 256 : Nat) : Int) := by omega
        have h3 := HS.out.rowSet 0 rfl (32 + j) (.int .u8 (((cc : Int) + ((c1 : Int) + (c2 : Int))) % 256)) (by have := HLT.out; omega)
        have e9 : (bvs (bgL (firstL (S3.fullL l) x) (tS + Lq) T j)).set (32 + j) (.int .u8 (((cc : Int) + ((c1 : Int) + (c2 : Int))) % 256)) = bvs (bgL (firstL (S3.fullL l) x) (tS + Lq) T (j + 1)) := by
          rw [hE, bvs_set _ _ _ (by omega), HN.out.1, bg_set (firstL_len _ _) HT.out HLT.out]
        rw [List.set_cons_zero, e9] at h3
        exact ⟨j + 1, (cc + (c1 + c2)) / 256, by have := HLT.out; omega, by go_num, by go_num, hide HN.out.2, h3⟩
      case measure => (simp [intOf]) <;> (have := HLT.out; omega)
    · obtain rfl : j = 32 := by omega
      have hc0 : cc = 0 := by
        have h1 := HI.out.1
        have h2 : 2 * Lq < 256 ^ 32 := by unfold Lq; decide
        have h3 := HSL.out
        rw [Nat.div_eq_of_lt (by omega), Nat.div_eq_of_lt (by omega), Nat.div_eq_of_lt (by omega)] at h1
        omega
      subst hc0
      have HVB := hide (bg_big (p := pubL (S3.fullL l)) (m := x) (firstL_len (S3.fullL l) x) HT.out HSL.out)
      have HLB := hide (bg_len (V := tS + Lq) (firstL_len (S3.fullL l) x) HT.out (Nat.le_refl 32))
      clear hlt hj HI
      go_upto_region 19 with (refine wl_makeB (n := 32) rfl rfl Tryz.underlying22 infoB HS.out rfl rfl (by decide) ?_; intro gt w6 hS6 hb6; have HS := hide hS6; clear hS6 hb6)
      obtain ⟨g9, c9, hvv, _, _, hcs, hfr, _⟩ := HS.out.rowOpen 0 rfl (by omega)
      injection hvv with hvv1 _ hvv3
      injection hvv1 with hvv1
      injection hvv1 with hvv1
      subst hvv1 hvv3
      have kt := hcs 0 _ (bvs_get (show (List.replicate 32 (0 : UInt8))[0]? = some 0 from rfl))
      have ft := hfr 0
      clear hcs hfr
      go_upto_region 20 with fail
      have h3 := HS.out.rowSet 0 rfl 0 (.int .u8 (2 : Nat)) (by omega)
      rw [List.set_cons_zero, bvs_set _ _ _ (by omega)] at h3
      change St w NoB (w6.setCell ⟨gt, 0, none⟩ (.int .u8 2)) _ at h3
      have HS := hide h3
      clear h3 kt ft
      generalize w6.setCell ⟨gt, 0, none⟩ (.int .u8 2) = w7 at HS ⊢
      have M0 := True.intro
      go_wp2_with (first | (clear M6; go_at_call 6; (with_reducible refine (awake5_any _).mono ?_); rintro e wy ⟨rfl, hb⟩; have HS := hide (HS.out.call hb); have M7 := True.intro) | (clear M5; go_at_call 7; (with_reducible refine (nil_b (pub_no _ _ _ _ (show (31 : Nat) ≠ 32 by decide))).mono ?_); rintro e wy ⟨rfl, hb⟩; have HS := hide (HS.out.call hb); have M6 := True.intro) | (clear M4; go_at_call 9; (with_reducible refine (nil_b (sign_no _ _ _ _ _ _ _ (show (31 : Nat) ≠ 32 by decide))).mono ?_); rintro e wy ⟨rfl, hb⟩; have HS := hide (HS.out.call hb); have M5 := True.intro) | (clear M3; go_at_call 12; (with_reducible refine (verify_any _ _ _ _ _ _ _ _ _ _ _ _ _ nil_len HLX.out (sigL_len _ _) (by omega) (by omega) (show Rd _ (.slice none 0 0) 1 0 (bvs []) from rd_nil _ 1) (HX.out.below HS.out.below) (HS.out.rd 3 rfl)).mono ?_); rintro e wy ⟨rfl, hb⟩; rw [ver_nil]; have HS := hide (HS.out.call hb); have M4 := True.intro) | (clear M2; go_at_call 13; (with_reducible refine (verifyR_any _ _ _ _ _ _ _ _ _ _ _ _ _ two_len HLX.out (sigL_len _ _) (by omega) (by omega) (HS.out.rd 0 rfl) (HX.out.below HS.out.below) (HS.out.rd 3 rfl)).mono ?_); rintro e wy ⟨rfl, hb⟩; have HS := hide (HS.out.call hb); have M3 := True.intro) | (clear M1; go_at_call 12; (with_reducible refine (verify_any _ _ _ _ _ _ _ _ _ _ _ _ _ two_len HLX.out (sigL_len _ _) (by omega) (by omega) (HS.out.rd 0 rfl) (HX.out.below HS.out.below) (HS.out.rd 3 rfl)).mono ?_); rintro e wy ⟨rfl, hb⟩; have HS := hide (HS.out.call hb); have M2 := True.intro) | (clear M0; go_at_call 12; (with_reducible refine (verify_any _ _ _ _ _ _ _ _ _ _ _ _ _ (pubL_len _) HLX.out HLB.out (by omega) (by omega) (HS.out.rd 4 rfl) (HX.out.below HS.out.below) (HS.out.rd 1 rfl)).mono ?_); rintro e wy ⟨rfl, hb⟩; rw [HVB.out]; have HS := hide (HS.out.call hb); have M1 := True.intro))
      go_ret
      exact ⟨rfl, HS.out.below⟩
end Go.Proofs.YtkelegjppnfoaaaGreatDoor

namespace Go.Proofs.YtkelegjppnfoaaaGreatDoor
open Go.ChangeShapes Go.WideShapes Go.ChangeAt Go.RowKit Go.Deep
open Go.ChangeMaps (open_string shut_string)

section
variable {H : Type} {enc : TypeId × Value → H} {P : Program}

theorem trodAll_below (hl : laidOutB P = true) {W W' : World} (hb : Below W.heap.size W W') : ∀ (ts : List TypeId) (vs : List Value) (ds : List (DataW H)) (ps : List MemPlace),
    (ts.all fun t => P.readableRec t && decide (t < P.types.size)) = true → DataW.TrodAll enc P W 0 (fun _ => true) true ts vs ds ps → DataW.TrodAll enc P W' 0 (fun b => decide (b < W.heap.size)) true ts vs ds ps
  | [], vs, ds, ps, _, h => by
    obtain ⟨rfl, rfl, rfl⟩ := trodAll_nil h
    exact rfl
  | t :: ts, vs, ds, ps, hts, h => by
    obtain ⟨v, vs', d, ds', p, q, rfl, rfl, rfl, hd, hr⟩ := trodAll_cons h
    simp only [List.all_cons, Bool.and_eq_true, decide_eq_true_eq] at hts
    obtain ⟨⟨k1, k2⟩, k3⟩ := hts
    have lt : ∀ x ∈ p, x.block < W.heap.size := by
      obtain ⟨m, hm⟩ := hd
      exact DataW.trod_lt m _ _ _ hm
    exact ⟨p, q, Below.trod hl k1 k2 hd hb lt, trodAll_below hl hb ts vs' ds' q (by simpa using k3) hr, rfl⟩
theorem trodAll_length : ∀ (ts : List TypeId) {w : World} {base : Nat} {spare : Nat → Bool} {held : Bool} (vs : List Value) (ds : List (DataW H)) (ps : List MemPlace), DataW.TrodAll enc P w base spare held ts vs ds ps → ds.length = ts.length
  | [], _, _, _, _, vs, ds, ps, h => by
    obtain ⟨rfl, rfl, rfl⟩ := trodAll_nil h
    rfl
  | t :: ts, _, _, _, _, vs, ds, ps, h => by
    obtain ⟨v, vs', d, ds', p, q, rfl, rfl, rfl, hd, hr⟩ := trodAll_cons h
    rw [List.length_cons, List.length_cons, trodAll_length ts vs' ds' q hr]

structure Told (P : Program) (enc : TypeId × Value → H) (W : World) (ts : List TypeId) (args : Array Value) (ds : List (DataW H)) (p : List MemPlace) : Prop where
  trod : DataW.TrodAll enc P W 0 (fun _ => true) true ts args.toList ds p
  ok : ∃ base, ∀ (j : Nat) (t : TypeId) (v : Value), ts.toArray[j]? = some t → args[j]? = some v → Value.okWide P W .any base t v
  size : (DataW.weightsEach P ts ds).all (· ≤ reachBytes) = true
end

section
variable {H : Type} {enc : TypeId × Value → H} {P : Program} {W : World}

theorem open_bytes {t e : TypeId} {fuel : Nat} {a : Option Addr} {len cap : Nat} {x : DataW H × List MemPlace} (ht : P.underlying t = some (.slice e)) (he : P.underlying e = some (.int .u8)) (hC : P.cellsOf e = 1) (hB : P.bytesOf e = 1)
    (h : DataW.trod enc P W 0 (fun _ => true) true fuel t [.slice a len cap] = some x) :
    ∃ l : List UInt8, l.length = len ∧ Rd W (.slice a len cap) 1 len (bvs l) ∧ ((∀ n ∈ x.1.weights P t, n ≤ reachBytes) → len ≤ 140737488351232) := by
  rcases open_ints ht he hC h with ⟨hcs, hx⟩ | ⟨ad, len', cap', zs, hcs, _, hl, hm, hz, hx, hcell, hwz⟩
  · simp only [List.cons.injEq, and_true, Value.slice.injEq] at hcs
    obtain ⟨rfl, rfl, rfl⟩ := hcs
    exact ⟨[], rfl, rd_nil W 1, fun _ => by omega⟩
  · simp only [List.cons.injEq, and_true, Value.slice.injEq] at hcs
    obtain ⟨rfl, rfl, rfl⟩ := hcs
    simp only [if_true] at hz
    refine ⟨(zs.take len).map fun z => UInt8.ofNat z.toNat, by simp; omega, ⟨some ad, cap, rfl, by rw [length_bvs]; simp; omega, hl, hm, (fun hn => by cases hn), fun b o sp hA => ?_⟩, fun hw => ?_⟩
    case refine_2 =>
      have := hw ((len + (cap - len)) * 1) (by rw [hx]; simp [DataW.weights, ht, lits, hB]; omega)
      simp only [reachBytes] at this
      omega
    injection hA with hA
    subst hA
    have hsp : ∀ j, j < zs.length → sp = none := fun j hj => by
      have h0 := hcell 0 (by omega)
      simpa [Addr.add] using World.cell?_spot h0
    refine ⟨fun hn => hsp 0 (by omega), fun j u hu => ?_⟩
    have hj : j < len := by
      have := (List.getElem?_eq_some_iff.1 hu).1
      rw [length_bvs] at this
      simp at this
      omega
    obtain rfl := hsp 0 (by omega)
    have hc := hcell j (by omega)
    rw [Addr.add_lit] at hc
    rw [hc, ← hu]
    have hjz : j < zs.length := by omega
    simp only [bvs, List.getElem?_map, List.getElem?_take, if_pos hj, List.getElem?_eq_getElem hjz, List.getD_eq_getElem?_getD, Option.map_some, Option.getD_some, bv, UInt8.toNat_ofNat']
    have hwf := hwz _ (List.getElem_mem hjz)
    simp [Lit.wf, IntKind.min, IntKind.max, IntKind.signed, IntKind.bits] at hwf
    congr 2
    omega

end
end Go.Proofs.YtkelegjppnfoaaaGreatDoor

namespace Go.Proofs.YtkelegjppnfoaaaGreatDoor
open Go.ChangeShapes Go.WideShapes Go.ChangeAt Go.RowKit Go.Deep

theorem u8_of {n : Int} (h : (Lit.int .u8 n).wf = true) : ∃ m : Nat, n = m ∧ m < 256 := by
  simp [Lit.wf, IntKind.min, IntKind.max, IntKind.signed, IntKind.bits] at h
  exact ⟨n.toNat, by omega, by omega⟩
section
variable {H : Type} {enc : TypeId × Value → H} {P : Program} {w W : World} {base : Nat} {spare : Nat → Bool} {held : Bool}
theorem trodAll_six {t0 t1 t2 t3 t4 t5 : TypeId} {args : Array Value} {ds : List (DataW H)} {ps : List MemPlace} (h : DataW.TrodAll enc P w base spare held [t0, t1, t2, t3, t4, t5] args.toList ds ps) :
    ∃ v0 v1 v2 v3 v4 v5 d0 d1 d2 d3 d4 d5 p0 p1 p2 p3 p4 p5, args = #[v0, v1, v2, v3, v4, v5] ∧ ds = [d0, d1, d2, d3, d4, d5] ∧ ps = p0 ++ p1 ++ p2 ++ p3 ++ p4 ++ p5 ∧ DataW.Trod enc P w base spare held t0 v0 d0 p0 ∧ DataW.Trod enc P w base spare held t1 v1 d1 p1 ∧
      DataW.Trod enc P w base spare held t2 v2 d2 p2 ∧ DataW.Trod enc P w base spare held t3 v3 d3 p3 ∧ DataW.Trod enc P w base spare held t4 v4 d4 p4 ∧ DataW.Trod enc P w base spare held t5 v5 d5 p5 := by
  obtain ⟨v0, vs, d0, ds', p0, q, hargs, rfl, rfl, h0, hr⟩ := trodAll_cons h
  obtain ⟨v1, vs1, d1, ds1, p1, q1, rfl, rfl, rfl, h1, hr1⟩ := trodAll_cons hr
  obtain ⟨v2, vs2, d2, ds2, p2, q2, rfl, rfl, rfl, h2, hr2⟩ := trodAll_cons hr1
  obtain ⟨v3, vs3, d3, ds3, p3, q3, rfl, rfl, rfl, h3, hr3⟩ := trodAll_cons hr2
  obtain ⟨v4, vs4, d4, ds4, p4, q4, rfl, rfl, rfl, h4, hr4⟩ := trodAll_cons hr3
  obtain ⟨v5, vs5, d5, ds5, p5, q5, rfl, rfl, rfl, h5, hr5⟩ := trodAll_cons hr4
  obtain ⟨rfl, rfl, rfl⟩ := trodAll_nil hr5
  exact ⟨v0, v1, v2, v3, v4, v5, d0, d1, d2, d3, d4, d5, p0, p1, p2, p3, p4, p5, by cases args; simp_all, rfl, by simp, h0, h1, h2, h3, h4, h5⟩
end
end Go.Proofs.YtkelegjppnfoaaaGreatDoor

namespace Go.Proofs.YtkelegjppnfoaaaGreatDoor
open Go.ChangeShapes Go.WideShapes Go.ChangeAt Go.RowKit

theorem own : ownKnob Tryz.prog.godebug = none := by kernel_rfl
theorem laidOut : laidOutB Tryz.prog = true := by kernel_rfl
theorem cellsU8 : Tryz.prog.cellsOf 5 = 1 := by kernel_rfl
theorem bytesU8 : Tryz.prog.bytesOf 5 = 1 := by kernel_rfl
end Go.Proofs.YtkelegjppnfoaaaGreatDoor

namespace Go.Proofs.YtkelegjppnfoaaaGreatDoor
open Go.ChangeShapes Go.WideShapes Go.ChangeAt Go.RowKit Go.Deep

theorem lift_laid {C : Checked} (own : ownKnob C.prog.godebug = none) {os : Os} (started : os.Started) {f : FuncId} {fn : Func} (noInit : C.prog.inits.idxOf? f = none) (hfn : C.prog.funcs[f]? = some fn)
    {s : ChangeSpec} (hvars : s.vars = []) (hbare : s.plain.varTypes C.prog = []) {tb : TypeId} (hres : fn.resultTypes = #[tb]) (hbool : C.prog.underlying tb = some .bool) (hl : laidOutB C.prog = true)
    (hts : (fn.params.toList.all fun t => C.prog.readableRec t && decide (t < C.prog.types.size)) = true) {l : List (String × DataW Unit)}
    {H : Type} {enc : TypeId × Value → H} (hspec : ∀ (ds : List (DataW H)), ds.length = fn.params.toList.length → (s.fn H ds).results = [.lit (.bool true)] ∧ (s.fn H ds).args = ds ∧ (s.fn H ds).vars = [])
    (witness : ∃ (w : World) (tape : Tape) (i : Input), w.os = os ∧ (w.forCall tape i).Shaped C.prog ∧ i.vars = [] ∧ Input.okWide C.prog (w.forCall tape i) .any w.heap.size f i ∧
      ((s.pre enc C.prog fn [] false (w.forCall tape i).memory i.args ∧ laidMetH C.prog l (w.forCall tape i).memory) ∧ sizedMet enc C.prog fn (OpenSpec.ofChange s) false (w.forCall tape i).memory i.args) ∧ Assume.holds {} C.prog (lone (Frame.enter C.prog f i.args .normal) [] (w.forCall tape i)))
    (walk : ∀ (W : World) (args : Array Value) (ds : List (DataW H)) (p : List MemPlace), Told C.prog enc W fn.params.toList args ds p → laidMetH C.prog l W →
      Calls C.prog f args W fun e W' => e = .returned (.bool true) ∧ Below W.heap.size W W') :
    ReturnsInHanded {} C os f .any (fun w args => (s.pre enc C.prog fn [] false w args ∧ laidMetH C.prog l w) ∧ sizedMet enc C.prog fn (OpenSpec.ofChange s) false w args) (s.post enc C.prog fn false true false false) := by
  refine returnsInHanded_of_change_and (C := C) (X := fun w _ => laidMetH C.prog l w) (fun _ _ _ hh h => h.of_heap hh) own started noInit hfn witness ?_
  intro W base args ds gs before hval hW _ hsz hL _
  have hW' := hW
  obtain ⟨p, q, hA, hV, rfl, hfz, hnd⟩ := hW
  rw [hvars] at hV
  obtain ⟨rfl, rfl⟩ := trodVars_none hV
  have hlen := trodAll_length fn.params.toList args.toList ds p hA
  obtain ⟨s1, s2, s3⟩ := hspec ds hlen
  refine (walk W args ds p ⟨hA, ⟨base, fun j t v ht hv => hval j t v (by simpa using ht) hv⟩, by rw [hbare] at hsz; simpa using hsz⟩ hL).mono fun e W' ⟨he, bel⟩ => ?_
  subst he
  refine ⟨_, rfl, ds, [], _, [], p, [], hW', ?_, ?_, ?_, bel.frame _, fun h => by cases h⟩
  · rw [List.append_nil, s1, hres]
    exact trodAll_mk1 (shut_bool hbool _)
  · rw [List.append_nil, s2]
    exact trodAll_below hl bel _ _ _ _ hts hA
  · rw [List.append_nil, s3, hvars]
    exact rfl

def LL : List (String × DataW Unit) := [("math/bits.deBruijn32tab", Rows.laid_math_bits_deBruijn32tab), ("math/bits.deBruijn64tab", Rows.laid_math_bits_deBruijn64tab), ("internal/strconv.uint64pow10", Rows.laid_internal_strconv_uint64pow10), ("strconv.ErrRange", Rows.laid_strconv_ErrRange), ("strconv.ErrSyntax", Rows.laid_strconv_ErrSyntax)]
theorem door_met (os : Os) (args : Array Value) : laidMetH Tryz.prog LL ((World.doorLaid Tryz.prog 400 os).forCall (fun _ _ => 0) ⟨#[], args, []⟩).memory := by
  rw [MakeChecks.laidMetH_plain _ _ _ (by kernel_rfl)]
  exact laidMet_of_run' 8 (by kernel_rfl) (by kernel_rfl)
end Go.Proofs.YtkelegjppnfoaaaGreatDoor
