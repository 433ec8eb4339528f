/-
  Layer 7: the walk of TermSets.
-/
import Derived.Test.YtjamoifenkdneaaWe
import Derived.Test.YtjamoifenkdneaaTv
namespace Go.Proofs.Ytjamoifenkdneaa
open Go.RowKit
set_option linter.unusedSimpArgs false

theorem hasT_set (B : Option Addr) (d : Nat) (s : List Tm) (t : Tm) : hasT (tS B d s) t = s.any (fun x => samT x t) := rfl
theorem hasT_zero (t : Tm) : hasT t0S t = false := rfl
theorem t0S_same : samT t0S t0S = true := decide_eq_true (cmpA_ord.self _)
set_option maxRecDepth 100000 in
set_option maxHeartbeats 1600000 in
theorem termSets_walk (l : List Tm) (t : Tm) (v : Value) (w : World) (hv : TmsAt w v l) (hm : l.length ≤ 140737488351232) (ht : TmOK w t) :
    Calls Try.prog 7 #[v, t.val] w fun e w' => e = .returned (.bool true) ∧ Below w.heap.size w w' := by
  obtain ⟨A, c, rfl, hr⟩ := Rd.isSlice hv.1
  have hS0 := (St.init w NoB).alloc #[.int .i64 t.k, .int .i64 t.n, .string (strOf t.s), .slice t.A t.l.length t.c] 24
  have HS := hide hS0
  have HSZ := hide (size_any 6 (by omega) (.slice A l.length c) l 0 (w.alloc (.cells #[.int .i64 t.k, .int .i64 t.n, .string (strOf t.s), .slice t.A t.l.length t.c] 24)) (by decide) (hv.on hS0.below) hm)
  rw [show ((0 : Nat) : Int) = 0 from rfl, show ((6 : Nat) : Int) = 6 from rfl] at HSZ
  have HST := hide (fun W (h : Below w.heap.size w W) => Size_any t W (ht.on h))
  have HT := hide (fun W (h : Below w.heap.size w W) => ht.on h)
  have HSA := hide (fun W (h : Below w.heap.size w W) => set_any (.slice A l.length c) l (hv.on h) hm)
  have HSB := hide (fun W (h : Below w.heap.size w W) => setRef_any (.slice A l.length c) l (hv.on h) hm)
  have HAW := hide (fun W => awake7_any W)
  have s1 : szT 6 l 0 ≤ 100 := szT_le 6 l 0 (by omega)
  have s2 : sizT t ≤ 100 := szT_le 6 [t] 0 (by omega)
  have HGF := hide (fun h : badL l = false => good_flat h)
  have HLA := hide (setL_law l)
  have HLI := hide (insF_law l [] trivial)
  have HEQ := hide (setL_ins l)
  have HRF : Hid (refT l = false → badL l = false) := hide (fun h => by unfold refT at h; exact (Bool.or_eq_false_iff.1 h).2)
  have HHB := hide (fun W (h : TmOK W t) => has_any t0S t W (t0S_ok W) h)
  have HHC := hide (fun W (h : TmOK W t) => hasR_any t0S t W (t0S_ok W) h)
  have HZS := hide (fun W => sameR_any t0S t0S W (t0S_ok W) (t0S_ok W))
  rw [t0S_val, hasT_zero] at HHB HHC
  rw [t0S_val, t0S_same] at HZS
  have hla : (setL l).length ≤ 140737488351232 := Nat.le_trans (setL_len l) hm
  have hlb : (insA l).length ≤ 140737488351232 := Nat.le_trans (insA_len l) hm
  have HSM := hide (fun W B d B' d' (h : TmsAt W (.slice B (setL l).length d) (setL l)) (h' : TmsAt W (.slice B' (insA l).length d') (insA l)) => sameR_any (tS B d (setL l)) (tS B' d' (insA l)) W (tS_ok h hla) (tS_ok h' hlb))
  have HHA := hide (fun W B d (h : TmsAt W (.slice B (setL l).length d) (setL l)) (h' : TmOK W t) => has_any (tS B d (setL l)) t W (tS_ok h hla) h')
  have HHR := hide (fun W B d (h : TmsAt W (.slice B (insA l).length d) (insA l)) (h' : TmOK W t) => hasR_any (tS B d (insA l)) t W (tS_ok h hlb) h')
  simp only [tS_val, hasT_set] at HSM HHA HHR
  clear hv hr ht hS0 hla hlb
  obtain ⟨rf, hrf⟩ : ∃ b, b = refT l := ⟨_, rfl⟩
  unfold SetP at HSA HSB
  rw [← hrf] at HSA HSB HRF
  clear hrf
  generalize setL l = sa at *
  generalize hsb : insA l = sb at *
  unfold insA at hsb
  rw [hsb] at HLI
  clear hsb
  generalize szT 6 l 0 = za at *
  generalize sizT t = zb at *
  obtain ⟨n, hn⟩ : ∃ n, n = l.length := ⟨_, rfl⟩
  rw [← hn] at HSZ HSA HSB hm ⊢
  clear hn
  unfold Tm.val Tm.row at *
  by_cases h1 : 100 ≤ za
  · have d1 : decide ((100 : Int) ≤ (za : Int)) = true := by simp; omega
    have d1' : decide (100 ≤ za) = true := by simp; omega
    go_enter Try.func7, Try.ntmps7
    go_wp2_with (first | (go_at_call 23; (with_reducible refine HSZ.out.mono ?_); rintro e w1 ⟨rfl, hb⟩; have HS := hide (HS.out.call hb); have t0 := HS.out.cell 0 rfl 0; have t1 := HS.out.cell 0 rfl 1; have t2 := HS.out.cell 0 rfl 2; have t3 := HS.out.cell 0 rfl 3) | (go_at_call 9; (with_reducible refine (HST.out _ HS.out.below).mono ?_); rintro e w1 ⟨rfl, hb⟩; have HS := hide (HS.out.call hb)) | (go_at_call 10; (with_reducible refine (HAW.out _).mono ?_); rintro e w' ⟨rfl, hb⟩; have HB := hide (HS.out.below.trans (hb.mono HS.out.below.size))))
    go_ret
    exact ⟨rfl, HB.out⟩
  have d1 : decide ((100 : Int) ≤ (za : Int)) = false := by simp; omega
  have d1' : decide (100 ≤ za) = false := by simp; omega
  by_cases h2 : 100 ≤ zb
  · have d2 : decide ((100 : Int) ≤ (zb : Int)) = true := by simp; omega
    have d2' : decide (100 ≤ zb) = true := by simp; omega
    go_enter Try.func7, Try.ntmps7
    go_wp2_with (first | (go_at_call 23; (with_reducible refine HSZ.out.mono ?_); rintro e w1 ⟨rfl, hb⟩; have HS := hide (HS.out.call hb); have t0 := HS.out.cell 0 rfl 0; have t1 := HS.out.cell 0 rfl 1; have t2 := HS.out.cell 0 rfl 2; have t3 := HS.out.cell 0 rfl 3) | (go_at_call 9; (with_reducible refine (HST.out _ HS.out.below).mono ?_); rintro e w1 ⟨rfl, hb⟩; have HS := hide (HS.out.call hb)) | (go_at_call 10; (with_reducible refine (HAW.out _).mono ?_); rintro e w' ⟨rfl, hb⟩; have HB := hide (HS.out.below.trans (hb.mono HS.out.below.size))))
    go_ret
    exact ⟨rfl, HB.out⟩
  have d2 : decide ((100 : Int) ≤ (zb : Int)) = false := by simp; omega
  have d2' : decide (100 ≤ zb) = false := by simp; omega
  clear h1 h2
  cases rf with
  | true =>
    have HSA2 : Hid (∀ W, Below w.heap.size w W → Calls Try.prog 24 #[.slice A n c] W fun e w' => SetE W e w') := hide (fun W h => (HSA.out W h).mono fun e w' h => by
      rcases h with ⟨_, h⟩ | ⟨h, _⟩
      · exact h
      · cases h)
    have HSB2 : Hid (∀ W, Below w.heap.size w W → Calls Try.prog 25 #[.slice A n c] W fun e w' => SetE W e w') := hide (fun W h => (HSB.out W h).mono fun e w' h => by
      rcases h with ⟨_, h⟩ | ⟨h, _⟩
      · exact h
      · cases h)
    clear HSA HSB HSM HHA HHR HGF HLA HLI HEQ HRF
    unfold SetE at HSA2 HSB2
    go_enter Try.func7, Try.ntmps7
    go_wp2_with (first
      | (go_at_call 23; (with_reducible refine HSZ.out.mono ?_); rintro e w1 ⟨rfl, hb⟩; have HS := hide (HS.out.call hb); have t0 := HS.out.cell 0 rfl 0; have t1 := HS.out.cell 0 rfl 1; have t2 := HS.out.cell 0 rfl 2; have t3 := HS.out.cell 0 rfl 3)
      | (go_at_call 9; (with_reducible refine (HST.out _ HS.out.below).mono ?_); rintro e w1 ⟨rfl, hb⟩; have HS := hide (HS.out.call hb))
      | (go_at_call 24; (with_reducible refine (HSA2.out _ HS.out.below).mono ?_); rintro e w1 ⟨rfl, hb⟩; have HS := hide ((HS.out.call hb).alloc #[.int .i64 0, .int .i64 0, .string ⟨#[]⟩, .slice none 0 0] 24))
      | (go_at_call 25; (with_reducible refine (HSB2.out _ HS.out.below).mono ?_); rintro e w2 ⟨rfl, hb⟩; have HS := hide ((HS.out.call hb).alloc #[.int .i64 0, .int .i64 0, .string ⟨#[]⟩, .slice none 0 0] 24)))
    refine wp_region_T [(0, 0), (1, 0), (2, 2), (3, 1), (4, 1), (5, 1), (6, 1), (7, 1), (8, 1), (9, 1), (10, 0), (11, 1), (12, 1), (13, 0), (14, 1), (15, 1), (16, 1), (17, 1), (18, 0), (19, 0), (21, 0), (22, 0), (20, 2), (23, 2), (24, 1), (25, 1), (26, 1), (27, 2), (28, 1), (29, 1)] (by kernel_rfl) (by kernel_rfl) (fun _ _ _ _ h => h) ?_
    have HS := hide HS.out.drew
    have t0 := HS.out.cell 2 rfl 0
    have t1 := HS.out.cell 2 rfl 1
    have t2 := HS.out.cell 2 rfl 2
    have t3 := HS.out.cell 2 rfl 3
    have a0 := HS.out.cell 1 rfl 0
    have a1 := HS.out.cell 1 rfl 1
    have a2 := HS.out.cell 1 rfl 2
    have a3 := HS.out.cell 1 rfl 3
    have b0 := HS.out.cell 0 rfl 0
    have b1 := HS.out.cell 0 rfl 1
    have b2 := HS.out.cell 0 rfl 2
    have b3 := HS.out.cell 0 rfl 3
    go_wp2_with (first
      | (go_at_call 17; (with_reducible refine (HZS.out _).mono ?_); rintro e w3 ⟨rfl, hb⟩; have HS := hide (HS.out.call hb); have t0 := HS.out.cell 2 rfl 0; have t1 := HS.out.cell 2 rfl 1; have t2 := HS.out.cell 2 rfl 2; have t3 := HS.out.cell 2 rfl 3; have a0 := HS.out.cell 1 rfl 0; have a1 := HS.out.cell 1 rfl 1; have a2 := HS.out.cell 1 rfl 2; have a3 := HS.out.cell 1 rfl 3; have b0 := HS.out.cell 0 rfl 0; have b1 := HS.out.cell 0 rfl 1; have b2 := HS.out.cell 0 rfl 2; have b3 := HS.out.cell 0 rfl 3)
      | (go_at_call 20; (with_reducible refine (HHB.out _ (HT.out _ HS.out.below)).mono ?_); rintro e w4 ⟨rfl, hb⟩; have HS := hide (HS.out.call hb); have t0 := HS.out.cell 2 rfl 0; have t1 := HS.out.cell 2 rfl 1; have t2 := HS.out.cell 2 rfl 2; have t3 := HS.out.cell 2 rfl 3; have a0 := HS.out.cell 1 rfl 0; have a1 := HS.out.cell 1 rfl 1; have a2 := HS.out.cell 1 rfl 2; have a3 := HS.out.cell 1 rfl 3; have b0 := HS.out.cell 0 rfl 0; have b1 := HS.out.cell 0 rfl 1; have b2 := HS.out.cell 0 rfl 2; have b3 := HS.out.cell 0 rfl 3)
      | (go_at_call 21; (with_reducible refine (HHC.out _ (HT.out _ HS.out.below)).mono ?_); rintro e w5 ⟨rfl, hb⟩; have HS := hide (HS.out.call hb); have t0 := HS.out.cell 2 rfl 0; have t1 := HS.out.cell 2 rfl 1; have t2 := HS.out.cell 2 rfl 2; have t3 := HS.out.cell 2 rfl 3; have a0 := HS.out.cell 1 rfl 0; have a1 := HS.out.cell 1 rfl 1; have a2 := HS.out.cell 1 rfl 2; have a3 := HS.out.cell 1 rfl 3; have b0 := HS.out.cell 0 rfl 0; have b1 := HS.out.cell 0 rfl 1; have b2 := HS.out.cell 0 rfl 2; have b3 := HS.out.cell 0 rfl 3)
      | (go_at_call 10; (with_reducible refine (HAW.out _).mono ?_); rintro e w' ⟨rfl, hb⟩; have HB := hide (HS.out.below.trans (hb.mono HS.out.below.size)))
      | (refine wpT_nil ?_)   | ((with_reducible refine fromT_refl ?_); (try simp only [Act.put, List.setIfInBounds_toArray, List.set_cons_zero, List.set_cons_succ, List.getElem_toArray, List.getElem_cons_succ, List.getElem_cons_zero]))   | ((with_reducible refine fromT_mk (by assumption) ?_); (try simp only [Act.put, List.setIfInBounds_toArray, List.set_cons_zero, List.set_cons_succ, List.getElem_toArray, List.getElem_cons_succ, List.getElem_cons_zero]))   | (refine wpT_pure (v := ?_) rfl rfl ?_ ?_; rotate_left; (intro wx; go_simp; try go_bits) <;> (with_reducible rfl); (try simp only [Act.put, List.setIfInBounds_toArray, List.set_cons_zero, List.set_cons_succ, List.getElem_toArray, List.getElem_cons_succ, List.getElem_cons_zero]))   | (refine wpT_load (v := ?_) rfl rfl rfl ?_ ?_; rotate_left; (go_simp; try go_bits) <;> (with_reducible rfl); (try simp only [Act.put, List.setIfInBounds_toArray, List.set_cons_zero, List.set_cons_succ, List.getElem_toArray, List.getElem_cons_succ, List.getElem_cons_zero]))   | (refine wpT_read (v := ?_) rfl rfl ?_ ?_; rotate_left; (intro wx hx; go_simp; try go_bits) <;> (with_reducible rfl); (try simp only [Act.put, List.setIfInBounds_toArray, List.set_cons_zero, List.set_cons_succ, List.getElem_toArray, List.getElem_cons_succ, List.getElem_cons_zero]))   | (refine wpT_call rfl rfl ?_; intro K hK)   | (refine wpT_late rfl rfl ?_; intro K hK)   | (refine wpT_any rfl rfl ?_; intro K hK)   | (refine wpT_skip rfl rfl ?_; (try simp only [Act.put, List.setIfInBounds_toArray, List.set_cons_zero, List.set_cons_succ, List.getElem_toArray, List.getElem_cons_succ, List.getElem_cons_zero])))
    go_ret
    exact ⟨rfl, HB.out⟩
  | false =>
    have HSA2 : Hid (∀ W, Below w.heap.size w W → Calls Try.prog 24 #[.slice A n c] W fun e w' => SetRp W sa e w') := hide (fun W h => (HSA.out W h).mono fun e w' h => by
      rcases h with ⟨h, _⟩ | ⟨_, h⟩
      · cases h
      · exact h)
    have HSB2 : Hid (∀ W, Below w.heap.size w W → Calls Try.prog 25 #[.slice A n c] W fun e w' => SetRp W sb e w') := hide (fun W h => (HSB.out W h).mono fun e w' h => by
      rcases h with ⟨h, _⟩ | ⟨_, h⟩
      · cases h
      · exact h)
    have hfl := HGF.out (HRF.out rfl)
    have hfa : ∀ x ∈ sa, x.l = [] := fun x hx => (hfl x (HLA.out.2.1 x hx)).2.2.1
    have hfb : ∀ x ∈ sb, x.l = [] := fun x hx => by
      rcases HLI.out.2.1 x hx with h | h
      · cases h
      · exact (hfl x h).2.2.1
    have HSS : Hid (∀ B d B' d', samT (tS B d sa) (tS B' d' sb) = true) := hide (fun B d B' d' => tS_same HEQ.out hfa hfb)
    have HSM2 := hide (fun W B d B' d' (h : TmsAt W (.slice B sa.length d) sa) (h' : TmsAt W (.slice B' sb.length d') sb) => by
      have k := HSM.out W B d B' d' h h'
      rw [HSS.out] at k
      exact k)
    have hany := eqT_any HEQ.out t
    have hlen := eqT_len HEQ.out
    have HHA2 := hide (fun W B d => HHA.out W B d)
    have HHR2 := hide (fun W B d => HHR.out W B d)
    rw [hany] at HHA2
    unfold SetRp at HSA2 HSB2
    obtain ⟨m, hmm⟩ : ∃ m, m = sb.length := ⟨_, rfl⟩
    rw [hlen, ← hmm] at HSA2 HSM2 HHA2
    rw [← hmm] at HSB2 HHR2
    generalize sb.any (fun x => samT x t) = any at HHA2 HHR2
    clear HSA HSB HSM HHA HHR HGF HLA HLI HEQ HRF HSS hfl hfa hfb hany hlen hmm HHB HHC HZS
    have qa : (any == any) = true := by cases any <;> rfl
    go_enter Try.func7, Try.ntmps7
    go_wp2_with (first
      | (go_at_call 23; (with_reducible refine HSZ.out.mono ?_); rintro e w1 ⟨rfl, hb⟩; have HS := hide (HS.out.call hb); have t0 := HS.out.cell 0 rfl 0; have t1 := HS.out.cell 0 rfl 1; have t2 := HS.out.cell 0 rfl 2; have t3 := HS.out.cell 0 rfl 3)
      | (go_at_call 9; (with_reducible refine (HST.out _ HS.out.below).mono ?_); rintro e w1 ⟨rfl, hb⟩; have HS := hide (HS.out.call hb))
      | (go_at_call 24; (with_reducible refine (HSA2.out _ HS.out.below).mono ?_); rintro e w1 ⟨B, d, rfl, hb, hT⟩; have HS := hide ((HS.out.call hb).alloc #[.int .i64 7, .int .i64 0, .string ⟨#[]⟩, .slice B m d] 24); have HTA := hide (hT.on ((Below.refl _ _).al (.cells #[.int .i64 7, .int .i64 0, .string ⟨#[]⟩, .slice B m d] 24))); clear hT hb)
      | (go_at_call 25; (with_reducible refine (HSB2.out _ HS.out.below).mono ?_); rintro e w2 ⟨B', d', rfl, hb, hT⟩; have HS := hide ((HS.out.call hb).alloc #[.int .i64 7, .int .i64 0, .string ⟨#[]⟩, .slice B' m d'] 24); have HTA := hide ((HTA.out.on hb).on ((Below.refl _ _).al (.cells #[.int .i64 7, .int .i64 0, .string ⟨#[]⟩, .slice B' m d'] 24))); have HTB := hide (hT.on ((Below.refl _ _).al (.cells #[.int .i64 7, .int .i64 0, .string ⟨#[]⟩, .slice B' m d'] 24))); clear hT hb))
    refine wp_region_T [(0, 0), (1, 0), (2, 2), (3, 1), (4, 1), (5, 1), (6, 1), (7, 1), (8, 1), (9, 1), (10, 0), (11, 1), (12, 1), (13, 0), (14, 1), (15, 1), (16, 1), (17, 1), (18, 0), (19, 0), (21, 0), (22, 0), (20, 2), (23, 2), (24, 1), (25, 1), (26, 1), (27, 2), (28, 1), (29, 1)] (by kernel_rfl) (by kernel_rfl) (fun _ _ _ _ h => h) ?_
    have HS := hide HS.out.drew
    have HTA := hide (HTA.out.on (Below.refl _ _).drew)
    have HTB := hide (HTB.out.on (Below.refl _ _).drew)
    have t0 := HS.out.cell 2 rfl 0
    have t1 := HS.out.cell 2 rfl 1
    have t2 := HS.out.cell 2 rfl 2
    have t3 := HS.out.cell 2 rfl 3
    have a0 := HS.out.cell 1 rfl 0
    have a1 := HS.out.cell 1 rfl 1
    have a2 := HS.out.cell 1 rfl 2
    have a3 := HS.out.cell 1 rfl 3
    have b0 := HS.out.cell 0 rfl 0
    have b1 := HS.out.cell 0 rfl 1
    have b2 := HS.out.cell 0 rfl 2
    have b3 := HS.out.cell 0 rfl 3
    go_wp2_with (first
      | (go_at_call 17; (with_reducible refine (HSM2.out _ B d B' d' HTA.out HTB.out).mono ?_); rintro e w3 ⟨rfl, hb⟩; have HS := hide (HS.out.call hb); have HTA := hide (HTA.out.on hb); have HTB := hide (HTB.out.on hb); have t0 := HS.out.cell 2 rfl 0; have t1 := HS.out.cell 2 rfl 1; have t2 := HS.out.cell 2 rfl 2; have t3 := HS.out.cell 2 rfl 3; have a0 := HS.out.cell 1 rfl 0; have a1 := HS.out.cell 1 rfl 1; have a2 := HS.out.cell 1 rfl 2; have a3 := HS.out.cell 1 rfl 3; have b0 := HS.out.cell 0 rfl 0; have b1 := HS.out.cell 0 rfl 1; have b2 := HS.out.cell 0 rfl 2; have b3 := HS.out.cell 0 rfl 3)
      | (go_at_call 20; (with_reducible refine (HHA2.out _ B d HTA.out (HT.out _ HS.out.below)).mono ?_); rintro e w4 ⟨rfl, hb⟩; have HS := hide (HS.out.call hb); have HTB := hide (HTB.out.on hb); have t0 := HS.out.cell 2 rfl 0; have t1 := HS.out.cell 2 rfl 1; have t2 := HS.out.cell 2 rfl 2; have t3 := HS.out.cell 2 rfl 3; have a0 := HS.out.cell 1 rfl 0; have a1 := HS.out.cell 1 rfl 1; have a2 := HS.out.cell 1 rfl 2; have a3 := HS.out.cell 1 rfl 3; have b0 := HS.out.cell 0 rfl 0; have b1 := HS.out.cell 0 rfl 1; have b2 := HS.out.cell 0 rfl 2; have b3 := HS.out.cell 0 rfl 3)
      | (go_at_call 21; (with_reducible refine (HHR2.out _ B' d' HTB.out (HT.out _ HS.out.below)).mono ?_); rintro e w5 ⟨rfl, hb⟩; have HS := hide (HS.out.call hb); have t0 := HS.out.cell 2 rfl 0; have t1 := HS.out.cell 2 rfl 1; have t2 := HS.out.cell 2 rfl 2; have t3 := HS.out.cell 2 rfl 3; have a0 := HS.out.cell 1 rfl 0; have a1 := HS.out.cell 1 rfl 1; have a2 := HS.out.cell 1 rfl 2; have a3 := HS.out.cell 1 rfl 3; have b0 := HS.out.cell 0 rfl 0; have b1 := HS.out.cell 0 rfl 1; have b2 := HS.out.cell 0 rfl 2; have b3 := HS.out.cell 0 rfl 3)
      | (go_at_call 10; (with_reducible refine (HAW.out _).mono ?_); rintro e w' ⟨rfl, hb⟩; have HB := hide (HS.out.below.trans (hb.mono HS.out.below.size)))
      | (refine wpT_nil ?_)   | ((with_reducible refine fromT_refl ?_); (try simp only [Act.put, List.setIfInBounds_toArray, List.set_cons_zero, List.set_cons_succ, List.getElem_toArray, List.getElem_cons_succ, List.getElem_cons_zero]))   | ((with_reducible refine fromT_mk (by assumption) ?_); (try simp only [Act.put, List.setIfInBounds_toArray, List.set_cons_zero, List.set_cons_succ, List.getElem_toArray, List.getElem_cons_succ, List.getElem_cons_zero]))   | (refine wpT_pure (v := ?_) rfl rfl ?_ ?_; rotate_left; (intro wx; go_simp; try go_bits) <;> (with_reducible rfl); (try simp only [Act.put, List.setIfInBounds_toArray, List.set_cons_zero, List.set_cons_succ, List.getElem_toArray, List.getElem_cons_succ, List.getElem_cons_zero]))   | (refine wpT_load (v := ?_) rfl rfl rfl ?_ ?_; rotate_left; (go_simp; try go_bits) <;> (with_reducible rfl); (try simp only [Act.put, List.setIfInBounds_toArray, List.set_cons_zero, List.set_cons_succ, List.getElem_toArray, List.getElem_cons_succ, List.getElem_cons_zero]))   | (refine wpT_read (v := ?_) rfl rfl ?_ ?_; rotate_left; (intro wx hx; go_simp; try go_bits) <;> (with_reducible rfl); (try simp only [Act.put, List.setIfInBounds_toArray, List.set_cons_zero, List.set_cons_succ, List.getElem_toArray, List.getElem_cons_succ, List.getElem_cons_zero]))   | (refine wpT_call rfl rfl ?_; intro K hK)   | (refine wpT_late rfl rfl ?_; intro K hK)   | (refine wpT_any rfl rfl ?_; intro K hK)   | (refine wpT_skip rfl rfl ?_; (try simp only [Act.put, List.setIfInBounds_toArray, List.set_cons_zero, List.set_cons_succ, List.getElem_toArray, List.getElem_cons_succ, List.getElem_cons_zero])))
    go_ret
    exact ⟨rfl, HB.out⟩
end Go.Proofs.Ytjamoifenkdneaa
