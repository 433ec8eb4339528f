/-
  Layer 18: the walk of StorePlays.
-/
import Derived.Test.YthpioncehigoaaaYz
namespace Go.Proofs.Ythpioncehigoaaa
open Go.RowKit
set_option linter.unusedSimpArgs false

set_option maxRecDepth 100000 in
set_option maxHeartbeats 6400000 in
theorem storePlays_walk (l : List Fc) (s : List UInt8) (nn : Int) (v : Value) (w : World) (hv : FcsAt w v l) (hm : l.length ≤ 140737488351232) :
    Calls Try.prog 5 #[v, .string (strOf s), .int .i64 nn] w fun e w' => e = .returned (.bool true) ∧ Below w.heap.size w w' := by
  obtain ⟨A0, c0, rfl, hr⟩ := Rd.isSlice hv.1
  have HFW := hide (few18_any (.slice A0 l.length c0) l w hv hm)
  have HAW := hide (fun W => awake18_any W)
  obtain ⟨n, hn⟩ : ∃ n, n = l.length := ⟨_, rfl⟩
  cases hfe : fewF 0 l with
  | false =>
    rw [hfe] at HFW
    rw [← hn] at HFW ⊢
    clear hv hr hn hm hfe
    go_enter Try.func5, Try.ntmps5
    go_wp2_with (first
      | (go_at_call 9; (with_reducible refine HFW.out.mono ?_); rintro e w1 ⟨rfl, hb⟩; have HB1 := hide hb)
      | (go_at_call 10; (with_reducible refine (HAW.out _).mono ?_); rintro e w' ⟨rfl, hb⟩; have HB := hide (HB1.out.trans (hb.mono HB1.out.size))))
    go_ret
    exact ⟨rfl, HB.out⟩
  | true =>
    rw [hfe] at HFW
    have h600 : n ≤ 600 := by have := few_len l 0 (by decide) hfe; omega
    have HV := hide hv
    have HA := hide hr
    have HN := hide hn
    rw [← hn] at HFW HA ⊢
    clear hv hr hfe hn hm
    go_enter Try.func5, Try.ntmps5
    go_wp2_with (go_at_call 9; (with_reducible refine HFW.out.mono ?_); rintro e w1 ⟨rfl, hb⟩; have HB1 := hide hb)
    have HNW := hide (new_any w1)
    have hnil := fun W => nilS w1.heap.size W
    have HP0 : Hid (PlI w1 l w1.heap.size (w1.heap.size + 1) 0 0 ((w1.alloc (.cells #[.slice none 0 0] 67)).alloc (.cells #[.slice none 0 0] 45)) none 0 [] none 0 [] []) := by
      have h1 := ((St.init w1 NoB).alloc #[.slice none 0 0] 67).alloc #[.slice none 0 0] 45
      rw [size_alloc1] at h1
      have h2 := (h1.row (Below.refl _ _) (World.ownsRow_nil _ _ 27 3)).row (Below.refl _ _) (World.ownsRow_nil _ _ 27 3)
      exact hide ⟨h2.pickL [3, 0, 2, 1] (by decide) rfl, ⟨fun g hg => (by cases hg), trivial, fun g hg => (by cases hg)⟩, rfl, rfl, Nat.le_refl _, Nat.le_refl _, fun g hg => (by cases hg), fun g hg => (HV.out.2 g hg).on HB1.out, Nat.le_refl _, Nat.le_succ _⟩
    have HA1 := hide (HA.out.below HB1.out)
    clear HA HV
    go_wp2_with (go_at_call 18; (with_reducible refine HNW.out.mono ?_); rintro e w2 ⟨rfl, rfl⟩)
    clear HNW HFW
    go_loopw [22] (fun i wr => ∃ (k : Nat) (A : Option Addr) (c : Nat) (S : List Fc) (B : Option Addr) (d : Nat) (X : List Fc), k ≤ n ∧ i = .int .i64 (k : Int) ∧ Hid (PlI w1 l w1.heap.size (w1.heap.size + 1) k k wr A c S B d X [])) (fun i _ => (n - intOf i).toNat)
    case atStart => exact ⟨0, none, 0, [], none, 0, [], by omega, rfl, HP0⟩
    case round =>
      clear HP0
      obtain ⟨k, A, c, S, B, d, X, hk, rfl, HP⟩ := hrel
      by_cases hlt : k < n
      · have hd : decide ((k : Int) < (n : Int)) = true := by simp; omega
        have hd' : decide (k < n) = true := by simp; omega
        have kn : (k : Int) < (n : Int) := by omega
        have zn : (0 : Int) < (n : Int) := by omega
        have zn' : 0 < n := by omega
        have kl : k < l.length := by have := HN.out; omega
        have k0 : 0 < l.length := by omega
        have k1 : k - 1 < l.length := by omega
        have hk6 : k ≤ 600 := by omega
        have hlk : l[k]? = some l[k] := List.getElem?_eq_getElem kl
        obtain ⟨b, o, rfl, hb8, e0, e1, e2⟩ := fc_at HA1.out hlk
        have hl0 : l[0]? = some l[0] := List.getElem?_eq_getElem k0
        have hlp : l[k - 1]? = some l[k - 1] := List.getElem?_eq_getElem k1
        have HL0 : Hid (CsF w1 b o l[0]) := by
          obtain ⟨b', o', e', _, c0, c1, c2⟩ := fc_at HA1.out hl0
          injection e' with e'
          injection e' with e1' e2'
          subst e1' e2'
          rw [Nat.zero_mul, Nat.add_zero] at c0 c1 c2
          exact hide ⟨c0, c1, c2⟩
        have HLP : Hid (CsF w1 b (o + (k - 1) * 3) l[k - 1]) := by
          obtain ⟨b', o', e', _, c0, c1, c2⟩ := fc_at HA1.out hlp
          injection e' with e'
          injection e' with e1' e2'
          subst e1' e2'
          exact hide ⟨c0, c1, c2⟩
        have HG := hide (fun (W : World) (hb : Below w1.heap.size w1 W) => (show CsF w1 b (o + k * 3) l[k] from ⟨e0, e1, e2⟩))
        have hmf := List.getElem_mem kl
        have hm0 := List.getElem_mem k0
        have hmp := List.getElem_mem k1
        have r0 := (HP.out.st.below.cell (p := ⟨b, o + k * 3, none⟩) hb8).trans e0
        have r1 := (HP.out.st.below.cell (p := ⟨b, o + k * 3 + 1, none⟩) hb8).trans e1
        have r2 := (HP.out.st.below.cell (p := ⟨b, o + k * 3 + 2, none⟩) hb8).trans e2
        have HFM := hide hmf
        have HF0 := hide hm0
        have HFP := hide hmp
        have HLK := hide hlk
        clear e0 e1 e2 hmf hm0 hmp hl0 hlp hlk HG
        unfold Fc.row at r1
        generalize l[k] = f at r0 r1 r2 HFM HLK
        generalize l[0] = l0 at HL0 HF0
        generalize l[k - 1] = lp at HLP HFP
        have HPA := hide (HP.out.alloc #[.string (strOf f.name), .slice f.A f.ts.length f.c, .int .u32 f.o] 27)
        have HHS := hide (fun W (h : PlI w1 l w1.heap.size (w1.heap.size + 1) k k W A c S B d X [.cells wr.heap.size #[.string (strOf f.name), .slice f.A f.ts.length f.c, .int .u32 f.o] 27]) => h.has hk6 HFM.out)
        have HHR := hide (fun W (h : PlI w1 l w1.heap.size (w1.heap.size + 1) k k W A c S B d X [.cells wr.heap.size #[.string (strOf f.name), .slice f.A f.ts.length f.c, .int .u32 f.o] 27]) => h.hasR hk6 HFM.out)
        have HAD := hide (fun W (h : PlI w1 l w1.heap.size (w1.heap.size + 1) k k W A c S B d X [.cells wr.heap.size #[.string (strOf f.name), .slice f.A f.ts.length f.c, .int .u32 f.o] 27]) => h.add hk6 HLK.out)
        have HRD := hide (fun W A c S (h : PlI w1 l w1.heap.size (w1.heap.size + 1) (k + 1) k W A c S B d X [.cells wr.heap.size #[.string (strOf f.name), .slice f.A f.ts.length f.c, .int .u32 f.o] 27]) => h.radd hk6 HLK.out rfl)
        have HLN := hide (fun W A c S B d X (h : PlI w1 l w1.heap.size (w1.heap.size + 1) (k + 1) (k + 1) W A c S B d X [.cells wr.heap.size #[.string (strOf f.name), .slice f.A f.ts.length f.c, .int .u32 f.o] 27]) => h.len)
        have HCQ := hide (fun W A c S B d X (h : PlI w1 l w1.heap.size (w1.heap.size + 1) (k + 1) (k + 1) W A c S B d X [.cells wr.heap.size #[.string (strOf f.name), .slice f.A f.ts.length f.c, .int .u32 f.o] 27]) => h.cell)
        have HC0 := hide (fun W (h : Below w1.heap.size w1 W) => cmpFc_any f l0 W ((HP.out.ok f HFM.out).on h) ((HP.out.ok l0 HF0.out).on h))
        have HR0 := hide (fun W (h : Below w1.heap.size w1 W) => cmpFr_any f l0 W ((HP.out.ok f HFM.out).on h) ((HP.out.ok l0 HF0.out).on h))
        have HCP := hide (fun W (h : Below w1.heap.size w1 W) => cmpFc_any lp f W ((HP.out.ok lp HFP.out).on h) ((HP.out.ok f HFM.out).on h))
        have HRP := hide (fun W (h : Below w1.heap.size w1 W) => cmpFr_any lp f W ((HP.out.ok lp HFP.out).on h) ((HP.out.ok f HFM.out).on h))
        unfold Fc.val Fc.row at HHS HHR HAD HRD HC0 HR0 HCP HRP
        generalize hasX (made (l.take k)) f = x1 at HHS HHR
        generalize addB (made (l.take k)) f = x2 at HAD HRD
        generalize (made (l.take (k + 1))).length = x3 at HLN HCQ
        generalize cmpF f l0 = x4 at HC0 HR0
        generalize cmpF lp f = x5 at HCP HRP
        have q1 : (x1 != x1) = false := by cases x1 <;> rfl
        have q2 : (x2 != x2) = false := by cases x2 <;> rfl
        have q3 : ((x3 : Int) != (x3 : Int)) = false := by simp
        have q3' : (x3 != x3) = false := by simp
        have q4 : (x4 != x4) = false := by simp
        have q5' : (x5 != x5) = false := by simp
        have HL := hide hlt
        by_cases hk0 : 0 < k
        · have di : decide ((0 : Int) < (k : Int)) = true := by simp; omega
          have di' : decide (0 < k) = true := by simp; omega
          have ek : (k : Int) - 1 = ((k - 1 : Nat) : Int) := by omega
          have kp : ((k - 1 : Nat) : Int) < (n : Int) := by omega
          have kp' : k - 1 < n := by omega
          clear kl k0 k1 hlt hk0
          go_wp2_with fail
          have HPd := hide (HPA.out.at (Below.refl _ _).drew)
          have hcond1 := HPd.out.pls hb8 HL0.out HLP.out
          refine wp_region_C (.op 0 1 (.op 1 0 (.op 3 1 (.op 4 0 (.op 2 2 (.op 5 2 (.op 6 1 (.op 7 1 (.op 8 1 (.op 9 0 (.op 11 1 (.op 12 0 (.op 10 2 (.op 13 2 (.op 14 1 (.op 15 1 (.op 16 1 (.op 17 1 (.op 19 1 (.op 20 1 (.op 21 1 (.two 18 22 (.op 22 2 (.op 23 1 (.op 24 1 (.op 25 1 (.op 26 1 (.op 27 0 (.op 28 1 (.op 29 1 (.op 30 0 (.op 32 0 (.op 33 1 (.op 34 1 (.op 35 0 (.op 31 2 (.op 36 2 (.op 37 1 (.op 38 1 (.op 39 1 (.op 40 1 (.op 41 1 (.op 42 1 (.op 43 1 (.op 44 1 (.op 45 1 (.op 46 1 (.op 47 0 (.op 48 0 (.op 50 1 (.op 51 1 (.op 52 1 (.op 53 1 (.op 54 0 (.op 55 0 (.op 49 2 (.op 56 2 (.op 57 1 (.op 58 1 (.op 59 1 (.nil))))))))))))))))))))))))))))))))))))))) (.op 23 1 (.op 18 2 (.op 24 1 (.op 25 1 (.op 26 1 (.op 27 0 (.op 28 1 (.op 29 1 (.op 30 0 (.op 32 0 (.op 33 1 (.op 34 1 (.op 35 0 (.op 31 2 (.op 36 2 (.op 37 1 (.op 38 1 (.op 39 1 (.op 40 1 (.op 41 1 (.op 42 1 (.op 43 1 (.op 44 1 (.op 45 1 (.op 46 1 (.op 47 0 (.op 48 0 (.op 50 1 (.op 51 1 (.op 52 1 (.op 53 1 (.op 54 0 (.op 55 0 (.op 49 2 (.op 56 2 (.op 57 1 (.op 58 1 (.op 59 1 (.nil))))))))))))))))))))))))))))))))))))))))))))))))))))))))))))) (PlS wr.heap.size b o (k - 1) f l0 lp) hcond1 (by kernel_rfl) (by kernel_rfl) (fun _ _ _ _ h => h) ?_
          go_wp2_with (first
            | (go_at_call 17; (with_reducible refine (HHS.out _ HPd.out).mono ?_); rintro e w2 ⟨rfl, hb⟩; have HP2 := hide (HPd.out.at hb); have hcond2 := HP2.out.pls hb8 HL0.out HLP.out; clear hb)
            | (go_at_call 19; (with_reducible refine (HHR.out _ HP2.out).mono ?_); rintro e w3 ⟨rfl, hb⟩; have HP3 := hide (HP2.out.at hb); have hcond3 := HP3.out.pls hb8 HL0.out HLP.out; clear hb)
            | (go_at_call 20; (with_reducible refine (HAD.out _ HP3.out).mono ?_); rintro e w4 ⟨A', c', S', rfl, hq⟩; have HP4 := hide hq; have hcond4 := hq.pls hb8 HL0.out HLP.out; clear hq)
            | (go_at_call 21; (with_reducible refine (HRD.out _ A' c' S' HP4.out).mono ?_); rintro e w5 ⟨B', d', X', rfl, hq⟩; have HPx := hide hq; have hcond := hq.pls hb8 HL0.out HLP.out; have q5 := HCQ.out _ _ _ _ _ _ _ hq; clear hq)
            | (refine wpC_nil ?_)   | ((with_reducible refine cond_mk (by assumption) ?_); (try simp only [Act.put, List.setIfInBounds_toArray, List.set_cons_zero, List.set_cons_succ, List.getElem_toArray, List.getElem_cons_succ, List.getElem_cons_zero]))   | (refine wpC_pure (v := ?_) rfl rfl ?_ ?_; rotate_left; (intro wx; go_simp; try go_bits) <;> (with_reducible rfl); (try simp only [Act.put, List.setIfInBounds_toArray, List.set_cons_zero, List.set_cons_succ, List.getElem_toArray, List.getElem_cons_succ, List.getElem_cons_zero]))   | (refine wpC_read (v := ?_) rfl rfl ?_ ?_; rotate_left; (intro wx hx; obtain ⟨hx0, hx1, hx2, hx3, hx4, hx5, hx6, hx7, hx8⟩ := hx; go_simp; try go_bits) <;> (with_reducible rfl); (try simp only [Act.put, List.setIfInBounds_toArray, List.set_cons_zero, List.set_cons_succ, List.getElem_toArray, List.getElem_cons_succ, List.getElem_cons_zero]))   | (refine wpC_call rfl rfl ?_; intro K hK)   | (refine wpC_late rfl rfl ?_; intro K hK)   | (refine wpC_any rfl rfl ?_; intro K hK)   | (refine wpC_skip rfl rfl ?_; (try simp only [Act.put, List.setIfInBounds_toArray, List.set_cons_zero, List.set_cons_succ, List.getElem_toArray, List.getElem_cons_succ, List.getElem_cons_zero])))
          refine wpC_two ?_ ?_
          · go_wp2_with (first
              | (go_at_call 15; (with_reducible refine (HLN.out _ _ _ _ _ _ _ HPx.out).mono ?_); rintro e w6 ⟨rfl, rfl⟩)
              | (go_at_call 11; (with_reducible refine (HC0.out _ HPx.out.st.below).mono ?_); rintro e wy ⟨rfl, hb⟩; have HPx := hide (HPx.out.at hb); have hcond := HPx.out.pls hb8 HL0.out HLP.out)
              | (go_at_call 22; (with_reducible refine (HR0.out _ HPx.out.st.below).mono ?_); rintro e wy ⟨rfl, hb⟩; have HPx := hide (HPx.out.at hb); have hcond := HPx.out.pls hb8 HL0.out HLP.out)
              | (go_at_call 11; (with_reducible refine (HCP.out _ HPx.out.st.below).mono ?_); rintro e wy ⟨rfl, hb⟩; have HPx := hide (HPx.out.at hb); have hcond := HPx.out.pls hb8 HL0.out HLP.out)
              | (go_at_call 22; (with_reducible refine (HRP.out _ HPx.out.st.below).mono ?_); rintro e wy ⟨rfl, hb⟩; have HPx := hide (HPx.out.at hb); have hcond := HPx.out.pls hb8 HL0.out HLP.out)
              | (refine wpC_nil ?_)   | ((with_reducible refine cond_mk (by assumption) ?_); (try simp only [Act.put, List.setIfInBounds_toArray, List.set_cons_zero, List.set_cons_succ, List.getElem_toArray, List.getElem_cons_succ, List.getElem_cons_zero]))   | (refine wpC_pure (v := ?_) rfl rfl ?_ ?_; rotate_left; (intro wx; go_simp; try go_bits) <;> (with_reducible rfl); (try simp only [Act.put, List.setIfInBounds_toArray, List.set_cons_zero, List.set_cons_succ, List.getElem_toArray, List.getElem_cons_succ, List.getElem_cons_zero]))   | (refine wpC_read (v := ?_) rfl rfl ?_ ?_; rotate_left; (intro wx hx; obtain ⟨hx0, hx1, hx2, hx3, hx4, hx5, hx6, hx7, hx8⟩ := hx; go_simp; try go_bits) <;> (with_reducible rfl); (try simp only [Act.put, List.setIfInBounds_toArray, List.set_cons_zero, List.set_cons_succ, List.getElem_toArray, List.getElem_cons_succ, List.getElem_cons_zero]))   | (refine wpC_call rfl rfl ?_; intro K hK)   | (refine wpC_late rfl rfl ?_; intro K hK)   | (refine wpC_any rfl rfl ?_; intro K hK)   | (refine wpC_skip rfl rfl ?_; (try simp only [Act.put, List.setIfInBounds_toArray, List.set_cons_zero, List.set_cons_succ, List.getElem_toArray, List.getElem_cons_succ, List.getElem_cons_zero])))
            go_roundw
            case rel => exact ⟨k + 1, _, _, _, _, _, _, by have := HL.out; omega, by go_num, hide HPx.out.drop⟩
            case measure => (have := HL.out); (simp [intOf]) <;> omega
          · go_wp2_with (first
              | (go_at_call 15; (with_reducible refine (HLN.out _ _ _ _ _ _ _ HPx.out).mono ?_); rintro e w6 ⟨rfl, rfl⟩)
              | (go_at_call 11; (with_reducible refine (HC0.out _ HPx.out.st.below).mono ?_); rintro e wy ⟨rfl, hb⟩; have HPx := hide (HPx.out.at hb); have hcond := HPx.out.pls hb8 HL0.out HLP.out)
              | (go_at_call 22; (with_reducible refine (HR0.out _ HPx.out.st.below).mono ?_); rintro e wy ⟨rfl, hb⟩; have HPx := hide (HPx.out.at hb); have hcond := HPx.out.pls hb8 HL0.out HLP.out)
              | (go_at_call 11; (with_reducible refine (HCP.out _ HPx.out.st.below).mono ?_); rintro e wy ⟨rfl, hb⟩; have HPx := hide (HPx.out.at hb); have hcond := HPx.out.pls hb8 HL0.out HLP.out)
              | (go_at_call 22; (with_reducible refine (HRP.out _ HPx.out.st.below).mono ?_); rintro e wy ⟨rfl, hb⟩; have HPx := hide (HPx.out.at hb); have hcond := HPx.out.pls hb8 HL0.out HLP.out)
              | (refine wpC_nil ?_)   | ((with_reducible refine cond_mk (by assumption) ?_); (try simp only [Act.put, List.setIfInBounds_toArray, List.set_cons_zero, List.set_cons_succ, List.getElem_toArray, List.getElem_cons_succ, List.getElem_cons_zero]))   | (refine wpC_pure (v := ?_) rfl rfl ?_ ?_; rotate_left; (intro wx; go_simp; try go_bits) <;> (with_reducible rfl); (try simp only [Act.put, List.setIfInBounds_toArray, List.set_cons_zero, List.set_cons_succ, List.getElem_toArray, List.getElem_cons_succ, List.getElem_cons_zero]))   | (refine wpC_read (v := ?_) rfl rfl ?_ ?_; rotate_left; (intro wx hx; obtain ⟨hx0, hx1, hx2, hx3, hx4, hx5, hx6, hx7, hx8⟩ := hx; go_simp; try go_bits) <;> (with_reducible rfl); (try simp only [Act.put, List.setIfInBounds_toArray, List.set_cons_zero, List.set_cons_succ, List.getElem_toArray, List.getElem_cons_succ, List.getElem_cons_zero]))   | (refine wpC_call rfl rfl ?_; intro K hK)   | (refine wpC_late rfl rfl ?_; intro K hK)   | (refine wpC_any rfl rfl ?_; intro K hK)   | (refine wpC_skip rfl rfl ?_; (try simp only [Act.put, List.setIfInBounds_toArray, List.set_cons_zero, List.set_cons_succ, List.getElem_toArray, List.getElem_cons_succ, List.getElem_cons_zero])))
            go_roundw
            case rel => exact ⟨k + 1, _, _, _, _, _, _, by have := HL.out; omega, by go_num, hide HPx.out.drop⟩
            case measure => (have := HL.out); (simp [intOf]) <;> omega
        · have di : decide ((0 : Int) < (k : Int)) = false := by simp; omega
          have di' : decide (0 < k) = false := by simp; omega
          clear kl k0 k1 hlt hk0
          go_wp2_with fail
          have HPd := hide (HPA.out.at (Below.refl _ _).drew)
          have hcond1 := HPd.out.pls hb8 HL0.out HLP.out
          refine wp_region_C (.op 0 1 (.op 1 0 (.op 3 1 (.op 4 0 (.op 2 2 (.op 5 2 (.op 6 1 (.op 7 1 (.op 8 1 (.op 9 0 (.op 11 1 (.op 12 0 (.op 10 2 (.op 13 2 (.op 14 1 (.op 15 1 (.op 16 1 (.op 17 1 (.op 19 1 (.op 20 1 (.op 21 1 (.two 18 22 (.op 22 2 (.op 23 1 (.op 24 1 (.op 25 1 (.op 26 1 (.op 27 0 (.op 28 1 (.op 29 1 (.op 30 0 (.op 32 0 (.op 33 1 (.op 34 1 (.op 35 0 (.op 31 2 (.op 36 2 (.op 37 1 (.op 38 1 (.op 39 1 (.op 40 1 (.op 41 1 (.op 42 1 (.op 43 1 (.op 44 1 (.op 45 1 (.op 46 1 (.op 47 0 (.op 48 0 (.op 50 1 (.op 51 1 (.op 52 1 (.op 53 1 (.op 54 0 (.op 55 0 (.op 49 2 (.op 56 2 (.op 57 1 (.op 58 1 (.op 59 1 (.nil))))))))))))))))))))))))))))))))))))))) (.op 23 1 (.op 18 2 (.op 24 1 (.op 25 1 (.op 26 1 (.op 27 0 (.op 28 1 (.op 29 1 (.op 30 0 (.op 32 0 (.op 33 1 (.op 34 1 (.op 35 0 (.op 31 2 (.op 36 2 (.op 37 1 (.op 38 1 (.op 39 1 (.op 40 1 (.op 41 1 (.op 42 1 (.op 43 1 (.op 44 1 (.op 45 1 (.op 46 1 (.op 47 0 (.op 48 0 (.op 50 1 (.op 51 1 (.op 52 1 (.op 53 1 (.op 54 0 (.op 55 0 (.op 49 2 (.op 56 2 (.op 57 1 (.op 58 1 (.op 59 1 (.nil))))))))))))))))))))))))))))))))))))))))))))))))))))))))))))) (PlS wr.heap.size b o (k - 1) f l0 lp) hcond1 (by kernel_rfl) (by kernel_rfl) (fun _ _ _ _ h => h) ?_
          go_wp2_with (first
            | (go_at_call 17; (with_reducible refine (HHS.out _ HPd.out).mono ?_); rintro e w2 ⟨rfl, hb⟩; have HP2 := hide (HPd.out.at hb); have hcond2 := HP2.out.pls hb8 HL0.out HLP.out; clear hb)
            | (go_at_call 19; (with_reducible refine (HHR.out _ HP2.out).mono ?_); rintro e w3 ⟨rfl, hb⟩; have HP3 := hide (HP2.out.at hb); have hcond3 := HP3.out.pls hb8 HL0.out HLP.out; clear hb)
            | (go_at_call 20; (with_reducible refine (HAD.out _ HP3.out).mono ?_); rintro e w4 ⟨A', c', S', rfl, hq⟩; have HP4 := hide hq; have hcond4 := hq.pls hb8 HL0.out HLP.out; clear hq)
            | (go_at_call 21; (with_reducible refine (HRD.out _ A' c' S' HP4.out).mono ?_); rintro e w5 ⟨B', d', X', rfl, hq⟩; have HPx := hide hq; have hcond := hq.pls hb8 HL0.out HLP.out; have q5 := HCQ.out _ _ _ _ _ _ _ hq; clear hq)
            | (refine wpC_nil ?_)   | ((with_reducible refine cond_mk (by assumption) ?_); (try simp only [Act.put, List.setIfInBounds_toArray, List.set_cons_zero, List.set_cons_succ, List.getElem_toArray, List.getElem_cons_succ, List.getElem_cons_zero]))   | (refine wpC_pure (v := ?_) rfl rfl ?_ ?_; rotate_left; (intro wx; go_simp; try go_bits) <;> (with_reducible rfl); (try simp only [Act.put, List.setIfInBounds_toArray, List.set_cons_zero, List.set_cons_succ, List.getElem_toArray, List.getElem_cons_succ, List.getElem_cons_zero]))   | (refine wpC_read (v := ?_) rfl rfl ?_ ?_; rotate_left; (intro wx hx; obtain ⟨hx0, hx1, hx2, hx3, hx4, hx5, hx6, hx7, hx8⟩ := hx; go_simp; try go_bits) <;> (with_reducible rfl); (try simp only [Act.put, List.setIfInBounds_toArray, List.set_cons_zero, List.set_cons_succ, List.getElem_toArray, List.getElem_cons_succ, List.getElem_cons_zero]))   | (refine wpC_call rfl rfl ?_; intro K hK)   | (refine wpC_late rfl rfl ?_; intro K hK)   | (refine wpC_any rfl rfl ?_; intro K hK)   | (refine wpC_skip rfl rfl ?_; (try simp only [Act.put, List.setIfInBounds_toArray, List.set_cons_zero, List.set_cons_succ, List.getElem_toArray, List.getElem_cons_succ, List.getElem_cons_zero])))
          refine wpC_two ?_ ?_
          · go_wp2_with (first
              | (go_at_call 15; (with_reducible refine (HLN.out _ _ _ _ _ _ _ HPx.out).mono ?_); rintro e w6 ⟨rfl, rfl⟩)
              | (go_at_call 11; (with_reducible refine (HC0.out _ HPx.out.st.below).mono ?_); rintro e wy ⟨rfl, hb⟩; have HPx := hide (HPx.out.at hb); have hcond := HPx.out.pls hb8 HL0.out HLP.out)
              | (go_at_call 22; (with_reducible refine (HR0.out _ HPx.out.st.below).mono ?_); rintro e wy ⟨rfl, hb⟩; have HPx := hide (HPx.out.at hb); have hcond := HPx.out.pls hb8 HL0.out HLP.out)
              | (refine wpC_nil ?_)   | ((with_reducible refine cond_mk (by assumption) ?_); (try simp only [Act.put, List.setIfInBounds_toArray, List.set_cons_zero, List.set_cons_succ, List.getElem_toArray, List.getElem_cons_succ, List.getElem_cons_zero]))   | (refine wpC_pure (v := ?_) rfl rfl ?_ ?_; rotate_left; (intro wx; go_simp; try go_bits) <;> (with_reducible rfl); (try simp only [Act.put, List.setIfInBounds_toArray, List.set_cons_zero, List.set_cons_succ, List.getElem_toArray, List.getElem_cons_succ, List.getElem_cons_zero]))   | (refine wpC_read (v := ?_) rfl rfl ?_ ?_; rotate_left; (intro wx hx; obtain ⟨hx0, hx1, hx2, hx3, hx4, hx5, hx6, hx7, hx8⟩ := hx; go_simp; try go_bits) <;> (with_reducible rfl); (try simp only [Act.put, List.setIfInBounds_toArray, List.set_cons_zero, List.set_cons_succ, List.getElem_toArray, List.getElem_cons_succ, List.getElem_cons_zero]))   | (refine wpC_call rfl rfl ?_; intro K hK)   | (refine wpC_late rfl rfl ?_; intro K hK)   | (refine wpC_any rfl rfl ?_; intro K hK)   | (refine wpC_skip rfl rfl ?_; (try simp only [Act.put, List.setIfInBounds_toArray, List.set_cons_zero, List.set_cons_succ, List.getElem_toArray, List.getElem_cons_succ, List.getElem_cons_zero])))
            go_roundw
            case rel => exact ⟨k + 1, _, _, _, _, _, _, by have := HL.out; omega, by go_num, hide HPx.out.drop⟩
            case measure => (have := HL.out); (simp [intOf]) <;> omega
          · go_wp2_with (first
              | (go_at_call 15; (with_reducible refine (HLN.out _ _ _ _ _ _ _ HPx.out).mono ?_); rintro e w6 ⟨rfl, rfl⟩)
              | (go_at_call 11; (with_reducible refine (HC0.out _ HPx.out.st.below).mono ?_); rintro e wy ⟨rfl, hb⟩; have HPx := hide (HPx.out.at hb); have hcond := HPx.out.pls hb8 HL0.out HLP.out)
              | (go_at_call 22; (with_reducible refine (HR0.out _ HPx.out.st.below).mono ?_); rintro e wy ⟨rfl, hb⟩; have HPx := hide (HPx.out.at hb); have hcond := HPx.out.pls hb8 HL0.out HLP.out)
              | (refine wpC_nil ?_)   | ((with_reducible refine cond_mk (by assumption) ?_); (try simp only [Act.put, List.setIfInBounds_toArray, List.set_cons_zero, List.set_cons_succ, List.getElem_toArray, List.getElem_cons_succ, List.getElem_cons_zero]))   | (refine wpC_pure (v := ?_) rfl rfl ?_ ?_; rotate_left; (intro wx; go_simp; try go_bits) <;> (with_reducible rfl); (try simp only [Act.put, List.setIfInBounds_toArray, List.set_cons_zero, List.set_cons_succ, List.getElem_toArray, List.getElem_cons_succ, List.getElem_cons_zero]))   | (refine wpC_read (v := ?_) rfl rfl ?_ ?_; rotate_left; (intro wx hx; obtain ⟨hx0, hx1, hx2, hx3, hx4, hx5, hx6, hx7, hx8⟩ := hx; go_simp; try go_bits) <;> (with_reducible rfl); (try simp only [Act.put, List.setIfInBounds_toArray, List.set_cons_zero, List.set_cons_succ, List.getElem_toArray, List.getElem_cons_succ, List.getElem_cons_zero]))   | (refine wpC_call rfl rfl ?_; intro K hK)   | (refine wpC_late rfl rfl ?_; intro K hK)   | (refine wpC_any rfl rfl ?_; intro K hK)   | (refine wpC_skip rfl rfl ?_; (try simp only [Act.put, List.setIfInBounds_toArray, List.set_cons_zero, List.set_cons_succ, List.getElem_toArray, List.getElem_cons_succ, List.getElem_cons_zero])))
            go_roundw
            case rel => exact ⟨k + 1, _, _, _, _, _, _, by have := HL.out; omega, by go_num, hide HPx.out.drop⟩
            case measure => (have := HL.out); (simp [intOf]) <;> omega
      · obtain rfl : k = n := by omega
        have hd : decide ((k : Int) < (k : Int)) = false := by simp
        have hd' : decide (k < k) = false := by simp
        have hk6 : k ≤ 600 := h600
        have HPd := hide (HP.out.at (Below.refl _ _).drew)
        have HAL := hide (fun W (h : PlI w1 l w1.heap.size (w1.heap.size + 1) k k W A c S B d X []) => h.all hk6)
        have HNM := hide (fun W (h : PlI w1 l w1.heap.size (w1.heap.size + 1) k k W A c S B d X []) => h.named hk6 s nn)
        have HNR := hide (fun W (h : PlI w1 l w1.heap.size (w1.heap.size + 1) k k W A c S B d X []) => h.namedR hk6 s nn)
        have HSF := hide (fun W va vb (xs ys z : List Fc) (ha : xs.map shF = z.map shF) (hb : ys.map shF = z.map shF) (h1 : xs.length ≤ 600) (h2 : ys.length ≤ 600) hva hvb => by have h := sameFacts_any va vb xs ys W hva hvb (by omega) (by omega); rw [sameF_map ha hb] at h; exact h)
        have qc := HPd.out.st.cell 2 rfl 0
        have HXL := hide (show X.length ≤ 600 by have := HP.out.lx; omega)
        have HXM := hide (HP.out.xm)
        go_wp2_with fail
        refine wp_region_T [(0, 1), (2, 1), (3, 1), (4, 1), (5, 0), (1, 2), (6, 2), (7, 1), (8, 1), (9, 1), (10, 1), (12, 1), (13, 1), (14, 1), (11, 2), (15, 2), (16, 2), (17, 1), (18, 1), (19, 2), (20, 1), (21, 1)] (by kernel_rfl) (by kernel_rfl) (fun _ _ _ _ h => h) ?_
        generalize wr.drew = wd at HPd qc ⊢
        go_wp2_with (first
          | (go_at_call 13; (with_reducible refine (HAL.out _ HPd.out).mono ?_); rintro e w3 ⟨B1, l1, rfl, hsh, hl6, hvx, hb⟩; have HP3 := hide (HPd.out.at hb); have HSM := hide (HSF.out w3 _ _ l1 X _ hsh (sh_self HXM.out) hl6 HXL.out hvx HP3.out.row); clear hsh hl6 hvx)
          | (go_at_call 14; (with_reducible refine (HSM.out).mono ?_); rintro e w4 ⟨rfl, hb⟩; have HP4 := hide (HP3.out.at hb))
          | (go_at_call 23; (with_reducible refine (HNM.out _ HP4.out).mono ?_); rintro e w5 ⟨B2, l2, rfl, hsh, hl6, hvx, hb⟩; have HP5 := hide (HP4.out.at hb); have HV2 := hide hvx; have HM2 := hide hsh; have HS2 := hide hl6; clear hsh hl6 hvx)
          | (go_at_call 24; (with_reducible refine (HNR.out _ HP5.out).mono ?_); rintro e w6 ⟨B3, d3, l3, rfl, hsh, hl6, hvx, hb⟩; have HP6 := hide (HP5.out.at hb); have HSN := hide (HSF.out w6 _ _ l2 l3 _ HM2.out hsh HS2.out hl6 (HV2.out.on hb) hvx); clear hsh hl6 hvx)
          | (go_at_call 14; (with_reducible refine (HSN.out).mono ?_); rintro e w7 ⟨rfl, hb⟩; have HP7 := hide (HP6.out.at hb))
          | (go_at_call 10; (with_reducible refine (HAW.out _).mono ?_); rintro e w8 ⟨rfl, hb⟩; have HB9 := hide (HB1.out.trans ((HP7.out.at hb).st.below.mono HB1.out.size)))
          | (refine wpT_nil ?_)   | ((with_reducible refine fromT_refl ?_); (try simp only [Act.put, List.setIfInBounds_toArray, List.set_cons_zero, List.set_cons_succ, List.getElem_toArray, List.getElem_cons_succ, List.getElem_cons_zero]))   | ((with_reducible refine fromT_mk (by assumption) ?_); (try simp only [Act.put, List.setIfInBounds_toArray, List.set_cons_zero, List.set_cons_succ, List.getElem_toArray, List.getElem_cons_succ, List.getElem_cons_zero]))   | (refine wpT_pure (v := ?_) rfl rfl ?_ ?_; rotate_left; (intro wx; go_simp; try go_bits) <;> (with_reducible rfl); (try simp only [Act.put, List.setIfInBounds_toArray, List.set_cons_zero, List.set_cons_succ, List.getElem_toArray, List.getElem_cons_succ, List.getElem_cons_zero]))   | (refine wpT_load (v := ?_) rfl rfl rfl ?_ ?_; rotate_left; (go_simp; try go_bits) <;> (with_reducible rfl); (try simp only [Act.put, List.setIfInBounds_toArray, List.set_cons_zero, List.set_cons_succ, List.getElem_toArray, List.getElem_cons_succ, List.getElem_cons_zero]))   | (refine wpT_read (v := ?_) rfl rfl ?_ ?_; rotate_left; (intro wx hx; go_simp; try go_bits) <;> (with_reducible rfl); (try simp only [Act.put, List.setIfInBounds_toArray, List.set_cons_zero, List.set_cons_succ, List.getElem_toArray, List.getElem_cons_succ, List.getElem_cons_zero]))   | (refine wpT_call rfl rfl ?_; intro K hK)   | (refine wpT_late rfl rfl ?_; intro K hK)   | (refine wpT_any rfl rfl ?_; intro K hK)   | (refine wpT_skip rfl rfl ?_; (try simp only [Act.put, List.setIfInBounds_toArray, List.set_cons_zero, List.set_cons_succ, List.getElem_toArray, List.getElem_cons_succ, List.getElem_cons_zero])))
        go_ret
        exact ⟨rfl, HB9.out⟩
end Go.Proofs.Ythpioncehigoaaa
