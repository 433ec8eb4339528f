/-
  Layer 18: the page's store: may a fact be there; where it is, or belongs.
-/
import Derived.Test.YthpioncehigoaaaYk
set_option linter.unusedVariables false
namespace Go.Proofs.Ythpioncehigoaaa
open Go.RowKit
set_option linter.unusedSimpArgs false

set_option maxRecDepth 100000 in
set_option maxHeartbeats 1600000 in
theorem mayR18_any (f : Fc) (w : World) (hf : FcOK w f) : Calls Try.prog 16 #[f.val] w fun e w' => e = .returned (.bool (okF f)) ∧ Below w.heap.size w w' := by
  have HS0 := hide ((St.init w NoB).alloc #[.string (strOf f.name), .slice f.A f.ts.length f.c, .int .u32 f.o] 27)
  have HA := hide hf.ts.1
  have HOK := hide hf.ts.2
  have HN := hide (fun W => nameR_any f.name hf.bd.1 W)
  have hb := hf.bd.2.1
  have HV : Hid (okF f = (decide (f.o ≠ 0) && (nameT f.name && (decide (f.ts.length ≤ 8) && f.ts.all fixT)))) := hide (by unfold okF; rfl)
  obtain ⟨b2, h2⟩ : ∃ b, b = nameT f.name := ⟨_, rfl⟩
  rw [← h2] at HN HV
  unfold Fc.val Fc.row at *
  obtain ⟨n, hn⟩ : ∃ n, n = f.ts.length := ⟨_, rfl⟩
  rw [← hn] at HS0 HA hb HV ⊢
  have HNN := hide hn
  obtain ⟨b1, h1⟩ : ∃ b, decide (f.o ≠ 0) = b := ⟨_, rfl⟩
  have q1 : (f.o != 0) = b1 := by rw [← h1, Bool.eq_iff_iff]; simp
  obtain ⟨b3, h3⟩ : ∃ b, decide (n ≤ 8) = b := ⟨_, rfl⟩
  have q3 : decide ((n : Int) ≤ 8) = b3 := by rw [← h3]; exact decide_eq_decide.2 (by omega)
  rw [h1, h3] at HV
  have a1 := HS0.out.cell 0 rfl 1
  clear hf hn h1 h2
  go_enter Try.func16, Try.ntmps16
  go_wp2_with fail
  go_loopw [9] (fun i wr => ∃ k : Nat, k ≤ n ∧ i = .int .i64 (k : Int) ∧ Hid ((f.ts.take k).all fixT = true) ∧ Hid (St w NoB wr [.cells w.heap.size #[.string (strOf f.name), .slice f.A n f.c, .int .u32 f.o] 27])) (fun i _ => (n - intOf i).toNat)
  case atStart => exact ⟨0, by omega, rfl, hide (by simp), HS0⟩
  case round =>
    clear HS0 a1
    obtain ⟨k, hk, rfl, HX, HS⟩ := hrel
    by_cases hlt : k < n
    · have d : decide ((k : Int) < (n : Int)) = true := by simp; omega
      have d' : decide (k < n) = true := by simp; omega
      have kn : (k : Int) < (n : Int) := by omega
      have kn' : k < n := hlt
      have kl : k < f.ts.length := by have := HNN.out; omega
      have hlk : f.ts[k]? = some f.ts[k] := List.getElem?_eq_getElem kl
      obtain ⟨b, o, hAB, hb8, hc⟩ := tm_at HA.out hlk
      obtain ⟨c0, c1, c2, c3⟩ := hc _ HS.out.below
      have HOX := hide (HOK.out f.ts[k] (List.getElem_mem kl))
      have HLK := hide hlk
      generalize f.ts[k] = x at c0 c1 c2 c3 HOX HLK
      have hbr : b < wr.heap.size := by have := HS.out.below.size; omega
      have HS1 := hide (HS.out.alloc #[.int .i64 x.k, .int .i64 x.n, .string (strOf x.s), .slice x.A x.l.length x.c] 62)
      have HFX := hide (fun W (h : Below w.heap.size w W) => fixedR_any HOX.out W h)
      obtain ⟨fx, hfx⟩ : ∃ b, b = fixT x := ⟨_, rfl⟩
      rw [← hfx] at HFX
      have HFV := hide hfx
      have HAB := hide hAB
      rw [HAB.out] at HS1 HS ⊢
      clear hc hlk kl hlt hfx hAB
      unfold Tm.val Tm.row at HFX
      unfold Tm.row at c3
      cases fx with
      | true =>
        go_wp2_with (go_at_call 34; (with_reducible refine (HFX.out _ HS1.out.below).mono ?_); rintro e w2 ⟨rfl, hb2⟩; have HS2 := hide (HS1.out.call hb2).tail)
        go_roundw
        case rel => exact ⟨k + 1, by omega, by go_num, hide (by rw [List.take_add_one, HLK.out, List.all_append, HX.out]; show (true && (fixT x && true)) = true; rw [← HFV.out]; rfl), (by first | exact HS2 | (rw [HAB.out]; exact HS2))⟩
        case measure => (simp [intOf]) <;> omega
      | false =>
        have hall : f.ts.all fixT = false := by
          rw [List.all_eq_false]
          exact ⟨x, List.mem_of_getElem? HLK.out, by rw [← HFV.out]; exact Bool.false_ne_true⟩
        rw [hall, Bool.and_false, Bool.and_false, Bool.and_false] at HV
        clear hall
        go_wp2_with (go_at_call 34; (with_reducible refine (HFX.out _ HS1.out.below).mono ?_); rintro e w2 ⟨rfl, hb2⟩; have HS2 := hide (HS1.out.call hb2))
        go_ret
        rw [HV.out]
        exact ⟨rfl, HS2.out.below⟩
    · obtain rfl : k = n := by omega
      have d : decide ((k : Int) < (k : Int)) = false := by simp
      have d' : decide (k < k) = false := by simp
      have hall : f.ts.all fixT = true := by
        have h1 := HX.out
        rwa [List.take_of_length_le (by have := HNN.out; omega)] at h1
      rw [hall, Bool.and_true] at HV
      have a0 := HS.out.cell 0 rfl 0
      have a1 := HS.out.cell 0 rfl 1
      have a2 := HS.out.cell 0 rfl 2
      clear hall
      cases b1 <;> cases b2 <;> cases b3
      all_goals
        go_wp2_with (go_at_call 35; (with_reducible refine (HN.out _).mono ?_); rintro e w' ⟨rfl, rfl⟩)
        go_ret
        rw [HV.out]
        exact ⟨rfl, HS.out.below⟩
set_option maxRecDepth 100000 in
set_option maxHeartbeats 1600000 in
theorem place_any (q : Nat) (B : Option Addr) (d : Nat) (X : List Fc) (f : Fc) (w : World) (hq : w.cell? ⟨q, 0, none⟩ = some (.slice B X.length d)) (hv : FcsAt w (.slice B X.length d) X) (hf : FcOK w f) (h6 : X.length ≤ 1000000) :
    Calls Try.prog 37 #[.pointer (some ⟨q, 0, none⟩), f.val] w fun e w' => e = .returned (.tuple #[.int .i64 (plc (fun x => cmpF x f) X : Int), .bool (fndF (fun x => cmpF x f) X (plc (fun x => cmpF x f) X))]) ∧ Below w.heap.size w w' := by
  have HS0 := hide ((St.init w NoB).alloc #[.string (strOf f.name), .slice f.A f.ts.length f.c, .int .u32 f.o] 27)
  have HA := hide hv.1
  have HOK := hide hv.2
  have HF := hide hf
  have hqb := World.block_lt_of_cell? _ _ hq
  have hqb : q < w.heap.size := hqb
  have HQ := hide (fun W (h : Below w.heap.size w W) => (h.cell (p := ⟨q, 0, none⟩) hqb).trans hq)
  have HLO := hide (fun i x h => plc_lo (fun x => cmpF x f) X i x h)
  have HAT := hide (fun x h => plc_at (fun x => cmpF x f) X x h)
  have hjn := plc_le (fun x => cmpF x f) X
  obtain ⟨j, hj⟩ : ∃ j, j = plc (fun x => cmpF x f) X := ⟨_, rfl⟩
  rw [← hj] at HLO HAT hjn ⊢
  obtain ⟨n, hn⟩ : ∃ n, n = X.length := ⟨_, rfl⟩
  rw [← hn] at HA HQ h6 hjn
  have HN := hide hn
  clear hq hv hf hj hn
  unfold Fc.val Fc.row at *
  go_enter Try.func37, Try.ntmps37
  go_wp2_with fail
  go_loopw [6] (fun i wr => ∃ k : Nat, k ≤ j ∧ i = .int .i64 (k : Int) ∧ Hid (St w NoB wr [.cells w.heap.size #[.string (strOf f.name), .slice f.A f.ts.length f.c, .int .u32 f.o] 27])) (fun i _ => (j - intOf i).toNat)
  case atStart => exact ⟨0, by omega, rfl, HS0⟩
  case round =>
    clear HS0
    obtain ⟨k, hk, rfl, HS⟩ := hrel
    have HSd := hide HS.out.drew
    have q0 := HQ.out _ HSd.out.below
    have f0 := HSd.out.cell 0 rfl 0
    have f1 := HSd.out.cell 0 rfl 1
    have f2 := HSd.out.cell 0 rfl 2
    by_cases hkn : k < n
    · have dl : decide ((k : Int) < (n : Int)) = true := by simp; omega
      have dl' : decide (k < n) = true := by simp; omega
      have hin : (k : Int) < (n : Int) := by omega
      have ml : k < X.length := by have := HN.out; omega
      have hlk : X[k]? = some X[k] := List.getElem?_eq_getElem ml
      obtain ⟨b, o, hAB, hb8, c0, c1, c2⟩ := fc_at (HA.out.st HSd.out) hlk
      have HOX := hide (HOK.out X[k] (List.getElem_mem ml))
      have HLK := hide hlk
      generalize X[k] = x at c0 c1 c2 HOX HLK
      subst hAB
      have HC := hide (fun W (h : Below w.heap.size w W) => cmpFr_any x f W (HOX.out.on h) (HF.out.on h))
      obtain ⟨z, hz⟩ : ∃ z, z = cmpF x f := ⟨_, rfl⟩
      rw [← hz] at HC
      have HZ := hide hz
      clear hlk ml hz
      unfold Fc.val Fc.row at HC
      unfold Fc.row at c1
      by_cases hlt : k < j
      · have HL := hide hlt
        have dz : decide (z < 0) = true := decide_eq_true (by rw [HZ.out]; exact HLO.out k x HLK.out hlt)
        go_wp2_with fail
        refine wp_region_T [(0, 1), (1, 1), (2, 1), (3, 1), (4, 0), (5, 1), (6, 1), (7, 1), (8, 1), (9, 1), (10, 1), (11, 0), (12, 1), (13, 1), (14, 0), (15, 0), (16, 2), (17, 1), (18, 1)] (by kernel_rfl) (by kernel_rfl) (fun _ _ _ _ h => h) ?_
        go_wp2_with (first
          | (go_at_call 22; (with_reducible refine (HC.out _ HSd.out.below).mono ?_); rintro e w2 ⟨rfl, hb⟩; have HS2 := hide (HSd.out.call hb))
          | (refine wpT_nil ?_)   | ((with_reducible refine fromT_refl ?_); (try simp only [Act.put, nq1, nq2, nq3, nq4, nq5, nq6]))   | ((with_reducible refine fromT_mk (by assumption) ?_); (try simp only [Act.put, nq1, nq2, nq3, nq4, nq5, nq6]))   | (refine wpT_pure (v := ?_) rfl rfl ?_ ?_; rotate_left; (intro wx; go_simp; try go_bits) <;> (with_reducible rfl); (try simp only [Act.put, nq1, nq2, nq3, nq4, nq5, nq6]))   | (refine wpT_load (v := ?_) rfl rfl rfl ?_ ?_; rotate_left; (go_simp; try go_bits) <;> (with_reducible rfl); (try simp only [Act.put, nq1, nq2, nq3, nq4, nq5, nq6]))   | (refine wpT_read (v := ?_) rfl rfl ?_ ?_; rotate_left; (intro wx hx; go_simp; try go_bits) <;> (with_reducible rfl); (try simp only [Act.put, nq1, nq2, nq3, nq4, nq5, nq6]))   | (refine wpT_call rfl rfl ?_; intro K hK)   | (refine wpT_late rfl rfl ?_; intro K hK)   | (refine wpT_any rfl rfl ?_; intro K hK)   | (refine wpT_skip rfl rfl ?_; (try simp only [Act.put, nq1, nq2, nq3, nq4, nq5, nq6])))
        go_roundw
        case rel => exact ⟨k + 1, by omega, by go_num, HS2⟩
        case measure => (simp [intOf]) <;> omega
      · obtain rfl : k = j := by omega
        have dz : decide (z < 0) = false := decide_eq_false (by rw [HZ.out]; exact Int.not_lt.2 (HAT.out x HLK.out))
        have HV : Hid (fndF (fun x => cmpF x f) X k = decide (z = 0)) := hide (by unfold fndF; rw [HLK.out, HZ.out])
        obtain ⟨zb, hzb⟩ : ∃ b, decide (z = 0) = b := ⟨_, rfl⟩
        have qz : (z == 0) = zb := by rw [← hzb, Bool.eq_iff_iff]; simp
        rw [hzb] at HV
        clear hzb
        go_wp2_with fail
        refine wp_region_T [(0, 1), (1, 1), (2, 1), (3, 1), (4, 0), (5, 1), (6, 1), (7, 1), (8, 1), (9, 1), (10, 1), (11, 0), (12, 1), (13, 1), (14, 0), (15, 0), (16, 2), (17, 1), (18, 1)] (by kernel_rfl) (by kernel_rfl) (fun _ _ _ _ h => h) ?_
        go_wp2_with (first
          | (go_at_call 22; (with_reducible refine (HC.out _ HSd.out.below).mono ?_); rintro e w2 ⟨rfl, hb⟩; have HS2 := hide (HSd.out.call hb).drew; have HB2 := hide hb.drew)
          | (refine wpT_nil ?_)   | ((with_reducible refine fromT_refl ?_); (try simp only [Act.put, nq1, nq2, nq3, nq4, nq5, nq6]))   | ((with_reducible refine fromT_mk (by assumption) ?_); (try simp only [Act.put, nq1, nq2, nq3, nq4, nq5, nq6]))   | (refine wpT_pure (v := ?_) rfl rfl ?_ ?_; rotate_left; (intro wx; go_simp; try go_bits) <;> (with_reducible rfl); (try simp only [Act.put, nq1, nq2, nq3, nq4, nq5, nq6]))   | (refine wpT_load (v := ?_) rfl rfl rfl ?_ ?_; rotate_left; (go_simp; try go_bits) <;> (with_reducible rfl); (try simp only [Act.put, nq1, nq2, nq3, nq4, nq5, nq6]))   | (refine wpT_read (v := ?_) rfl rfl ?_ ?_; rotate_left; (intro wx hx; go_simp; try go_bits) <;> (with_reducible rfl); (try simp only [Act.put, nq1, nq2, nq3, nq4, nq5, nq6]))   | (refine wpT_call rfl rfl ?_; intro K hK)   | (refine wpT_late rfl rfl ?_; intro K hK)   | (refine wpT_any rfl rfl ?_; intro K hK)   | (refine wpT_skip rfl rfl ?_; (try simp only [Act.put, nq1, nq2, nq3, nq4, nq5, nq6])))
        clear q0 f0 f1 f2 c0 c1 c2
        have q0 := HQ.out _ HS2.out.below
        have f0 := HS2.out.cell 0 rfl 0
        have f1 := HS2.out.cell 0 rfl 1
        have f2 := HS2.out.cell 0 rfl 2
        obtain ⟨b', o', e', _, c0, c1, c2⟩ := fc_at (HA.out.st HS2.out) HLK.out
        injection e' with e'
        injection e' with e1' e2'
        subst e1' e2'
        unfold Fc.row at c1
        go_wp2_with fail
        refine wp_region_T [(0, 1), (1, 1), (2, 1), (3, 1), (4, 1), (5, 0), (6, 1), (7, 1), (8, 1), (9, 1), (10, 1), (11, 1), (12, 0), (13, 1), (14, 1), (15, 0), (16, 0), (17, 2), (18, 1), (19, 1), (20, 1), (21, 1)] (by kernel_rfl) (by kernel_rfl) (fun _ _ _ _ h => h) ?_
        go_wp2_with (first
          | (go_at_call 22; (with_reducible refine (HC.out _ HS2.out.below).mono ?_); rintro e w4 ⟨rfl, hb⟩; have HS4 := hide (HS2.out.call hb))
          | (refine wpT_nil ?_)   | ((with_reducible refine fromT_refl ?_); (try simp only [Act.put, nq1, nq2, nq3, nq4, nq5, nq6]))   | ((with_reducible refine fromT_mk (by assumption) ?_); (try simp only [Act.put, nq1, nq2, nq3, nq4, nq5, nq6]))   | (refine wpT_pure (v := ?_) rfl rfl ?_ ?_; rotate_left; (intro wx; go_simp; try go_bits) <;> (with_reducible rfl); (try simp only [Act.put, nq1, nq2, nq3, nq4, nq5, nq6]))   | (refine wpT_load (v := ?_) rfl rfl rfl ?_ ?_; rotate_left; (go_simp; try go_bits) <;> (with_reducible rfl); (try simp only [Act.put, nq1, nq2, nq3, nq4, nq5, nq6]))   | (refine wpT_read (v := ?_) rfl rfl ?_ ?_; rotate_left; (intro wx hx; go_simp; try go_bits) <;> (with_reducible rfl); (try simp only [Act.put, nq1, nq2, nq3, nq4, nq5, nq6]))   | (refine wpT_call rfl rfl ?_; intro K hK)   | (refine wpT_late rfl rfl ?_; intro K hK)   | (refine wpT_any rfl rfl ?_; intro K hK)   | (refine wpT_skip rfl rfl ?_; (try simp only [Act.put, nq1, nq2, nq3, nq4, nq5, nq6])))
        go_ret2
        rw [HV.out]
        exact ⟨rfl, HS4.out.below⟩
    · obtain rfl : k = n := by omega
      obtain rfl : k = j := by omega
      have dl : decide ((k : Int) < (k : Int)) = false := by simp
      have dl' : decide (k < k) = false := by simp
      have HV : Hid (fndF (fun x => cmpF x f) X k = false) := hide (by unfold fndF; rw [List.getElem?_eq_none (by have := HN.out; omega)])
      go_wp2_with fail
      refine wp_region_T [(0, 1), (1, 1), (2, 1), (3, 1), (4, 0), (5, 1), (6, 1), (7, 1), (8, 1), (9, 1), (10, 1), (11, 0), (12, 1), (13, 1), (14, 0), (15, 0), (16, 2), (17, 1), (18, 1)] (by kernel_rfl) (by kernel_rfl) (fun _ _ _ _ h => h) ?_
      go_wp2_with (first | (refine wpT_nil ?_)   | ((with_reducible refine fromT_refl ?_); (try simp only [Act.put, nq1, nq2, nq3, nq4, nq5, nq6]))   | ((with_reducible refine fromT_mk (by assumption) ?_); (try simp only [Act.put, nq1, nq2, nq3, nq4, nq5, nq6]))   | (refine wpT_pure (v := ?_) rfl rfl ?_ ?_; rotate_left; (intro wx; go_simp; try go_bits) <;> (with_reducible rfl); (try simp only [Act.put, nq1, nq2, nq3, nq4, nq5, nq6]))   | (refine wpT_load (v := ?_) rfl rfl rfl ?_ ?_; rotate_left; (go_simp; try go_bits) <;> (with_reducible rfl); (try simp only [Act.put, nq1, nq2, nq3, nq4, nq5, nq6]))   | (refine wpT_read (v := ?_) rfl rfl ?_ ?_; rotate_left; (intro wx hx; go_simp; try go_bits) <;> (with_reducible rfl); (try simp only [Act.put, nq1, nq2, nq3, nq4, nq5, nq6]))   | (refine wpT_call rfl rfl ?_; intro K hK)   | (refine wpT_late rfl rfl ?_; intro K hK)   | (refine wpT_any rfl rfl ?_; intro K hK)   | (refine wpT_skip rfl rfl ?_; (try simp only [Act.put, nq1, nq2, nq3, nq4, nq5, nq6])))
      clear q0
      have HS2 := hide HSd.out.drew
      have q0 := HQ.out _ HS2.out.below
      go_wp2_with fail
      refine wp_region_T [(0, 1), (1, 1), (2, 1), (3, 1), (4, 1), (5, 0), (6, 1), (7, 1), (8, 1), (9, 1), (10, 1), (11, 1), (12, 0), (13, 1), (14, 1), (15, 0), (16, 0), (17, 2), (18, 1), (19, 1), (20, 1), (21, 1)] (by kernel_rfl) (by kernel_rfl) (fun _ _ _ _ h => h) ?_
      go_wp2_with (first | (refine wpT_nil ?_)   | ((with_reducible refine fromT_refl ?_); (try simp only [Act.put, nq1, nq2, nq3, nq4, nq5, nq6]))   | ((with_reducible refine fromT_mk (by assumption) ?_); (try simp only [Act.put, nq1, nq2, nq3, nq4, nq5, nq6]))   | (refine wpT_pure (v := ?_) rfl rfl ?_ ?_; rotate_left; (intro wx; go_simp; try go_bits) <;> (with_reducible rfl); (try simp only [Act.put, nq1, nq2, nq3, nq4, nq5, nq6]))   | (refine wpT_load (v := ?_) rfl rfl rfl ?_ ?_; rotate_left; (go_simp; try go_bits) <;> (with_reducible rfl); (try simp only [Act.put, nq1, nq2, nq3, nq4, nq5, nq6]))   | (refine wpT_read (v := ?_) rfl rfl ?_ ?_; rotate_left; (intro wx hx; go_simp; try go_bits) <;> (with_reducible rfl); (try simp only [Act.put, nq1, nq2, nq3, nq4, nq5, nq6]))   | (refine wpT_call rfl rfl ?_; intro K hK)   | (refine wpT_late rfl rfl ?_; intro K hK)   | (refine wpT_any rfl rfl ?_; intro K hK)   | (refine wpT_skip rfl rfl ?_; (try simp only [Act.put, nq1, nq2, nq3, nq4, nq5, nq6])))
      go_ret2
      rw [HV.out]
      exact ⟨rfl, HS2.out.below⟩
end Go.Proofs.Ythpioncehigoaaa
