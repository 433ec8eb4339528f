/-
  Layer 18: the page's order of facts.
-/
import Derived.Test.YthpioncehigoaaaYb
import Derived.Deep.DeepCutAuto
set_option linter.unusedVariables false
namespace Go.Proofs.Ythpioncehigoaaa
open Go.RowKit
set_option linter.unusedSimpArgs false

set_option maxRecDepth 100000 in
set_option maxHeartbeats 1600000 in
theorem cmpTs_any (va vb : Value) (xs ys : List Tm) (w : World) (ha : TmsAt w va xs) (hb : TmsAt w vb ys) (hm1 : xs.length ≤ 140737488351232) (hm2 : ys.length ≤ 140737488351232) :
    Calls Try.prog 45 #[va, vb] w fun e w' => e = .returned (.int .i64 (cmpL cmpA xs ys)) ∧ Below w.heap.size w w' := by
  obtain ⟨A, c, rfl, hra⟩ := Rd.isSlice ha.1
  obtain ⟨B, d, rfl, hrb⟩ := Rd.isSlice hb.1
  have HA := hide hra
  have HB := hide hrb
  have HOA := hide ha.2
  have HOB := hide hb.2
  clear ha hb hra hrb
  obtain ⟨n, hn⟩ : ∃ n, n = xs.length := ⟨_, rfl⟩
  obtain ⟨m, hm⟩ : ∃ m, m = ys.length := ⟨_, rfl⟩
  rw [← hn] at HA hm1 ⊢
  rw [← hm] at HB hm2 ⊢
  have HN := hide hn
  have HM := hide hm
  clear hn hm
  go_enter Try.func45, Try.ntmps45
  go_wp2_with fail
  go_loopw [10] (fun i wr => ∃ k : Nat, k ≤ n ∧ i = .int .i64 (k : Int) ∧ Hid (k ≤ m ∧ cmpL cmpA (xs.drop k) (ys.drop k) = cmpL cmpA xs ys) ∧ Hid (Below w.heap.size w wr)) (fun i _ => (n - intOf i).toNat)
  case atStart => exact ⟨0, by omega, rfl, hide ⟨by omega, rfl⟩, hide (Below.refl _ _)⟩
  case round =>
    obtain ⟨k, hk, rfl, HS, HW⟩ := hrel
    by_cases hlt : k < n
    · have kn : (k : Int) < (n : Int) := by omega
      have kn' : k < n := hlt
      have hd : decide ((k : Int) < (n : Int)) = true := by simp; omega
      have hd' : decide (k < n) = true := by simp; omega
      have k1 : k < xs.length := by have := HN.out; omega
      obtain ⟨b, o, rfl, hb8, hc⟩ := tm_at HA.out (List.getElem?_eq_getElem k1)
      obtain ⟨c0, c1, c2, c3⟩ := hc _ HW.out
      have hbr : b < wr.heap.size := by have := HW.out.size; omega
      by_cases hlm : k < m
      · have k2 : k < ys.length := by have := HM.out; omega
        obtain ⟨b', o', rfl, hb8', hc'⟩ := tm_at HB.out (List.getElem?_eq_getElem k2)
        have dm : decide ((m : Int) ≤ (k : Int)) = false := by simp; omega
        have dm' : decide (m ≤ k) = false := by simp; omega
        have km : (k : Int) < (m : Int) := by omega
        have hs := HS.out.2
        rw [List.drop_eq_getElem_cons k1, List.drop_eq_getElem_cons k2, cmpL, orI] at hs
        have HX := hide hs
        have HC := hide (fun W (h : Below w.heap.size w W) => compareR_any xs[k] ys[k] W ((HOA.out _ (List.getElem_mem k1)).on h) ((HOB.out _ (List.getElem_mem k2)).on h))
        clear hs hc
        generalize xs[k] = x at c0 c1 c2 c3 HX HC
        generalize ys[k] = y at hc' HX HC
        have hS1 := (St.init wr NoB).alloc #[.int .i64 x.k, .int .i64 x.n, .string (strOf x.s), .slice x.A x.l.length x.c] 62
        have HS1 := hide hS1.drew
        have HW1 := hide (HW.out.trans (hS1.drew.below.mono HW.out.size))
        obtain ⟨e0, e1, e2, e3⟩ := hc' _ HW1.out
        obtain ⟨z, hz⟩ : ∃ z, z = cmpA x y := ⟨_, rfl⟩
        rw [← hz] at HX HC
        have HL := hide hlt
        have HL2 := hide hlm
        clear hlt hlm k1 k2 hz hS1 hc'
        unfold Tm.row at c3 e3
        unfold Tm.val Tm.row at HC
        have x0 := HS1.out.cell 0 rfl 0
        have x1 := HS1.out.cell 0 rfl 1
        have x2 := HS1.out.cell 0 rfl 2
        have x3 := HS1.out.cell 0 rfl 3
        by_cases hz : z = 0
        · have dz : (z != 0) = false := by simp [hz]
          have HX2 : Hid (cmpL cmpA (xs.drop (k + 1)) (ys.drop (k + 1)) = cmpL cmpA xs ys) := hide (by have := HX.out; rw [if_pos hz] at this; exact this)
          clear hz
          go_wp2_with fail
          refine wp_region_T [(0, 0), (1, 1), (2, 1), (3, 1), (4, 0), (5, 2), (6, 1)] (by kernel_rfl) (by kernel_rfl) (fun _ _ _ _ h => h) ?_
          go_wp2_with (first
            | (go_at_call 67; (with_reducible refine (HC.out _ HW1.out).mono ?_); rintro e w2 ⟨rfl, hb⟩; have HW2 := hide (HW1.out.trans (hb.mono HW1.out.size)))
            | (refine wpT_nil ?_)   | ((with_reducible refine fromT_refl ?_); (try simp only [Act.put, nq1, nq2, nq3, nq4, nq5, nq6]))   | ((with_reducible refine fromT_mk (by assumption) ?_); (try simp only [Act.put, nq1, nq2, nq3, nq4, nq5, nq6]))   | (refine wpT_pure (v := ?_) rfl rfl ?_ ?_; rotate_left; (intro wx; go_simp; try go_bits) <;> (with_reducible rfl); (try simp only [Act.put, nq1, nq2, nq3, nq4, nq5, nq6]))   | (refine wpT_load (v := ?_) rfl rfl rfl ?_ ?_; rotate_left; (go_simp; try go_bits) <;> (with_reducible rfl); (try simp only [Act.put, nq1, nq2, nq3, nq4, nq5, nq6]))   | (refine wpT_read (v := ?_) rfl rfl ?_ ?_; rotate_left; (intro wx hx; go_simp; try go_bits) <;> (with_reducible rfl); (try simp only [Act.put, nq1, nq2, nq3, nq4, nq5, nq6]))   | (refine wpT_call rfl rfl ?_; intro K hK)   | (refine wpT_late rfl rfl ?_; intro K hK)   | (refine wpT_any rfl rfl ?_; intro K hK)   | (refine wpT_skip rfl rfl ?_; (try simp only [Act.put, nq1, nq2, nq3, nq4, nq5, nq6])))
          go_roundw
          case rel => exact ⟨k + 1, by have := HL.out; omega, by go_num, hide ⟨by have := HL2.out; omega, HX2.out⟩, HW2⟩
          case measure => (have := HL.out); (simp [intOf]) <;> omega
        · have dz : (z != 0) = true := by simp [hz]
          have HX2 : Hid (z = cmpL cmpA xs ys) := hide (by have := HX.out; rw [if_neg hz] at this; exact this)
          clear hz
          go_wp2_with fail
          refine wp_region_T [(0, 0), (1, 1), (2, 1), (3, 1), (4, 0), (5, 2), (6, 1)] (by kernel_rfl) (by kernel_rfl) (fun _ _ _ _ h => h) ?_
          go_wp2_with (first
            | (go_at_call 67; (with_reducible refine (HC.out _ HW1.out).mono ?_); rintro e w2 ⟨rfl, hb⟩; have HW2 := hide (HW1.out.trans (hb.mono HW1.out.size)))
            | (refine wpT_nil ?_)   | ((with_reducible refine fromT_refl ?_); (try simp only [Act.put, nq1, nq2, nq3, nq4, nq5, nq6]))   | ((with_reducible refine fromT_mk (by assumption) ?_); (try simp only [Act.put, nq1, nq2, nq3, nq4, nq5, nq6]))   | (refine wpT_pure (v := ?_) rfl rfl ?_ ?_; rotate_left; (intro wx; go_simp; try go_bits) <;> (with_reducible rfl); (try simp only [Act.put, nq1, nq2, nq3, nq4, nq5, nq6]))   | (refine wpT_load (v := ?_) rfl rfl rfl ?_ ?_; rotate_left; (go_simp; try go_bits) <;> (with_reducible rfl); (try simp only [Act.put, nq1, nq2, nq3, nq4, nq5, nq6]))   | (refine wpT_read (v := ?_) rfl rfl ?_ ?_; rotate_left; (intro wx hx; go_simp; try go_bits) <;> (with_reducible rfl); (try simp only [Act.put, nq1, nq2, nq3, nq4, nq5, nq6]))   | (refine wpT_call rfl rfl ?_; intro K hK)   | (refine wpT_late rfl rfl ?_; intro K hK)   | (refine wpT_any rfl rfl ?_; intro K hK)   | (refine wpT_skip rfl rfl ?_; (try simp only [Act.put, nq1, nq2, nq3, nq4, nq5, nq6])))
          go_ret
          rw [← HX2.out]
          exact ⟨rfl, HW2.out⟩
      · have dm : decide ((m : Int) ≤ (k : Int)) = true := by simp; omega
        have dm' : decide (m ≤ k) = true := by simp; omega
        have hs := HS.out.2
        rw [List.drop_eq_getElem_cons k1, List.drop_of_length_le (show ys.length ≤ k by have := HM.out; omega), cmpL] at hs
        have HX := hide hs
        clear hs hc
        generalize xs[k] = x at c0 c1 c2 c3
        unfold Tm.row at c3
        clear hlt k1 hlm
        have HW1 := hide (HW.out.al (.cells #[.int .i64 x.k, .int .i64 x.n, .string (strOf x.s), .slice x.A x.l.length x.c] 62))
        go_wp2_with fail
        go_ret
        rw [← HX.out]
        exact ⟨rfl, HW1.out⟩
    · obtain rfl : k = n := by omega
      have hd : decide ((k : Int) < (k : Int)) = false := by simp
      have hd' : decide (k < k) = false := by simp
      by_cases hlm : k < m
      · have dm : decide ((k : Int) < (m : Int)) = true := by simp; omega
        have dm' : decide (k < m) = true := by simp; omega
        have hs := HS.out.2
        rw [List.drop_of_length_le (show xs.length ≤ k by have := HN.out; omega)] at hs
        have HX : Hid (cmpL cmpA xs ys = -1) := hide (by
          rw [← hs]
          cases hy : ys.drop k with
          | nil => have := congrArg List.length hy; rw [List.length_drop] at this; have := HM.out; simp at *; omega
          | cons y r => rfl)
        clear hs hlm
        go_wp2_with fail
        go_ret
        rw [HX.out]
        exact ⟨rfl, HW.out⟩
      · have dm : decide ((k : Int) < (m : Int)) = false := by simp; omega
        have dm' : decide (k < m) = false := by simp; omega
        have hs := HS.out.2
        rw [List.drop_of_length_le (show xs.length ≤ k by have := HN.out; omega), List.drop_of_length_le (show ys.length ≤ k by have := HM.out; omega)] at hs
        have HX : Hid (cmpL cmpA xs ys = 0) := hide hs.symm
        clear hs hlm
        go_wp2_with fail
        go_ret
        rw [HX.out]
        exact ⟨rfl, HW.out⟩
theorem szPred : (Try.prog.info? 24).map (·.size) = some 2 := by kernel_rfl
theorem one2 {s : ByteArray} {A : Option Addr} {n c : Nat} : ∀ v ∈ [Value.string s, Value.slice A n c], v.oneCell' = true := by
  intro v hv
  simp only [List.mem_cons, List.not_mem_nil, or_false] at hv
  rcases hv with rfl | rfl <;> rfl
set_option maxRecDepth 100000 in
set_option maxHeartbeats 1600000 in
theorem cmpFr_any (f g : Fc) (w : World) (hf : FcOK w f) (hg : FcOK w g) : Calls Try.prog 22 #[f.val, g.val] w fun e w' => e = .returned (.int .i64 (cmpF f g)) ∧ Below w.heap.size w w' := by
  have hS0 := ((St.init w NoB).alloc #[.string (strOf f.name), .slice f.A f.ts.length f.c, .int .u32 f.o] 27).alloc #[.string (strOf g.name), .slice g.A g.ts.length g.c, .int .u32 g.o] 27
  rw [size_alloc1] at hS0
  have HT := hide (fun W (h : Below w.heap.size w W) => cmpTs_any f.row g.row f.ts g.ts W (hf.ts.on h) (hg.ts.on h) hf.bd.2.1 hg.bd.2.1)
  have HSG := hide (fun b W => sign18_any b W)
  have hbf := hf.bd.2.1
  have hbg := hg.bd.2.1
  have HV1 := hide (fun (h : f.name ≠ g.name) => cmpF_n h)
  have HV2 := hide (fun (h : f.name = g.name) (h2 : f.ts.length ≠ g.ts.length) => cmpF_l h h2)
  have HV3 := hide (fun (h : f.name = g.name) (h2 : f.ts.length = g.ts.length) h3 => cmpF_t h h2 h3)
  have HV4 := hide (fun (h : f.name = g.name) (h2 : f.ts.length = g.ts.length) h3 h4 => cmpF_o h h2 h3 h4)
  have HV5 := hide (fun (h : f.name = g.name) (h2 : f.ts.length = g.ts.length) h3 h4 => cmpF_z h h2 h3 h4)
  have HS := hide hS0
  clear hS0 hf hg
  generalize cmpF f g = res at *
  generalize cmpL cmpA f.ts g.ts = c at *
  unfold Fc.val Fc.row at *
  generalize f.ts.length = n at *
  generalize g.ts.length = m at *
  have mn1 : n ≤ 140737488351232 := hbf
  have mn2 : m ≤ 140737488351232 := hbg
  by_cases h1 : f.name ≠ g.name
  · have d1 : (f.name == g.name) = false := by rw [beq_eq_false_iff_ne]; exact h1
    have HV := hide (HV1.out h1)
    have HB := hide (fun W => sign18_any (Op.bytesLess f.name g.name) W)
    clear h1 HV1 HV2 HV3 HV4 HV5
    go_enter Try.func22, Try.ntmps22
    go_wp2_with fail
    go_cut [5, 6] (fun a b wx => ∃ ga gb, a = .pointer (some ⟨ga, 0, none⟩) ∧ b = .pointer (some ⟨gb, 0, none⟩) ∧ Hid (St w NoB wx [.cells gb #[.string (strOf g.name), .slice g.A m g.c] 24, .cells ga #[.string (strOf f.name), .slice f.A n f.c] 24, .cells (w.heap.size + 1) #[.string (strOf g.name), .slice g.A m g.c, .int .u32 g.o] 27, .cells w.heap.size #[.string (strOf f.name), .slice f.A n f.c, .int .u32 f.o] 27]))
    case first =>
      refine wp_region_S (.op 0 1 (.op 1 0 (.op 2 1 (.op 3 0 (.two 4 5 (.op 5 2 (.op 6 2 (.op 7 2 (.nil)))) (.op 4 2 (.op 6 2 (.op 7 2 (.nil))))))))) (by kernel_rfl) (by kernel_rfl) (fun _ _ _ _ h => h) ?_
      have HS1 := hide HS.out.drew
      generalize hwm : World.drew _ = wm at HS1 ⊢
      clear hwm
      have a0 := HS1.out.cell 1 rfl 0
      have a1 := HS1.out.cell 1 rfl 1
      have a2 := HS1.out.cell 1 rfl 2
      have b0 := HS1.out.cell 0 rfl 0
      have b1 := HS1.out.cell 0 rfl 1
      have b2 := HS1.out.cell 0 rfl 2
      have hb1 : Below wm.heap.size wm (wm.alloc (.cells #[.string ⟨#[]⟩, .slice none 0 0] 24)) := (Below.refl _ _).al _
      have hb2 : Below wm.heap.size wm ((wm.alloc (.cells #[.string ⟨#[]⟩, .slice none 0 0] 24)).alloc (.cells #[.string ⟨#[]⟩, .slice none 0 0] 24)) := ((Below.refl _ _).al _).al _
      have HS2 := hide (show St wm NoB ((wm.alloc (.cells #[.string ⟨#[]⟩, .slice none 0 0] 24)).alloc (.cells #[.string ⟨#[]⟩, .slice none 0 0] 24)) [.cells (wm.heap.size + 1) #[.string ⟨#[]⟩, .slice none 0 0] 24, .cells wm.heap.size #[.string ⟨#[]⟩, .slice none 0 0] 24] by
        have h := ((St.init wm NoB).alloc #[.string ⟨#[]⟩, .slice none 0 0] 24).alloc #[.string ⟨#[]⟩, .slice none 0 0] 24
        rw [size_alloc1] at h
        exact h)
      go_wp2_with (first | (refine wpS_nil ?_)   | ((with_reducible refine fromT_refl ?_); (try simp only [Act.put, nq1, nq2, nq3, nq4, nq5, nq6]))   | ((with_reducible refine fromT_mk (by assumption) ?_); (try simp only [Act.put, nq1, nq2, nq3, nq4, nq5, nq6]))   | (refine wpS_pure (v := ?_) rfl rfl ?_ ?_; rotate_left; (intro wx; go_simp; try go_bits) <;> (with_reducible rfl); (try simp only [Act.put, nq1, nq2, nq3, nq4, nq5, nq6]))   | (refine wpS_load (v := ?_) rfl rfl rfl ?_ ?_; rotate_left; (go_simp; try go_bits) <;> (with_reducible rfl); (try simp only [Act.put, nq1, nq2, nq3, nq4, nq5, nq6]))   | (refine wpS_read (v := ?_) rfl rfl ?_ ?_; rotate_left; (intro wx hx; go_simp; try go_bits) <;> (with_reducible rfl); (try simp only [Act.put, nq1, nq2, nq3, nq4, nq5, nq6]))   | (refine wpS_call rfl rfl ?_; intro K hK)   | (refine wpS_late rfl rfl ?_; intro K hK)   | (refine wpS_any rfl rfl ?_; intro K hK)   | (refine wpS_skip rfl rfl ?_; (try simp only [Act.put, nq1, nq2, nq3, nq4, nq5, nq6])))
      refine wpS_two ?_ ?_
      · go_wp2_with (first
          | (refine wpS_call rfl rfl ?_; intro K hK; refine wp_storeC rfl HS2.out 1 rfl (vs := [.string (strOf f.name), .slice f.A n f.c]) szPred (Nat.le_refl _) rfl rfl one2 ?_; intro w3 hS3; have HS3 := hide hS3; have hb3 := hS3.below; clear hS3)
          | (refine wpS_call rfl rfl ?_; intro K hK; refine wp_storeC rfl HS3.out 0 rfl (vs := [.string (strOf g.name), .slice g.A m g.c]) szPred (Nat.le_refl _) rfl rfl one2 ?_; intro w4 hS4; have HS4 := hide hS4; have hb4 := hS4.below; clear hS4)
          | (refine wpS_nil ?_)   | ((with_reducible refine fromT_refl ?_); (try simp only [Act.put, nq1, nq2, nq3, nq4, nq5, nq6]))   | ((with_reducible refine fromT_mk (by assumption) ?_); (try simp only [Act.put, nq1, nq2, nq3, nq4, nq5, nq6]))   | (refine wpS_pure (v := ?_) rfl rfl ?_ ?_; rotate_left; (intro wx; go_simp; try go_bits) <;> (with_reducible rfl); (try simp only [Act.put, nq1, nq2, nq3, nq4, nq5, nq6]))   | (refine wpS_load (v := ?_) rfl rfl rfl ?_ ?_; rotate_left; (go_simp; try go_bits) <;> (with_reducible rfl); (try simp only [Act.put, nq1, nq2, nq3, nq4, nq5, nq6]))   | (refine wpS_read (v := ?_) rfl rfl ?_ ?_; rotate_left; (intro wx hx; go_simp; try go_bits) <;> (with_reducible rfl); (try simp only [Act.put, nq1, nq2, nq3, nq4, nq5, nq6]))   | (refine wpS_call rfl rfl ?_; intro K hK)   | (refine wpS_late rfl rfl ?_; intro K hK)   | (refine wpS_any rfl rfl ?_; intro K hK)   | (refine wpS_skip rfl rfl ?_; (try simp only [Act.put, nq1, nq2, nq3, nq4, nq5, nq6])))
        go_meet
        exact ⟨_, _, rfl, rfl, hide (HS1.out.join HS4.out)⟩
      · go_wp2_with (first
          | (refine wpS_call rfl rfl ?_; intro K hK; refine wp_storeC rfl HS2.out 0 rfl (vs := [.string (strOf f.name), .slice f.A n f.c]) szPred (Nat.le_refl _) rfl rfl one2 ?_; intro w3 hS3; have HS3 := hide hS3; have hb3 := hS3.below; clear hS3)
          | (refine wpS_call rfl rfl ?_; intro K hK; refine wp_storeC rfl HS3.out 1 rfl (vs := [.string (strOf g.name), .slice g.A m g.c]) szPred (Nat.le_refl _) rfl rfl one2 ?_; intro w4 hS4; have HS4 := hide hS4; have hb4 := hS4.below; clear hS4)
          | (refine wpS_nil ?_)   | ((with_reducible refine fromT_refl ?_); (try simp only [Act.put, nq1, nq2, nq3, nq4, nq5, nq6]))   | ((with_reducible refine fromT_mk (by assumption) ?_); (try simp only [Act.put, nq1, nq2, nq3, nq4, nq5, nq6]))   | (refine wpS_pure (v := ?_) rfl rfl ?_ ?_; rotate_left; (intro wx; go_simp; try go_bits) <;> (with_reducible rfl); (try simp only [Act.put, nq1, nq2, nq3, nq4, nq5, nq6]))   | (refine wpS_load (v := ?_) rfl rfl rfl ?_ ?_; rotate_left; (go_simp; try go_bits) <;> (with_reducible rfl); (try simp only [Act.put, nq1, nq2, nq3, nq4, nq5, nq6]))   | (refine wpS_read (v := ?_) rfl rfl ?_ ?_; rotate_left; (intro wx hx; go_simp; try go_bits) <;> (with_reducible rfl); (try simp only [Act.put, nq1, nq2, nq3, nq4, nq5, nq6]))   | (refine wpS_call rfl rfl ?_; intro K hK)   | (refine wpS_late rfl rfl ?_; intro K hK)   | (refine wpS_any rfl rfl ?_; intro K hK)   | (refine wpS_skip rfl rfl ?_; (try simp only [Act.put, nq1, nq2, nq3, nq4, nq5, nq6])))
        go_meet
        exact ⟨_, _, rfl, rfl, hide (HS1.out.join HS4.out.swap)⟩
    case rest =>
      obtain ⟨ga, gb, rfl, rfl, HS4⟩ := hcut
      clear HS
      have x0 := HS4.out.cell 1 rfl 0
      have x1 := HS4.out.cell 1 rfl 1
      have y0 := HS4.out.cell 0 rfl 0
      have y1 := HS4.out.cell 0 rfl 1
      have b2 := HS4.out.cell 2 rfl 2
      have a2 := HS4.out.cell 3 rfl 2
      go_wp2_with ((go_at_call 44; (with_reducible refine (HB.out _).mono ?_); rintro e w5 ⟨rfl, rfl⟩))
      go_ret
      rw [HV.out]
      exact ⟨rfl, HS4.out.below⟩
  have h1 : f.name = g.name := Decidable.not_not.1 h1
  have d1 : (f.name == g.name) = true := by rw [h1]; exact beq_self_eq_true _
  by_cases h2 : n ≠ m
  · have d2 : ((n : Int) != (m : Int)) = true := by simp; omega
    have d2' : (n != m) = true := by simp; omega
    have HV := hide (HV2.out h1 h2)
    have HB := hide (fun W => sign18_any (decide ((n : Int) < (m : Int))) W)
    have ed : decide (n < m) = decide ((n : Int) < (m : Int)) := decide_eq_decide.2 (by omega)
    clear h1 h2 HV1 HV2 HV3 HV4 HV5
    go_enter Try.func22, Try.ntmps22
    go_wp2_with fail
    go_cut [5, 6] (fun a b wx => ∃ ga gb, a = .pointer (some ⟨ga, 0, none⟩) ∧ b = .pointer (some ⟨gb, 0, none⟩) ∧ Hid (St w NoB wx [.cells gb #[.string (strOf g.name), .slice g.A m g.c] 24, .cells ga #[.string (strOf f.name), .slice f.A n f.c] 24, .cells (w.heap.size + 1) #[.string (strOf g.name), .slice g.A m g.c, .int .u32 g.o] 27, .cells w.heap.size #[.string (strOf f.name), .slice f.A n f.c, .int .u32 f.o] 27]))
    case first =>
      refine wp_region_S (.op 0 1 (.op 1 0 (.op 2 1 (.op 3 0 (.two 4 5 (.op 5 2 (.op 6 2 (.op 7 2 (.nil)))) (.op 4 2 (.op 6 2 (.op 7 2 (.nil))))))))) (by kernel_rfl) (by kernel_rfl) (fun _ _ _ _ h => h) ?_
      have HS1 := hide HS.out.drew
      generalize hwm : World.drew _ = wm at HS1 ⊢
      clear hwm
      have a0 := HS1.out.cell 1 rfl 0
      have a1 := HS1.out.cell 1 rfl 1
      have a2 := HS1.out.cell 1 rfl 2
      have b0 := HS1.out.cell 0 rfl 0
      have b1 := HS1.out.cell 0 rfl 1
      have b2 := HS1.out.cell 0 rfl 2
      have hb1 : Below wm.heap.size wm (wm.alloc (.cells #[.string ⟨#[]⟩, .slice none 0 0] 24)) := (Below.refl _ _).al _
      have hb2 : Below wm.heap.size wm ((wm.alloc (.cells #[.string ⟨#[]⟩, .slice none 0 0] 24)).alloc (.cells #[.string ⟨#[]⟩, .slice none 0 0] 24)) := ((Below.refl _ _).al _).al _
      have HS2 := hide (show St wm NoB ((wm.alloc (.cells #[.string ⟨#[]⟩, .slice none 0 0] 24)).alloc (.cells #[.string ⟨#[]⟩, .slice none 0 0] 24)) [.cells (wm.heap.size + 1) #[.string ⟨#[]⟩, .slice none 0 0] 24, .cells wm.heap.size #[.string ⟨#[]⟩, .slice none 0 0] 24] by
        have h := ((St.init wm NoB).alloc #[.string ⟨#[]⟩, .slice none 0 0] 24).alloc #[.string ⟨#[]⟩, .slice none 0 0] 24
        rw [size_alloc1] at h
        exact h)
      go_wp2_with (first | (refine wpS_nil ?_)   | ((with_reducible refine fromT_refl ?_); (try simp only [Act.put, nq1, nq2, nq3, nq4, nq5, nq6]))   | ((with_reducible refine fromT_mk (by assumption) ?_); (try simp only [Act.put, nq1, nq2, nq3, nq4, nq5, nq6]))   | (refine wpS_pure (v := ?_) rfl rfl ?_ ?_; rotate_left; (intro wx; go_simp; try go_bits) <;> (with_reducible rfl); (try simp only [Act.put, nq1, nq2, nq3, nq4, nq5, nq6]))   | (refine wpS_load (v := ?_) rfl rfl rfl ?_ ?_; rotate_left; (go_simp; try go_bits) <;> (with_reducible rfl); (try simp only [Act.put, nq1, nq2, nq3, nq4, nq5, nq6]))   | (refine wpS_read (v := ?_) rfl rfl ?_ ?_; rotate_left; (intro wx hx; go_simp; try go_bits) <;> (with_reducible rfl); (try simp only [Act.put, nq1, nq2, nq3, nq4, nq5, nq6]))   | (refine wpS_call rfl rfl ?_; intro K hK)   | (refine wpS_late rfl rfl ?_; intro K hK)   | (refine wpS_any rfl rfl ?_; intro K hK)   | (refine wpS_skip rfl rfl ?_; (try simp only [Act.put, nq1, nq2, nq3, nq4, nq5, nq6])))
      refine wpS_two ?_ ?_
      · go_wp2_with (first
          | (refine wpS_call rfl rfl ?_; intro K hK; refine wp_storeC rfl HS2.out 1 rfl (vs := [.string (strOf f.name), .slice f.A n f.c]) szPred (Nat.le_refl _) rfl rfl one2 ?_; intro w3 hS3; have HS3 := hide hS3; have hb3 := hS3.below; clear hS3)
          | (refine wpS_call rfl rfl ?_; intro K hK; refine wp_storeC rfl HS3.out 0 rfl (vs := [.string (strOf g.name), .slice g.A m g.c]) szPred (Nat.le_refl _) rfl rfl one2 ?_; intro w4 hS4; have HS4 := hide hS4; have hb4 := hS4.below; clear hS4)
          | (refine wpS_nil ?_)   | ((with_reducible refine fromT_refl ?_); (try simp only [Act.put, nq1, nq2, nq3, nq4, nq5, nq6]))   | ((with_reducible refine fromT_mk (by assumption) ?_); (try simp only [Act.put, nq1, nq2, nq3, nq4, nq5, nq6]))   | (refine wpS_pure (v := ?_) rfl rfl ?_ ?_; rotate_left; (intro wx; go_simp; try go_bits) <;> (with_reducible rfl); (try simp only [Act.put, nq1, nq2, nq3, nq4, nq5, nq6]))   | (refine wpS_load (v := ?_) rfl rfl rfl ?_ ?_; rotate_left; (go_simp; try go_bits) <;> (with_reducible rfl); (try simp only [Act.put, nq1, nq2, nq3, nq4, nq5, nq6]))   | (refine wpS_read (v := ?_) rfl rfl ?_ ?_; rotate_left; (intro wx hx; go_simp; try go_bits) <;> (with_reducible rfl); (try simp only [Act.put, nq1, nq2, nq3, nq4, nq5, nq6]))   | (refine wpS_call rfl rfl ?_; intro K hK)   | (refine wpS_late rfl rfl ?_; intro K hK)   | (refine wpS_any rfl rfl ?_; intro K hK)   | (refine wpS_skip rfl rfl ?_; (try simp only [Act.put, nq1, nq2, nq3, nq4, nq5, nq6])))
        go_meet
        exact ⟨_, _, rfl, rfl, hide (HS1.out.join HS4.out)⟩
      · go_wp2_with (first
          | (refine wpS_call rfl rfl ?_; intro K hK; refine wp_storeC rfl HS2.out 0 rfl (vs := [.string (strOf f.name), .slice f.A n f.c]) szPred (Nat.le_refl _) rfl rfl one2 ?_; intro w3 hS3; have HS3 := hide hS3; have hb3 := hS3.below; clear hS3)
          | (refine wpS_call rfl rfl ?_; intro K hK; refine wp_storeC rfl HS3.out 1 rfl (vs := [.string (strOf g.name), .slice g.A m g.c]) szPred (Nat.le_refl _) rfl rfl one2 ?_; intro w4 hS4; have HS4 := hide hS4; have hb4 := hS4.below; clear hS4)
          | (refine wpS_nil ?_)   | ((with_reducible refine fromT_refl ?_); (try simp only [Act.put, nq1, nq2, nq3, nq4, nq5, nq6]))   | ((with_reducible refine fromT_mk (by assumption) ?_); (try simp only [Act.put, nq1, nq2, nq3, nq4, nq5, nq6]))   | (refine wpS_pure (v := ?_) rfl rfl ?_ ?_; rotate_left; (intro wx; go_simp; try go_bits) <;> (with_reducible rfl); (try simp only [Act.put, nq1, nq2, nq3, nq4, nq5, nq6]))   | (refine wpS_load (v := ?_) rfl rfl rfl ?_ ?_; rotate_left; (go_simp; try go_bits) <;> (with_reducible rfl); (try simp only [Act.put, nq1, nq2, nq3, nq4, nq5, nq6]))   | (refine wpS_read (v := ?_) rfl rfl ?_ ?_; rotate_left; (intro wx hx; go_simp; try go_bits) <;> (with_reducible rfl); (try simp only [Act.put, nq1, nq2, nq3, nq4, nq5, nq6]))   | (refine wpS_call rfl rfl ?_; intro K hK)   | (refine wpS_late rfl rfl ?_; intro K hK)   | (refine wpS_any rfl rfl ?_; intro K hK)   | (refine wpS_skip rfl rfl ?_; (try simp only [Act.put, nq1, nq2, nq3, nq4, nq5, nq6])))
        go_meet
        exact ⟨_, _, rfl, rfl, hide (HS1.out.join HS4.out.swap)⟩
    case rest =>
      obtain ⟨ga, gb, rfl, rfl, HS4⟩ := hcut
      clear HS
      have x0 := HS4.out.cell 1 rfl 0
      have x1 := HS4.out.cell 1 rfl 1
      have y0 := HS4.out.cell 0 rfl 0
      have y1 := HS4.out.cell 0 rfl 1
      have b2 := HS4.out.cell 2 rfl 2
      have a2 := HS4.out.cell 3 rfl 2
      go_wp2_with ((go_at_call 44; (with_reducible refine (HB.out _).mono ?_); rintro e w5 ⟨rfl, rfl⟩))
      go_ret
      rw [HV.out]
      exact ⟨rfl, HS4.out.below⟩
  have h2 : n = m := Decidable.not_not.1 h2
  have d2 : ((n : Int) != (m : Int)) = false := by simp; omega
  have d2' : (n != m) = false := by simp; omega
  by_cases h3 : c ≠ 0
  · have d3 : (c != 0) = true := by simp [h3]
    have HV := hide (HV3.out h1 h2 h3)
    clear h1 h2 h3 HV1 HV2 HV3 HV4 HV5
    go_enter Try.func22, Try.ntmps22
    go_wp2_with fail
    go_cut [5, 6] (fun a b wx => ∃ ga gb, a = .pointer (some ⟨ga, 0, none⟩) ∧ b = .pointer (some ⟨gb, 0, none⟩) ∧ Hid (St w NoB wx [.cells gb #[.string (strOf g.name), .slice g.A m g.c] 24, .cells ga #[.string (strOf f.name), .slice f.A n f.c] 24, .cells (w.heap.size + 1) #[.string (strOf g.name), .slice g.A m g.c, .int .u32 g.o] 27, .cells w.heap.size #[.string (strOf f.name), .slice f.A n f.c, .int .u32 f.o] 27]))
    case first =>
      refine wp_region_S (.op 0 1 (.op 1 0 (.op 2 1 (.op 3 0 (.two 4 5 (.op 5 2 (.op 6 2 (.op 7 2 (.nil)))) (.op 4 2 (.op 6 2 (.op 7 2 (.nil))))))))) (by kernel_rfl) (by kernel_rfl) (fun _ _ _ _ h => h) ?_
      have HS1 := hide HS.out.drew
      generalize hwm : World.drew _ = wm at HS1 ⊢
      clear hwm
      have a0 := HS1.out.cell 1 rfl 0
      have a1 := HS1.out.cell 1 rfl 1
      have a2 := HS1.out.cell 1 rfl 2
      have b0 := HS1.out.cell 0 rfl 0
      have b1 := HS1.out.cell 0 rfl 1
      have b2 := HS1.out.cell 0 rfl 2
      have hb1 : Below wm.heap.size wm (wm.alloc (.cells #[.string ⟨#[]⟩, .slice none 0 0] 24)) := (Below.refl _ _).al _
      have hb2 : Below wm.heap.size wm ((wm.alloc (.cells #[.string ⟨#[]⟩, .slice none 0 0] 24)).alloc (.cells #[.string ⟨#[]⟩, .slice none 0 0] 24)) := ((Below.refl _ _).al _).al _
      have HS2 := hide (show St wm NoB ((wm.alloc (.cells #[.string ⟨#[]⟩, .slice none 0 0] 24)).alloc (.cells #[.string ⟨#[]⟩, .slice none 0 0] 24)) [.cells (wm.heap.size + 1) #[.string ⟨#[]⟩, .slice none 0 0] 24, .cells wm.heap.size #[.string ⟨#[]⟩, .slice none 0 0] 24] by
        have h := ((St.init wm NoB).alloc #[.string ⟨#[]⟩, .slice none 0 0] 24).alloc #[.string ⟨#[]⟩, .slice none 0 0] 24
        rw [size_alloc1] at h
        exact h)
      go_wp2_with (first | (refine wpS_nil ?_)   | ((with_reducible refine fromT_refl ?_); (try simp only [Act.put, nq1, nq2, nq3, nq4, nq5, nq6]))   | ((with_reducible refine fromT_mk (by assumption) ?_); (try simp only [Act.put, nq1, nq2, nq3, nq4, nq5, nq6]))   | (refine wpS_pure (v := ?_) rfl rfl ?_ ?_; rotate_left; (intro wx; go_simp; try go_bits) <;> (with_reducible rfl); (try simp only [Act.put, nq1, nq2, nq3, nq4, nq5, nq6]))   | (refine wpS_load (v := ?_) rfl rfl rfl ?_ ?_; rotate_left; (go_simp; try go_bits) <;> (with_reducible rfl); (try simp only [Act.put, nq1, nq2, nq3, nq4, nq5, nq6]))   | (refine wpS_read (v := ?_) rfl rfl ?_ ?_; rotate_left; (intro wx hx; go_simp; try go_bits) <;> (with_reducible rfl); (try simp only [Act.put, nq1, nq2, nq3, nq4, nq5, nq6]))   | (refine wpS_call rfl rfl ?_; intro K hK)   | (refine wpS_late rfl rfl ?_; intro K hK)   | (refine wpS_any rfl rfl ?_; intro K hK)   | (refine wpS_skip rfl rfl ?_; (try simp only [Act.put, nq1, nq2, nq3, nq4, nq5, nq6])))
      refine wpS_two ?_ ?_
      · go_wp2_with (first
          | (refine wpS_call rfl rfl ?_; intro K hK; refine wp_storeC rfl HS2.out 1 rfl (vs := [.string (strOf f.name), .slice f.A n f.c]) szPred (Nat.le_refl _) rfl rfl one2 ?_; intro w3 hS3; have HS3 := hide hS3; have hb3 := hS3.below; clear hS3)
          | (refine wpS_call rfl rfl ?_; intro K hK; refine wp_storeC rfl HS3.out 0 rfl (vs := [.string (strOf g.name), .slice g.A m g.c]) szPred (Nat.le_refl _) rfl rfl one2 ?_; intro w4 hS4; have HS4 := hide hS4; have hb4 := hS4.below; clear hS4)
          | (refine wpS_nil ?_)   | ((with_reducible refine fromT_refl ?_); (try simp only [Act.put, nq1, nq2, nq3, nq4, nq5, nq6]))   | ((with_reducible refine fromT_mk (by assumption) ?_); (try simp only [Act.put, nq1, nq2, nq3, nq4, nq5, nq6]))   | (refine wpS_pure (v := ?_) rfl rfl ?_ ?_; rotate_left; (intro wx; go_simp; try go_bits) <;> (with_reducible rfl); (try simp only [Act.put, nq1, nq2, nq3, nq4, nq5, nq6]))   | (refine wpS_load (v := ?_) rfl rfl rfl ?_ ?_; rotate_left; (go_simp; try go_bits) <;> (with_reducible rfl); (try simp only [Act.put, nq1, nq2, nq3, nq4, nq5, nq6]))   | (refine wpS_read (v := ?_) rfl rfl ?_ ?_; rotate_left; (intro wx hx; go_simp; try go_bits) <;> (with_reducible rfl); (try simp only [Act.put, nq1, nq2, nq3, nq4, nq5, nq6]))   | (refine wpS_call rfl rfl ?_; intro K hK)   | (refine wpS_late rfl rfl ?_; intro K hK)   | (refine wpS_any rfl rfl ?_; intro K hK)   | (refine wpS_skip rfl rfl ?_; (try simp only [Act.put, nq1, nq2, nq3, nq4, nq5, nq6])))
        go_meet
        exact ⟨_, _, rfl, rfl, hide (HS1.out.join HS4.out)⟩
      · go_wp2_with (first
          | (refine wpS_call rfl rfl ?_; intro K hK; refine wp_storeC rfl HS2.out 0 rfl (vs := [.string (strOf f.name), .slice f.A n f.c]) szPred (Nat.le_refl _) rfl rfl one2 ?_; intro w3 hS3; have HS3 := hide hS3; have hb3 := hS3.below; clear hS3)
          | (refine wpS_call rfl rfl ?_; intro K hK; refine wp_storeC rfl HS3.out 1 rfl (vs := [.string (strOf g.name), .slice g.A m g.c]) szPred (Nat.le_refl _) rfl rfl one2 ?_; intro w4 hS4; have HS4 := hide hS4; have hb4 := hS4.below; clear hS4)
          | (refine wpS_nil ?_)   | ((with_reducible refine fromT_refl ?_); (try simp only [Act.put, nq1, nq2, nq3, nq4, nq5, nq6]))   | ((with_reducible refine fromT_mk (by assumption) ?_); (try simp only [Act.put, nq1, nq2, nq3, nq4, nq5, nq6]))   | (refine wpS_pure (v := ?_) rfl rfl ?_ ?_; rotate_left; (intro wx; go_simp; try go_bits) <;> (with_reducible rfl); (try simp only [Act.put, nq1, nq2, nq3, nq4, nq5, nq6]))   | (refine wpS_load (v := ?_) rfl rfl rfl ?_ ?_; rotate_left; (go_simp; try go_bits) <;> (with_reducible rfl); (try simp only [Act.put, nq1, nq2, nq3, nq4, nq5, nq6]))   | (refine wpS_read (v := ?_) rfl rfl ?_ ?_; rotate_left; (intro wx hx; go_simp; try go_bits) <;> (with_reducible rfl); (try simp only [Act.put, nq1, nq2, nq3, nq4, nq5, nq6]))   | (refine wpS_call rfl rfl ?_; intro K hK)   | (refine wpS_late rfl rfl ?_; intro K hK)   | (refine wpS_any rfl rfl ?_; intro K hK)   | (refine wpS_skip rfl rfl ?_; (try simp only [Act.put, nq1, nq2, nq3, nq4, nq5, nq6])))
        go_meet
        exact ⟨_, _, rfl, rfl, hide (HS1.out.join HS4.out.swap)⟩
    case rest =>
      obtain ⟨ga, gb, rfl, rfl, HS4⟩ := hcut
      clear HS
      have x0 := HS4.out.cell 1 rfl 0
      have x1 := HS4.out.cell 1 rfl 1
      have y0 := HS4.out.cell 0 rfl 0
      have y1 := HS4.out.cell 0 rfl 1
      have b2 := HS4.out.cell 2 rfl 2
      have a2 := HS4.out.cell 3 rfl 2
      go_wp2_with ((go_at_call 45; (with_reducible refine (HT.out _ HS4.out.below).mono ?_); rintro e w5 ⟨rfl, hb⟩; have HS4 := hide (HS4.out.call hb); have b2 := HS4.out.cell 2 rfl 2; have a2 := HS4.out.cell 3 rfl 2))
      go_ret
      rw [HV.out]
      exact ⟨rfl, HS4.out.below⟩
  have h3 : c = 0 := Decidable.not_not.1 h3
  have d3 : (c != 0) = false := by simp [h3]
  by_cases h4 : f.o ≠ g.o
  · have d4 : (f.o != g.o) = true := by simp [h4]
    have HV := hide (HV4.out h1 h2 h3 h4)
    have HB := hide (fun W => sign18_any (decide (f.o < g.o)) W)
    clear h1 h2 h3 h4 HV1 HV2 HV3 HV4 HV5
    go_enter Try.func22, Try.ntmps22
    go_wp2_with fail
    go_cut [5, 6] (fun a b wx => ∃ ga gb, a = .pointer (some ⟨ga, 0, none⟩) ∧ b = .pointer (some ⟨gb, 0, none⟩) ∧ Hid (St w NoB wx [.cells gb #[.string (strOf g.name), .slice g.A m g.c] 24, .cells ga #[.string (strOf f.name), .slice f.A n f.c] 24, .cells (w.heap.size + 1) #[.string (strOf g.name), .slice g.A m g.c, .int .u32 g.o] 27, .cells w.heap.size #[.string (strOf f.name), .slice f.A n f.c, .int .u32 f.o] 27]))
    case first =>
      refine wp_region_S (.op 0 1 (.op 1 0 (.op 2 1 (.op 3 0 (.two 4 5 (.op 5 2 (.op 6 2 (.op 7 2 (.nil)))) (.op 4 2 (.op 6 2 (.op 7 2 (.nil))))))))) (by kernel_rfl) (by kernel_rfl) (fun _ _ _ _ h => h) ?_
      have HS1 := hide HS.out.drew
      generalize hwm : World.drew _ = wm at HS1 ⊢
      clear hwm
      have a0 := HS1.out.cell 1 rfl 0
      have a1 := HS1.out.cell 1 rfl 1
      have a2 := HS1.out.cell 1 rfl 2
      have b0 := HS1.out.cell 0 rfl 0
      have b1 := HS1.out.cell 0 rfl 1
      have b2 := HS1.out.cell 0 rfl 2
      have hb1 : Below wm.heap.size wm (wm.alloc (.cells #[.string ⟨#[]⟩, .slice none 0 0] 24)) := (Below.refl _ _).al _
      have hb2 : Below wm.heap.size wm ((wm.alloc (.cells #[.string ⟨#[]⟩, .slice none 0 0] 24)).alloc (.cells #[.string ⟨#[]⟩, .slice none 0 0] 24)) := ((Below.refl _ _).al _).al _
      have HS2 := hide (show St wm NoB ((wm.alloc (.cells #[.string ⟨#[]⟩, .slice none 0 0] 24)).alloc (.cells #[.string ⟨#[]⟩, .slice none 0 0] 24)) [.cells (wm.heap.size + 1) #[.string ⟨#[]⟩, .slice none 0 0] 24, .cells wm.heap.size #[.string ⟨#[]⟩, .slice none 0 0] 24] by
        have h := ((St.init wm NoB).alloc #[.string ⟨#[]⟩, .slice none 0 0] 24).alloc #[.string ⟨#[]⟩, .slice none 0 0] 24
        rw [size_alloc1] at h
        exact h)
      go_wp2_with (first | (refine wpS_nil ?_)   | ((with_reducible refine fromT_refl ?_); (try simp only [Act.put, nq1, nq2, nq3, nq4, nq5, nq6]))   | ((with_reducible refine fromT_mk (by assumption) ?_); (try simp only [Act.put, nq1, nq2, nq3, nq4, nq5, nq6]))   | (refine wpS_pure (v := ?_) rfl rfl ?_ ?_; rotate_left; (intro wx; go_simp; try go_bits) <;> (with_reducible rfl); (try simp only [Act.put, nq1, nq2, nq3, nq4, nq5, nq6]))   | (refine wpS_load (v := ?_) rfl rfl rfl ?_ ?_; rotate_left; (go_simp; try go_bits) <;> (with_reducible rfl); (try simp only [Act.put, nq1, nq2, nq3, nq4, nq5, nq6]))   | (refine wpS_read (v := ?_) rfl rfl ?_ ?_; rotate_left; (intro wx hx; go_simp; try go_bits) <;> (with_reducible rfl); (try simp only [Act.put, nq1, nq2, nq3, nq4, nq5, nq6]))   | (refine wpS_call rfl rfl ?_; intro K hK)   | (refine wpS_late rfl rfl ?_; intro K hK)   | (refine wpS_any rfl rfl ?_; intro K hK)   | (refine wpS_skip rfl rfl ?_; (try simp only [Act.put, nq1, nq2, nq3, nq4, nq5, nq6])))
      refine wpS_two ?_ ?_
      · go_wp2_with (first
          | (refine wpS_call rfl rfl ?_; intro K hK; refine wp_storeC rfl HS2.out 1 rfl (vs := [.string (strOf f.name), .slice f.A n f.c]) szPred (Nat.le_refl _) rfl rfl one2 ?_; intro w3 hS3; have HS3 := hide hS3; have hb3 := hS3.below; clear hS3)
          | (refine wpS_call rfl rfl ?_; intro K hK; refine wp_storeC rfl HS3.out 0 rfl (vs := [.string (strOf g.name), .slice g.A m g.c]) szPred (Nat.le_refl _) rfl rfl one2 ?_; intro w4 hS4; have HS4 := hide hS4; have hb4 := hS4.below; clear hS4)
          | (refine wpS_nil ?_)   | ((with_reducible refine fromT_refl ?_); (try simp only [Act.put, nq1, nq2, nq3, nq4, nq5, nq6]))   | ((with_reducible refine fromT_mk (by assumption) ?_); (try simp only [Act.put, nq1, nq2, nq3, nq4, nq5, nq6]))   | (refine wpS_pure (v := ?_) rfl rfl ?_ ?_; rotate_left; (intro wx; go_simp; try go_bits) <;> (with_reducible rfl); (try simp only [Act.put, nq1, nq2, nq3, nq4, nq5, nq6]))   | (refine wpS_load (v := ?_) rfl rfl rfl ?_ ?_; rotate_left; (go_simp; try go_bits) <;> (with_reducible rfl); (try simp only [Act.put, nq1, nq2, nq3, nq4, nq5, nq6]))   | (refine wpS_read (v := ?_) rfl rfl ?_ ?_; rotate_left; (intro wx hx; go_simp; try go_bits) <;> (with_reducible rfl); (try simp only [Act.put, nq1, nq2, nq3, nq4, nq5, nq6]))   | (refine wpS_call rfl rfl ?_; intro K hK)   | (refine wpS_late rfl rfl ?_; intro K hK)   | (refine wpS_any rfl rfl ?_; intro K hK)   | (refine wpS_skip rfl rfl ?_; (try simp only [Act.put, nq1, nq2, nq3, nq4, nq5, nq6])))
        go_meet
        exact ⟨_, _, rfl, rfl, hide (HS1.out.join HS4.out)⟩
      · go_wp2_with (first
          | (refine wpS_call rfl rfl ?_; intro K hK; refine wp_storeC rfl HS2.out 0 rfl (vs := [.string (strOf f.name), .slice f.A n f.c]) szPred (Nat.le_refl _) rfl rfl one2 ?_; intro w3 hS3; have HS3 := hide hS3; have hb3 := hS3.below; clear hS3)
          | (refine wpS_call rfl rfl ?_; intro K hK; refine wp_storeC rfl HS3.out 1 rfl (vs := [.string (strOf g.name), .slice g.A m g.c]) szPred (Nat.le_refl _) rfl rfl one2 ?_; intro w4 hS4; have HS4 := hide hS4; have hb4 := hS4.below; clear hS4)
          | (refine wpS_nil ?_)   | ((with_reducible refine fromT_refl ?_); (try simp only [Act.put, nq1, nq2, nq3, nq4, nq5, nq6]))   | ((with_reducible refine fromT_mk (by assumption) ?_); (try simp only [Act.put, nq1, nq2, nq3, nq4, nq5, nq6]))   | (refine wpS_pure (v := ?_) rfl rfl ?_ ?_; rotate_left; (intro wx; go_simp; try go_bits) <;> (with_reducible rfl); (try simp only [Act.put, nq1, nq2, nq3, nq4, nq5, nq6]))   | (refine wpS_load (v := ?_) rfl rfl rfl ?_ ?_; rotate_left; (go_simp; try go_bits) <;> (with_reducible rfl); (try simp only [Act.put, nq1, nq2, nq3, nq4, nq5, nq6]))   | (refine wpS_read (v := ?_) rfl rfl ?_ ?_; rotate_left; (intro wx hx; go_simp; try go_bits) <;> (with_reducible rfl); (try simp only [Act.put, nq1, nq2, nq3, nq4, nq5, nq6]))   | (refine wpS_call rfl rfl ?_; intro K hK)   | (refine wpS_late rfl rfl ?_; intro K hK)   | (refine wpS_any rfl rfl ?_; intro K hK)   | (refine wpS_skip rfl rfl ?_; (try simp only [Act.put, nq1, nq2, nq3, nq4, nq5, nq6])))
        go_meet
        exact ⟨_, _, rfl, rfl, hide (HS1.out.join HS4.out.swap)⟩
    case rest =>
      obtain ⟨ga, gb, rfl, rfl, HS4⟩ := hcut
      clear HS
      have x0 := HS4.out.cell 1 rfl 0
      have x1 := HS4.out.cell 1 rfl 1
      have y0 := HS4.out.cell 0 rfl 0
      have y1 := HS4.out.cell 0 rfl 1
      have b2 := HS4.out.cell 2 rfl 2
      have a2 := HS4.out.cell 3 rfl 2
      go_wp2_with (first | (go_at_call 45; (with_reducible refine (HT.out _ HS4.out.below).mono ?_); rintro e w5 ⟨rfl, hb⟩; have HS4 := hide (HS4.out.call hb); have b2 := HS4.out.cell 2 rfl 2; have a2 := HS4.out.cell 3 rfl 2) | (go_at_call 44; (with_reducible refine (HB.out _).mono ?_); rintro e w6 ⟨rfl, rfl⟩))
      go_ret
      rw [HV.out]
      exact ⟨rfl, HS4.out.below⟩
  · have h4 : f.o = g.o := Decidable.not_not.1 h4
    have d4 : (f.o != g.o) = false := by simp [h4]
    have HV := hide (HV5.out h1 h2 h3 h4)
    clear h1 h2 h3 h4 HV1 HV2 HV3 HV4 HV5
    go_enter Try.func22, Try.ntmps22
    go_wp2_with fail
    go_cut [5, 6] (fun a b wx => ∃ ga gb, a = .pointer (some ⟨ga, 0, none⟩) ∧ b = .pointer (some ⟨gb, 0, none⟩) ∧ Hid (St w NoB wx [.cells gb #[.string (strOf g.name), .slice g.A m g.c] 24, .cells ga #[.string (strOf f.name), .slice f.A n f.c] 24, .cells (w.heap.size + 1) #[.string (strOf g.name), .slice g.A m g.c, .int .u32 g.o] 27, .cells w.heap.size #[.string (strOf f.name), .slice f.A n f.c, .int .u32 f.o] 27]))
    case first =>
      refine wp_region_S (.op 0 1 (.op 1 0 (.op 2 1 (.op 3 0 (.two 4 5 (.op 5 2 (.op 6 2 (.op 7 2 (.nil)))) (.op 4 2 (.op 6 2 (.op 7 2 (.nil))))))))) (by kernel_rfl) (by kernel_rfl) (fun _ _ _ _ h => h) ?_
      have HS1 := hide HS.out.drew
      generalize hwm : World.drew _ = wm at HS1 ⊢
      clear hwm
      have a0 := HS1.out.cell 1 rfl 0
      have a1 := HS1.out.cell 1 rfl 1
      have a2 := HS1.out.cell 1 rfl 2
      have b0 := HS1.out.cell 0 rfl 0
      have b1 := HS1.out.cell 0 rfl 1
      have b2 := HS1.out.cell 0 rfl 2
      have hb1 : Below wm.heap.size wm (wm.alloc (.cells #[.string ⟨#[]⟩, .slice none 0 0] 24)) := (Below.refl _ _).al _
      have hb2 : Below wm.heap.size wm ((wm.alloc (.cells #[.string ⟨#[]⟩, .slice none 0 0] 24)).alloc (.cells #[.string ⟨#[]⟩, .slice none 0 0] 24)) := ((Below.refl _ _).al _).al _
      have HS2 := hide (show St wm NoB ((wm.alloc (.cells #[.string ⟨#[]⟩, .slice none 0 0] 24)).alloc (.cells #[.string ⟨#[]⟩, .slice none 0 0] 24)) [.cells (wm.heap.size + 1) #[.string ⟨#[]⟩, .slice none 0 0] 24, .cells wm.heap.size #[.string ⟨#[]⟩, .slice none 0 0] 24] by
        have h := ((St.init wm NoB).alloc #[.string ⟨#[]⟩, .slice none 0 0] 24).alloc #[.string ⟨#[]⟩, .slice none 0 0] 24
        rw [size_alloc1] at h
        exact h)
      go_wp2_with (first | (refine wpS_nil ?_)   | ((with_reducible refine fromT_refl ?_); (try simp only [Act.put, nq1, nq2, nq3, nq4, nq5, nq6]))   | ((with_reducible refine fromT_mk (by assumption) ?_); (try simp only [Act.put, nq1, nq2, nq3, nq4, nq5, nq6]))   | (refine wpS_pure (v := ?_) rfl rfl ?_ ?_; rotate_left; (intro wx; go_simp; try go_bits) <;> (with_reducible rfl); (try simp only [Act.put, nq1, nq2, nq3, nq4, nq5, nq6]))   | (refine wpS_load (v := ?_) rfl rfl rfl ?_ ?_; rotate_left; (go_simp; try go_bits) <;> (with_reducible rfl); (try simp only [Act.put, nq1, nq2, nq3, nq4, nq5, nq6]))   | (refine wpS_read (v := ?_) rfl rfl ?_ ?_; rotate_left; (intro wx hx; go_simp; try go_bits) <;> (with_reducible rfl); (try simp only [Act.put, nq1, nq2, nq3, nq4, nq5, nq6]))   | (refine wpS_call rfl rfl ?_; intro K hK)   | (refine wpS_late rfl rfl ?_; intro K hK)   | (refine wpS_any rfl rfl ?_; intro K hK)   | (refine wpS_skip rfl rfl ?_; (try simp only [Act.put, nq1, nq2, nq3, nq4, nq5, nq6])))
      refine wpS_two ?_ ?_
      · go_wp2_with (first
          | (refine wpS_call rfl rfl ?_; intro K hK; refine wp_storeC rfl HS2.out 1 rfl (vs := [.string (strOf f.name), .slice f.A n f.c]) szPred (Nat.le_refl _) rfl rfl one2 ?_; intro w3 hS3; have HS3 := hide hS3; have hb3 := hS3.below; clear hS3)
          | (refine wpS_call rfl rfl ?_; intro K hK; refine wp_storeC rfl HS3.out 0 rfl (vs := [.string (strOf g.name), .slice g.A m g.c]) szPred (Nat.le_refl _) rfl rfl one2 ?_; intro w4 hS4; have HS4 := hide hS4; have hb4 := hS4.below; clear hS4)
          | (refine wpS_nil ?_)   | ((with_reducible refine fromT_refl ?_); (try simp only [Act.put, nq1, nq2, nq3, nq4, nq5, nq6]))   | ((with_reducible refine fromT_mk (by assumption) ?_); (try simp only [Act.put, nq1, nq2, nq3, nq4, nq5, nq6]))   | (refine wpS_pure (v := ?_) rfl rfl ?_ ?_; rotate_left; (intro wx; go_simp; try go_bits) <;> (with_reducible rfl); (try simp only [Act.put, nq1, nq2, nq3, nq4, nq5, nq6]))   | (refine wpS_load (v := ?_) rfl rfl rfl ?_ ?_; rotate_left; (go_simp; try go_bits) <;> (with_reducible rfl); (try simp only [Act.put, nq1, nq2, nq3, nq4, nq5, nq6]))   | (refine wpS_read (v := ?_) rfl rfl ?_ ?_; rotate_left; (intro wx hx; go_simp; try go_bits) <;> (with_reducible rfl); (try simp only [Act.put, nq1, nq2, nq3, nq4, nq5, nq6]))   | (refine wpS_call rfl rfl ?_; intro K hK)   | (refine wpS_late rfl rfl ?_; intro K hK)   | (refine wpS_any rfl rfl ?_; intro K hK)   | (refine wpS_skip rfl rfl ?_; (try simp only [Act.put, nq1, nq2, nq3, nq4, nq5, nq6])))
        go_meet
        exact ⟨_, _, rfl, rfl, hide (HS1.out.join HS4.out)⟩
      · go_wp2_with (first
          | (refine wpS_call rfl rfl ?_; intro K hK; refine wp_storeC rfl HS2.out 0 rfl (vs := [.string (strOf f.name), .slice f.A n f.c]) szPred (Nat.le_refl _) rfl rfl one2 ?_; intro w3 hS3; have HS3 := hide hS3; have hb3 := hS3.below; clear hS3)
          | (refine wpS_call rfl rfl ?_; intro K hK; refine wp_storeC rfl HS3.out 1 rfl (vs := [.string (strOf g.name), .slice g.A m g.c]) szPred (Nat.le_refl _) rfl rfl one2 ?_; intro w4 hS4; have HS4 := hide hS4; have hb4 := hS4.below; clear hS4)
          | (refine wpS_nil ?_)   | ((with_reducible refine fromT_refl ?_); (try simp only [Act.put, nq1, nq2, nq3, nq4, nq5, nq6]))   | ((with_reducible refine fromT_mk (by assumption) ?_); (try simp only [Act.put, nq1, nq2, nq3, nq4, nq5, nq6]))   | (refine wpS_pure (v := ?_) rfl rfl ?_ ?_; rotate_left; (intro wx; go_simp; try go_bits) <;> (with_reducible rfl); (try simp only [Act.put, nq1, nq2, nq3, nq4, nq5, nq6]))   | (refine wpS_load (v := ?_) rfl rfl rfl ?_ ?_; rotate_left; (go_simp; try go_bits) <;> (with_reducible rfl); (try simp only [Act.put, nq1, nq2, nq3, nq4, nq5, nq6]))   | (refine wpS_read (v := ?_) rfl rfl ?_ ?_; rotate_left; (intro wx hx; go_simp; try go_bits) <;> (with_reducible rfl); (try simp only [Act.put, nq1, nq2, nq3, nq4, nq5, nq6]))   | (refine wpS_call rfl rfl ?_; intro K hK)   | (refine wpS_late rfl rfl ?_; intro K hK)   | (refine wpS_any rfl rfl ?_; intro K hK)   | (refine wpS_skip rfl rfl ?_; (try simp only [Act.put, nq1, nq2, nq3, nq4, nq5, nq6])))
        go_meet
        exact ⟨_, _, rfl, rfl, hide (HS1.out.join HS4.out.swap)⟩
    case rest =>
      obtain ⟨ga, gb, rfl, rfl, HS4⟩ := hcut
      clear HS
      have x0 := HS4.out.cell 1 rfl 0
      have x1 := HS4.out.cell 1 rfl 1
      have y0 := HS4.out.cell 0 rfl 0
      have y1 := HS4.out.cell 0 rfl 1
      have b2 := HS4.out.cell 2 rfl 2
      have a2 := HS4.out.cell 3 rfl 2
      go_wp2_with ((go_at_call 45; (with_reducible refine (HT.out _ HS4.out.below).mono ?_); rintro e w5 ⟨rfl, hb⟩; have HS4 := hide (HS4.out.call hb); have b2 := HS4.out.cell 2 rfl 2; have a2 := HS4.out.cell 3 rfl 2))
      go_ret
      rw [HV.out]
      exact ⟨rfl, HS4.out.below⟩
end Go.Proofs.Ythpioncehigoaaa
