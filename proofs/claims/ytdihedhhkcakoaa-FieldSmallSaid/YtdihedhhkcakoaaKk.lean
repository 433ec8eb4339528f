/-
  The walk of FieldBytes.
-/
import Derived.Test.YtdihedhhkcakoaaKj
namespace Go.Proofs.Ytdihedhhkcakoaa
open Go.RowKit

theorem enFrom (args : Array Value) (w : World) : (callFunc 10 args).run Try.prog w = .ok (.enter 10 args) w := by kernel_rfl
theorem enIsZero (args : Array Value) (w : World) : (callFunc 13 args).run Try.prog w = .ok (.enter 13 args) w := by kernel_rfl
theorem enAwake (args : Array Value) (w : World) : (callFunc 9 args).run Try.prog w = .ok (.enter 9 args) w := by kernel_rfl
theorem bnx {w0 w w' : World} (h : Below w0.heap.size w0 w) (h2 : Below w.heap.size w w') : Below w0.heap.size w0 w' := h.trans (h2.mono h.size)
theorem infoB : (Try.prog.info? 5).map (fun i => (i.zero, i.size, i.bytes)) = some (some (.int .u8 0), 1, 1) := by kernel_rfl
set_option maxRecDepth 100000 in
set_option maxHeartbeats 1600000 in
theorem fieldBytes_walk (A : Option Addr) (c : Nat) (l : List UInt8) (w : World) (hr : Rd w (.slice A l.length c) 1 l.length (bvs l)) :
    Calls Try.prog 3 #[.slice A l.length c] w fun e w' => e = .returned (.bool true) ∧ Below w.heap.size w w' := by
  have HR := hide hr
  obtain ⟨n, hn⟩ : ∃ n, n = l.length := ⟨_, rfl⟩
  rw [← hn] at HR ⊢
  have HL := hide hn.symm
  clear hr hn
  by_cases h1 : n > 100
  · have d1 : decide (100 < (n : Int)) = true := by simp; omega
    clear h1
    go_enter Try.func3, Try.ntmps3
    go_wp2_with (go_at_call 9; refine (awake_any _).mono ?_; rintro e w1 ⟨rfl, hb1⟩)
    go_ret
    exact ⟨rfl, hb1⟩
  · have d1 : decide (100 < (n : Int)) = false := by simp; omega
    have n1 := hide h1
    clear h1
    obtain ⟨V, hV⟩ : ∃ V, V = bval (fullL l) % Pq := ⟨_, rfl⟩
    have HV := hide hV.symm
    clear hV
    go_enter Try.func3, Try.ntmps3
    go_upto_region 5 with (first
      | (have _q := hb1; go_at_call 11; refine (bytes32 x0 x1 x2 x3 x4 _ (red_low hred)).mono ?_; rintro r w2 ⟨B, d, rfl, hb2, hr2⟩; rw [hev] at hr2)
      | (go_at_call 10; refine (from_walk A n c l w HL.out (by have := n1.out; omega) HR.out).mono ?_; rintro r w1 ⟨x0, x1, x2, x3, x4, hev, hred, rfl, hb1⟩; rw [HV.out] at hev))
    have HS2 := hide ((((St.init w NoB).call hb1).alloc #[.int .u64 (x0 : Int), .int .u64 (x1 : Int), .int .u64 (x2 : Int), .int .u64 (x3 : Int), .int .u64 (x4 : Int)] 27).call hb2)
    have hVP : V < Pq := by rw [← HV.out]; exact Nat.mod_lt _ (by have := Pq_256.2; omega)
    have hVb : bval (leB 32 V) = V := by rw [bval_leB]; exact Nat.mod_eq_of_lt (Nat.lt_trans hVP Pq_256.1)
    have HVV : Hid (bval (fullL (leB 32 V)) % Pq = V) := hide (by rw [fullL_id _ (leB_len _ _), hVb]; exact Nat.mod_eq_of_lt hVP)
    obtain ⟨L, hL⟩ : ∃ L, L = leB 32 V := ⟨_, rfl⟩
    have HL32 : Hid (L.length = 32) := hide (by rw [hL]; exact leB_len _ _)
    rw [← hL] at hr2 HVV
    obtain ⟨t, ht⟩ : ∃ t, t = V / 256 ^ 31 % 256 := ⟨_, rfl⟩
    have ht2 : t ≤ 127 := by rw [ht]; exact top_byte V hVP
    have hbt : (bvs L)[31]? = some (.int .u8 (t : Int)) := by
      have := bvs_get (leB_get 32 V 31 (by omega))
      rw [← hL, UInt8.toNat_ofNat', ← ht, Nat.mod_eq_of_lt (by omega)] at this
      exact this
    have HBT := hide hbt
    have HLD := hide hL
    have HEV := hide hev
    have HRED := hide hred
    have HVP := hide hVP
    have HT := hide ht
    have dt : decide (127 < (t : Int)) = false := by simp; omega
    obtain ⟨b, o, rfl⟩ : ∃ b o, B = some ⟨b, o, none⟩ := by
      rcases hr2.cases with ⟨_, h0, _⟩ | ⟨b, o, sp, c', hv, _, _, _, _, h4, _⟩
      · cases h0
      · injection hv with hv1 _ _
        have := h4 (by decide)
        subst this hv1
        exact ⟨b, o, rfl⟩
    have R2 := hide (show Rd w2.drew _ _ _ _ from hr2)
    clear hVP hVb hL ht hbt hev hred hr2 _q
    have p0 : ∀ z, From w2.drew z → z.cell? ⟨w1.heap.size, 0, none⟩ = some (.int .u64 (x0 : Int)) := fun z hz => by rw [hz.cell (p := ⟨w1.heap.size, 0, none⟩) (Chunk.lt (HS2.out.drew.sat 0 _ rfl) rfl)]; exact HS2.out.drew.cell 0 rfl 0
    have p1 : ∀ z, From w2.drew z → z.cell? ⟨w1.heap.size, 1, none⟩ = some (.int .u64 (x1 : Int)) := fun z hz => by rw [hz.cell (p := ⟨w1.heap.size, 1, none⟩) (Chunk.lt (HS2.out.drew.sat 0 _ rfl) rfl)]; exact HS2.out.drew.cell 0 rfl 1
    have p2 : ∀ z, From w2.drew z → z.cell? ⟨w1.heap.size, 2, none⟩ = some (.int .u64 (x2 : Int)) := fun z hz => by rw [hz.cell (p := ⟨w1.heap.size, 2, none⟩) (Chunk.lt (HS2.out.drew.sat 0 _ rfl) rfl)]; exact HS2.out.drew.cell 0 rfl 2
    have p3 : ∀ z, From w2.drew z → z.cell? ⟨w1.heap.size, 3, none⟩ = some (.int .u64 (x3 : Int)) := fun z hz => by rw [hz.cell (p := ⟨w1.heap.size, 3, none⟩) (Chunk.lt (HS2.out.drew.sat 0 _ rfl) rfl)]; exact HS2.out.drew.cell 0 rfl 3
    have p4 : ∀ z, From w2.drew z → z.cell? ⟨w1.heap.size, 4, none⟩ = some (.int .u64 (x4 : Int)) := fun z hz => by rw [hz.cell (p := ⟨w1.heap.size, 4, none⟩) (Chunk.lt (HS2.out.drew.sat 0 _ rfl) rfl)]; exact HS2.out.drew.cell 0 rfl 4
    have cb : ∀ z, From w2.drew z → z.cell? ⟨b, o + 31, none⟩ = some (.int .u8 (t : Int)) := fun z hz => rd_at (R2.out.below hz) HBT.out
    refine wp_region_F (by kernel_rfl) ?_
    (refine wpG_take (i := 0) (v := ?_) rfl (by kernel_rfl) (by kernel_rfl) (by kernel_rfl) (fun _ _ _ h => h) (From.refl _) (Or.inl ⟨by first | kernel_rfl | rfl, ?_⟩) ?_; rotate_left; (intro wx hx; go_simp) <;> (with_reducible rfl); (try simp only [Act.put, List.setIfInBounds_toArray, List.set_cons_zero, List.set_cons_succ, List.getElem_toArray, List.getElem_cons_succ, List.getElem_cons_zero])); (refine wpG_take (i := 1) (v := ?_) rfl (by kernel_rfl) (by kernel_rfl) (by kernel_rfl) (fun _ _ _ h => h) (From.refl _) (Or.inl ⟨by first | kernel_rfl | rfl, ?_⟩) ?_; rotate_left; (intro wx hx; go_simp) <;> (with_reducible rfl); (try simp only [Act.put, List.setIfInBounds_toArray, List.set_cons_zero, List.set_cons_succ, List.getElem_toArray, List.getElem_cons_succ, List.getElem_cons_zero])); (refine wpG_take (i := 2) (v := ?_) rfl (by kernel_rfl) (by kernel_rfl) (by kernel_rfl) (fun _ _ _ h => h) (From.refl _) (Or.inl ⟨by first | kernel_rfl | rfl, ?_⟩) ?_; rotate_left; (intro wx hx; go_simp) <;> (with_reducible rfl); (try simp only [Act.put, List.setIfInBounds_toArray, List.set_cons_zero, List.set_cons_succ, List.getElem_toArray, List.getElem_cons_succ, List.getElem_cons_zero])); (refine wpG_take (i := 3) (v := ?_) rfl (by kernel_rfl) (by kernel_rfl) (by kernel_rfl) (fun _ _ _ h => h) (From.refl _) (Or.inl ⟨by first | kernel_rfl | rfl, ?_⟩) ?_; rotate_left; (intro wx hx; go_simp) <;> (with_reducible rfl); (try simp only [Act.put, List.setIfInBounds_toArray, List.set_cons_zero, List.set_cons_succ, List.getElem_toArray, List.getElem_cons_succ, List.getElem_cons_zero])); (refine wpG_take (i := 4) (v := ?_) rfl (by kernel_rfl) (by kernel_rfl) (by kernel_rfl) (fun _ _ _ h => h) (From.refl _) (Or.inl ⟨by first | kernel_rfl | rfl, ?_⟩) ?_; rotate_left; (intro wx hx; go_simp) <;> (with_reducible rfl); (try simp only [Act.put, List.setIfInBounds_toArray, List.set_cons_zero, List.set_cons_succ, List.getElem_toArray, List.getElem_cons_succ, List.getElem_cons_zero])); (refine wpG_take (i := 6) (v := ?_) rfl (by kernel_rfl) (by kernel_rfl) (by kernel_rfl) (fun _ _ _ h => h) (From.refl _) (Or.inl ⟨by first | kernel_rfl | rfl, ?_⟩) ?_; rotate_left; (intro wx hx; go_simp) <;> (with_reducible rfl); (try simp only [Act.put, List.setIfInBounds_toArray, List.set_cons_zero, List.set_cons_succ, List.getElem_toArray, List.getElem_cons_succ, List.getElem_cons_zero]))
    (refine wpG_one (i := 5) (by kernel_rfl) rfl ?_; intro K hK; (try simp only [Act.put, List.setIfInBounds_toArray, List.set_cons_zero, List.set_cons_succ, List.getElem_toArray, List.getElem_cons_succ, List.getElem_cons_zero]))
    refine step_call rfl rfl enFrom rfl (from_walk (some ⟨b, o, none⟩) 32 d L _ HL32.out (by decide) R2.out) ?_
    rintro r w3 ⟨y0, y1, y2, y3, y4, hev3, hred3, rfl, hb3⟩
    rw [HVV.out] at hev3
    refine ⟨_, rfl, hK (From w3) _ _ (From.next hb3) (From.refl _) ?_⟩
    clear hK K p0 p1 p2 p3 p4 cb
    (try simp only [Act.put, List.setIfInBounds_toArray, List.set_cons_zero, List.set_cons_succ, List.getElem_toArray, List.getElem_cons_succ, List.getElem_cons_zero])
    (refine wpG_one (i := 7) (by kernel_rfl) rfl ?_; intro K hK; (try simp only [Act.put, List.setIfInBounds_toArray, List.set_cons_zero, List.set_cons_succ, List.getElem_toArray, List.getElem_cons_succ, List.getElem_cons_zero]))
    refine step_call rfl rfl enSame rfl (same_walk y0 y1 y2 y3 y4 x0 x1 x2 x3 x4 _ (red_low hred3) (red_low HRED.out)) ?_
    rintro r w4 ⟨rfl, hb4⟩
    rw [hev3, HEV.out, decide_eq_true rfl]
    refine ⟨_, rfl, hK (From w4) _ _ (From.next hb4) (From.refl _) ?_⟩
    clear hK K hev3 hred3
    (try simp only [Act.put, List.setIfInBounds_toArray, List.set_cons_zero, List.set_cons_succ, List.getElem_toArray, List.getElem_cons_succ, List.getElem_cons_zero])
    have R4 := hide ((R2.out.below hb3).below hb4)
    have cb : ∀ z, From w4 z → z.cell? ⟨b, o + 31, none⟩ = some (.int .u8 (t : Int)) := fun z hz => rd_at (R4.out.below hz) HBT.out
    (refine wpG_take (i := 8) (v := ?_) rfl (by kernel_rfl) (by kernel_rfl) (by kernel_rfl) (fun _ _ _ h => h) (From.refl _) (Or.inl ⟨by first | kernel_rfl | rfl, ?_⟩) ?_; rotate_left; (intro wx hx; go_simp) <;> (with_reducible rfl); (try simp only [Act.put, List.setIfInBounds_toArray, List.set_cons_zero, List.set_cons_succ, List.getElem_toArray, List.getElem_cons_succ, List.getElem_cons_zero])); (refine wpG_take (i := 9) (v := ?_) rfl (by kernel_rfl) (by kernel_rfl) (by kernel_rfl) (fun _ _ _ h => h) (From.refl _) (Or.inl ⟨by first | kernel_rfl | rfl, ?_⟩) ?_; rotate_left; (intro wx hx; go_simp) <;> (with_reducible rfl); (try simp only [Act.put, List.setIfInBounds_toArray, List.set_cons_zero, List.set_cons_succ, List.getElem_toArray, List.getElem_cons_succ, List.getElem_cons_zero])); (refine wpG_take (i := 10) (v := ?_) rfl (by kernel_rfl) (by kernel_rfl) (by kernel_rfl) (fun _ _ _ h => h) (From.refl _) (Or.inl ⟨by first | kernel_rfl | rfl, ?_⟩) ?_; rotate_left; (intro wx hx; go_simp) <;> (with_reducible rfl); (try simp only [Act.put, List.setIfInBounds_toArray, List.set_cons_zero, List.set_cons_succ, List.getElem_toArray, List.getElem_cons_succ, List.getElem_cons_zero])); (refine wpG_take (i := 11) (v := ?_) rfl (by kernel_rfl) (by kernel_rfl) (by kernel_rfl) (fun _ _ _ h => h) (From.refl _) (Or.inl ⟨by first | kernel_rfl | rfl, ?_⟩) ?_; rotate_left; (intro wx hx; go_simp) <;> (with_reducible rfl); (try simp only [Act.put, List.setIfInBounds_toArray, List.set_cons_zero, List.set_cons_succ, List.getElem_toArray, List.getElem_cons_succ, List.getElem_cons_zero])); (refine wpG_take (i := 12) (v := ?_) rfl (by kernel_rfl) (by kernel_rfl) (by kernel_rfl) (fun _ _ _ h => h) (From.refl _) (Or.inl ⟨by first | kernel_rfl | rfl, ?_⟩) ?_; rotate_left; (intro wx hx; go_simp) <;> (with_reducible rfl); (try simp only [Act.put, List.setIfInBounds_toArray, List.set_cons_zero, List.set_cons_succ, List.getElem_toArray, List.getElem_cons_succ, List.getElem_cons_zero])); (refine wpG_take (i := 13) (v := ?_) rfl (by kernel_rfl) (by kernel_rfl) (by kernel_rfl) (fun _ _ _ h => h) (From.refl _) (Or.inl ⟨by first | kernel_rfl | rfl, ?_⟩) ?_; rotate_left; (intro wx hx; go_simp) <;> (with_reducible rfl); (try simp only [Act.put, List.setIfInBounds_toArray, List.set_cons_zero, List.set_cons_succ, List.getElem_toArray, List.getElem_cons_succ, List.getElem_cons_zero])); (refine wpG_take (i := 14) (v := ?_) rfl (by kernel_rfl) (by kernel_rfl) (by kernel_rfl) (fun _ _ _ h => h) (From.refl _) (Or.inl ⟨by first | kernel_rfl | rfl, ?_⟩) ?_; rotate_left; (intro wx hx; go_simp) <;> (with_reducible rfl); (try simp only [Act.put, List.setIfInBounds_toArray, List.set_cons_zero, List.set_cons_succ, List.getElem_toArray, List.getElem_cons_succ, List.getElem_cons_zero])); (refine wpG_take (i := 15) (v := ?_) rfl (by kernel_rfl) (by kernel_rfl) (by kernel_rfl) (fun _ _ _ h => h) (From.refl _) (Or.inl ⟨by first | kernel_rfl | rfl, ?_⟩) ?_; rotate_left; (intro wx hx; go_simp) <;> (with_reducible rfl); (try simp only [Act.put, List.setIfInBounds_toArray, List.set_cons_zero, List.set_cons_succ, List.getElem_toArray, List.getElem_cons_succ, List.getElem_cons_zero]))
    refine wpG_done (by kernel_rfl) ?_ _
    clear cb
    have HS4 := hide ((HS2.out.drew.call hb3).call hb4)
    clear hb1 hb2 hb3 hb4 HS2 R2 dt
    go_wp2_with (refine wl_makeB (n := 32) rfl rfl Try.underlying22 infoB (St.init w4 NoB) rfl rfl (by decide) ?_; intro g w5 hS5 hb5)
    have HS5 := hide hS5
    clear hS5
    go_loopw [37] (fun i wr => ∃ k : Nat, k ≤ 32 ∧ i = .int .i64 (k : Int) ∧ St w4 NoB wr [.row (.slice (some ⟨g, 0, none⟩) 32 32) 5 1 32 (bvs (fillL k))]) (fun i _ => 32 - (intOf i).toNat)
    case atStart => exact ⟨0, by omega, rfl, HS5.out⟩
    case round =>
      obtain ⟨k, hk, rfl, hS⟩ := hrel
      obtain ⟨g', c', hv, _, _, hcs, hfr, _⟩ := hS.rowOpen 0 rfl (by decide)
      injection hv with hv1 _ hv3
      injection hv1 with hv1
      injection hv1 with hv1
      subst hv1 hv3
      have HSK := hide hS
      by_cases hlt : k < 32
      · obtain ⟨x, hx⟩ : ∃ x, (fillL k)[k]? = some x := ⟨_, List.getElem?_eq_getElem (by rw [fillL_len k hk]; omega)⟩
        have kc := hcs k _ (bvs_get hx)
        have kf := hfr k
        have ik : (k : Int) < 32 := by omega
        clear hcs hfr hx hS
        go_wp2_with fail
        go_roundw
        case rel =>
          refine ⟨k + 1, by omega, by go_num, ?_⟩
          have h3 := HSK.out.rowSet 0 rfl k (.int .u8 (255 : Nat)) (by omega)
          rw [bvs_set _ _ _ (by omega), show UInt8.ofNat 255 = 255 from rfl, fillL_set k hlt] at h3
          exact h3
        case measure => simp [intOf]; omega
      · obtain rfl : k = 32 := by omega
        have k0 : wr.cell? ⟨g, 0, none⟩ = some (.int .u8 255) := hcs 0 _ (by unfold fillL; rfl)
        have k31 : wr.cell? ⟨g, 31, none⟩ = some (.int .u8 255) := hcs 31 _ (by unfold fillL; rfl)
        have f0 := hfr 0
        have f31 := hfr 31
        have h3 := (HSK.out.rowSet 0 rfl 0 (.int .u8 (237 : Nat)) (by omega)).rowSet 0 rfl 31 (.int .u8 (127 : Nat)) (by omega)
        rw [bvs_set _ _ _ (by omega), bvs_set _ _ _ (by omega), show ((fillL 32).set 0 (UInt8.ofNat 237)).set 31 (UInt8.ofNat 127) = pL from by unfold fillL; exact pL_set] at h3
        have HSZ := hide (show St w4 NoB ((wr.setCell ⟨g, 0, none⟩ (.int .u8 237)).setCell ⟨g, 31, none⟩ (.int .u8 127)) [.row (.slice (some ⟨g, 0, none⟩) 32 32) 5 1 32 (bvs pL)] from h3)
        clear hcs hfr hS h3 HSK
        go_upto_region 14 with fail
        generalize hwz : (wr.setCell ⟨g, 0, none⟩ (.int .u8 237)).setCell ⟨g, 31, none⟩ (.int .u8 127) = wz
        rw [hwz] at HSZ
        clear hwz k0 k31 f0 f31
        have RZ := hide (R4.out.st HSZ.out)
        have cb : wz.cell? ⟨b, o + 31, none⟩ = some (.int .u8 (t : Int)) := rd_at RZ.out HBT.out
        have hq : ((t : Int) == 127) = bigAt V 1 := by
          rw [bigAt_one, ← HT.out, Bool.eq_iff_iff]
          simp
          omega
        go_wp2_with fail
        go_loopw [7, 8] (fun bg i wr => ∃ k : Nat, 1 ≤ k ∧ k ≤ 31 ∧ i = .int .i64 (k : Int) ∧ bg = .bool (bigAt V k) ∧ wr = wz) (fun _ i _ => 31 - (intOf i).toNat)
        case atStart => exact ⟨1, by omega, by omega, rfl, rfl, rfl⟩
        case round =>
          obtain ⟨k, hk1, hk31, rfl, rfl, hw⟩ := hrel
          subst hw
          clear cb hq hk
          by_cases h31 : k < 31
          · obtain ⟨u, hu⟩ : ∃ u, u = V / 256 ^ k % 256 := ⟨_, rfl⟩
            have hu2 : u < 256 := by omega
            have hbk : (bvs L)[k]? = some (.int .u8 (u : Int)) := by
              have := bvs_get (leB_get 32 V k (by omega))
              rw [← HLD.out, UInt8.toNat_ofNat', ← hu, Nat.mod_eq_of_lt (by omega)] at this
              exact this
            have cbk := rd_at RZ.out hbk
            have hq2 : ((u : Int) == 255) = decide (u = 255) := by rw [Bool.eq_iff_iff]; simp; omega
            have hnx := bigAt_next V k hk1
            rw [← hu] at hnx
            have HNX := hide hnx
            have dk : decide ((k : Int) < 31) = true := by simp; omega
            have ik : (k : Int) < 32 := by omega
            clear hu hbk hnx
            cases hB : bigAt V k
            · rw [hB] at HNX
              go_wp2_with fail
              go_roundw
              case rel => exact ⟨k + 1, by omega, by omega, by go_num, by rw [HNX.out]; rfl, trivial⟩
              case measure => simp [intOf]; omega
            · rw [hB] at HNX
              go_wp2_with fail
              go_roundw
              case rel => exact ⟨k + 1, by omega, by omega, by go_num, by rw [HNX.out, Bool.true_and], trivial⟩
              case measure => simp [intOf]; omega
          · obtain rfl : k = 31 := by omega
            have RM := hide (rd_mid (HSZ.out.rd 0 rfl) 1 32 (by decide) (by decide))
            obtain ⟨v, hv⟩ : ∃ v, v = V % 256 := ⟨_, rfl⟩
            have hv2 : v < 256 := by omega
            have hbv : (bvs L)[0]? = some (.int .u8 (v : Int)) := by
              have := bvs_get (leB_get 32 V 0 (by omega))
              rw [← HLD.out, UInt8.toNat_ofNat', Nat.pow_zero, Nat.div_one, ← hv, Nat.mod_eq_of_lt (by omega)] at this
              exact this
            have HBV := hide hbv
            have HBL : Hid (bigAt V 31 = true → v < 237) := hide (fun h => by rw [hv]; exact bigAt_low V HVP.out h)
            clear hv hbv hk1 hk31 h31 hlt
            go_upto_region 20 with (at_builtin; refine wl_append rfl rfl tyB ((St.init _ NoB).lit [.int .u8 238] 5 1 1 rfl (by decide)) 0 rfl rfl rfl (RM.out.st ((St.init _ NoB).lit [.int .u8 238] 5 1 1 rfl (by decide))) (one_bvs _) (by decide) (by decide) ?_; intro A9 c9 w9 hS9)
            have hSq : St wr NoB w9 [.row (.slice A9 32 c9) 5 1 32 (bvs qL)] := by rw [← q_eq]; exact hS9
            have HSq := hide hSq
            have RP := hide ((HSZ.out.rd 0 rfl).st HSq.out)
            have RQ := hide (HSq.out.rd 0 rfl)
            have cb0 : w9.cell? ⟨b, o, none⟩ = some (.int .u8 (v : Int)) := rd_at (RZ.out.st HSq.out) HBV.out
            have HP := hide (fun W h => from_walk (some ⟨g, 0, none⟩) 32 32 pL W pL_len (by decide) h)
            have HQ := hide (fun W h => from_walk A9 32 c9 qL W qL_len (by decide) h)
            rw [p_zero] at HP
            rw [q_one] at HQ
            have H1 := hide (fun W => small_walk 1 W (by omega))
            clear hSq hS9
            have dv : bigAt V 31 = true → decide ((v : Int) < 237) = true := fun h => by have := HBL.out h; simp; omega
            cases hB : bigAt V 31
            all_goals
              try have dv2 := dv hB
              clear dv
              go_wp2_with (first
                | (have _q := hc6; go_at_call 9; refine (awake_any _).mono ?_; rintro e v7 ⟨rfl, hc7⟩)
                | (have _q := hc5; go_at_call 13; refine (zero_any _).mono ?_; rintro e v6 ⟨rfl, hc6⟩)
                | (have _q := hc4; go_at_call 12; refine (same_walk _ _ _ _ _ _ _ _ _ _ _ (red_low hd3) (low_small 1 (by omega))).mono ?_; rintro e v5 ⟨rfl, hc5⟩; rw [hv3, ev_small 1 (by omega), decide_eq_true rfl])
                | (have _q := hc3; go_at_call 14; refine (H1.out _).mono ?_; rintro e v4 ⟨rfl, hc4⟩)
                | (have _q := hc2; go_at_call 10; refine (HQ.out _ ((RQ.out.below hc1).below hc2)).mono ?_; rintro e v3 ⟨q0, q1, q2, q3, q4, hv3, hd3, rfl, hc3⟩)
                | (have _q := hc1; go_at_call 13; refine (iszero_walk _ _ _ _ _ _ (red_low hd1)).mono ?_; rintro e v2 ⟨rfl, hc2⟩; rw [hv1, decide_eq_true rfl])
                | (go_at_call 10; refine (HP.out _ RP.out).mono ?_; rintro e v1 ⟨p0, p1, p2, p3, p4, hv1, hd1, rfl, hc1⟩))
              go_ret
              exact ⟨rfl, bnx (bnx (bnx (bnx (bnx (bnx (bnx (bnx (bnx HS4.out.below HSZ.out.below) HSq.out.below) hc1) hc2) hc3) hc4) hc5) hc6) hc7⟩
end Go.Proofs.Ytdihedhhkcakoaa
