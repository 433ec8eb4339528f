/-
  Layer 1: the walk of ShaPieces.
-/
import Derived.Test.YtabdbddmmbccjaaHt
namespace Go.Proofs.Ytabdbddmmbccjaa
open Go.RowKit
set_option linter.unusedSimpArgs false

/-- A piece that came in. -/
structure PcV where
  A : Option Addr
  c : Nat
  b : List UInt8
def PcV.cells (p : PcV) : List Value := [.slice p.A p.b.length p.c]
def PcOK (W : World) (p : PcV) : Prop := Rd W (.slice p.A p.b.length p.c) 1 p.b.length (bvs p.b) ∧ p.b.length ≤ 140737488351232
def PcsAt (W : World) (v : Value) (ps : List PcV) : Prop := Rd W v 1 ps.length (ps.flatMap PcV.cells) ∧ ∀ p ∈ ps, PcOK W p
def allL (ps : List PcV) : List UInt8 := ps.flatMap PcV.b
theorem pcs_get {ps : List PcV} {k : Nat} {p : PcV} (h : ps[k]? = some p) : (ps.flatMap PcV.cells)[k]? = some (.slice p.A p.b.length p.c) := by
  induction ps generalizing k with
  | nil => simp at h
  | cons q ps ih =>
    cases k with
    | zero =>
      simp only [List.getElem?_cons_zero, Option.some.injEq] at h
      subst h
      rfl
    | succ k => exact ih (by simpa using h)
theorem allL_take {ps : List PcV} {k : Nat} {p : PcV} (h : ps[k]? = some p) : allL (ps.take (k + 1)) = allL (ps.take k) ++ p.b := by
  obtain ⟨hk, hx⟩ := List.getElem?_eq_some_iff.1 h
  unfold allL
  rw [List.take_succ_eq_append_getElem hk, List.flatMap_append, hx]
  simp
theorem allL_le (ps : List PcV) : ∀ k, (allL (ps.take k)).length ≤ (allL ps).length := fun k => by
  have : allL ps = allL (ps.take k) ++ allL (ps.drop k) := by unfold allL; rw [← List.flatMap_append, List.take_append_drop]
  rw [this, List.length_append]
  omega
def CntRel (ps : List PcV) (n i : Value) : Prop := ∃ (k : Nat) (z : Int), k ≤ ps.length ∧ i = .int .i64 (k : Int) ∧ n = .int .i64 z ∧ (k ≤ 60 → z = ((allL (ps.take k)).length : Int))
def PcRel (w : World) (ps : List PcV) (g : Nat) (a i : Value) (wr : World) : Prop := ∃ (j : Nat) (L : List UInt8) (m : Nat) (X : Option Addr) (x : Nat) (A' : Option Addr) (c' : Nat), j ≤ ps.length ∧ i = .int .i64 (j : Int) ∧ a = .slice A' m c' ∧ L.length = m ∧ L = allL (ps.take j) ∧
  St w NoB wr [HCk g X x L, HRk X x L, .row (.slice A' m c') 5 1 m (bvs L)]
theorem rd_old {w : World} {b o n d : Nat} {xs : List Value} {k : Nat} {u : Value} (h : Rd w (.slice (some ⟨b, o, none⟩) n d) 1 n xs) (hk : xs[k]? = some u) : b < w.heap.size := by
  rcases h.cases with ⟨hv, _, _⟩ | ⟨b', o', sp, c', hv, hb, _, _, hl, _, _⟩
  · cases hv
  · injection hv with hv1 _ _
    have hkl : k < xs.length := (List.getElem?_eq_some_iff.1 hk).1
    injection hv1 with hv1
    injection hv1 with hv1 _ _
    subst hv1
    exact hb (by omega)
theorem rd_cell {w : World} {B : Option Addr} {n d : Nat} {xs : List Value} {k : Nat} {u : Value} (h : Rd w (.slice B n d) 1 n xs) (hk : xs[k]? = some u) : ∃ b o, B = some ⟨b, o, none⟩ ∧ w.cell? ⟨b, o + k, none⟩ = some u := by
  rcases h.cases with ⟨_, _, h0⟩ | ⟨b, o, sp, c', hv, _, _, _, hl, h4, hc⟩
  · rw [h0] at hk; simp at hk
  · injection hv with hv1 _ _
    have hkl : k < xs.length := (List.getElem?_eq_some_iff.1 hk).1
    have := h4 (by omega)
    subst this hv1
    exact ⟨b, o, rfl, hc k u hk⟩
theorem cnt_le {ps : List PcV} {M : Nat} (h : ∀ p ∈ ps, p.b.length ≤ M) : ∀ k, (allL (ps.take k)).length ≤ k * M := by
  intro k
  induction k with
  | zero => simp [allL]
  | succ k ih =>
    rcases Nat.lt_or_ge k ps.length with hlt | hge
    · have hx : ps[k]? = some ps[k] := List.getElem?_eq_getElem hlt
      rw [allL_take hx, List.length_append]
      have := h _ (List.mem_of_getElem? hx)
      rw [Nat.succ_mul]
      omega
    · rw [List.take_of_length_le (by omega)] at ih ⊢
      rw [Nat.succ_mul]
      omega
set_option maxRecDepth 100000 in
set_option maxHeartbeats 1600000 in
theorem shaPieces_walk (A : Option Addr) (c : Nat) (ps : List PcV) (ask : Int) (w : World) (hp : PcsAt w (.slice A ps.length c) ps) (ha : I64 ask) :
    Calls Try.prog 4 #[.slice A ps.length c, .int .i64 ask] w fun e w' => e = .returned (.bool true) ∧ Below w.heap.size w w' := by
  obtain ⟨hr, he⟩ := hp
  have HR := hide hr
  have HE := hide he
  obtain ⟨n, hn⟩ : ∃ n, n = ps.length := ⟨_, rfl⟩
  rw [← hn] at HR ⊢
  have HL := hide hn.symm
  have hnm : n ≤ maxLen := HR.out.le
  unfold maxLen at hnm
  clear hr he hn
  obtain ⟨tot, htot⟩ : ∃ t, t = (allL ps).length := ⟨_, rfl⟩
  have HTOT := hide htot
  clear htot
  have HTB : Hid (n = 0 ∨ True) := hide (Or.inr trivial)
  go_enter Try.func4, Try.ntmps4
  go_wp2_with fail
  go_loopw [5, 15] (fun n' i' wr => CntRel ps n' i' ∧ wr = w) (fun _ i _ => n - (intOf i).toNat)
  case atStart => exact ⟨⟨0, 0, by omega, rfl, rfl, fun _ => by simp [allL]⟩, rfl⟩
  case round =>
    obtain ⟨⟨k, z, hk, rfl, rfl, hz⟩, hw⟩ := hrel; obtain rfl : w = wr := hw.symm; clear hw
    rw [HL.out] at hk
    have HM := hide (allL_le ps k)
    by_cases hlt : k < n
    · obtain ⟨p, hp⟩ : ∃ p, ps[k]? = some p := ⟨ps[k]'(by rw [HL.out]; exact hlt), List.getElem?_eq_getElem _⟩
      obtain ⟨b, o, rfl, hc⟩ := rd_cell HR.out (pcs_get hp)
      have hpl := (HE.out p (List.mem_of_getElem? hp)).2
      have HT := hide (allL_take hp)
      have HCL := hide (cnt_le (fun p hp => (HE.out p hp).2) k)
      have HZ := hide hz
      clear hp hz
      have dk : decide ((k : Int) < (n : Int)) = true := by simp; omega
      have ik : (k : Int) < (n : Int) := by omega
      go_wp2_with fail
      go_roundw
      case rel => exact ⟨⟨k + 1, _, by rw [HL.out]; omega, by go_num, rfl, fun h6 => by (have hz := HZ.out (by omega)); (have hc := HCL.out); (rw [HT.out, List.length_append]); (subst hz); (have hk2 : k * 140737488351232 ≤ 60 * 140737488351232 := Nat.mul_le_mul_right _ (by omega)); exact (IntWalk.wrap64_in _ ⟨by omega, by omega⟩).trans (by omega)⟩, trivial⟩
      case measure => (simp [intOf]) <;> omega
    · obtain rfl : k = n := by omega
      rw [List.take_of_length_le (by rw [HL.out]; omega), ← HTOT.out] at hz
      by_cases hbig : 50 < k ∨ 3000 < tot
      · by_cases h50 : 50 < k
        · have d50 : decide ((50 : Int) < (k : Int)) = true := by simp; omega
          clear hz hbig
          go_wp2_with (go_at_call 8; refine (awake_any _).mono ?_; rintro e w1 ⟨rfl, hb1⟩)
          go_ret
          exact ⟨rfl, hb1⟩
        · have d50 : decide ((50 : Int) < (k : Int)) = false := by simp; omega
          obtain rfl := hz (by omega)
          have d30 : decide ((3000 : Int) < (tot : Int)) = true := by simp; omega
          clear hz hbig
          go_wp2_with (go_at_call 8; refine (awake_any _).mono ?_; rintro e w1 ⟨rfl, hb1⟩)
          go_ret
          exact ⟨rfl, hb1⟩
      · obtain rfl := hz (by omega)
        have d50 : decide ((50 : Int) < (k : Int)) = false := by simp; omega
        have d30 : decide ((3000 : Int) < (tot : Int)) = false := by simp; omega
        have ht3 : tot ≤ 3000 := by omega
        have hk50 : k ≤ 50 := by omega
        clear hz hbig HM hlt hk hnm
        go_wp2_with (go_at_call 11; refine (new_any _ (St.init _ NoB)).mono ?_; rintro e w1 ⟨g, rfl, hS1, hb1⟩; have HS1 := hide hS1; have HG := hide ((hS1.own 0 _ g rfl rfl).resolve_right (fun x => x)); clear hS1 hb1)
        go_loopw [9, 35] (fun a i wr => PcRel w ps g a i wr) (fun _ i _ => k - (intOf i).toNat)
        case atStart => exact ⟨0, [], 0, none, 0, none, 0, by omega, rfl, rfl, rfl, rfl, (HS1.out.row (Below.refl _ _) (World.ownsRow_nil _ _ 5 1)).pickL [1, 2, 0] (by decide) rfl⟩
        case round =>
          clear HS1
          obtain ⟨j, L, m, X, x, A', c', hj, rfl, rfl, hLm, hLt, hS⟩ := hrel
          rw [HL.out] at hj
          have hmt : m ≤ tot := by rw [← hLm, hLt, HTOT.out]; exact allL_le ps j
          have HLm := hide hLm
          have HLt := hide hLt
          by_cases hlt : j < k
          · obtain ⟨p, hp⟩ : ∃ p, ps[j]? = some p := ⟨ps[j]'(by rw [HL.out]; exact hlt), List.getElem?_eq_getElem _⟩
            have HP := hide (HE.out p (List.mem_of_getElem? hp)).1
            have hnx := allL_take hp
            have hpt : m + p.b.length ≤ tot := by (have h := allL_le ps (j + 1)); (rw [hnx, List.length_append, ← hLt, hLm, ← HTOT.out] at h); exact h
            rw [← hLt] at hnx
            have HNX := hide hnx
            obtain ⟨b, o, rfl, hc0⟩ := rd_cell HR.out (pcs_get hp)
            have hc := (hS.below.cell (p := ⟨b, o + j, none⟩) (rd_old HR.out (pcs_get hp))).trans hc0
            obtain ⟨pn, hpn⟩ : ∃ q, q = p.b.length := ⟨_, rfl⟩
            rw [← hpn] at hc hpt HP
            have HPN := hide hpn.symm
            have HS := hide hS
            clear hp hc0 hS hLm hLt hnx hpn
            generalize p.A = PA at *
            generalize p.c = Pc at *
            have dj : decide ((j : Int) < (k : Int)) = true := by simp; omega
            have ij : (j : Int) < (k : Int) := by omega
            go_upto_region 16 with (first
              | (at_builtin; refine wl_append rfl rfl tyB HS2.out 2 rfl rfl rfl (HP.out.st HS2.out) (one_bvs _) (by omega) (by decide) ?_; intro A3 c3 w3 hS3; have HS3 := hide hS3; clear hS3)
              | (go_at_call 12; refine (write_msg g X x L PA Pc pn p.b _ HPN.out (by rw [HLm.out]; omega) HS.out (HP.out.st HS.out) (rd_far HP.out HG.out)).mono ?_; rintro e w2 ⟨rfl, X2, x2, hS2⟩; have HS2 := hide hS2; clear hS2))
            have HT3 : Hid (St w NoB w3 [HCk g X2 x2 (L ++ p.b), HRk X2 x2 (L ++ p.b), .row (.slice A3 (m + pn) c3) 5 1 (m + pn) (bvs (L ++ p.b))]) := by (have h := HS3.out); (rw [← bvs_append] at h); exact hide h
            rw [← HNX.out] at HT3
            obtain ⟨L', hL'⟩ : ∃ l, l = allL (ps.take (j + 1)) := ⟨_, rfl⟩
            rw [← hL'] at HT3
            have HL' : Hid (L'.length = m + pn) := hide (by rw [hL', HNX.out, List.length_append, HLm.out, HPN.out])
            have HE' := hide hL'
            clear hL' HS3 HS2 HS
            generalize m + pn = m2 at *
            rcases Bool.eq_false_or_eq_true ((j : Int) == IntKind.i64.wrap ((IntKind.u64.wrap ask).tmod 50)) with hbq | hbq
            · clear HTB
              have HS20 := hide HT3.out.drew
              refine wp_region_F (by kernel_rfl) ?_
              (refine wpG_take (i := 0) (v := ?_) rfl (by kernel_rfl) (by kernel_rfl) (by kernel_rfl) (fun _ _ _ h => h) (From.refl _) (Or.inl ⟨by first | kernel_rfl | rfl, ?_⟩) ?_; rotate_left; (intro wx hx; go_simp) <;> (with_reducible rfl); (try simp only [Act.put, List.setIfInBounds_toArray, List.set_cons_zero, List.set_cons_succ, List.getElem_toArray, List.getElem_cons_succ, List.getElem_cons_zero])); (refine wpG_take (i := 1) (v := ?_) rfl (by kernel_rfl) (by kernel_rfl) (by kernel_rfl) (fun _ _ _ h => h) (From.refl _) (Or.inl ⟨by first | kernel_rfl | rfl, ?_⟩) ?_; rotate_left; (intro wx hx; go_simp) <;> (with_reducible rfl); (try simp only [Act.put, List.setIfInBounds_toArray, List.set_cons_zero, List.set_cons_succ, List.getElem_toArray, List.getElem_cons_succ, List.getElem_cons_zero])); (refine wpG_take (i := 2) (v := ?_) rfl (by kernel_rfl) (by kernel_rfl) (by kernel_rfl) (fun _ _ _ h => h) (From.refl _) (Or.inl ⟨by first | kernel_rfl | rfl, ?_⟩) ?_; rotate_left; (intro wx hx; go_simp) <;> (with_reducible rfl); (try simp only [Act.put, List.setIfInBounds_toArray, List.set_cons_zero, List.set_cons_succ, List.getElem_toArray, List.getElem_cons_succ, List.getElem_cons_zero])); (refine wpG_take (i := 3) (v := ?_) rfl (by kernel_rfl) (by kernel_rfl) (by kernel_rfl) (fun _ _ _ h => h) (From.refl _) (Or.inl ⟨by first | kernel_rfl | rfl, ?_⟩) ?_; rotate_left; (intro wx hx; go_simp) <;> (with_reducible rfl); (try simp only [Act.put, List.setIfInBounds_toArray, List.set_cons_zero, List.set_cons_succ, List.getElem_toArray, List.getElem_cons_succ, List.getElem_cons_zero])); (refine wpG_take (i := 4) (v := ?_) rfl (by kernel_rfl) (by kernel_rfl) (by kernel_rfl) (fun _ _ _ h => h) (From.refl _) (Or.inl ⟨by first | kernel_rfl | rfl, ?_⟩) ?_; rotate_left; (intro wx hx; go_simp) <;> (with_reducible rfl); (try simp only [Act.put, List.setIfInBounds_toArray, List.set_cons_zero, List.set_cons_succ, List.getElem_toArray, List.getElem_cons_succ, List.getElem_cons_zero])); (refine wpG_take (i := 5) (v := ?_) rfl (by kernel_rfl) (by kernel_rfl) (by kernel_rfl) (fun _ _ _ h => h) (From.refl _) (Or.inl ⟨by first | kernel_rfl | rfl, ?_⟩) ?_; rotate_left; (intro wx hx; go_simp) <;> (with_reducible rfl); (try simp only [Act.put, List.setIfInBounds_toArray, List.set_cons_zero, List.set_cons_succ, List.getElem_toArray, List.getElem_cons_succ, List.getElem_cons_zero])); (refine wpG_take (i := 6) (v := ?_) rfl (by kernel_rfl) (by kernel_rfl) (by kernel_rfl) (fun _ _ _ h => h) (From.refl _) (Or.inl ⟨by first | kernel_rfl | rfl, ?_⟩) ?_; rotate_left; (intro wx hx; go_simp) <;> (with_reducible rfl); (try simp only [Act.put, List.setIfInBounds_toArray, List.set_cons_zero, List.set_cons_succ, List.getElem_toArray, List.getElem_cons_succ, List.getElem_cons_zero])); (refine wpG_take (i := 7) (v := ?_) rfl (by kernel_rfl) (by kernel_rfl) (by kernel_rfl) (fun _ _ _ h => h) (From.refl _) (Or.inl ⟨by first | kernel_rfl | rfl, ?_⟩) ?_; rotate_left; (intro wx hx; go_simp) <;> (with_reducible rfl); (try simp only [Act.put, List.setIfInBounds_toArray, List.set_cons_zero, List.set_cons_succ, List.getElem_toArray, List.getElem_cons_succ, List.getElem_cons_zero])); (refine wpG_take (i := 10) (v := ?_) rfl (by kernel_rfl) (by kernel_rfl) (by kernel_rfl) (fun _ _ _ h => h) (From.refl _) (Or.inl ⟨by first | kernel_rfl | rfl, ?_⟩) ?_; rotate_left; (intro wx hx; go_simp) <;> (with_reducible rfl); (try simp only [Act.put, List.setIfInBounds_toArray, List.set_cons_zero, List.set_cons_succ, List.getElem_toArray, List.getElem_cons_succ, List.getElem_cons_zero]))
              (refine wpG_one (i := 8) (by kernel_rfl) rfl ?_; intro K hK; (try simp only [Act.put, List.setIfInBounds_toArray, List.set_cons_zero, List.set_cons_succ, List.getElem_toArray, List.getElem_cons_succ, List.getElem_cons_zero]))
              refine step_call rfl rfl enSumM rfl (sum_ro g X2 x2 L' w3.drew (by rw [HL'.out]; omega) (HS20.out.sat 0 _ rfl) (HS20.out.rd 1 rfl)) ?_
              rintro e v1 ⟨B1, d1, rfl, hb1, ho1⟩
              refine ⟨_, rfl, hK (From v1) _ _ (From.next hb1) (From.refl _) ?_⟩
              clear hK K
              (try simp only [Act.put, List.setIfInBounds_toArray, List.set_cons_zero, List.set_cons_succ, List.getElem_toArray, List.getElem_cons_succ, List.getElem_cons_zero])
              have HS21 := hide (HS20.out.call hb1)
              have HV1 := hide (rd_own ho1)
              clear hb1 ho1
              have cv1 : ∀ x, From v1 x → (convert 22 9 (.slice B1 64 d1)).run Try.prog x = .ok (.string (strOf (shaL L'))) x := fun x hx => run_str Try.underlying22 Try.underlying5 Try.underlying9 (HV1.out.below hx)
              (refine wpG_take (i := 9) (v := ?_) rfl (by kernel_rfl) (by kernel_rfl) (by kernel_rfl) (fun _ _ _ h => h) (From.refl _) (Or.inl ⟨by first | kernel_rfl | rfl, ?_⟩) ?_; rotate_left; (intro wx hx; go_simp) <;> (with_reducible rfl); (try simp only [Act.put, List.setIfInBounds_toArray, List.set_cons_zero, List.set_cons_succ, List.getElem_toArray, List.getElem_cons_succ, List.getElem_cons_zero]))
              clear cv1
              (refine wpG_one (i := 11) (by kernel_rfl) rfl ?_; intro K hK; (try simp only [Act.put, List.setIfInBounds_toArray, List.set_cons_zero, List.set_cons_succ, List.getElem_toArray, List.getElem_cons_succ, List.getElem_cons_zero]))
              refine step_call rfl rfl enSumF rfl (sumf_any A3 m2 c3 L' v1 HL'.out (by omega) (HS21.out.rd 2 rfl)) ?_
              rintro e v2 ⟨B2, d2, rfl, hb2, ho2⟩
              refine ⟨_, rfl, hK (From v2) _ _ (From.next hb2) (From.refl _) ?_⟩
              clear hK K
              (try simp only [Act.put, List.setIfInBounds_toArray, List.set_cons_zero, List.set_cons_succ, List.getElem_toArray, List.getElem_cons_succ, List.getElem_cons_zero])
              have HS22 := hide (HS21.out.call hb2)
              have HV2 := hide (rd_own ho2)
              clear hb2 ho2
              have cv2 : ∀ x, From v2 x → (convert 22 9 (.slice B2 64 d2)).run Try.prog x = .ok (.string (strOf (shaL L'))) x := fun x hx => run_str Try.underlying22 Try.underlying5 Try.underlying9 (HV2.out.below hx)
              (refine wpG_take (i := 12) (v := ?_) rfl (by kernel_rfl) (by kernel_rfl) (by kernel_rfl) (fun _ _ _ h => h) (From.refl _) (Or.inl ⟨by first | kernel_rfl | rfl, ?_⟩) ?_; rotate_left; (intro wx hx; go_simp) <;> (with_reducible rfl); (try simp only [Act.put, List.setIfInBounds_toArray, List.set_cons_zero, List.set_cons_succ, List.getElem_toArray, List.getElem_cons_succ, List.getElem_cons_zero])); (refine wpG_take (i := 13) (v := ?_) rfl (by kernel_rfl) (by kernel_rfl) (by kernel_rfl) (fun _ _ _ h => h) (From.refl _) (Or.inl ⟨by first | kernel_rfl | rfl, ?_⟩) ?_; rotate_left; (intro wx hx; go_simp) <;> (with_reducible rfl); (try simp only [Act.put, List.setIfInBounds_toArray, List.set_cons_zero, List.set_cons_succ, List.getElem_toArray, List.getElem_cons_succ, List.getElem_cons_zero])); (refine wpG_take (i := 14) (v := ?_) rfl (by kernel_rfl) (by kernel_rfl) (by kernel_rfl) (fun _ _ _ h => h) (From.refl _) (Or.inl ⟨by first | kernel_rfl | rfl, ?_⟩) ?_; rotate_left; (intro wx hx; go_simp) <;> (with_reducible rfl); (try simp only [Act.put, List.setIfInBounds_toArray, List.set_cons_zero, List.set_cons_succ, List.getElem_toArray, List.getElem_cons_succ, List.getElem_cons_zero]))
              clear cv2
              refine wpG_done (by kernel_rfl) ?_ _
              go_wp2_with fail
              go_roundw
              case rel => exact ⟨j + 1, L', m2, X2, x2, A3, c3, by rw [HL.out]; omega, by go_num, rfl, HL'.out, HE'.out, HS22.out⟩
              case measure => (simp [intOf]) <;> omega
            · clear HTB
              have HS20 := hide HT3.out.drew
              refine wp_region_F (by kernel_rfl) ?_
              (refine wpG_take (i := 0) (v := ?_) rfl (by kernel_rfl) (by kernel_rfl) (by kernel_rfl) (fun _ _ _ h => h) (From.refl _) (Or.inl ⟨by first | kernel_rfl | rfl, ?_⟩) ?_; rotate_left; (intro wx hx; go_simp) <;> (with_reducible rfl); (try simp only [Act.put, List.setIfInBounds_toArray, List.set_cons_zero, List.set_cons_succ, List.getElem_toArray, List.getElem_cons_succ, List.getElem_cons_zero])); (refine wpG_take (i := 1) (v := ?_) rfl (by kernel_rfl) (by kernel_rfl) (by kernel_rfl) (fun _ _ _ h => h) (From.refl _) (Or.inl ⟨by first | kernel_rfl | rfl, ?_⟩) ?_; rotate_left; (intro wx hx; go_simp) <;> (with_reducible rfl); (try simp only [Act.put, List.setIfInBounds_toArray, List.set_cons_zero, List.set_cons_succ, List.getElem_toArray, List.getElem_cons_succ, List.getElem_cons_zero])); (refine wpG_take (i := 2) (v := ?_) rfl (by kernel_rfl) (by kernel_rfl) (by kernel_rfl) (fun _ _ _ h => h) (From.refl _) (Or.inl ⟨by first | kernel_rfl | rfl, ?_⟩) ?_; rotate_left; (intro wx hx; go_simp) <;> (with_reducible rfl); (try simp only [Act.put, List.setIfInBounds_toArray, List.set_cons_zero, List.set_cons_succ, List.getElem_toArray, List.getElem_cons_succ, List.getElem_cons_zero])); (refine wpG_take (i := 3) (v := ?_) rfl (by kernel_rfl) (by kernel_rfl) (by kernel_rfl) (fun _ _ _ h => h) (From.refl _) (Or.inl ⟨by first | kernel_rfl | rfl, ?_⟩) ?_; rotate_left; (intro wx hx; go_simp) <;> (with_reducible rfl); (try simp only [Act.put, List.setIfInBounds_toArray, List.set_cons_zero, List.set_cons_succ, List.getElem_toArray, List.getElem_cons_succ, List.getElem_cons_zero])); (refine wpG_take (i := 4) (v := ?_) rfl (by kernel_rfl) (by kernel_rfl) (by kernel_rfl) (fun _ _ _ h => h) (From.refl _) (Or.inl ⟨by first | kernel_rfl | rfl, ?_⟩) ?_; rotate_left; (intro wx hx; go_simp) <;> (with_reducible rfl); (try simp only [Act.put, List.setIfInBounds_toArray, List.set_cons_zero, List.set_cons_succ, List.getElem_toArray, List.getElem_cons_succ, List.getElem_cons_zero])); (refine wpG_take (i := 5) (v := ?_) rfl (by kernel_rfl) (by kernel_rfl) (by kernel_rfl) (fun _ _ _ h => h) (From.refl _) (Or.inl ⟨by first | kernel_rfl | rfl, ?_⟩) ?_; rotate_left; (intro wx hx; go_simp) <;> (with_reducible rfl); (try simp only [Act.put, List.setIfInBounds_toArray, List.set_cons_zero, List.set_cons_succ, List.getElem_toArray, List.getElem_cons_succ, List.getElem_cons_zero])); (refine wpG_take (i := 6) (v := ?_) rfl (by kernel_rfl) (by kernel_rfl) (by kernel_rfl) (fun _ _ _ h => h) (From.refl _) (Or.inl ⟨by first | kernel_rfl | rfl, ?_⟩) ?_; rotate_left; (intro wx hx; go_simp) <;> (with_reducible rfl); (try simp only [Act.put, List.setIfInBounds_toArray, List.set_cons_zero, List.set_cons_succ, List.getElem_toArray, List.getElem_cons_succ, List.getElem_cons_zero]))
              (refine wpG_take (i := 7) (v := _) rfl (by kernel_rfl) (by kernel_rfl) (by kernel_rfl) (fun _ _ _ h => h) (From.refl _) (Or.inr ⟨rfl, rfl⟩) ?_; (try simp only [Act.put, List.setIfInBounds_toArray, List.set_cons_zero, List.set_cons_succ, List.getElem_toArray, List.getElem_cons_succ, List.getElem_cons_zero])); (refine wpG_take (i := 8) (v := _) rfl (by kernel_rfl) (by kernel_rfl) (by kernel_rfl) (fun _ _ _ h => h) (From.refl _) (Or.inr ⟨rfl, rfl⟩) ?_; (try simp only [Act.put, List.setIfInBounds_toArray, List.set_cons_zero, List.set_cons_succ, List.getElem_toArray, List.getElem_cons_succ, List.getElem_cons_zero])); (refine wpG_take (i := 9) (v := _) rfl (by kernel_rfl) (by kernel_rfl) (by kernel_rfl) (fun _ _ _ h => h) (From.refl _) (Or.inr ⟨rfl, rfl⟩) ?_; (try simp only [Act.put, List.setIfInBounds_toArray, List.set_cons_zero, List.set_cons_succ, List.getElem_toArray, List.getElem_cons_succ, List.getElem_cons_zero])); (refine wpG_take (i := 10) (v := _) rfl (by kernel_rfl) (by kernel_rfl) (by kernel_rfl) (fun _ _ _ h => h) (From.refl _) (Or.inr ⟨rfl, rfl⟩) ?_; (try simp only [Act.put, List.setIfInBounds_toArray, List.set_cons_zero, List.set_cons_succ, List.getElem_toArray, List.getElem_cons_succ, List.getElem_cons_zero])); (refine wpG_take (i := 11) (v := _) rfl (by kernel_rfl) (by kernel_rfl) (by kernel_rfl) (fun _ _ _ h => h) (From.refl _) (Or.inr ⟨rfl, rfl⟩) ?_; (try simp only [Act.put, List.setIfInBounds_toArray, List.set_cons_zero, List.set_cons_succ, List.getElem_toArray, List.getElem_cons_succ, List.getElem_cons_zero])); (refine wpG_take (i := 12) (v := _) rfl (by kernel_rfl) (by kernel_rfl) (by kernel_rfl) (fun _ _ _ h => h) (From.refl _) (Or.inr ⟨rfl, rfl⟩) ?_; (try simp only [Act.put, List.setIfInBounds_toArray, List.set_cons_zero, List.set_cons_succ, List.getElem_toArray, List.getElem_cons_succ, List.getElem_cons_zero])); (refine wpG_take (i := 13) (v := _) rfl (by kernel_rfl) (by kernel_rfl) (by kernel_rfl) (fun _ _ _ h => h) (From.refl _) (Or.inr ⟨rfl, rfl⟩) ?_; (try simp only [Act.put, List.setIfInBounds_toArray, List.set_cons_zero, List.set_cons_succ, List.getElem_toArray, List.getElem_cons_succ, List.getElem_cons_zero]))
              (refine wpG_take (i := 14) (v := ?_) rfl (by kernel_rfl) (by kernel_rfl) (by kernel_rfl) (fun _ _ _ h => h) (From.refl _) (Or.inl ⟨by first | kernel_rfl | rfl, ?_⟩) ?_; rotate_left; (intro wx hx; go_simp) <;> (with_reducible rfl); (try simp only [Act.put, List.setIfInBounds_toArray, List.set_cons_zero, List.set_cons_succ, List.getElem_toArray, List.getElem_cons_succ, List.getElem_cons_zero]))
              refine wpG_done (by kernel_rfl) ?_ _
              go_wp2_with fail
              go_roundw
              case rel => exact ⟨j + 1, L', m2, X2, x2, A3, c3, by rw [HL.out]; omega, by go_num, rfl, HL'.out, HE'.out, HS20.out⟩
              case measure => (simp [intOf]) <;> omega
          · obtain rfl : j = k := by omega
            rw [List.take_of_length_le (by rw [HL.out]; omega)] at hLt
            have HS := hide hS
            clear hS HLt hLt
            go_upto_region 20 with (go_at_call 13; refine (sum_ro g X x L _ (by rw [HLm.out]; omega) (HS.out.sat 0 _ rfl) (HS.out.rd 1 rfl)).mono ?_; rintro e w6 ⟨B, d, rfl, hb6, ho6⟩; have HS4 := hide (HS.out.row hb6 ho6); clear hb6 ho6)
            have HS20 := hide HS4.out.drew
            have HV0 := hide (HS20.out.rd 0 rfl)
            have cv0 : ∀ x, From w6.drew x → (convert 22 9 (.slice B 64 d)).run Try.prog x = .ok (.string (strOf (shaL L))) x := fun x hx => run_str Try.underlying22 Try.underlying5 Try.underlying9 (HV0.out.below hx)
            refine wp_region_F (by kernel_rfl) ?_
            (refine wpG_take (i := 0) (v := ?_) rfl (by kernel_rfl) (by kernel_rfl) (by kernel_rfl) (fun _ _ _ h => h) (From.refl _) (Or.inl ⟨by first | kernel_rfl | rfl, ?_⟩) ?_; rotate_left; (intro wx hx; go_simp) <;> (with_reducible rfl); (try simp only [Act.put, List.setIfInBounds_toArray, List.set_cons_zero, List.set_cons_succ, List.getElem_toArray, List.getElem_cons_succ, List.getElem_cons_zero])); (refine wpG_take (i := 1) (v := ?_) rfl (by kernel_rfl) (by kernel_rfl) (by kernel_rfl) (fun _ _ _ h => h) (From.refl _) (Or.inl ⟨by first | kernel_rfl | rfl, ?_⟩) ?_; rotate_left; (intro wx hx; go_simp) <;> (with_reducible rfl); (try simp only [Act.put, List.setIfInBounds_toArray, List.set_cons_zero, List.set_cons_succ, List.getElem_toArray, List.getElem_cons_succ, List.getElem_cons_zero])); (refine wpG_take (i := 2) (v := ?_) rfl (by kernel_rfl) (by kernel_rfl) (by kernel_rfl) (fun _ _ _ h => h) (From.refl _) (Or.inl ⟨by first | kernel_rfl | rfl, ?_⟩) ?_; rotate_left; (intro wx hx; go_simp) <;> (with_reducible rfl); (try simp only [Act.put, List.setIfInBounds_toArray, List.set_cons_zero, List.set_cons_succ, List.getElem_toArray, List.getElem_cons_succ, List.getElem_cons_zero]))
            (refine wpG_one (i := 3) (by kernel_rfl) rfl ?_; intro K hK; (try simp only [Act.put, List.setIfInBounds_toArray, List.set_cons_zero, List.set_cons_succ, List.getElem_toArray, List.getElem_cons_succ, List.getElem_cons_zero]))
            refine step_call rfl rfl enSumF rfl (sumf_any A' m c' L w6.drew HLm.out (by omega) (HS20.out.rd 3 rfl)) ?_
            rintro e v1 ⟨B1, d1, rfl, hb1, ho1⟩
            refine ⟨_, rfl, hK (From v1) _ _ (From.next hb1) (From.refl _) ?_⟩
            clear hK K
            (try simp only [Act.put, List.setIfInBounds_toArray, List.set_cons_zero, List.set_cons_succ, List.getElem_toArray, List.getElem_cons_succ, List.getElem_cons_zero])
            have HS21 := hide (HS20.out.call hb1)
            have HV1 := hide (rd_own ho1)
            clear hb1 ho1
            have cv1 : ∀ x, From v1 x → (convert 22 9 (.slice B1 64 d1)).run Try.prog x = .ok (.string (strOf (shaL L))) x := fun x hx => run_str Try.underlying22 Try.underlying5 Try.underlying9 (HV1.out.below hx)
            clear cv0
            have HV01 := hide (HS21.out.rd 0 rfl)
            have cv01 : ∀ x, From v1 x → (convert 22 9 (.slice B 64 d)).run Try.prog x = .ok (.string (strOf (shaL L))) x := fun x hx => run_str Try.underlying22 Try.underlying5 Try.underlying9 (HV01.out.below hx)
            (refine wpG_take (i := 4) (v := ?_) rfl (by kernel_rfl) (by kernel_rfl) (by kernel_rfl) (fun _ _ _ h => h) (From.refl _) (Or.inl ⟨by first | kernel_rfl | rfl, ?_⟩) ?_; rotate_left; (intro wx hx; go_simp) <;> (with_reducible rfl); (try simp only [Act.put, List.setIfInBounds_toArray, List.set_cons_zero, List.set_cons_succ, List.getElem_toArray, List.getElem_cons_succ, List.getElem_cons_zero])); (refine wpG_take (i := 5) (v := ?_) rfl (by kernel_rfl) (by kernel_rfl) (by kernel_rfl) (fun _ _ _ h => h) (From.refl _) (Or.inl ⟨by first | kernel_rfl | rfl, ?_⟩) ?_; rotate_left; (intro wx hx; go_simp) <;> (with_reducible rfl); (try simp only [Act.put, List.setIfInBounds_toArray, List.set_cons_zero, List.set_cons_succ, List.getElem_toArray, List.getElem_cons_succ, List.getElem_cons_zero])); (refine wpG_take (i := 6) (v := ?_) rfl (by kernel_rfl) (by kernel_rfl) (by kernel_rfl) (fun _ _ _ h => h) (From.refl _) (Or.inl ⟨by first | kernel_rfl | rfl, ?_⟩) ?_; rotate_left; (intro wx hx; go_simp) <;> (with_reducible rfl); (try simp only [Act.put, List.setIfInBounds_toArray, List.set_cons_zero, List.set_cons_succ, List.getElem_toArray, List.getElem_cons_succ, List.getElem_cons_zero])); (refine wpG_take (i := 7) (v := ?_) rfl (by kernel_rfl) (by kernel_rfl) (by kernel_rfl) (fun _ _ _ h => h) (From.refl _) (Or.inl ⟨by first | kernel_rfl | rfl, ?_⟩) ?_; rotate_left; (intro wx hx; go_simp) <;> (with_reducible rfl); (try simp only [Act.put, List.setIfInBounds_toArray, List.set_cons_zero, List.set_cons_succ, List.getElem_toArray, List.getElem_cons_succ, List.getElem_cons_zero])); (refine wpG_take (i := 10) (v := ?_) rfl (by kernel_rfl) (by kernel_rfl) (by kernel_rfl) (fun _ _ _ h => h) (From.refl _) (Or.inl ⟨by first | kernel_rfl | rfl, ?_⟩) ?_; rotate_left; (intro wx hx; go_simp) <;> (with_reducible rfl); (try simp only [Act.put, List.setIfInBounds_toArray, List.set_cons_zero, List.set_cons_succ, List.getElem_toArray, List.getElem_cons_succ, List.getElem_cons_zero])); (refine wpG_take (i := 11) (v := ?_) rfl (by kernel_rfl) (by kernel_rfl) (by kernel_rfl) (fun _ _ _ h => h) (From.refl _) (Or.inl ⟨by first | kernel_rfl | rfl, ?_⟩) ?_; rotate_left; (intro wx hx; go_simp) <;> (with_reducible rfl); (try simp only [Act.put, List.setIfInBounds_toArray, List.set_cons_zero, List.set_cons_succ, List.getElem_toArray, List.getElem_cons_succ, List.getElem_cons_zero]))
            clear cv1 cv01
            (refine wpG_one (i := 8) (by kernel_rfl) rfl ?_; intro K hK; (try simp only [Act.put, List.setIfInBounds_toArray, List.set_cons_zero, List.set_cons_succ, List.getElem_toArray, List.getElem_cons_succ, List.getElem_cons_zero]))
            refine step_call rfl rfl enSumM rfl (sum_ro g X x L v1 (by rw [HLm.out]; omega) (HS21.out.sat 1 _ rfl) (HS21.out.rd 2 rfl)) ?_
            rintro e v2 ⟨B2, d2, rfl, hb2, ho2⟩
            refine ⟨_, rfl, hK (From v2) _ _ (From.next hb2) (From.refl _) ?_⟩
            clear hK K
            (try simp only [Act.put, List.setIfInBounds_toArray, List.set_cons_zero, List.set_cons_succ, List.getElem_toArray, List.getElem_cons_succ, List.getElem_cons_zero])
            have HS22 := hide (HS21.out.call hb2)
            have HV2 := hide (rd_own ho2)
            clear hb2 ho2
            have cv2 : ∀ x, From v2 x → (convert 22 9 (.slice B2 64 d2)).run Try.prog x = .ok (.string (strOf (shaL L))) x := fun x hx => run_str Try.underlying22 Try.underlying5 Try.underlying9 (HV2.out.below hx)
            (refine wpG_take (i := 9) (v := ?_) rfl (by kernel_rfl) (by kernel_rfl) (by kernel_rfl) (fun _ _ _ h => h) (From.refl _) (Or.inl ⟨by first | kernel_rfl | rfl, ?_⟩) ?_; rotate_left; (intro wx hx; go_simp) <;> (with_reducible rfl); (try simp only [Act.put, List.setIfInBounds_toArray, List.set_cons_zero, List.set_cons_succ, List.getElem_toArray, List.getElem_cons_succ, List.getElem_cons_zero])); (refine wpG_take (i := 12) (v := ?_) rfl (by kernel_rfl) (by kernel_rfl) (by kernel_rfl) (fun _ _ _ h => h) (From.refl _) (Or.inl ⟨by first | kernel_rfl | rfl, ?_⟩) ?_; rotate_left; (intro wx hx; go_simp) <;> (with_reducible rfl); (try simp only [Act.put, List.setIfInBounds_toArray, List.set_cons_zero, List.set_cons_succ, List.getElem_toArray, List.getElem_cons_succ, List.getElem_cons_zero])); (refine wpG_take (i := 13) (v := ?_) rfl (by kernel_rfl) (by kernel_rfl) (by kernel_rfl) (fun _ _ _ h => h) (From.refl _) (Or.inl ⟨by first | kernel_rfl | rfl, ?_⟩) ?_; rotate_left; (intro wx hx; go_simp) <;> (with_reducible rfl); (try simp only [Act.put, List.setIfInBounds_toArray, List.set_cons_zero, List.set_cons_succ, List.getElem_toArray, List.getElem_cons_succ, List.getElem_cons_zero])); (refine wpG_take (i := 14) (v := ?_) rfl (by kernel_rfl) (by kernel_rfl) (by kernel_rfl) (fun _ _ _ h => h) (From.refl _) (Or.inl ⟨by first | kernel_rfl | rfl, ?_⟩) ?_; rotate_left; (intro wx hx; go_simp) <;> (with_reducible rfl); (try simp only [Act.put, List.setIfInBounds_toArray, List.set_cons_zero, List.set_cons_succ, List.getElem_toArray, List.getElem_cons_succ, List.getElem_cons_zero]))
            clear cv2
            (refine wpG_one (i := 15) (by kernel_rfl) rfl ?_; intro K hK; (try simp only [Act.put, List.setIfInBounds_toArray, List.set_cons_zero, List.set_cons_succ, List.getElem_toArray, List.getElem_cons_succ, List.getElem_cons_zero]))
            refine step_call rfl rfl enAwake rfl (awake_any _) ?_
            rintro e v9 ⟨rfl, hb9⟩
            refine ⟨_, rfl, hK (From v9) _ _ (From.next hb9) (From.refl _) ?_⟩
            clear hK K
            (try simp only [Act.put, List.setIfInBounds_toArray, List.set_cons_zero, List.set_cons_succ, List.getElem_toArray, List.getElem_cons_succ, List.getElem_cons_zero])
            (refine wpG_take (i := 16) (v := ?_) rfl (by kernel_rfl) (by kernel_rfl) (by kernel_rfl) (fun _ _ _ h => h) (From.refl _) (Or.inl ⟨by first | kernel_rfl | rfl, ?_⟩) ?_; rotate_left; (intro wx hx; go_simp) <;> (with_reducible rfl); (try simp only [Act.put, List.setIfInBounds_toArray, List.set_cons_zero, List.set_cons_succ, List.getElem_toArray, List.getElem_cons_succ, List.getElem_cons_zero])); (refine wpG_take (i := 17) (v := ?_) rfl (by kernel_rfl) (by kernel_rfl) (by kernel_rfl) (fun _ _ _ h => h) (From.refl _) (Or.inl ⟨by first | kernel_rfl | rfl, ?_⟩) ?_; rotate_left; (intro wx hx; go_simp) <;> (with_reducible rfl); (try simp only [Act.put, List.setIfInBounds_toArray, List.set_cons_zero, List.set_cons_succ, List.getElem_toArray, List.getElem_cons_succ, List.getElem_cons_zero]))
            refine wpG_done (by kernel_rfl) ?_ _
            go_wp2_with fail
            go_ret
            exact ⟨rfl, bnx HS22.out.below hb9⟩
end Go.Proofs.Ytabdbddmmbccjaa
