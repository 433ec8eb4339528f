/-
  Layer 18: where a fact is, or belongs, found by halves.
-/
import Derived.Test.YthpioncehigoaaaYe
set_option linter.unusedVariables false
namespace Go.Proofs.Ythpioncehigoaaa
open Go.RowKit
set_option linter.unusedSimpArgs false

theorem enSC (args : Array Value) (w : World) : (callFunc 11 args).run Try.prog w = .ok (.enter 11 args) w := by kernel_rfl
/-- The first j are ahead of it, no other is. -/
structure PartF (g : Fc → Int) (l : List Fc) (j : Nat) : Prop where
  le : j ≤ l.length
  lo : ∀ (i : Nat) (x : Fc), l[i]? = some x → i < j → g x < 0
  hi : ∀ (i : Nat) (x : Fc), l[i]? = some x → j ≤ i → ¬ g x < 0
/-- Is it that one? -/
def fndF (g : Fc → Int) (l : List Fc) (j : Nat) : Bool := match l[j]? with
  | some x => decide (g x = 0)
  | none => false
set_option maxRecDepth 100000 in
set_option maxHeartbeats 1600000 in
theorem bs_any (va : Value) (l : List Fc) (f : Fc) (j : Nat) (w : World) (hv : FcsAt w va l) (hf : FcOK w f) (hn6 : l.length ≤ 1000000) (hp : PartF (fun x => cmpF x f) l j) :
    Calls Try.prog 36 #[va, f.val, .func (.func 11) #[] #[]] w
      fun e w' => e = .returned (.tuple #[.int .i64 (j : Int), .bool (fndF (fun x => cmpF x f) l j)]) ∧ Below w.heap.size w w' := by
  obtain ⟨A, c, rfl, hr⟩ := Rd.isSlice hv.1
  have HA := hide hr
  have HOK := hide hv.2
  have HF := hide hf
  obtain ⟨n, hn⟩ : ∃ n, n = l.length := ⟨_, rfl⟩
  have HN := hide hn
  rw [← hn] at HA hn6 ⊢
  have HP := hide hp
  have hjn : j ≤ n := by rw [hn]; exact hp.le
  have HS0 := hide ((St.init w NoB).alloc #[.string (strOf f.name), .slice f.A f.ts.length f.c, .int .u32 f.o] 27)
  clear hv hr hf hn hp
  unfold Fc.val Fc.row
  have hen := enSC
  go_enter Try.func36, Try.ntmps36
  go_wp2_with fail
  go_loopw [9, 10] (fun a b wr => ∃ lo hi : Nat, lo ≤ j ∧ j ≤ hi ∧ hi ≤ n ∧ a = .int .i64 (lo : Int) ∧ b = .int .i64 (hi : Int) ∧ Hid (St w NoB wr [.cells w.heap.size #[.string (strOf f.name), .slice f.A f.ts.length f.c, .int .u32 f.o] 27])) (fun a b _ => (intOf b - intOf a).toNat)
  case atStart => exact ⟨0, n, Nat.zero_le _, hjn, Nat.le_refl _, rfl, rfl, HS0⟩
  case round =>
    clear HS0
    obtain ⟨lo, hi, h1, h2, h3, rfl, rfl, HS⟩ := hrel
    by_cases hlt : lo < hi
    · have d : decide ((lo : Int) < (hi : Int)) = true := by simp; omega
      have d' : decide (lo < hi) = true := by simp; omega
      obtain ⟨m, hm⟩ : ∃ m, m = (lo + hi) / 2 := ⟨_, rfl⟩
      have em : (((lo : Int) + (hi : Int)) / 2) = (m : Int) := by omega
      have em2 : (((lo + hi : Nat) : Int) / 2) = (m : Int) := by omega
      have m1 : lo ≤ m := by omega
      have m2 : m < hi := by omega
      have mn : (m : Int) < (n : Int) := by omega
      have ml : m < l.length := by have := HN.out; omega
      have hlk : l[m]? = some l[m] := List.getElem?_eq_getElem ml
      obtain ⟨b, o, rfl, hb8, c0, c1, c2⟩ := fc_at (HA.out.st HS.out.drew) hlk
      have HOX := hide (HOK.out l[m] (List.getElem_mem ml))
      have HLK := hide hlk
      generalize l[m] = x at c0 c1 c2 HOX HLK
      have HSd := hide HS.out.drew
      have HC := hide (cmpFc_any x f wr.drew (HOX.out.on HSd.out.below) (HF.out.on HSd.out.below))
      obtain ⟨z, hz⟩ : ∃ z, z = cmpF x f := ⟨_, rfl⟩
      rw [← hz] at HC
      have HZ := hide hz
      have f0 := HSd.out.cell 0 rfl 0
      have f1 := HSd.out.cell 0 rfl 1
      have f2 := HSd.out.cell 0 rfl 2
      clear hm hz hlk ml
      unfold Fc.val Fc.row at HC
      unfold Fc.row at c1
      by_cases hz : z < 0
      · have dz : decide (z < 0) = true := decide_eq_true hz
        have HJ : Hid (m < j) := hide (by
          refine Nat.lt_of_not_le fun h => HP.out.hi m x HLK.out h ?_
          show cmpF x f < 0
          rw [← HZ.out]
          exact hz)
        clear hz
        go_wp2_with fail
        refine wp_region_T [(0, 1), (1, 1), (2, 1), (3, 1), (4, 0), (5, 0), (6, 2), (7, 1)] (by kernel_rfl) (by kernel_rfl) (fun _ _ _ _ h => h) ?_
        go_wp2_with (first
          | (with_reducible refine HC.out.mono ?_; rintro e w2 ⟨rfl, hb⟩; have HS2 := hide (HSd.out.call hb))
          | (refine wpT_nil ?_)   | ((with_reducible refine fromT_refl ?_); (try simp only [Act.put, nq1, nq2, nq3, nq4, nq5, nq6]))   | ((with_reducible refine fromT_mk (by assumption) ?_); (try simp only [Act.put, nq1, nq2, nq3, nq4, nq5, nq6]))   | (refine wpT_pure (v := ?_) rfl rfl ?_ ?_; rotate_left; (intro wx; go_simp; try go_bits) <;> (with_reducible rfl); (try simp only [Act.put, nq1, nq2, nq3, nq4, nq5, nq6]))   | (refine wpT_load (v := ?_) rfl rfl rfl ?_ ?_; rotate_left; (go_simp; try go_bits) <;> (with_reducible rfl); (try simp only [Act.put, nq1, nq2, nq3, nq4, nq5, nq6]))   | (refine wpT_read (v := ?_) rfl rfl ?_ ?_; rotate_left; (intro wx hx; go_simp; try go_bits) <;> (with_reducible rfl); (try simp only [Act.put, nq1, nq2, nq3, nq4, nq5, nq6]))   | (refine wpT_call rfl rfl ?_; intro K hK)   | (refine wpT_late rfl rfl ?_; intro K hK)   | (refine wpT_any rfl rfl ?_; intro K hK)   | (refine wpT_skip rfl rfl ?_; (try simp only [Act.put, nq1, nq2, nq3, nq4, nq5, nq6])))
        go_roundw
        case rel => exact ⟨m + 1, hi, by have := HJ.out; omega, h2, h3, by go_num, rfl, HS2⟩
        case measure => (have := HJ.out); (simp [intOf]) <;> omega
      · have dz : decide (z < 0) = false := decide_eq_false hz
        have HJ : Hid (j ≤ m) := hide (by
          refine Nat.le_of_not_lt fun h => hz ?_
          rw [HZ.out]
          exact HP.out.lo m x HLK.out h)
        clear hz
        go_wp2_with fail
        refine wp_region_T [(0, 1), (1, 1), (2, 1), (3, 1), (4, 0), (5, 0), (6, 2), (7, 1)] (by kernel_rfl) (by kernel_rfl) (fun _ _ _ _ h => h) ?_
        go_wp2_with (first
          | (with_reducible refine HC.out.mono ?_; rintro e w2 ⟨rfl, hb⟩; have HS2 := hide (HSd.out.call hb))
          | (refine wpT_nil ?_)   | ((with_reducible refine fromT_refl ?_); (try simp only [Act.put, nq1, nq2, nq3, nq4, nq5, nq6]))   | ((with_reducible refine fromT_mk (by assumption) ?_); (try simp only [Act.put, nq1, nq2, nq3, nq4, nq5, nq6]))   | (refine wpT_pure (v := ?_) rfl rfl ?_ ?_; rotate_left; (intro wx; go_simp; try go_bits) <;> (with_reducible rfl); (try simp only [Act.put, nq1, nq2, nq3, nq4, nq5, nq6]))   | (refine wpT_load (v := ?_) rfl rfl rfl ?_ ?_; rotate_left; (go_simp; try go_bits) <;> (with_reducible rfl); (try simp only [Act.put, nq1, nq2, nq3, nq4, nq5, nq6]))   | (refine wpT_read (v := ?_) rfl rfl ?_ ?_; rotate_left; (intro wx hx; go_simp; try go_bits) <;> (with_reducible rfl); (try simp only [Act.put, nq1, nq2, nq3, nq4, nq5, nq6]))   | (refine wpT_call rfl rfl ?_; intro K hK)   | (refine wpT_late rfl rfl ?_; intro K hK)   | (refine wpT_any rfl rfl ?_; intro K hK)   | (refine wpT_skip rfl rfl ?_; (try simp only [Act.put, nq1, nq2, nq3, nq4, nq5, nq6])))
        go_roundw
        case rel => exact ⟨lo, m, h1, by have := HJ.out; omega, by omega, rfl, by go_num, HS2⟩
        case measure => (simp [intOf]) <;> omega
    · obtain rfl : lo = j := by omega
      obtain rfl : hi = lo := by omega
      have d : decide ((hi : Int) < (hi : Int)) = false := by simp
      have d' : decide (hi < hi) = false := by simp
      have HSd := hide HS.out.drew
      by_cases hln : hi < n
      · have dl : decide ((hi : Int) < (n : Int)) = true := by simp; omega
        have dl' : decide (hi < n) = true := by simp; omega
        have hin : (hi : Int) < (n : Int) := by omega
        have ml : hi < l.length := by have := HN.out; omega
        have hlk : l[hi]? = some l[hi] := List.getElem?_eq_getElem ml
        obtain ⟨b, o, rfl, hb8, c0, c1, c2⟩ := fc_at (HA.out.st HS.out.drew) hlk
        have HOX := hide (HOK.out l[hi] (List.getElem_mem ml))
        have HLK := hide hlk
        generalize l[hi] = x at c0 c1 c2 HOX HLK
        have HC := hide (cmpFc_any x f wr.drew (HOX.out.on HSd.out.below) (HF.out.on HSd.out.below))
        obtain ⟨z, hz⟩ : ∃ z, z = cmpF x f := ⟨_, rfl⟩
        rw [← hz] at HC
        have HZ : Hid (fndF (fun x => cmpF x f) l hi = decide (z = 0)) := hide (by unfold fndF; rw [HLK.out, hz])
        have f0 := HSd.out.cell 0 rfl 0
        have f1 := HSd.out.cell 0 rfl 1
        have f2 := HSd.out.cell 0 rfl 2
        obtain ⟨zb, hzb⟩ : ∃ b, decide (z = 0) = b := ⟨_, rfl⟩
        have qz : (z == 0) = zb := by rw [← hzb, Bool.eq_iff_iff]; simp
        rw [hzb] at HZ
        clear hz hlk ml hzb
        unfold Fc.val Fc.row at HC
        unfold Fc.row at c1
        go_wp2_with fail
        refine wp_region_T [(0, 1), (1, 1), (2, 1), (3, 1), (4, 1), (5, 1), (6, 1), (7, 1), (8, 1), (9, 0), (10, 0), (11, 2), (12, 1), (13, 1), (14, 1), (15, 1)] (by kernel_rfl) (by kernel_rfl) (fun _ _ _ _ h => h) ?_
        go_wp2_with (first
          | (with_reducible refine HC.out.mono ?_; rintro e w2 ⟨rfl, hb⟩; have HS2 := hide (HSd.out.call hb))
          | (refine wpT_nil ?_)   | ((with_reducible refine fromT_refl ?_); (try simp only [Act.put, nq1, nq2, nq3, nq4, nq5, nq6]))   | ((with_reducible refine fromT_mk (by assumption) ?_); (try simp only [Act.put, nq1, nq2, nq3, nq4, nq5, nq6]))   | (refine wpT_pure (v := ?_) rfl rfl ?_ ?_; rotate_left; (intro wx; go_simp; try go_bits) <;> (with_reducible rfl); (try simp only [Act.put, nq1, nq2, nq3, nq4, nq5, nq6]))   | (refine wpT_load (v := ?_) rfl rfl rfl ?_ ?_; rotate_left; (go_simp; try go_bits) <;> (with_reducible rfl); (try simp only [Act.put, nq1, nq2, nq3, nq4, nq5, nq6]))   | (refine wpT_read (v := ?_) rfl rfl ?_ ?_; rotate_left; (intro wx hx; go_simp; try go_bits) <;> (with_reducible rfl); (try simp only [Act.put, nq1, nq2, nq3, nq4, nq5, nq6]))   | (refine wpT_call rfl rfl ?_; intro K hK)   | (refine wpT_late rfl rfl ?_; intro K hK)   | (refine wpT_any rfl rfl ?_; intro K hK)   | (refine wpT_skip rfl rfl ?_; (try simp only [Act.put, nq1, nq2, nq3, nq4, nq5, nq6])))
        go_ret2
        rw [HZ.out]
        exact ⟨rfl, HS2.out.below⟩
      · have dl : decide ((hi : Int) < (n : Int)) = false := by simp; omega
        have dl' : decide (hi < n) = false := by simp; omega
        have HZ : Hid (fndF (fun x => cmpF x f) l hi = false) := hide (by unfold fndF; rw [List.getElem?_eq_none (by have := HN.out; omega)])
        go_wp2_with fail
        refine wp_region_T [(0, 1), (1, 1), (2, 1), (3, 1), (4, 1), (5, 1), (6, 1), (7, 1), (8, 1), (9, 0), (10, 0), (11, 2), (12, 1), (13, 1), (14, 1), (15, 1)] (by kernel_rfl) (by kernel_rfl) (fun _ _ _ _ h => h) ?_
        go_wp2_with (first
          | (refine wpT_nil ?_)   | ((with_reducible refine fromT_refl ?_); (try simp only [Act.put, nq1, nq2, nq3, nq4, nq5, nq6]))   | ((with_reducible refine fromT_mk (by assumption) ?_); (try simp only [Act.put, nq1, nq2, nq3, nq4, nq5, nq6]))   | (refine wpT_pure (v := ?_) rfl rfl ?_ ?_; rotate_left; (intro wx; go_simp; try go_bits) <;> (with_reducible rfl); (try simp only [Act.put, nq1, nq2, nq3, nq4, nq5, nq6]))   | (refine wpT_load (v := ?_) rfl rfl rfl ?_ ?_; rotate_left; (go_simp; try go_bits) <;> (with_reducible rfl); (try simp only [Act.put, nq1, nq2, nq3, nq4, nq5, nq6]))   | (refine wpT_read (v := ?_) rfl rfl ?_ ?_; rotate_left; (intro wx hx; go_simp; try go_bits) <;> (with_reducible rfl); (try simp only [Act.put, nq1, nq2, nq3, nq4, nq5, nq6]))   | (refine wpT_call rfl rfl ?_; intro K hK)   | (refine wpT_late rfl rfl ?_; intro K hK)   | (refine wpT_any rfl rfl ?_; intro K hK)   | (refine wpT_skip rfl rfl ?_; (try simp only [Act.put, nq1, nq2, nq3, nq4, nq5, nq6])))
        go_ret2
        rw [HZ.out]
        exact ⟨rfl, HSd.out.below⟩
end Go.Proofs.Ythpioncehigoaaa
