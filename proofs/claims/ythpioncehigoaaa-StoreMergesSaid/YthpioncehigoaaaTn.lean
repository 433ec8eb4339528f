/-
  Layer 7: the page's Has; how much terms have within them.
-/
import Derived.Test.YthpioncehigoaaaTm
set_option linter.unusedVariables false
namespace Go.Proofs.Ythpioncehigoaaa
open Go.RowKit
set_option linter.unusedSimpArgs false

def szF (g : List Tm → Nat → Nat) (z : Bool) : List Tm → Nat → Nat
  | [], n => n
  | t :: l, n => if n + (1 + t.s.length / 1000) < 100 then
      (if z = true then (if 0 < t.l.length then 100 else szF g z l (n + (1 + t.s.length / 1000)))
       else if 100 ≤ g t.l (n + (1 + t.s.length / 1000)) then 100 else szF g z l (g t.l (n + (1 + t.s.length / 1000))))
    else 100
def szT : Nat → List Tm → Nat → Nat
  | 0 => szF (fun _ n => n) true
  | d + 1 => szF (szT d) false
theorem szF_le (g : List Tm → Nat → Nat) (z : Bool) : ∀ (l : List Tm) (n : Nat), n ≤ 100 → szF g z l n ≤ 100
  | [], n, h => h
  | t :: l, n, h => by
    rw [szF]
    split
    · split
      · split
        · omega
        · exact szF_le g z l _ (by omega)
      · split
        · omega
        · exact szF_le g z l _ (by omega)
    · omega
theorem szT_le (d : Nat) (l : List Tm) (n : Nat) (h : n ≤ 100) : szT d l n ≤ 100 := by
  cases d with
  | zero => exact szF_le _ _ l n h
  | succ d => exact szF_le _ _ l n h
set_option maxRecDepth 100000 in
set_option maxHeartbeats 1600000 in
theorem size_step (d : Nat) (hd6 : d ≤ 100) (g : List Tm → Nat → Nat) (hg : ∀ l n, n ≤ 100 → g l n ≤ 100) (z : Bool) (hz : decide (d = 0) = z) (v : Value) (l : List Tm) (n0 : Nat) (hn0 : n0 < 100) (w : World) (hv : TmsAt w v l) (hm : l.length ≤ 140737488351232)
    (ih : z = false → ∀ x ∈ l, ∀ (m : Nat) (W : World), m < 100 → Below w.heap.size w W → Calls Try.prog 70 #[x.row, .int .i64 (m : Int), .int .i64 ((d : Int) - 1)] W fun e w' => e = .returned (.int .i64 (g x.l m : Int)) ∧ Below W.heap.size W w') :
    Calls Try.prog 70 #[v, .int .i64 (n0 : Int), .int .i64 (d : Int)] w fun e w' => e = .returned (.int .i64 (szF g z l n0 : Int)) ∧ Below w.heap.size w w' := by
  obtain ⟨A, c, rfl, hr⟩ := Rd.isSlice hv.1
  have HA := hide hr
  have HOK := hide hv.2
  have HIH := hide ih
  have HG := hide hg
  clear hr hv ih hg
  obtain ⟨n, hn⟩ : ∃ n, n = l.length := ⟨_, rfl⟩
  rw [← hn] at HA hm ⊢
  have HN := hide hn
  clear hn
  have z1 : ((d : Int) == 0) = z := by rw [← hz, Bool.eq_iff_iff]; simp
  have z2 : decide ((0 : Int) < (d : Int)) = !z := by rw [← hz, Bool.eq_iff_iff]; simp; omega
  have z3 : decide (0 < d) = !z := by rw [← hz, Bool.eq_iff_iff]; simp; omega
  clear hz
  go_enter Try.func70, Try.ntmps70
  go_wp2_with fail
  go_loopw [1, 11] (fun s i wr => ∃ k m : Nat, k ≤ n ∧ m < 100 ∧ i = .int .i64 (k : Int) ∧ s = .int .i64 (m : Int) ∧ Hid (szF g z (l.drop k) m = szF g z l n0) ∧ Hid (Below w.heap.size w wr)) (fun _ i _ => (n - intOf i).toNat)
  case atStart => exact ⟨0, n0, by omega, hn0, rfl, rfl, rfl, Below.refl _ _⟩
  case round =>
    obtain ⟨k, m, hk, hm1, rfl, rfl, HX, HW⟩ := hrel
    by_cases hlt : k < n
    · have hd : decide ((k : Int) < (n : Int)) = true := by simp; omega
      have k1 : k < l.length := by have := HN.out; omega
      obtain ⟨b, o, rfl, hb8, hc⟩ := tm_at HA.out (List.getElem?_eq_getElem k1)
      obtain ⟨c0, c1, c2, c3⟩ := hc _ HW.out
      have hs := HX.out
      rw [List.drop_eq_getElem_cons k1, szF] at hs
      have HX1 := hide hs
      have HC := hide (fun h => HIH.out h l[k] (List.getElem_mem k1))
      have hOK := (HOK.out l[k] (List.getElem_mem k1)).bd
      clear hs hc
      generalize l[k] = x at c0 c1 c2 c3 HX1 HC hOK
      have hls : x.s.length ≤ 9223372036854775807 := hOK.2.2.1
      have hxm : x.l.length ≤ 140737488351232 := hOK.2.2.2
      have hLs := fun W => run_lenS (P := Try.prog) (t := 9) (ty := 3) (by kernel_rfl) x.s W
      have hbr : b < wr.heap.size := by have := HW.out.size; omega
      have HL := hide hlt
      clear k1 hOK
      unfold Tm.row at HC c3
      obtain ⟨q, hq⟩ : ∃ q : Nat, q = x.s.length / 1000 := ⟨_, rfl⟩
      have eq : (x.s.length : Int) / 1000 = (q : Int) := by omega
      have hqb : q ≤ 9223372036854776 := by omega
      rw [← hq] at HX1
      clear hq
      obtain ⟨m1, hm1'⟩ : ∃ m1, m1 = m + (1 + q) := ⟨_, rfl⟩
      rw [← hm1'] at HX1
      have em : (m : Int) + (1 + (q : Int)) = (m1 : Int) := by omega
      have hmb : m1 ≤ 9223372036854876 := by omega
      clear hm1'
      have hxl : decide ((0 : Int) < (x.l.length : Int)) = decide (0 < x.l.length) := decide_eq_decide.2 (by omega)
      by_cases h100 : m1 < 100
      · have d1 : decide ((m1 : Int) < 100) = true := by simp; omega
        have d1' : decide (m1 < 100) = true := by simp; omega
        have d2 : decide ((100 : Int) ≤ (m1 : Int)) = false := by simp; omega
        have d2' : decide (100 ≤ m1) = false := by simp; omega
        cases z
        · simp only [Bool.not_false] at z2 z3
          have HX2 : Hid ((if 100 ≤ g x.l m1 then 100 else szF g false (l.drop (k + 1)) (g x.l m1)) = szF g false l n0) := by
            have := HX1.out
            rw [if_pos h100, if_neg Bool.false_ne_true] at this
            exact this
          have HC2 := hide (fun W => HC.out rfl m1 W h100)
          have hgb := HG.out x.l m1 (by omega)
          generalize g x.l m1 = r at HX2 HC2 hgb
          have HH := hide h100
          clear h100 HC HX1
          by_cases hr : 100 ≤ r
          · have d3 : decide ((100 : Int) ≤ (r : Int)) = true := by simp; omega
            have d3' : decide (100 ≤ r) = true := by simp; omega
            have HX3 : Hid (szF g false l n0 = 100) := by
              have := HX2.out
              rw [if_pos hr] at this
              exact this.symm
            clear HX2 hr
            go_wp2_with (go_at_call 70; (with_reducible refine (HC2.out _ (HW.out.al _)).mono ?_); rintro e w' ⟨rfl, hb⟩; have HW2 := hide ((HW.out.al _).trans (hb.mono (HW.out.al _).size)); clear hb)
            go_ret
            rw [HX3.out]
            exact ⟨rfl, HW2.out⟩
          · have d3 : decide ((100 : Int) ≤ (r : Int)) = false := by simp; omega
            have d3' : decide (100 ≤ r) = false := by simp; omega
            have HX3 : Hid (szF g false (l.drop (k + 1)) r = szF g false l n0) := by
              have := HX2.out
              rw [if_neg hr] at this
              exact this
            have hr' : r < 100 := by omega
            clear HX2 hr
            go_wp2_with (go_at_call 70; (with_reducible refine (HC2.out _ (HW.out.al _)).mono ?_); rintro e w' ⟨rfl, hb⟩; have HW2 := hide ((HW.out.al _).trans (hb.mono (HW.out.al _).size)); clear hb)
            go_roundw
            case rel => exact ⟨k + 1, r, by have := HL.out; omega, hr', by go_num, by go_num, HX3, HW2⟩
            case measure => (have := HL.out); (simp [intOf]) <;> omega
        · simp only [Bool.not_true] at z2 z3
          have HX2 : Hid ((if 0 < x.l.length then 100 else szF g true (l.drop (k + 1)) m1) = szF g true l n0) := by
            have := HX1.out
            rw [if_pos h100, if_pos rfl] at this
            exact this
          have HH := hide h100
          clear HC HX1
          by_cases hr : 0 < x.l.length
          · rw [decide_eq_true hr] at hxl
            have hxl' : decide (0 < x.l.length) = true := decide_eq_true hr
            have HX3 : Hid (szF g true l n0 = 100) := by
              have := HX2.out
              rw [if_pos hr] at this
              exact this.symm
            clear HX2
            go_wp2_with fail
            go_ret
            rw [HX3.out]
            exact ⟨rfl, HW.out.al _⟩
          · rw [decide_eq_false hr] at hxl
            have hxl' : decide (0 < x.l.length) = false := decide_eq_false hr
            have HX3 : Hid (szF g true (l.drop (k + 1)) m1 = szF g true l n0) := by
              have := HX2.out
              rw [if_neg hr] at this
              exact this
            clear HX2
            go_wp2_with fail
            go_roundw
            case rel => exact ⟨k + 1, m1, by have := HL.out; omega, h100, by go_num, by go_num, HX3, hide (HW.out.al _)⟩
            case measure => (have := HL.out); (simp [intOf]) <;> omega
      · have d1 : decide ((m1 : Int) < 100) = false := by simp; omega
        have d1' : decide (m1 < 100) = false := by simp; omega
        have d2 : decide ((100 : Int) ≤ (m1 : Int)) = true := by simp; omega
        have d2' : decide (100 ≤ m1) = true := by simp; omega
        have HX3 : Hid (szF g z l n0 = 100) := by
          have := HX1.out
          rw [if_neg h100] at this
          exact this.symm
        clear HX1 HC
        go_wp2_with fail
        go_ret
        rw [HX3.out]
        exact ⟨rfl, HW.out.al _⟩
    · have hd : decide ((k : Int) < (n : Int)) = false := by simp; omega
      have hx : szF g z l n0 = m := by
        rw [← HX.out, List.drop_of_length_le (by have := HN.out; omega)]
        rfl
      have HX2 := hide hx
      clear hx
      go_wp2_with fail
      go_ret
      rw [HX2.out]
      exact ⟨rfl, HW.out⟩
theorem size_any : ∀ (d : Nat), d ≤ 100 → ∀ (v : Value) (l : List Tm) (n0 : Nat) (w : World), n0 < 100 → TmsAt w v l → l.length ≤ 140737488351232 → Calls Try.prog 70 #[v, .int .i64 (n0 : Int), .int .i64 (d : Int)] w fun e w' => e = .returned (.int .i64 (szT d l n0 : Int)) ∧ Below w.heap.size w w'
  | 0, _, v, l, n0, w, hn, hv, hm => by
    exact size_step 0 (by omega) (fun _ n => n) (fun _ _ h => h) true rfl v l n0 hn w hv hm (fun h => by cases h)
  | d + 1, hd, v, l, n0, w, hn, hv, hm => by
    refine size_step (d + 1) hd (szT d) (fun l n h => szT_le d l n h) false (by simp) v l n0 hn w hv hm (fun _ x hx m W hm' hW => ?_)
    rw [show ((d + 1 : Nat) : Int) - 1 = (d : Int) by omega]
    exact size_any d (by omega) x.row x.l m W hm' ((hv.2 x hx).row.on hW) (hv.2 x hx).bd.2.2.2
end Go.Proofs.Ythpioncehigoaaa
