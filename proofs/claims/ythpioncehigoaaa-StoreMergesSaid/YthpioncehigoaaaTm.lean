/-
  Layer 7: is one in a row, by whatever function; Has, the program's and the page's.
-/
import Derived.Test.YthpioncehigoaaaTl
set_option linter.unusedVariables false
namespace Go.Proofs.Ythpioncehigoaaa
open Go.RowKit
set_option linter.unusedSimpArgs false

/-- A function of a term that answers g of it. -/
def Clo1 (f : FuncId) (cap : Array Value) (w : World) (g : Tm → Bool) (xs : List Tm) : Prop :=
  ∀ w', Below w.heap.size w w' → ∀ x ∈ xs, Calls Try.prog f (#[x.val] ++ cap) w' fun e w'' => e = .returned (.bool (g x)) ∧ Below w'.heap.size w' w''
def fIdx (g : Tm → Bool) : List Tm → Int → Int
  | [], _ => -1
  | x :: l, k => if g x = true then k else fIdx g l (k + 1)
theorem fIdx_any (g : Tm → Bool) : ∀ (l : List Tm) (k : Int), 0 ≤ k → decide (0 ≤ fIdx g l k) = l.any g
  | [], k, _ => by simp [fIdx]
  | x :: l, k, hk => by
    rw [fIdx, List.any_cons]
    by_cases h : g x = true
    · rw [if_pos h, h]
      simp [hk]
    · rw [if_neg h, fIdx_any g l (k + 1) (by omega)]
      simp [h]
set_option maxRecDepth 100000 in
set_option maxHeartbeats 1600000 in
theorem idxF_any (f : FuncId) (hen : ∀ (args : Array Value) (w : World), (callFunc f args).run Try.prog w = .ok (.enter f args) w) (cap : Array Value) (g : Tm → Bool) (va : Value) (xs : List Tm) (w : World) (ha : Rd w va 4 xs.length (tmCells xs)) (hm : xs.length ≤ 140737488351232) (hf : Clo1 f cap w g xs) :
    Calls Try.prog 62 #[va, .func (.func f) #[] cap] w fun e w' => e = .returned (.int .i64 (fIdx g xs 0)) ∧ Below w.heap.size w w' := by
  obtain ⟨A, c, rfl, hra⟩ := Rd.isSlice ha
  have HA := hide hra
  have HF := hide hf
  clear ha hf hra
  obtain ⟨n, hn⟩ : ∃ n, n = xs.length := ⟨_, rfl⟩
  rw [← hn] at HA hm ⊢
  have HN := hide hn
  clear hn
  go_enter Try.func62, Try.ntmps62
  go_wp2_with fail
  go_loopw [8] (fun i wr => ∃ k : Nat, k ≤ n ∧ i = .int .i64 (k : Int) ∧ Hid (fIdx g (xs.drop k) (k : Int) = fIdx g xs 0) ∧ Hid (Below w.heap.size w wr)) (fun i _ => (n - intOf i).toNat)
  case atStart => exact ⟨0, by omega, rfl, rfl, Below.refl _ _⟩
  case round =>
    obtain ⟨k, hk, rfl, HS, HW⟩ := hrel
    by_cases hlt : k < n
    · have hd : decide ((k : Int) < (n : Int)) = true := by simp; omega
      have k1 : k < xs.length := by have := HN.out; omega
      obtain ⟨b, o, rfl, hb8, hc⟩ := tm_at HA.out (List.getElem?_eq_getElem k1)
      obtain ⟨c0, c1, c2, c3⟩ := hc _ HW.out
      have hs := HS.out
      rw [List.drop_eq_getElem_cons k1, fIdx] at hs
      have HX := hide hs
      have HC := hide (fun w' hw => HF.out w' hw xs[k] (List.getElem_mem k1))
      clear hs hc
      generalize xs[k] = x at c0 c1 c2 c3 HX HC
      obtain ⟨z, hz⟩ : ∃ z, z = g x := ⟨_, rfl⟩
      rw [← hz] at HX HC
      have HL := hide hlt
      clear k1 hz
      unfold Tm.row at c3
      unfold Tm.val Tm.row at HC
      cases z
      · have HX2 : Hid (fIdx g (xs.drop (k + 1)) ((k + 1 : Nat) : Int) = fIdx g xs 0) := by
          have := HX.out
          rw [if_neg Bool.false_ne_true] at this
          rw [show ((k + 1 : Nat) : Int) = (k : Int) + 1 by omega]
          exact this
        go_wp2_with (refine (HC.out _ HW.out).mono ?_; rintro e w' ⟨rfl, hb⟩; have HW2 := hide (HW.out.trans (hb.mono HW.out.size)); clear hb)
        go_roundw
        case rel => exact ⟨k + 1, by have := HL.out; omega, by go_num, HX2, HW2⟩
        case measure => (have := HL.out); (simp [intOf]) <;> omega
      · have HX2 : Hid ((k : Int) = fIdx g xs 0) := by
          have := HX.out
          rw [if_pos rfl] at this
          exact this
        go_wp2_with (refine (HC.out _ HW.out).mono ?_; rintro e w' ⟨rfl, hb⟩; have HW2 := hide (HW.out.trans (hb.mono HW.out.size)); clear hb)
        go_ret
        rw [← HX2.out]
        exact ⟨rfl, HW2.out⟩
    · have hd : decide ((k : Int) < (n : Int)) = false := by simp; omega
      have hx : fIdx g xs 0 = -1 := by
        rw [← HS.out, List.drop_of_length_le (by have := HN.out; omega)]
        rfl
      have HX := hide hx
      clear hx
      go_wp2_with fail
      go_ret
      rw [HX.out]
      exact ⟨rfl, HW.out⟩
set_option maxRecDepth 100000 in
set_option maxHeartbeats 800000 in
theorem contF_any (f : FuncId) (hen : ∀ (args : Array Value) (w : World), (callFunc f args).run Try.prog w = .ok (.enter f args) w) (cap : Array Value) (g : Tm → Bool) (va : Value) (xs : List Tm) (w : World) (ha : Rd w va 4 xs.length (tmCells xs)) (hm : xs.length ≤ 140737488351232) (hf : Clo1 f cap w g xs) :
    Calls Try.prog 39 #[va, .func (.func f) #[] cap] w fun e w' => e = .returned (.bool (xs.any g)) ∧ Below w.heap.size w w' := by
  have H := hide (idxF_any f hen cap g va xs w ha hm hf)
  have hz := fIdx_any g xs 0 (by omega)
  have HV := hide hz.symm
  clear hz ha hf hm
  generalize fIdx g xs 0 = z at H HV
  obtain ⟨bb, hb⟩ : ∃ b, decide (0 ≤ z) = b := ⟨_, rfl⟩
  rw [HV.out, hb]
  go_enter Try.func39, Try.ntmps39
  go_wp2_with (go_at_call 62; (with_reducible refine H.out.mono ?_); rintro e w' ⟨rfl, hb2⟩)
  go_ret
  exact ⟨by first | rfl | (rw [← hb]), hb2⟩
def hasT (s t : Tm) : Bool := decide (s.k = 7) && s.l.any (fun x => samT x t)
end Go.Proofs.Ythpioncehigoaaa
