/-
  Layer 7: a row of terms compared with a row, by whatever function.
-/
import Derived.Test.YthpioncehigoaaaTb
set_option linter.unusedVariables false
namespace Go.Proofs.Ythpioncehigoaaa
open Go.RowKit
set_option linter.unusedSimpArgs false

theorem tmCells_at {l : List Tm} {k j : Nat} {t : Tm} (h : l[k]? = some t) (hj : j < 4) : (tmCells l)[k * 4 + j]? = t.cells[j]? := flat_at Tm.cells 4 Tm.cells_length l k j t h hj
/-- The cells of the k-th term of a row. -/
theorem tm_at {w : World} {B : Option Addr} {n d : Nat} {l : List Tm} {k : Nat} {t : Tm} (h : Rd w (.slice B n d) 4 n (tmCells l)) (hk : l[k]? = some t) : ∃ b o, B = some ⟨b, o, none⟩ ∧ b < w.heap.size ∧
    ∀ w', Below w.heap.size w w' → w'.cell? ⟨b, o + k * 4, none⟩ = some (.int .i64 t.k) ∧ w'.cell? ⟨b, o + k * 4 + 1, none⟩ = some (.int .i64 t.n) ∧ w'.cell? ⟨b, o + k * 4 + 2, none⟩ = some (.string (strOf t.s)) ∧ w'.cell? ⟨b, o + k * 4 + 3, none⟩ = some t.row := by
  obtain ⟨b, o, rfl, hb, h0⟩ := rd_at h (k := k * 4) (u := .int .i64 t.k) ((tmCells_at (j := 0) hk (by omega)).trans rfl)
  have get : ∀ j u, j < 4 → t.cells[j]? = some u → w.cell? ⟨b, o + k * 4 + j, none⟩ = some u := fun j u hj hu => by
    obtain ⟨b', o', e, _, h1⟩ := rd_at h (k := k * 4 + j) (u := u) ((tmCells_at hk hj).trans hu)
    injection e with e
    injection e with e1 e2 _
    subst e1 e2
    rw [Nat.add_assoc]
    exact h1
  refine ⟨b, o, rfl, hb, fun w' hw => ?_⟩
  have keep : ∀ j, w'.cell? ⟨b, o + k * 4 + j, none⟩ = w.cell? ⟨b, o + k * 4 + j, none⟩ := fun j => hw.cell (p := ⟨b, o + k * 4 + j, none⟩) hb
  exact ⟨by have := keep 0; rw [Nat.add_zero] at this; rw [this]; exact get 0 _ (by omega) rfl, by rw [keep]; exact get 1 _ (by omega) rfl, by rw [keep]; exact get 2 _ (by omega) rfl, by rw [keep]; exact get 3 _ (by omega) rfl⟩
/-- A function of two terms that answers g of them. -/
def Clo2 (f : FuncId) (cap : Array Value) (w : World) (g : Tm → Tm → Int) (xs ys : List Tm) : Prop :=
  ∀ w', Below w.heap.size w w' → ∀ x ∈ xs, ∀ y ∈ ys, Calls Try.prog f (#[x.val, y.val] ++ cap) w' fun e w'' => e = .returned (.int .i64 (g x y)) ∧ Below w'.heap.size w' w''
set_option maxRecDepth 100000 in
set_option maxHeartbeats 800000 in
theorem cmpF_any (f : FuncId) (hen : ∀ (args : Array Value) (w : World), (callFunc f args).run Try.prog w = .ok (.enter f args) w) (cap : Array Value) (g : Tm → Tm → Int) (va vb : Value) (xs ys : List Tm) (w : World) (ha : TmsAt w va xs) (hb : TmsAt w vb ys) (hf : Clo2 f cap w g xs ys) :
    Calls Try.prog 30 #[va, vb, .func (.func f) #[] cap] w fun e w' => e = .returned (.int .i64 (cmpL g xs ys)) ∧ Below w.heap.size w w' := by
  obtain ⟨A, c, rfl, hra⟩ := Rd.isSlice ha.1
  obtain ⟨B, d, rfl, hrb⟩ := Rd.isSlice hb.1
  have HA := hide hra
  have HB := hide hrb
  have HF := hide hf
  have hm1 := hra.le
  have hm2 := hrb.le
  unfold maxLen at hm1 hm2
  clear ha hb hf hra hrb
  obtain ⟨n, hn⟩ : ∃ n, n = xs.length := ⟨_, rfl⟩
  obtain ⟨m, hm⟩ : ∃ m, m = ys.length := ⟨_, rfl⟩
  rw [← hn] at HA hm1 ⊢
  rw [← hm] at HB hm2 ⊢
  have HN := hide hn
  have HM := hide hm
  clear hn hm
  go_enter Try.func30, Try.ntmps30
  go_wp2_with fail
  go_loopw [13] (fun i wr => ∃ k : Nat, k ≤ n ∧ i = .int .i64 (k : Int) ∧ Hid (k ≤ m ∧ cmpL g (xs.drop k) (ys.drop k) = cmpL g xs ys) ∧ Hid (Below w.heap.size w wr)) (fun i _ => (n - intOf i).toNat)
  case atStart => exact ⟨0, by omega, rfl, hide ⟨by omega, rfl⟩, Below.refl _ _⟩
  case round =>
    obtain ⟨k, hk, rfl, HS, HW⟩ := hrel
    by_cases hlt : k < n
    · have hd : decide ((k : Int) < (n : Int)) = true := by simp; omega
      have k1 : k < xs.length := by have := HN.out; omega
      obtain ⟨b, o, rfl, hb8, hc⟩ := tm_at HA.out (List.getElem?_eq_getElem k1)
      obtain ⟨c0, c1, c2, c3⟩ := hc _ HW.out
      by_cases hlm : k < m
      · have k2 : k < ys.length := by have := HM.out; omega
        obtain ⟨b', o', rfl, hb8', hc'⟩ := tm_at HB.out (List.getElem?_eq_getElem k2)
        obtain ⟨e0, e1, e2, e3⟩ := hc' _ HW.out
        have dm : decide ((m : Int) ≤ (k : Int)) = false := by simp; omega
        have dm' : decide (m ≤ k) = false := by simp; omega
        have hs := HS.out.2
        rw [List.drop_eq_getElem_cons k1, List.drop_eq_getElem_cons k2, cmpL, orI] at hs
        have HX := hide hs
        have HC := hide (fun w' hw => HF.out w' hw xs[k] (List.getElem_mem k1) ys[k] (List.getElem_mem k2))
        clear hs hc hc'
        generalize xs[k] = x at c0 c1 c2 c3 HX HC
        generalize ys[k] = y at e0 e1 e2 e3 HX HC
        have b1 : b < wr.heap.size := by have := HW.out.size; omega
        have b2 : b' < wr.heap.size := by have := HW.out.size; omega
        obtain ⟨z, hz⟩ : ∃ z, z = g x y := ⟨_, rfl⟩
        rw [← hz] at HX HC
        have HL := hide hlt
        have HL2 := hide hlm
        have HN' := hide (HW.out.size)
        clear hlt hlm k1 k2 hz
        unfold Tm.row at c3 e3
        unfold Tm.val Tm.row at HC
        by_cases hz : z = 0
        · have q1 : (z != 0) = false := by simp [hz]
          have HX2 : Hid (cmpL g (xs.drop (k + 1)) (ys.drop (k + 1)) = cmpL g xs ys) := by
            have := HX.out
            rw [if_pos hz] at this
            exact this
          clear hz
          go_wp2_with (refine (HC.out _ ((HW.out.alloc HW.out.size _).alloc (by simp; have := HW.out.size; omega) _)).mono ?_; rintro e w' ⟨rfl, hb⟩; have HW2 := hide (((HW.out.alloc HW.out.size _).alloc (by simp; have := HW.out.size; omega) _).trans (hb.mono (by simp; have := HW.out.size; omega))); clear hb)
          go_roundw
          case rel => exact ⟨k + 1, by have := HL.out; omega, by go_num, hide ⟨by have := HL2.out; omega, HX2.out⟩, HW2⟩
          case measure => (have := HL.out); (simp [intOf]) <;> omega
        · have q1 : (z != 0) = true := by simp [hz]
          have HX2 : Hid (z = cmpL g xs ys) := by
            have := HX.out
            rw [if_neg hz] at this
            exact this
          clear hz HX
          go_wp2_with (refine (HC.out _ ((HW.out.alloc HW.out.size _).alloc (by simp; have := HW.out.size; omega) _)).mono ?_; rintro e w' ⟨rfl, hb⟩; have HW2 := hide (((HW.out.alloc HW.out.size _).alloc (by simp; have := HW.out.size; omega) _).trans (hb.mono (by simp; have := HW.out.size; omega))); clear hb)
          go_ret
          rw [← HX2.out]
          exact ⟨rfl, HW2.out⟩
      · have dm : decide ((m : Int) ≤ (k : Int)) = true := by simp; omega
        have dm' : decide (m ≤ k) = true := by simp; omega
        have hx : cmpL g xs ys = 1 := by
          rw [← HS.out.2, List.drop_eq_getElem_cons k1, List.drop_of_length_le (l := ys) (by have := HM.out; omega)]
          rfl
        have HX := hide hx
        generalize xs[k] = x at c0 c1 c2 c3
        clear hx hc k1
        unfold Tm.row at c3
        go_wp2_with fail
        go_ret
        rw [HX.out]
        exact ⟨rfl, HW.out.alloc HW.out.size _⟩
    · have hd : decide ((k : Int) < (n : Int)) = false := by simp; omega
      obtain rfl : k = n := by omega
      by_cases hlm : k < m
      · have dm : decide ((k : Int) < (m : Int)) = true := by simp; omega
        have dm' : decide (k < m) = true := by simp; omega
        have hx : cmpL g xs ys = -1 := by
          have k2 : k < ys.length := by have := HM.out; omega
          rw [← HS.out.2, List.drop_eq_getElem_cons k2, List.drop_of_length_le (l := xs) (by have := HN.out; omega)]
          rfl
        have HX := hide hx
        clear hx
        go_wp2_with fail
        go_ret
        rw [HX.out]
        exact ⟨rfl, HW.out⟩
      · have dm : decide ((k : Int) < (m : Int)) = false := by simp; omega
        have dm' : decide (k < m) = false := by simp; omega
        have hx : cmpL g xs ys = 0 := by
          rw [← HS.out.2, List.drop_of_length_le (l := ys) (by have := HM.out; omega), List.drop_of_length_le (l := xs) (by have := HN.out; omega)]
          rfl
        have HX := hide hx
        clear hx
        go_wp2_with fail
        go_ret
        rw [HX.out]
        exact ⟨rfl, HW.out⟩
end Go.Proofs.Ythpioncehigoaaa
