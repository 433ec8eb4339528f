/-
  Layer 7: is one in a row, by whatever function; Has, the program's and the page's.
-/
import Derived.Test.YtjamoifenkdneaaTl
namespace Go.Proofs.Ytjamoifenkdneaa
open Go.RowKit
set_option linter.unusedSimpArgs false

/-- A function of a term that answers g of it. -/
def Clo1 (f : FuncId) (cap : Array Value) (w : World) (g : Tm → Bool) (xs : List Tm) : Prop :=
  ∀ w', Below w.heap.size w w' → ∀ x ∈ xs, Calls Try.prog f (#[x.val] ++ cap) w' fun e w'' => e = .returned (.bool (g x)) ∧ Below w'.heap.size w' w''
def fIdx (g : Tm → Bool) : List Tm → Int → Int
  | [], _ => -1
  | x :: l, k => if g x = true then k else fIdx g l (k + 1)
theorem fIdx_any (g : Tm → Bool) : ∀ (l : List Tm) (k : Int), 0 ≤ k → decide (0 ≤ fIdx g l k) = l.any g
  | [], k, _ => by simp [fIdx]
  | x :: l, k, hk => by
    rw [fIdx, List.any_cons]
    by_cases h : g x = true
    · rw [if_pos h, h]
      simp [hk]
    · rw [if_neg h, fIdx_any g l (k + 1) (by omega)]
      simp [h]
set_option maxRecDepth 100000 in
set_option maxHeartbeats 1600000 in
theorem idxF_any (f : FuncId) (hen : ∀ (args : Array Value) (w : World), (callFunc f args).run Try.prog w = .ok (.enter f args) w) (cap : Array Value) (g : Tm → Bool) (va : Value) (xs : List Tm) (w : World) (ha : Rd w va 4 xs.length (tmCells xs)) (hm : xs.length ≤ 140737488351232) (hf : Clo1 f cap w g xs) :
    Calls Try.prog 49 #[va, .func (.func f) #[] cap] w fun e w' => e = .returned (.int .i64 (fIdx g xs 0)) ∧ Below w.heap.size w w' := by
  obtain ⟨A, c, rfl, hra⟩ := Rd.isSlice ha
  have HA := hide hra
  have HF := hide hf
  clear ha hf hra
  obtain ⟨n, hn⟩ : ∃ n, n = xs.length := ⟨_, rfl⟩
  rw [← hn] at HA hm ⊢
  have HN := hide hn
  clear hn
  go_enter Try.func49, Try.ntmps49
  go_wp2_with fail
  go_loopw [8] (fun i wr => ∃ k : Nat, k ≤ n ∧ i = .int .i64 (k : Int) ∧ Hid (fIdx g (xs.drop k) (k : Int) = fIdx g xs 0) ∧ Hid (Below w.heap.size w wr)) (fun i _ => (n - intOf i).toNat)
  case atStart => exact ⟨0, by omega, rfl, rfl, Below.refl _ _⟩
  case round =>
    obtain ⟨k, hk, rfl, HS, HW⟩ := hrel
    by_cases hlt : k < n
    · have hd : decide ((k : Int) < (n : Int)) = true := by simp; omega
      have k1 : k < xs.length := by have := HN.out; omega
      obtain ⟨b, o, rfl, hb8, hc⟩ := tm_at HA.out (List.getElem?_eq_getElem k1)
      obtain ⟨c0, c1, c2, c3⟩ := hc _ HW.out
      have hs := HS.out
      rw [List.drop_eq_getElem_cons k1, fIdx] at hs
      have HX := hide hs
      have HC := hide (fun w' hw => HF.out w' hw xs[k] (List.getElem_mem k1))
      clear hs hc
      generalize xs[k] = x at c0 c1 c2 c3 HX HC
      obtain ⟨z, hz⟩ : ∃ z, z = g x := ⟨_, rfl⟩
      rw [← hz] at HX HC
      have HL := hide hlt
      clear k1 hz
      unfold Tm.row at c3
      unfold Tm.val Tm.row at HC
      cases z
      · have HX2 : Hid (fIdx g (xs.drop (k + 1)) ((k + 1 : Nat) : Int) = fIdx g xs 0) := by
          have := HX.out
          rw [if_neg Bool.false_ne_true] at this
          rw [show ((k + 1 : Nat) : Int) = (k : Int) + 1 by omega]
          exact this
        go_wp2_with (refine (HC.out _ HW.out).mono ?_; rintro e w' ⟨rfl, hb⟩; have HW2 := hide (HW.out.trans (hb.mono HW.out.size)); clear hb)
        go_roundw
        case rel => exact ⟨k + 1, by have := HL.out; omega, by go_num, HX2, HW2⟩
        case measure => (have := HL.out); (simp [intOf]) <;> omega
      · have HX2 : Hid ((k : Int) = fIdx g xs 0) := by
          have := HX.out
          rw [if_pos rfl] at this
          exact this
        go_wp2_with (refine (HC.out _ HW.out).mono ?_; rintro e w' ⟨rfl, hb⟩; have HW2 := hide (HW.out.trans (hb.mono HW.out.size)); clear hb)
        go_ret
        rw [← HX2.out]
        exact ⟨rfl, HW2.out⟩
    · have hd : decide ((k : Int) < (n : Int)) = false := by simp; omega
      have hx : fIdx g xs 0 = -1 := by
        rw [← HS.out, List.drop_of_length_le (by have := HN.out; omega)]
        rfl
      have HX := hide hx
      clear hx
      go_wp2_with fail
      go_ret
      rw [HX.out]
      exact ⟨rfl, HW.out⟩
set_option maxRecDepth 100000 in
set_option maxHeartbeats 800000 in
theorem contF_any (f : FuncId) (hen : ∀ (args : Array Value) (w : World), (callFunc f args).run Try.prog w = .ok (.enter f args) w) (cap : Array Value) (g : Tm → Bool) (va : Value) (xs : List Tm) (w : World) (ha : Rd w va 4 xs.length (tmCells xs)) (hm : xs.length ≤ 140737488351232) (hf : Clo1 f cap w g xs) :
    Calls Try.prog 32 #[va, .func (.func f) #[] cap] w fun e w' => e = .returned (.bool (xs.any g)) ∧ Below w.heap.size w w' := by
  have H := hide (idxF_any f hen cap g va xs w ha hm hf)
  have hz := fIdx_any g xs 0 (by omega)
  have HV := hide hz.symm
  clear hz ha hf hm
  generalize fIdx g xs 0 = z at H HV
  obtain ⟨bb, hb⟩ : ∃ b, decide (0 ≤ z) = b := ⟨_, rfl⟩
  rw [HV.out, hb]
  go_enter Try.func32, Try.ntmps32
  go_wp2_with (go_at_call 49; (with_reducible refine H.out.mono ?_); rintro e w' ⟨rfl, hb2⟩)
  go_ret
  exact ⟨by first | rfl | (rw [← hb]), hb2⟩
theorem enHas (args : Array Value) (w : World) : (callFunc 33 args).run Try.prog w = .ok (.enter 33 args) w := by kernel_rfl
def hasT (s t : Tm) : Bool := decide (s.k = 7) && s.l.any (fun x => samT x t)
/-- Its closure, over the term that lies in a block. -/
theorem hasC_any {t x : Tm} {W0 W : World} {p : Nat} {H : List Chunk} (hx : TmOK W x) (ht : TmOK W t) (hS : St W0 NoB W (.cells p #[.int .i64 t.k, .int .i64 t.n, .string (strOf t.s), .slice t.A t.l.length t.c] 24 :: H)) :
    Calls Try.prog 33 #[x.val, .pointer (some ⟨p, 0, none⟩)] W fun e w' => e = .returned (.bool (samT x t)) ∧ Below W.heap.size W w' := by
  have hc0 := hS.cell 0 rfl 0
  have hc1 := hS.cell 0 rfl 1
  have hc2 := hS.cell 0 rfl 2
  have hc3 := hS.cell 0 rfl 3
  have hp : p < W.heap.size := World.block_lt_of_cell? _ _ hc0
  have HC := hide (fun W1 (hW : Below W.heap.size W W1) => same_any x t W1 (hx.on hW) (ht.on hW))
  clear hS hx ht
  unfold Tm.val Tm.row at *
  generalize samT x t = z at HC ⊢
  go_enter Try.func33, Try.ntmps33
  go_wp2_with (go_at_call 12; (with_reducible refine (HC.out _ ((Below.refl _ _).al _)).mono ?_); rintro e w' ⟨rfl, hb⟩; have HB := hide (((Below.refl _ _).al _).trans (hb.mono ((Below.refl _ _).al _).size)); clear hb)
  go_ret
  exact ⟨rfl, HB.out⟩
set_option maxRecDepth 100000 in
set_option maxHeartbeats 800000 in
theorem has_any (s t : Tm) (w : World) (hs : TmOK w s) (ht : TmOK w t) : Calls Try.prog 20 #[s.val, t.val] w fun e w' => e = .returned (.bool (hasT s t)) ∧ Below w.heap.size w w' := by
  have hW2 : Below w.heap.size w ((w.alloc (.cells #[.int .i64 s.k, .int .i64 s.n, .string (strOf s.s), .slice s.A s.l.length s.c] 24)).alloc (.cells #[.int .i64 t.k, .int .i64 t.n, .string (strOf t.s), .slice t.A t.l.length t.c] 24)) := ((Below.refl _ _).al _).al _
  have hS0 := ((St.init w NoB).alloc #[.int .i64 s.k, .int .i64 s.n, .string (strOf s.s), .slice s.A s.l.length s.c] 24).alloc #[.int .i64 t.k, .int .i64 t.n, .string (strOf t.s), .slice t.A t.l.length t.c] 24
  rw [size_alloc1] at hS0
  have HC := hide (contF_any 33 enHas #[.pointer (some ⟨w.heap.size + 1, 0, none⟩)] (fun x => samT x t) s.row s.l _ (hs.rd.below hW2) hs.bd.2.2.2 (fun W hW x hx => hasC_any (((hs.kid hx).on hW2).on hW) ((ht.on hW2).on hW) (hS0.call hW)))
  have HW2 := hide hW2
  clear hs ht hS0 hW2
  unfold hasT Tm.val
  unfold Tm.row at *
  generalize s.l.any (fun x => samT x t) = z at HC ⊢
  by_cases h7 : s.k = 7
  · have q : (s.k == 7) = true := by simp [h7]
    rw [decide_eq_true h7]
    clear h7
    go_enter Try.func20, Try.ntmps20
    go_wp2_with (go_at_call 32; (with_reducible refine HC.out.mono ?_); rintro e w' ⟨rfl, hb⟩; have HB := hide (HW2.out.trans (hb.mono HW2.out.size)); clear hb)
    go_ret
    exact ⟨rfl, HB.out⟩
  · have q : (s.k == 7) = false := by simp [h7]
    rw [decide_eq_false h7]
    clear h7
    go_enter Try.func20, Try.ntmps20
    go_wp2_with fail
    go_ret
    exact ⟨rfl, HW2.out⟩
end Go.Proofs.Ytjamoifenkdneaa
