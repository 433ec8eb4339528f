/-
  Sixteen rows of sixteen bits: their value, what carrying does to it. No program is named here.
-/
import Derived.Test.YtdihedhhkcakoaaKl
namespace Go.Proofs.Ytdihedhhkcakoaa
open Go.RowKit

/-- The number of rows. -/
def nv : List Int → Int
  | [] => 0
  | x :: xs => x + 65536 * nv xs
theorem nv_append : ∀ (xs ys : List Int), nv (xs ++ ys) = nv xs + 65536 ^ xs.length * nv ys
  | [], ys => by simp [nv]
  | x :: xs, ys => by
    simp only [List.cons_append, nv, nv_append xs ys, List.length_cons]
    rw [Int.pow_succ, Int.mul_add, Int.add_assoc, ← Int.mul_assoc, Int.mul_comm 65536 (65536 ^ xs.length)]
theorem nv_take {xs : List Int} {k : Nat} {x : Int} (h : xs[k]? = some x) : nv (xs.take (k + 1)) = nv (xs.take k) + x * 65536 ^ k := by
  have hk := (List.getElem?_eq_some_iff.1 h).1
  rw [List.take_add_one, h, Option.toList_some, nv_append, List.length_take, Nat.min_eq_left (by omega)]
  simp only [nv, Int.mul_zero, Int.add_zero]
  rw [Int.mul_comm]
/-- What is carried into row i. -/
def ky (xs : List Int) : Nat → Int
  | 0 => 0
  | i + 1 => (xs.getD i 0 + ky xs i) / 65536
/-- What stays in row i. -/
def dy (xs : List Int) (i : Nat) : Int := (xs.getD i 0 + ky xs i) % 65536
def dyL (xs : List Int) (i : Nat) : List Int := (List.range i).map (dy xs)
theorem dyL_len (xs : List Int) (i : Nat) : (dyL xs i).length = i := by simp [dyL]
theorem dyL_succ (xs : List Int) (i : Nat) : dyL xs (i + 1) = dyL xs i ++ [dy xs i] := by unfold dyL; rw [List.range_succ, List.map_append]; rfl
theorem dy_bd (xs : List Int) (i : Nat) : 0 ≤ dy xs i ∧ dy xs i < 65536 := by unfold dy; omega
theorem getD_of {xs : List Int} {k : Nat} {x : Int} (h : xs[k]? = some x) : xs.getD k 0 = x := by rw [List.getD_eq_getElem?_getD, h]; rfl
theorem split_at (T s : Int) : T * (s % 65536) + T * 65536 * (s / 65536) = T * s := by
  rw [Int.mul_assoc, ← Int.mul_add, Int.emod_add_mul_ediv]
theorem dyL_nv (xs : List Int) : ∀ i, i ≤ xs.length → nv (dyL xs i) + 65536 ^ i * ky xs i = nv (xs.take i)
  | 0, _ => by simp [dyL, ky, nv]
  | i + 1, h => by
    have hx : xs[i]? = some xs[i] := List.getElem?_eq_getElem (by omega)
    have hs := getD_of hx
    rw [dyL_succ, nv_append, dyL_len, nv_take hx, ← dyL_nv xs i (by omega)]
    simp only [nv, Int.mul_zero, Int.add_zero, dy, ky, hs, Int.pow_succ]
    have h1 := split_at ((65536 : Int) ^ i) (xs[i] + ky xs i)
    rw [Int.mul_add] at h1
    rw [Int.mul_comm xs[i]]
    omega
/-- A row after i rows have been carried. -/
def cyA (xs : List Int) (i : Nat) : List Int := if i < 16 then dyL xs i ++ ((xs.getD i 0 + ky xs i) :: xs.drop (i + 1)) else (dy xs 0 + 38 * ky xs 16) :: (dyL xs 16).drop 1
/-- What carrying makes of a number. -/
def carL (xs : List Int) : List Int := cyA xs 16
theorem dyL_drop (xs : List Int) : dyL xs 16 = dy xs 0 :: (dyL xs 16).drop 1 := rfl
theorem carL_len (xs : List Int) : (carL xs).length = 16 := by
  show ((dy xs 0 + 38 * ky xs 16) :: (dyL xs 16).drop 1).length = 16
  rw [List.length_cons, List.length_drop, dyL_len]
theorem cyA_zero (xs : List Int) (h : xs.length = 16) : cyA xs 0 = xs := by
  match xs, h with
  | x :: xs, _ => simp [cyA, dyL, ky]
theorem cyA_len (xs : List Int) (h : xs.length = 16) (i : Nat) (hi : i ≤ 16) : (cyA xs i).length = 16 := by
  unfold cyA
  split
  · rw [List.length_append, dyL_len, List.length_cons, List.length_drop, h]; omega
  · rw [List.length_cons, List.length_drop, dyL_len]
theorem cyA_at (xs : List Int) (i : Nat) (hi : i < 16) : (cyA xs i)[i]? = some (xs.getD i 0 + ky xs i) := by
  unfold cyA
  rw [if_pos hi, List.getElem?_append_right (by rw [dyL_len]; omega), dyL_len, Nat.sub_self]
  rfl
theorem cyA_next (xs : List Int) (h : xs.length = 16) (i : Nat) (hi : i < 15) : (cyA xs i)[i + 1]? = some (xs.getD (i + 1) 0) := by
  unfold cyA
  rw [if_pos (by omega), List.getElem?_append_right (by rw [dyL_len]; omega), dyL_len, Nat.add_sub_cancel_left, List.getElem?_cons_succ, List.getElem?_drop, Nat.add_zero, List.getD_eq_getElem?_getD, List.getElem?_eq_getElem (by omega)]
  rfl
theorem cyA_last (xs : List Int) : (cyA xs 15)[0]? = some (dy xs 0) := rfl
/-- A step: the row above takes what is carried, this one keeps its digit. -/
theorem cyA_step (xs : List Int) (h : xs.length = 16) (i : Nat) (hi : i < 15) :
    ((cyA xs i).set (i + 1) (xs.getD (i + 1) 0 + ky xs (i + 1))).set i (dy xs i) = cyA xs (i + 1) := by
  have hd : xs.drop (i + 1) = xs.getD (i + 1) 0 :: xs.drop (i + 2) := by
    rw [List.drop_eq_getElem_cons (by omega), List.getD_eq_getElem?_getD, List.getElem?_eq_getElem (by omega)]
    rfl
  unfold cyA
  rw [if_pos (by omega), if_pos (by omega), List.set_append_right _ _ (by rw [dyL_len]; omega), dyL_len, Nat.add_sub_cancel_left, List.set_cons_succ, hd, List.set_cons_zero,
    List.set_append_right _ _ (by rw [dyL_len]; omega), dyL_len, Nat.sub_self, List.set_cons_zero, dyL_succ, List.append_assoc]
  rfl
theorem cyA_end (xs : List Int) (h : xs.length = 16) :
    ((cyA xs 15).set 0 (dy xs 0 + 38 * ky xs 16)).set 15 (dy xs 15) = carL xs := by
  have hd : xs.drop 16 = [] := List.drop_eq_nil_of_le (by omega)
  show (((dyL xs 15 ++ ((xs.getD 15 0 + ky xs 15) :: xs.drop 16))).set 0 _).set 15 _ = (dy xs 0 + 38 * ky xs 16) :: (dyL xs 16).drop 1
  rw [hd]
  rfl
theorem carL_nv (xs : List Int) (h : xs.length = 16) : nv (carL xs) = nv xs - ky xs 16 * (65536 ^ 16 - 38) := by
  have h1 := dyL_nv xs 16 (by omega)
  rw [List.take_of_length_le (by omega), dyL_drop] at h1
  show nv ((dy xs 0 + 38 * ky xs 16) :: (dyL xs 16).drop 1) = _
  simp only [nv] at h1 ⊢
  rw [← h1, Int.mul_sub, Int.mul_comm (ky xs 16) (65536 ^ 16)]
  omega
theorem two_pq : (65536 ^ 16 - 38 : Int) = 2 * (Pq : Int) := by unfold Pq; decide +kernel
theorem carL_mod (xs : List Int) (h : xs.length = 16) : nv (carL xs) % (Pq : Int) = nv xs % (Pq : Int) := by
  rw [carL_nv xs h, two_pq, ← Int.mul_assoc, Int.sub_mul_emod_self_right]
theorem carL_get (xs : List Int) (k : Nat) (hk : k < 16) : (carL xs)[k]? = some (dy xs k + if k = 0 then 38 * ky xs 16 else 0) := by
  show ((dy xs 0 + 38 * ky xs 16) :: (dyL xs 16).drop 1)[k]? = _
  cases k with
  | zero => rfl
  | succ k =>
    rw [List.getElem?_cons_succ, List.getElem?_drop, dyL, List.getElem?_map, List.getElem?_range (by omega), if_neg (by omega), Int.add_zero, Nat.add_comm 1 k]
    rfl
/-- Rows as the page keeps them. -/
def NB (xs : List Int) : Prop := xs.length = 16 ∧ ∀ (k : Nat) (x : Int), xs[k]? = some x → (if k = 0 then -76 else 0) ≤ x ∧ x < 65536 + (if k = 0 then 76 else 0)
/-- All rows within a bound. -/
def NW (M : Int) (xs : List Int) : Prop := xs.length = 16 ∧ ∀ (k : Nat) (x : Int), xs[k]? = some x → -M ≤ x ∧ x ≤ M
theorem ky_bd (xs : List Int) (M : Int) (hM : 0 ≤ M) (h : ∀ (k : Nat) (x : Int), xs[k]? = some x → -M ≤ x ∧ x ≤ M) : ∀ i, -M - 1 ≤ ky xs i ∧ ky xs i ≤ M + 1
  | 0 => by simp only [ky]; omega
  | i + 1 => by
    have ih := ky_bd xs M hM h i
    have hx : -M ≤ xs.getD i 0 ∧ xs.getD i 0 ≤ M := by
      rw [List.getD_eq_getElem?_getD]
      cases hg : xs[i]? with
      | none => simp only [Option.getD_none]; omega
      | some x => exact h i x hg
    simp only [ky]
    omega
/-- Two numbers added, or one taken from another: carried once, they are as the page keeps them. -/
theorem carL_nb1 (xs : List Int) (h1 : ∀ (k : Nat) (x : Int), xs[k]? = some x → (if k = 0 then -65700 else -65535) ≤ x ∧ x ≤ (if k = 0 then 131300 else 131070)) : NB (carL xs) := by
  have hk : ∀ i, 1 ≤ i → -2 ≤ ky xs i ∧ ky xs i ≤ 2 := by
    intro i hi
    induction i with
    | zero => omega
    | succ i ih =>
      have hx : -65700 ≤ xs.getD i 0 ∧ xs.getD i 0 ≤ 131300 := by
        rw [List.getD_eq_getElem?_getD]
        cases hg : xs[i]? with
        | none => simp only [Option.getD_none]; omega
        | some x => have := h1 i x hg; split at this <;> simp only [Option.getD_some] <;> omega
      simp only [ky]
      cases i with
      | zero => simp only [ky]; omega
      | succ i => have := ih (by omega); omega
  have h16 : -2 ≤ ky xs 16 ∧ ky xs 16 ≤ 2 := hk 16 (by omega)
  refine ⟨carL_len xs, fun k x hx => ?_⟩
  have hk16 : k < 16 := by have := (List.getElem?_eq_some_iff.1 hx).1; rw [carL_len] at this; exact this
  rw [carL_get xs k hk16] at hx
  injection hx with hx
  have hd := dy_bd xs k
  subst hx
  split <;> omega
/-- A number with one long row: carried once, it is as the page keeps it. -/
theorem carL_nb2 (xs : List Int) (h1 : ∀ (k : Nat) (x : Int), xs[k]? = some x → (if k = 0 then -288230376151711744 else 0) ≤ x ∧ x ≤ (if k = 0 then 288230376151711744 else 65535)) : NB (carL xs) := by
  have hx : ∀ k, (if k = 0 then -288230376151711744 else 0) ≤ xs.getD k 0 ∧ xs.getD k 0 ≤ (if k = 0 then 288230376151711744 else 65535) := by
    intro k
    rw [List.getD_eq_getElem?_getD]
    cases hg : xs[k]? with
    | none => simp only [Option.getD_none]; split <;> omega
    | some x => exact h1 k x hg
  have k1 : -4398046511105 ≤ ky xs 1 ∧ ky xs 1 ≤ 4398046511105 := by have := hx 0; rw [if_pos rfl, if_pos rfl] at this; rw [ky, ky]; omega
  have k2 : -67108865 ≤ ky xs 2 ∧ ky xs 2 ≤ 67108865 := by have := hx 1; rw [if_neg (by omega), if_neg (by omega)] at this; rw [ky]; omega
  have k3 : -1025 ≤ ky xs 3 ∧ ky xs 3 ≤ 1025 := by have := hx 2; rw [if_neg (by omega), if_neg (by omega)] at this; rw [ky]; omega
  have hk : ∀ i, -1 ≤ ky xs (i + 4) ∧ ky xs (i + 4) ≤ 1 := by
    intro i
    induction i with
    | zero => have := hx 3; rw [if_neg (by omega), if_neg (by omega)] at this; rw [ky]; omega
    | succ i ih => have := hx (i + 4); rw [if_neg (by omega), if_neg (by omega)] at this; rw [show i + 1 + 4 = (i + 4) + 1 from by omega, ky]; omega
  have h16 : -1 ≤ ky xs 16 ∧ ky xs 16 ≤ 1 := hk 12
  refine ⟨carL_len xs, fun k x hx => ?_⟩
  have hk16 : k < 16 := by have := (List.getElem?_eq_some_iff.1 hx).1; rw [carL_len] at this; exact this
  rw [carL_get xs k hk16] at hx
  injection hx with hx
  have hd := dy_bd xs k
  subst hx
  split <;> omega
theorem carL_long (xs : List Int) (M : Int) (hM0 : 0 ≤ M) (hM : M ≤ 4503599627370496) (h : ∀ (k : Nat) (x : Int), xs[k]? = some x → -M ≤ x ∧ x ≤ M) :
    ∀ (k : Nat) (x : Int), (carL xs)[k]? = some x → (if k = 0 then -288230376151711744 else 0) ≤ x ∧ x ≤ (if k = 0 then 288230376151711744 else 65535) := by
  intro k x hx
  have hk16 : k < 16 := by have := (List.getElem?_eq_some_iff.1 hx).1; rw [carL_len] at this; exact this
  rw [carL_get xs k hk16] at hx
  injection hx with hx
  have hd := dy_bd xs k
  have hb := ky_bd xs M hM0 h 16
  subst hx
  split <;> omega
/-- Rows that are digits. -/
def Dig (xs : List Int) : Prop := xs.length = 16 ∧ ∀ (k : Nat) (x : Int), xs[k]? = some x → 0 ≤ x ∧ x < 65536
theorem nv_dig : ∀ (xs : List Int), (∀ x ∈ xs, 0 ≤ x ∧ x < 65536) → 0 ≤ nv xs ∧ nv xs < 65536 ^ xs.length
  | [], _ => by simp [nv]
  | x :: xs, h => by
    have ih := nv_dig xs fun y hy => h y (List.mem_cons_of_mem _ hy)
    have hx := h x (List.mem_cons_self ..)
    simp only [nv, List.length_cons, Int.pow_succ]
    omega
theorem dig_all {xs : List Int} (h : Dig xs) : ∀ x ∈ xs, 0 ≤ x ∧ x < 65536 := fun x hx => by
  obtain ⟨k, hk⟩ := List.getElem?_of_mem hx
  exact h.2 k x hk
theorem dig_nv {xs : List Int} (h : Dig xs) : 0 ≤ nv xs ∧ nv xs < 65536 ^ 16 := by
  have := nv_dig xs (dig_all h)
  rw [h.1] at this
  exact this
theorem dyL_dig (xs : List Int) : Dig (dyL xs 16) := by
  refine ⟨dyL_len xs 16, fun k x hx => ?_⟩
  have hk16 : k < 16 := by have := (List.getElem?_eq_some_iff.1 hx).1; rw [dyL_len] at this; exact this
  rw [dyL, List.getElem?_map, List.getElem?_range hk16] at hx
  injection hx with hx
  subst hx
  exact dy_bd xs k
theorem carL_dig {xs : List Int} (h : Dig xs) : carL xs = xs := by
  have hk : ∀ i, ky xs i = 0 := by
    intro i
    induction i with
    | zero => rfl
    | succ i ih =>
      rw [ky, ih, List.getD_eq_getElem?_getD]
      cases hg : xs[i]? with
      | none => simp
      | some x => have := h.2 i x hg; simp only [Option.getD_some]; omega
  apply List.ext_getElem?
  intro k
  rcases Nat.lt_or_ge k 16 with hk16 | hk16
  · have hx : xs[k]? = some (xs[k]'(by rw [h.1]; exact hk16)) := List.getElem?_eq_getElem (by rw [h.1]; exact hk16)
    rw [carL_get xs k hk16, hx, dy, hk, hk, getD_of hx]
    have := h.2 k _ hx
    congr 1
    split <;> omega
  · rw [List.getElem?_eq_none (by rw [carL_len]; exact hk16), List.getElem?_eq_none (by rw [h.1]; exact hk16)]
theorem nb_nv {xs : List Int} (h : NB xs) : -76 ≤ nv xs ∧ nv xs ≤ 65536 ^ 16 + 75 := by
  obtain ⟨hl, hb⟩ := h
  match xs, hl with
  | x :: xs, hl =>
    have h0 := hb 0 x rfl
    have hr := nv_dig xs fun y hy => by
      obtain ⟨k, hk⟩ := List.getElem?_of_mem hy
      have := hb (k + 1) y (by simpa using hk)
      simpa using this
    have hl15 : xs.length = 15 := by simpa using hl
    rw [hl15] at hr
    simp only [nv] at h0 ⊢
    simp at h0
    have : (65536 : Int) ^ 16 = 65536 * 65536 ^ 15 := by decide
    omega
theorem carL_nb_dig {xs : List Int} (h : NB xs) : Dig (carL xs) := by
  have hv := nb_nv h
  have h1 := dyL_nv xs 16 (by rw [h.1]; omega)
  rw [List.take_of_length_le (by rw [h.1]; omega)] at h1
  have hd := dig_nv (dyL_dig xs)
  have hT : (65536 : Int) ^ 16 = 115792089237316195423570985008687907853269984665640564039457584007913129639936 := by decide
  have hk : ky xs 16 = 0 ∨ ky xs 16 = -1 ∨ ky xs 16 = 1 := by
    rw [hT] at h1 hv hd
    omega
  have h0 : nv (dyL xs 16) = dy xs 0 + 65536 * nv ((dyL xs 16).drop 1) := by rw [dyL_drop]; rfl
  have hr := nv_dig ((dyL xs 16).drop 1) fun y hy => dig_all (dyL_dig xs) y (List.mem_of_mem_drop hy)
  rw [List.length_drop, dyL_len] at hr
  have hT' : (65536 : Int) ^ (16 - 1) = 1766847064778384329583297500742918515827483896875618958121606201292619776 := by decide
  rw [hT'] at hr
  rw [hT] at h1 hv hd
  have hd0 := dy_bd xs 0
  refine ⟨carL_len xs, fun k x hx => ?_⟩
  have hk16 : k < 16 := by have := (List.getElem?_eq_some_iff.1 hx).1; rw [carL_len] at this; exact this
  rw [carL_get xs k hk16] at hx
  injection hx with hx
  have hdk := dy_bd xs k
  subst hx
  split
  · rename_i hk0
    subst hk0
    rcases hk with hk | hk | hk <;> rw [hk] at h1 ⊢ <;> omega
  · omega
theorem carL3 {xs : List Int} (h : NB xs) : carL (carL (carL xs)) = carL xs := by rw [carL_dig (carL_nb_dig h), carL_dig (carL_nb_dig h)]
/-! What is taken away. -/
def pRow : List Int := [65517, 65535, 65535, 65535, 65535, 65535, 65535, 65535, 65535, 65535, 65535, 65535, 65535, 65535, 65535, 32767]
theorem pRow_nv : nv pRow = (Pq : Int) := by unfold Pq; decide +kernel
def suL (t : List Int) : List Int := List.zipWith (· - ·) t pRow
theorem nv_zip : ∀ (xs ys : List Int), xs.length = ys.length → nv (List.zipWith (· - ·) xs ys) = nv xs - nv ys
  | [], [], _ => rfl
  | x :: xs, y :: ys, h => by
    simp only [List.zipWith_cons_cons, nv, nv_zip xs ys (by simpa using h)]
    omega
  | [], _ :: _, h => by simp at h
  | _ :: _, [], h => by simp at h
theorem suL_len {t : List Int} (h : t.length = 16) : (suL t).length = 16 := by unfold suL; rw [List.length_zipWith, h]; rfl
theorem suL_nv {t : List Int} (h : t.length = 16) : nv (suL t) = nv t - (Pq : Int) := by unfold suL; rw [nv_zip _ _ (by rw [h]; rfl), pRow_nv]
/-- A round of the page's Bytes, behind i rows. -/
def suA (t : List Int) (i : Nat) : List Int := dyL (suL t) (i - 1) ++ (((suL t).getD (i - 1) 0 + ky (suL t) (i - 1)) :: t.drop i)
def suE (t : List Int) : List Int := dyL (suL t) 15 ++ [(suL t).getD 15 0 + ky (suL t) 15]
def suN (t : List Int) : List Int := if 0 ≤ (suL t).getD 15 0 + ky (suL t) 15 then suE t else t
theorem suE_nv {t : List Int} (h : t.length = 16) : nv (suE t) = nv t - (Pq : Int) := by
  have h15 : 15 < (suL t).length := by rw [suL_len h]; omega
  have hx : (suL t)[15]? = some (suL t)[15] := List.getElem?_eq_getElem h15
  have h2 := dyL_nv (suL t) 15 (by omega)
  have h3 := nv_take hx
  rw [List.take_of_length_le (by rw [suL_len h]; omega), suL_nv h, ← h2] at h3
  unfold suE
  rw [nv_append, dyL_len, h3, getD_of hx]
  simp only [nv, Int.mul_zero, Int.add_zero]
  rw [Int.mul_add, Int.mul_comm (suL t)[15]]
  omega
theorem suN_spec {t : List Int} (h : Dig t) : Dig (suN t) ∧ nv (suN t) = if (Pq : Int) ≤ nv t then nv t - (Pq : Int) else nv t := by
  have he := suE_nv h.1
  have hn : nv (suE t) = nv (dyL (suL t) 15) + 65536 ^ 15 * ((suL t).getD 15 0 + ky (suL t) 15) := by
    unfold suE
    rw [nv_append, dyL_len]
    simp only [nv, Int.mul_zero, Int.add_zero]
  have hd := nv_dig (dyL (suL t) 15) fun x hx => by
    simp only [dyL, List.mem_map] at hx
    obtain ⟨k, _, rfl⟩ := hx
    exact dy_bd _ _
  rw [dyL_len] at hd
  have ht := dig_nv h
  have hT : (65536 : Int) ^ 16 = 115792089237316195423570985008687907853269984665640564039457584007913129639936 := by decide
  have hT' : (65536 : Int) ^ 15 = 1766847064778384329583297500742918515827483896875618958121606201292619776 := by decide
  rw [hT] at ht
  rw [hT'] at hn hd
  unfold suN
  have hp : (0 : Int) ≤ Pq := Int.natCast_nonneg _
  split
  · rename_i hs
    refine ⟨⟨by unfold suE; rw [List.length_append, dyL_len]; rfl, fun k x hx => ?_⟩, ?_⟩
    · unfold suE at hx
      rcases Nat.lt_or_ge k 15 with hk | hk
      · rw [List.getElem?_append_left (by rw [dyL_len]; exact hk), dyL, List.getElem?_map, List.getElem?_range hk] at hx
        injection hx with hx
        subst hx
        exact dy_bd _ _
      · rw [List.getElem?_append_right (by rw [dyL_len]; exact hk), dyL_len] at hx
        have : k - 15 = 0 := by
          have := (List.getElem?_eq_some_iff.1 hx).1
          simp at this
          omega
        rw [this] at hx
        injection hx with hx
        subst hx
        refine ⟨hs, ?_⟩
        omega
    · rw [if_pos (by omega)]; exact he
  · rename_i hs
    exact ⟨h, by rw [if_neg (by omega)]⟩
/-- The rows of a number that is below p. -/
def bytN (xs : List Int) : List Int := suN (suN (suN (carL xs)))
theorem bytN_spec {xs : List Int} (h : NB xs) : Dig (bytN xs) ∧ nv (bytN xs) = nv xs % (Pq : Int) := by
  obtain ⟨d1, e1⟩ := suN_spec (carL_nb_dig h)
  obtain ⟨d2, e2⟩ := suN_spec d1
  obtain ⟨d3, e3⟩ := suN_spec d2
  refine ⟨d3, ?_⟩
  have hv := dig_nv (carL_nb_dig h)
  have hm := carL_mod xs h.1
  have h3 := dig_nv d3
  rw [← hm]
  have hT : (65536 : Int) ^ 16 = 2 * (Pq : Int) + 38 := by have := two_pq; omega
  rw [hT] at hv
  have hp : (1000000 : Int) < Pq := by have := Pq_256.2; omega
  show nv (suN (suN (suN (carL xs)))) = _
  rw [e3, e2, e1]
  generalize nv (carL xs) = V at *
  generalize (Pq : Int) = p at *
  clear e1 e2 e3 hm h3 hT
  have key : ∀ (V : Int), 0 ≤ V → V < p → V % p = V := fun V h1 h2 => Int.emod_eq_of_lt h1 h2
  by_cases h1 : p ≤ V
  · rw [if_pos h1]
    have e1 : V % p = (V - p) % p := (Int.sub_emod_right V p).symm
    by_cases h2 : p ≤ V - p
    · rw [if_pos h2]
      have e2 : (V - p) % p = (V - p - p) % p := (Int.sub_emod_right (V - p) p).symm
      rw [if_neg (by omega), e1, e2, key _ (by omega) (by omega)]
    · rw [if_neg h2, if_neg h2, e1, key _ (by omega) (by omega)]
  · rw [if_neg h1, if_neg h1, if_neg h1, key _ (by omega) (by omega)]
/-- Rows as bytes. -/
def rowB (x : Int) : List UInt8 := [UInt8.ofNat (x % 256).toNat, UInt8.ofNat (x / 256 % 256).toNat]
theorem rowsB : ∀ (xs : List Int), (∀ x ∈ xs, 0 ≤ x ∧ x < 65536) → xs.flatMap rowB = leB (2 * xs.length) (nv xs).toNat
  | [], _ => rfl
  | x :: xs, h => by
    have ih := rowsB xs fun y hy => h y (List.mem_cons_of_mem _ hy)
    have hx := h x (List.mem_cons_self ..)
    have hn := nv_dig xs fun y hy => h y (List.mem_cons_of_mem _ hy)
    rw [List.flatMap_cons, ih, List.length_cons, show 2 * (xs.length + 1) = (2 * xs.length) + 1 + 1 from by omega]
    simp only [leB, rowB, List.cons_append, List.nil_append, nv]
    have e1 : (x + 65536 * nv xs).toNat % 256 = (x % 256).toNat := by omega
    have e2 : (x + 65536 * nv xs).toNat / 256 % 256 = (x / 256 % 256).toNat := by omega
    have e3 : (x + 65536 * nv xs).toNat / 256 / 256 = (nv xs).toNat := by omega
    rw [e1, e2, e3]
end Go.Proofs.Ytdihedhhkcakoaa
