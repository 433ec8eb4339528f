/-
 Joined of texts of mine, in build order: Na, Nb, Nc, Nd, Ne, Nf, Ng, Nh, Be. Each says what it proves at its own head.
-/
import Derived.Test.YtnohmgpmmhlloaaGreatDoorPc
set_option linter.unusedSimpArgs false
set_option linter.unusedVariables false
set_option maxRecDepth 100000
set_option maxHeartbeats 25600000

namespace Go.Proofs.YtnohmgpmmhlloaaGreatDoor
open Go.RowKit

def nv : List Int → Int
 | [] => 0
 | x :: xs => x + 65536 * nv xs
theorem nv_append : ∀ (xs ys : List Int), nv (xs ++ ys) = nv xs + 65536 ^ xs.length * nv ys
 | [], ys => by simp [nv]
 | x :: xs, ys => by
  simp only [List.cons_append, nv, nv_append xs ys, List.length_cons]
  rw [Int.pow_succ, Int.mul_add, Int.add_assoc, ← Int.mul_assoc, Int.mul_comm 65536 (65536 ^ xs.length)]
theorem nv_take {xs : List Int} {k : Nat} {x : Int} (h : xs[k]? = some x) : nv (xs.take (k + 1)) = nv (xs.take k) + x * 65536 ^ k := by
 have hk := (List.getElem?_eq_some_iff.1 h).1
 rw [List.take_add_one, h, Option.toList_some, nv_append, List.length_take, Nat.min_eq_left (by omega)]
 simp only [nv, Int.mul_zero, Int.add_zero]
 rw [Int.mul_comm]
def ky (xs : List Int) : Nat → Int
 | 0 => 0
 | i + 1 => (xs.getD i 0 + ky xs i) / 65536
def dy (xs : List Int) (i : Nat) : Int := (xs.getD i 0 + ky xs i) % 65536
def dyL (xs : List Int) (i : Nat) : List Int := (List.range i).map (dy xs)
theorem dyL_len (xs : List Int) (i : Nat) : (dyL xs i).length = i := by simp [dyL]
theorem dyL_succ (xs : List Int) (i : Nat) : dyL xs (i + 1) = dyL xs i ++ [dy xs i] := by unfold dyL; rw [List.range_succ, List.map_append]; rfl
theorem dy_bd (xs : List Int) (i : Nat) : 0 ≤ dy xs i ∧ dy xs i < 65536 := by unfold dy; omega
theorem getD_of {xs : List Int} {k : Nat} {x : Int} (h : xs[k]? = some x) : xs.getD k 0 = x := by rw [List.getD_eq_getElem?_getD, h]; rfl
theorem split_at (T s : Int) : T * (s % 65536) + T * 65536 * (s / 65536) = T * s := by
 rw [Int.mul_assoc, ← Int.mul_add, Int.emod_add_mul_ediv]
theorem dyL_nv (xs : List Int) : ∀ i, i ≤ xs.length → nv (dyL xs i) + 65536 ^ i * ky xs i = nv (xs.take i)
 | 0, _ => by simp [dyL, ky, nv]
 | i + 1, h => by
  have hx : xs[i]? = some xs[i] := List.getElem?_eq_getElem (by omega)
  have hs := getD_of hx
  rw [dyL_succ, nv_append, dyL_len, nv_take hx, ← dyL_nv xs i (by omega)]
  simp only [nv, Int.mul_zero, Int.add_zero, dy, ky, hs, Int.pow_succ]
  have h1 := split_at ((65536 : Int) ^ i) (xs[i] + ky xs i)
  rw [Int.mul_add] at h1
  rw [Int.mul_comm xs[i]]
  omega
def cyA (xs : List Int) (i : Nat) : List Int := if i < 16 then dyL xs i ++ ((xs.getD i 0 + ky xs i) :: xs.drop (i + 1)) else (dy xs 0 + 38 * ky xs 16) :: (dyL xs 16).drop 1
def carL (xs : List Int) : List Int := cyA xs 16
theorem dyL_drop (xs : List Int) : dyL xs 16 = dy xs 0 :: (dyL xs 16).drop 1 := rfl
theorem carL_len (xs : List Int) : (carL xs).length = 16 := by
 show ((dy xs 0 + 38 * ky xs 16) :: (dyL xs 16).drop 1).length = 16
 rw [List.length_cons, List.length_drop, dyL_len]
theorem cyA_zero (xs : List Int) (h : xs.length = 16) : cyA xs 0 = xs := by
 match xs, h with
 | x :: xs, _ => simp [cyA, dyL, ky]
theorem cyA_at (xs : List Int) (i : Nat) (hi : i < 16) : (cyA xs i)[i]? = some (xs.getD i 0 + ky xs i) := by
 unfold cyA
 rw [if_pos hi, List.getElem?_append_right (by rw [dyL_len]; omega), dyL_len, Nat.sub_self]
 rfl
theorem cyA_next (xs : List Int) (h : xs.length = 16) (i : Nat) (hi : i < 15) : (cyA xs i)[i + 1]? = some (xs.getD (i + 1) 0) := by
 unfold cyA
 rw [if_pos (by omega), List.getElem?_append_right (by rw [dyL_len]; omega), dyL_len, Nat.add_sub_cancel_left, List.getElem?_cons_succ, List.getElem?_drop, Nat.add_zero, List.getD_eq_getElem?_getD, List.getElem?_eq_getElem (by omega)]
 rfl
theorem cyA_last (xs : List Int) : (cyA xs 15)[0]? = some (dy xs 0) := rfl
theorem cyA_step (xs : List Int) (h : xs.length = 16) (i : Nat) (hi : i < 15) :
  ((cyA xs i).set (i + 1) (xs.getD (i + 1) 0 + ky xs (i + 1))).set i (dy xs i) = cyA xs (i + 1) := by
 have hd : xs.drop (i + 1) = xs.getD (i + 1) 0 :: xs.drop (i + 2) := by
  rw [List.drop_eq_getElem_cons (by omega), List.getD_eq_getElem?_getD, List.getElem?_eq_getElem (by omega)]
  rfl
 unfold cyA
 rw [if_pos (by omega), if_pos (by omega), List.set_append_right _ _ (by rw [dyL_len]; omega), dyL_len, Nat.add_sub_cancel_left, List.set_cons_succ, hd, List.set_cons_zero,
  List.set_append_right _ _ (by rw [dyL_len]; omega), dyL_len, Nat.sub_self, List.set_cons_zero, dyL_succ, List.append_assoc]
 rfl
theorem cyA_end (xs : List Int) (h : xs.length = 16) :
  ((cyA xs 15).set 0 (dy xs 0 + 38 * ky xs 16)).set 15 (dy xs 15) = carL xs := by
 have hd : xs.drop 16 = [] := List.drop_eq_nil_of_le (by omega)
 show (((dyL xs 15 ++ ((xs.getD 15 0 + ky xs 15) :: xs.drop 16))).set 0 _).set 15 _ = (dy xs 0 + 38 * ky xs 16) :: (dyL xs 16).drop 1
 rw [hd]
 rfl
theorem carL_nv (xs : List Int) (h : xs.length = 16) : nv (carL xs) = nv xs - ky xs 16 * (65536 ^ 16 - 38) := by
 have h1 := dyL_nv xs 16 (by omega)
 rw [List.take_of_length_le (by omega), dyL_drop] at h1
 show nv ((dy xs 0 + 38 * ky xs 16) :: (dyL xs 16).drop 1) = _
 simp only [nv] at h1 ⊢
 rw [← h1, Int.mul_sub, Int.mul_comm (ky xs 16) (65536 ^ 16)]
 omega
theorem two_pq : (65536 ^ 16 - 38 : Int) = 2 * (Pq : Int) := by unfold Pq; decide +kernel
theorem carL_mod (xs : List Int) (h : xs.length = 16) : nv (carL xs) % (Pq : Int) = nv xs % (Pq : Int) := by
 rw [carL_nv xs h, two_pq, ← Int.mul_assoc, Int.sub_mul_emod_self_right]
theorem carL_get (xs : List Int) (k : Nat) (hk : k < 16) : (carL xs)[k]? = some (dy xs k + if k = 0 then 38 * ky xs 16 else 0) := by
 show ((dy xs 0 + 38 * ky xs 16) :: (dyL xs 16).drop 1)[k]? = _
 cases k with
 | zero => rfl
 | succ k =>
  rw [List.getElem?_cons_succ, List.getElem?_drop, dyL, List.getElem?_map, List.getElem?_range (by omega), if_neg (by omega), Int.add_zero, Nat.add_comm 1 k]
  rfl
def NB (xs : List Int) : Prop := xs.length = 16 ∧ ∀ (k : Nat) (x : Int), xs[k]? = some x → (if k = 0 then -76 else 0) ≤ x ∧ x < 65536 + (if k = 0 then 76 else 0)
theorem ky_bd (xs : List Int) (M : Int) (hM : 0 ≤ M) (h : ∀ (k : Nat) (x : Int), xs[k]? = some x → -M ≤ x ∧ x ≤ M) : ∀ i, -M - 1 ≤ ky xs i ∧ ky xs i ≤ M + 1
 | 0 => by simp only [ky]; omega
 | i + 1 => by
  have ih := ky_bd xs M hM h i
  have hx : -M ≤ xs.getD i 0 ∧ xs.getD i 0 ≤ M := by
   rw [List.getD_eq_getElem?_getD]
   cases hg : xs[i]? with
   | none => simp only [Option.getD_none]; omega
   | some x => exact h i x hg
  simp only [ky]
  omega
theorem carL_nb1 (xs : List Int) (h1 : ∀ (k : Nat) (x : Int), xs[k]? = some x → (if k = 0 then -65700 else -65535) ≤ x ∧ x ≤ (if k = 0 then 131300 else 131070)) : NB (carL xs) := by
 have hk : ∀ i, 1 ≤ i → -2 ≤ ky xs i ∧ ky xs i ≤ 2 := by
  intro i hi
  induction i with
  | zero => omega
  | succ i ih =>
   have hx : -65700 ≤ xs.getD i 0 ∧ xs.getD i 0 ≤ 131300 := by
    rw [List.getD_eq_getElem?_getD]
    cases hg : xs[i]? with
    | none => simp only [Option.getD_none]; omega
    | some x => have := h1 i x hg; split at this <;> simp only [Option.getD_some] <;> omega
   simp only [ky]
   cases i with
   | zero => simp only [ky]; omega
   | succ i => have := ih (by omega); omega
 have h16 : -2 ≤ ky xs 16 ∧ ky xs 16 ≤ 2 := hk 16 (by omega)
 refine ⟨carL_len xs, fun k x hx => ?_⟩
 have hk16 : k < 16 := by have := (List.getElem?_eq_some_iff.1 hx).1; rw [carL_len] at this; exact this
 rw [carL_get xs k hk16] at hx
 injection hx with hx
 have hd := dy_bd xs k
 subst hx
 split <;> omega
theorem carL_nb2 (xs : List Int) (h1 : ∀ (k : Nat) (x : Int), xs[k]? = some x → (if k = 0 then -288230376151711744 else 0) ≤ x ∧ x ≤ (if k = 0 then 288230376151711744 else 65535)) : NB (carL xs) := by
 have hx : ∀ k, (if k = 0 then -288230376151711744 else 0) ≤ xs.getD k 0 ∧ xs.getD k 0 ≤ (if k = 0 then 288230376151711744 else 65535) := by
  intro k
  rw [List.getD_eq_getElem?_getD]
  cases hg : xs[k]? with
  | none => simp only [Option.getD_none]; split <;> omega
  | some x => exact h1 k x hg
 have k1 : -4398046511105 ≤ ky xs 1 ∧ ky xs 1 ≤ 4398046511105 := by have := hx 0; rw [if_pos rfl, if_pos rfl] at this; rw [ky, ky]; omega
 have k2 : -67108865 ≤ ky xs 2 ∧ ky xs 2 ≤ 67108865 := by have := hx 1; rw [if_neg (by omega), if_neg (by omega)] at this; rw [ky]; omega
 have k3 : -1025 ≤ ky xs 3 ∧ ky xs 3 ≤ 1025 := by have := hx 2; rw [if_neg (by omega), if_neg (by omega)] at this; rw [ky]; omega
 have hk : ∀ i, -1 ≤ ky xs (i + 4) ∧ ky xs (i + 4) ≤ 1 := by
  intro i
  induction i with
  | zero => have := hx 3; rw [if_neg (by omega), if_neg (by omega)] at this; rw [ky]; omega
  | succ i ih => have := hx (i + 4); rw [if_neg (by omega), if_neg (by omega)] at this; rw [show i + 1 + 4 = (i + 4) + 1 from by omega, ky]; omega
 have h16 : -1 ≤ ky xs 16 ∧ ky xs 16 ≤ 1 := hk 12
 refine ⟨carL_len xs, fun k x hx => ?_⟩
 have hk16 : k < 16 := by have := (List.getElem?_eq_some_iff.1 hx).1; rw [carL_len] at this; exact this
 rw [carL_get xs k hk16] at hx
 injection hx with hx
 have hd := dy_bd xs k
 subst hx
 split <;> omega
theorem carL_long (xs : List Int) (M : Int) (hM0 : 0 ≤ M) (hM : M ≤ 4503599627370496) (h : ∀ (k : Nat) (x : Int), xs[k]? = some x → -M ≤ x ∧ x ≤ M) :
  ∀ (k : Nat) (x : Int), (carL xs)[k]? = some x → (if k = 0 then -288230376151711744 else 0) ≤ x ∧ x ≤ (if k = 0 then 288230376151711744 else 65535) := by
 intro k x hx
 have hk16 : k < 16 := by have := (List.getElem?_eq_some_iff.1 hx).1; rw [carL_len] at this; exact this
 rw [carL_get xs k hk16] at hx
 injection hx with hx
 have hd := dy_bd xs k
 have hb := ky_bd xs M hM0 h 16
 subst hx
 split <;> omega
def Dig (xs : List Int) : Prop := xs.length = 16 ∧ ∀ (k : Nat) (x : Int), xs[k]? = some x → 0 ≤ x ∧ x < 65536
theorem nv_dig : ∀ (xs : List Int), (∀ x ∈ xs, 0 ≤ x ∧ x < 65536) → 0 ≤ nv xs ∧ nv xs < 65536 ^ xs.length
 | [], _ => by simp [nv]
 | x :: xs, h => by
  have ih := nv_dig xs fun y hy => h y (List.mem_cons_of_mem _ hy)
  have hx := h x (List.mem_cons_self ..)
  simp only [nv, List.length_cons, Int.pow_succ]
  omega
theorem dig_all {xs : List Int} (h : Dig xs) : ∀ x ∈ xs, 0 ≤ x ∧ x < 65536 := fun x hx => by
 obtain ⟨k, hk⟩ := List.getElem?_of_mem hx
 exact h.2 k x hk
theorem dig_nv {xs : List Int} (h : Dig xs) : 0 ≤ nv xs ∧ nv xs < 65536 ^ 16 := by
 have := nv_dig xs (dig_all h)
 rw [h.1] at this
 exact this
theorem dyL_dig (xs : List Int) : Dig (dyL xs 16) := by
 refine ⟨dyL_len xs 16, fun k x hx => ?_⟩
 have hk16 : k < 16 := by have := (List.getElem?_eq_some_iff.1 hx).1; rw [dyL_len] at this; exact this
 rw [dyL, List.getElem?_map, List.getElem?_range hk16] at hx
 injection hx with hx
 subst hx
 exact dy_bd xs k
theorem carL_dig {xs : List Int} (h : Dig xs) : carL xs = xs := by
 have hk : ∀ i, ky xs i = 0 := by
  intro i
  induction i with
  | zero => rfl
  | succ i ih =>
   rw [ky, ih, List.getD_eq_getElem?_getD]
   cases hg : xs[i]? with
   | none => simp
   | some x => have := h.2 i x hg; simp only [Option.getD_some]; omega
 apply List.ext_getElem?
 intro k
 rcases Nat.lt_or_ge k 16 with hk16 | hk16
 ·have hx : xs[k]? = some (xs[k]'(by rw [h.1]; exact hk16)) := List.getElem?_eq_getElem (by rw [h.1]; exact hk16)
  rw [carL_get xs k hk16, hx, dy, hk, hk, getD_of hx]
  have := h.2 k _ hx
  congr 1
  split <;> omega
 ·rw [List.getElem?_eq_none (by rw [carL_len]; exact hk16), List.getElem?_eq_none (by rw [h.1]; exact hk16)]
theorem nb_nv {xs : List Int} (h : NB xs) : -76 ≤ nv xs ∧ nv xs ≤ 65536 ^ 16 + 75 := by
 obtain ⟨hl, hb⟩ := h
 match xs, hl with
 | x :: xs, hl =>
  have h0 := hb 0 x rfl
  have hr := nv_dig xs fun y hy => by
   obtain ⟨k, hk⟩ := List.getElem?_of_mem hy
   have := hb (k + 1) y (by simpa using hk)
   simpa using this
  have hl15 : xs.length = 15 := by simpa using hl
  rw [hl15] at hr
  simp only [nv] at h0 ⊢
  simp at h0
  have : (65536 : Int) ^ 16 = 65536 * 65536 ^ 15 := by decide
  omega
theorem carL_nb_dig {xs : List Int} (h : NB xs) : Dig (carL xs) := by
 have hv := nb_nv h
 have h1 := dyL_nv xs 16 (by rw [h.1]; omega)
 rw [List.take_of_length_le (by rw [h.1]; omega)] at h1
 have hd := dig_nv (dyL_dig xs)
 have hT : (65536 : Int) ^ 16 = 115792089237316195423570985008687907853269984665640564039457584007913129639936 := by decide
 have hk : ky xs 16 = 0 ∨ ky xs 16 = -1 ∨ ky xs 16 = 1 := by
  rw [hT] at h1 hv hd
  omega
 have h0 : nv (dyL xs 16) = dy xs 0 + 65536 * nv ((dyL xs 16).drop 1) := by rw [dyL_drop]; rfl
 have hr := nv_dig ((dyL xs 16).drop 1) fun y hy => dig_all (dyL_dig xs) y (List.mem_of_mem_drop hy)
 rw [List.length_drop, dyL_len] at hr
 have hT' : (65536 : Int) ^ (16 - 1) = 1766847064778384329583297500742918515827483896875618958121606201292619776 := by decide
 rw [hT'] at hr
 rw [hT] at h1 hv hd
 have hd0 := dy_bd xs 0
 refine ⟨carL_len xs, fun k x hx => ?_⟩
 have hk16 : k < 16 := by have := (List.getElem?_eq_some_iff.1 hx).1; rw [carL_len] at this; exact this
 rw [carL_get xs k hk16] at hx
 injection hx with hx
 have hdk := dy_bd xs k
 subst hx
 split
 ·rename_i hk0
  subst hk0
  rcases hk with hk | hk | hk <;> rw [hk] at h1 ⊢ <;> omega
 ·omega
def pRow : List Int := [65517, 65535, 65535, 65535, 65535, 65535, 65535, 65535, 65535, 65535, 65535, 65535, 65535, 65535, 65535, 32767]
theorem pRow_nv : nv pRow = (Pq : Int) := by unfold Pq; decide +kernel
def suL (t : List Int) : List Int := List.zipWith (· - ·) t pRow
theorem nv_zip : ∀ (xs ys : List Int), xs.length = ys.length → nv (List.zipWith (· - ·) xs ys) = nv xs - nv ys
 | [], [], _ => rfl
 | x :: xs, y :: ys, h => by
  simp only [List.zipWith_cons_cons, nv, nv_zip xs ys (by simpa using h)]
  omega
 | [], _ :: _, h => by simp at h
 | _ :: _, [], h => by simp at h
theorem suL_len {t : List Int} (h : t.length = 16) : (suL t).length = 16 := by unfold suL; rw [List.length_zipWith, h]; rfl
theorem suL_nv {t : List Int} (h : t.length = 16) : nv (suL t) = nv t - (Pq : Int) := by unfold suL; rw [nv_zip _ _ (by rw [h]; rfl), pRow_nv]
def suA (t : List Int) (i : Nat) : List Int := dyL (suL t) (i - 1) ++ (((suL t).getD (i - 1) 0 + ky (suL t) (i - 1)) :: t.drop i)
def suE (t : List Int) : List Int := dyL (suL t) 15 ++ [(suL t).getD 15 0 + ky (suL t) 15]
def suN (t : List Int) : List Int := if 0 ≤ (suL t).getD 15 0 + ky (suL t) 15 then suE t else t
theorem suE_nv {t : List Int} (h : t.length = 16) : nv (suE t) = nv t - (Pq : Int) := by
 have h15 : 15 < (suL t).length := by rw [suL_len h]; omega
 have hx : (suL t)[15]? = some (suL t)[15] := List.getElem?_eq_getElem h15
 have h2 := dyL_nv (suL t) 15 (by omega)
 have h3 := nv_take hx
 rw [List.take_of_length_le (by rw [suL_len h]; omega), suL_nv h, ← h2] at h3
 unfold suE
 rw [nv_append, dyL_len, h3, getD_of hx]
 simp only [nv, Int.mul_zero, Int.add_zero]
 rw [Int.mul_add, Int.mul_comm (suL t)[15]]
 omega
theorem suN_spec {t : List Int} (h : Dig t) : Dig (suN t) ∧ nv (suN t) = if (Pq : Int) ≤ nv t then nv t - (Pq : Int) else nv t := by
 have he := suE_nv h.1
 have hn : nv (suE t) = nv (dyL (suL t) 15) + 65536 ^ 15 * ((suL t).getD 15 0 + ky (suL t) 15) := by
  unfold suE
  rw [nv_append, dyL_len]
  simp only [nv, Int.mul_zero, Int.add_zero]
 have hd := nv_dig (dyL (suL t) 15) fun x hx => by
  simp only [dyL, List.mem_map] at hx
  obtain ⟨k, _, rfl⟩ := hx
  exact dy_bd _ _
 rw [dyL_len] at hd
 have ht := dig_nv h
 have hT : (65536 : Int) ^ 16 = 115792089237316195423570985008687907853269984665640564039457584007913129639936 := by decide
 have hT' : (65536 : Int) ^ 15 = 1766847064778384329583297500742918515827483896875618958121606201292619776 := by decide
 rw [hT] at ht
 rw [hT'] at hn hd
 unfold suN
 have hp : (0 : Int) ≤ Pq := Int.natCast_nonneg _
 split
 ·rename_i hs
  refine ⟨⟨by unfold suE; rw [List.length_append, dyL_len]; rfl, fun k x hx => ?_⟩, ?_⟩
  ·unfold suE at hx
   rcases Nat.lt_or_ge k 15 with hk | hk
   ·rw [List.getElem?_append_left (by rw [dyL_len]; exact hk), dyL, List.getElem?_map, List.getElem?_range hk] at hx
    injection hx with hx
    subst hx
    exact dy_bd _ _
   ·rw [List.getElem?_append_right (by rw [dyL_len]; exact hk), dyL_len] at hx
    have : k - 15 = 0 := by
     have := (List.getElem?_eq_some_iff.1 hx).1
     simp at this
     omega
    rw [this] at hx
    injection hx with hx
    subst hx
    refine ⟨hs, ?_⟩
    omega
  ·rw [if_pos (by omega)]; exact he
 ·rename_i hs
  exact ⟨h, by rw [if_neg (by omega)]⟩
def bytN (xs : List Int) : List Int := suN (suN (suN (carL xs)))
theorem bytN_spec {xs : List Int} (h : NB xs) : Dig (bytN xs) ∧ nv (bytN xs) = nv xs % (Pq : Int) := by
 obtain ⟨d1, e1⟩ := suN_spec (carL_nb_dig h)
 obtain ⟨d2, e2⟩ := suN_spec d1
 obtain ⟨d3, e3⟩ := suN_spec d2
 refine ⟨d3, ?_⟩
 have hv := dig_nv (carL_nb_dig h)
 have hm := carL_mod xs h.1
 have h3 := dig_nv d3
 rw [← hm]
 have hT : (65536 : Int) ^ 16 = 2 * (Pq : Int) + 38 := by have := two_pq; omega
 rw [hT] at hv
 have hp : (1000000 : Int) < Pq := by have := Pq_256.2; omega
 show nv (suN (suN (suN (carL xs)))) = _
 rw [e3, e2, e1]
 generalize nv (carL xs) = V at *
 generalize (Pq : Int) = p at *
 clear e1 e2 e3 hm h3 hT
 have key : ∀ (V : Int), 0 ≤ V → V < p → V % p = V := fun V h1 h2 => Int.emod_eq_of_lt h1 h2
 by_cases h1 : p ≤ V
 ·rw [if_pos h1]
  have e1 : V % p = (V - p) % p := (Int.sub_emod_right V p).symm
  by_cases h2 : p ≤ V - p
  ·rw [if_pos h2]
   have e2 : (V - p) % p = (V - p - p) % p := (Int.sub_emod_right (V - p) p).symm
   rw [if_neg (by omega), e1, e2, key _ (by omega) (by omega)]
  ·rw [if_neg h2, if_neg h2, e1, key _ (by omega) (by omega)]
 ·rw [if_neg h1, if_neg h1, if_neg h1, key _ (by omega) (by omega)]
def rowB (x : Int) : List UInt8 := [UInt8.ofNat (x % 256).toNat, UInt8.ofNat (x / 256 % 256).toNat]
theorem rowsB : ∀ (xs : List Int), (∀ x ∈ xs, 0 ≤ x ∧ x < 65536) → xs.flatMap rowB = leB (2 * xs.length) (nv xs).toNat
 | [], _ => rfl
 | x :: xs, h => by
  have ih := rowsB xs fun y hy => h y (List.mem_cons_of_mem _ hy)
  have hx := h x (List.mem_cons_self ..)
  have hn := nv_dig xs fun y hy => h y (List.mem_cons_of_mem _ hy)
  rw [List.flatMap_cons, ih, List.length_cons, show 2 * (xs.length + 1) = (2 * xs.length) + 1 + 1 from by omega]
  simp only [leB, rowB, List.cons_append, List.nil_append, nv]
  have e1 : (x + 65536 * nv xs).toNat % 256 = (x % 256).toNat := by omega
  have e2 : (x + 65536 * nv xs).toNat / 256 % 256 = (x / 256 % 256).toNat := by omega
  have e3 : (x + 65536 * nv xs).toNat / 256 / 256 = (nv xs).toNat := by omega
  rw [e1, e2, e3]
end Go.Proofs.YtnohmgpmmhlloaaGreatDoor

namespace Go.Proofs.YtnohmgpmmhlloaaGreatDoor
open Go.RowKit
set_option linter.unusedSimpArgs false

def ivs (xs : List Int) : List Value := xs.map (.int .i64 ·)
theorem ivs_len (xs : List Int) : (ivs xs).length = xs.length := by simp [ivs]
theorem ivs_get {xs : List Int} {k : Nat} {x : Int} (h : xs[k]? = some x) : (ivs xs).toArray[k]? = some (.int .i64 x) := by simp [ivs, h]
theorem ivs_set (xs : List Int) (k : Nat) (x : Int) : (ivs xs).toArray.setIfInBounds k (.int .i64 x) = (ivs (xs.set k x)).toArray := by simp [ivs, List.map_set]
theorem ivs_all (xs : List Int) : (ivs xs).toArray.all (·.oneCell') = true := by
 rw [Array.all_eq_true_iff_forall_mem]
 intro v hv
 simp only [ivs, List.mem_toArray, List.mem_map] at hv
 obtain ⟨x, _, rfl⟩ := hv
 rfl
def CyB (xs : List Int) : Prop := xs.length = 16 ∧ (∀ i, -1152921504606846976 ≤ xs.getD i 0 ∧ xs.getD i 0 ≤ 1152921504606846976 ∧ -1152921504606846976 ≤ ky xs i ∧ ky xs i ≤ 1152921504606846976) ∧ -72057594037927936 ≤ ky xs 16 ∧ ky xs 16 ≤ 72057594037927936
def CyRel (w : World) (xs : List Int) (iv : Value) (wr : World) : Prop :=
 ∃ i : Nat, i ≤ 16 ∧ iv = .int .i64 (i : Int) ∧ St w NoB wr [.cells (w.heap.size + 1) (ivs (List.replicate 16 0)).toArray 130, .cells w.heap.size (ivs (cyA xs i)).toArray 130]
theorem carry_any (xs : List Int) (w : World) (h : CyB xs) :
  Calls Tryz.prog 166 #[.agg (ivs xs).toArray] w fun e w' => e = .returned (.agg (ivs (carL xs)).toArray) ∧ Below w.heap.size w w' := by
 obtain ⟨hl, hb, h16⟩ := h
 have HB := hide hb
 have HL := hide hl
 have H16 := hide h16
 have HS0 := ((St.init w NoB).alloc (ivs xs).toArray 130).alloc (ivs (List.replicate 16 0)).toArray 130
 rw [size_alloc1] at HS0
 have HS := hide HS0
 clear HS0 hl hb h16
 go_enter Tryz.func166, Tryz.ntmps166
 go_wp2_with fail
 go_loopw [5] (fun i wr => CyRel w xs i wr) (fun i _ => 16 - (intOf i).toNat)
 case atStart => exact ⟨0, by omega, rfl, by rw [cyA_zero xs HL.out]; exact HS.out⟩
 case round =>
  clear HS
  obtain ⟨i, hi, rfl, hS⟩ := hrel
  have HS := hide hS
  by_cases hlt : i < 16
  ·have d16 : decide ((i : Int) < 16) = true := by simp; omega
   have hy := HB.out i
   have hy1 := HB.out (i + 1)
   by_cases h15 : i < 15
   ·have d15 : decide ((i : Int) < 15) = true := by simp; omega
    have c0 : wr.cell? ⟨w.heap.size, i, none⟩ = some (.int .i64 (xs.getD i 0 + ky xs i)) := by rw [hS.cell 1 rfl i]; exact ivs_get (cyA_at xs i hlt)
    have c1 : wr.cell? ⟨w.heap.size, i + 1, none⟩ = some (.int .i64 (xs.getD (i + 1) 0)) := by rw [hS.cell 1 rfl (i + 1)]; exact ivs_get (cyA_next xs HL.out i h15)
    have f0 := hS.free 1 rfl i
    have f1 := hS.free 1 rfl (i + 1)
    have HT := hide (cyA_step xs HL.out i h15)
    have hd : dy xs i = (xs.getD i 0 + ky xs i) % 65536 := rfl
    have hk : ky xs (i + 1) = (xs.getD i 0 + ky xs i) / 65536 := rfl
    have HD := hide hd
    have HK := hide hk
    obtain ⟨y, hy0⟩ : ∃ y, y = xs.getD i 0 + ky xs i := ⟨_, rfl⟩
    rw [← hy0] at c0
    have by0 : -2305843009213693952 ≤ y := by omega
    have by1 : y ≤ 2305843009213693952 := by omega
    have HY := hide hy0
    obtain ⟨z, hz0⟩ : ∃ z, z = xs.getD (i + 1) 0 := ⟨_, rfl⟩
    rw [← hz0] at c1
    have bz0 : -1152921504606846976 ≤ z := by omega
    have bz1 : z ≤ 1152921504606846976 := by omega
    have HZ := hide hz0
    have i15 : (i : Int) < 15 := by omega
    have i16 : (i : Int) < 16 := by omega
    clear hd hk hy0 hz0 hy hy1 hS
    go_wp2_with fail
    go_roundw
    case rel =>
     have h3 := ((HS.out.setCell 1 rfl i (.int .i64 (y + 65536))).setCell 1 rfl (i + 1) (.int .i64 (z + ((y + 65536) / 65536 - 1)))).setCell 1 rfl i (.int .i64 (y + 65536 - (y + 65536) / 65536 * 65536))
     have e1 : z + ((y + 65536) / 65536 - 1) = xs.getD (i + 1) 0 + ky xs (i + 1) := by rw [HK.out, ← HZ.out, ← HY.out]; omega
     have e2 : y + 65536 - (y + 65536) / 65536 * 65536 = dy xs i := by rw [HD.out, ← HY.out]; omega
     rw [e1, e2] at h3 ⊢
     simp only [List.set_cons_succ, List.set_cons_zero, ivs_set] at h3
     rw [List.set_comm _ _ (by omega : i ≠ i + 1), List.set_set, List.set_comm _ _ (by omega : i + 1 ≠ i)] at h3
     rw [List.set_comm _ _ (by omega : i ≠ i + 1), HT.out] at h3
     exact ⟨i + 1, by omega, by go_num, h3⟩
    case measure => (simp [intOf]) <;> omega
   ·obtain rfl : i = 15 := by omega
    have c0 : wr.cell? ⟨w.heap.size, 15, none⟩ = some (.int .i64 (xs.getD 15 0 + ky xs 15)) := by rw [hS.cell 1 rfl 15]; exact ivs_get (cyA_at xs 15 hlt)
    have c1 : wr.cell? ⟨w.heap.size, 0, none⟩ = some (.int .i64 (dy xs 0)) := by rw [hS.cell 1 rfl 0]; exact ivs_get (cyA_last xs)
    have f0 := hS.free 1 rfl 15
    have f1 := hS.free 1 rfl 0
    have HT := hide (cyA_end xs HL.out)
    have hd : dy xs 15 = (xs.getD 15 0 + ky xs 15) % 65536 := rfl
    have hk : ky xs 16 = (xs.getD 15 0 + ky xs 15) / 65536 := rfl
    have HD := hide hd
    have HK := hide hk
    have h16 := H16.out
    rw [hk] at h16
    obtain ⟨y, hy0⟩ : ∃ y, y = xs.getD 15 0 + ky xs 15 := ⟨_, rfl⟩
    rw [← hy0] at c0 h16
    have by0 : -2305843009213693952 ≤ y := by omega
    have by1 : y ≤ 2305843009213693952 := by omega
    have bq0 : -72057594037927936 ≤ (y + 65536) / 65536 - 1 := by omega
    have bq1 : (y + 65536) / 65536 - 1 ≤ 72057594037927936 := by omega
    have HY := hide hy0
    have hz := dy_bd xs 0
    obtain ⟨z, hz0⟩ : ∃ z, z = dy xs 0 := ⟨_, rfl⟩
    rw [← hz0] at c1 hz
    have bz0 : 0 ≤ z := by omega
    have bz1 : z < 65536 := by omega
    have HZ := hide hz0
    clear hd hk hy0 hz0 hy hy1 hS h16 hz
    go_wp2_with fail
    go_roundw
    case rel =>
     have h3 := ((HS.out.setCell 1 rfl 15 (.int .i64 (y + 65536))).setCell 1 rfl 0 (.int .i64 (z + 38 * ((y + 65536) / 65536 - 1)))).setCell 1 rfl 15 (.int .i64 (y + 65536 - (y + 65536) / 65536 * 65536))
     have e1 : z + 38 * ((y + 65536) / 65536 - 1) = dy xs 0 + 38 * ky xs 16 := by rw [HK.out, HZ.out, ← HY.out]; omega
     have e2 : y + 65536 - (y + 65536) / 65536 * 65536 = dy xs 15 := by rw [HD.out, ← HY.out]; omega
     rw [e1, e2] at h3 ⊢
     simp only [List.set_cons_succ, List.set_cons_zero, ivs_set] at h3
     rw [List.set_comm _ _ (by decide : 15 ≠ 0), List.set_set, List.set_comm _ _ (by decide : 0 ≠ 15)] at h3
     rw [List.set_comm _ _ (by decide : 15 ≠ 0), HT.out] at h3
     exact ⟨16, by omega, rfl, h3⟩
    case measure => (simp [intOf]) <;> omega
  ·obtain rfl : i = 16 := by omega
   obtain ⟨ys, hys⟩ : ∃ ys, ys = (ivs (carL xs)).toArray := ⟨_, rfl⟩
   have hsz : ys.size = 16 := by rw [hys, List.size_toArray, ivs_len, carL_len]
   have hone : ys.all (·.oneCell') = true := by rw [hys]; exact ivs_all _
   have HY := hide hys
   have h0 : St w NoB wr [.cells (w.heap.size + 1) (ivs (List.replicate 16 0)).toArray 130, .cells w.heap.size ys 130] := by rw [hys]; exact hS
   have HS1 := hide h0
   have HS2 := hide (h0.setRow 0 rfl ys)
   clear hS h0 hys HS
   go_upto_region 11 with fail
   refine wp_region_list ?_
   refine wpList_load_row rfl 130 (.tmp 1) rfl w.heap.size rfl 130 ys _ _ (HS1.out.heap 1 rfl) Tryz.underlying130 rfl (by rw [hsz]; kernel_rfl) ?_
   refine wpList_store_row rfl 130 (.tmp 2) (.tmp 42) rfl (w.heap.size + 1) ys rfl rfl 130 _ (HS1.out.heap 0 rfl) (by rw [hsz]; kernel_rfl) (by rw [hsz]; rfl) hone ?_
   refine wpList_nil ?_
   go_wp2_with fail
   refine bodyPost_ret (results_cell_row rfl _ _ (w.heap.size + 1) _ _ _ _ rfl (HS2.out.heap 0 rfl) Tryz.underlying130 rfl (by rw [hsz]; kernel_rfl)) rfl ?_
   exact ⟨by rw [HY.out], HS2.out.below⟩
end Go.Proofs.YtnohmgpmmhlloaaGreatDoor

namespace Go.Proofs.YtnohmgpmmhlloaaGreatDoor
open Go.RowKit
set_option linter.unusedSimpArgs false

section
variable {P : Program} {ops : Array Oper} {rest : List Oper} {o : Oper} {a : Act} {w : World} {Q : Exit → Act → World → Prop}
theorem wl_callN (hgd : o.guard = none) {f : FuncId} {xs : List Operand} {ts : Array TypeId} {vs : List Value} {R : Ending → World → Prop}
  (ho : o.op = .call { callee := .value (.func f), args := xs.toArray, argTypes := ts }) (hf : ∀ (args : Array Value) (w : World), (callFunc f args).run P w = .ok (.enter f args) w)
  (hx : xs.map a.eval = vs) (hc : Calls P f vs.toArray w R) (h : ∀ e w', R e w' → ∃ v, e = .returned v ∧ wpList P ops Q rest (a.put o.dst v) w') : wpList P ops Q (o :: rest) a w :=
 wpList_plain hgd fun _ hK => wp_call ho hf hx hc fun e w' hr => by
  obtain ⟨v, he, hk⟩ := h e w' hr
  exact ⟨v, he, hK _ _ hk⟩
end
theorem enCarryN (args : Array Value) (w : World) : (callFunc 166 args).run Tryz.prog w = .ok (.enter 166 args) w := by kernel_rfl
def zpF (f : Int → Int → Int) (xs ys : List Int) (i : Nat) : List Int := (List.zipWith f xs ys).take i ++ xs.drop i
theorem zpF_zero (f : Int → Int → Int) (xs ys : List Int) : zpF f xs ys 0 = xs := by simp [zpF]
theorem zpF_all (f : Int → Int → Int) (xs ys : List Int) (h : xs.length = 16) (h2 : ys.length = 16) : zpF f xs ys 16 = List.zipWith f xs ys := by
 unfold zpF
 rw [List.take_of_length_le (by rw [List.length_zipWith, h, h2]; omega), List.drop_of_length_le (by omega), List.append_nil]
theorem zpF_get (f : Int → Int → Int) (xs ys : List Int) (i : Nat) (x : Int) (h : xs.length = 16) (h2 : ys.length = 16) (hx : xs[i]? = some x) : (zpF f xs ys i)[i]? = some x := by
 have hi := (List.getElem?_eq_some_iff.1 hx).1
 have hl : ((List.zipWith f xs ys).take i).length = i := by rw [List.length_take, List.length_zipWith, h, h2]; omega
 unfold zpF
 rw [List.getElem?_append_right (by rw [hl]; omega), hl, Nat.sub_self, List.getElem?_drop, Nat.add_zero, hx]
theorem zpF_set (f : Int → Int → Int) (xs ys : List Int) (i : Nat) (x y : Int) (h : xs.length = 16) (h2 : ys.length = 16) (hx : xs[i]? = some x) (hy : ys[i]? = some y) : (zpF f xs ys i).set i (f x y) = zpF f xs ys (i + 1) := by
 have hi := (List.getElem?_eq_some_iff.1 hx).1
 have hl : ((List.zipWith f xs ys).take i).length = i := by rw [List.length_take, List.length_zipWith, h, h2]; omega
 have hz : (List.zipWith f xs ys)[i]? = some (f x y) := by rw [List.getElem?_zipWith, hx, hy]
 unfold zpF
 rw [List.set_append_right _ _ (by rw [hl]; omega), hl, Nat.sub_self, List.drop_eq_getElem_cons (by omega), List.set_cons_zero, List.take_add_one, hz, List.append_assoc]
 rfl
def ZpRel (f : Int → Int → Int) (w : World) (xs ys : List Int) (iv : Value) (wr : World) : Prop :=
 ∃ i : Nat, i ≤ 16 ∧ iv = .int .i64 (i : Int) ∧ St w NoB wr [.cells (w.heap.size + 2) (ivs (List.replicate 16 0)).toArray 130, .cells (w.heap.size + 1) (ivs ys).toArray 130, .cells w.heap.size (ivs (zpF f xs ys i)).toArray 130]
theorem cyB_small {xs : List Int} (h : xs.length = 16) (h1 : ∀ (k : Nat) (x : Int), xs[k]? = some x → -131300 ≤ x ∧ x ≤ 131300) : CyB xs := by
 have hb := ky_bd xs 131300 (by omega) h1
 refine ⟨h, fun i => ?_, by have := hb 16; omega, by have := hb 16; omega⟩
 have := hb i
 have hx : -131300 ≤ xs.getD i 0 ∧ xs.getD i 0 ≤ 131300 := by
  rw [List.getD_eq_getElem?_getD]
  cases hg : xs[i]? with
  | none => simp only [Option.getD_none]; omega
  | some x => exact h1 i x hg
 omega
theorem nb_get {xs : List Int} (h : NB xs) {k : Nat} (hk : k < 16) : ∃ x, xs[k]? = some x ∧ -76 ≤ x ∧ x < 65612 := by
 have hx : xs[k]? = some (xs[k]'(by rw [h.1]; exact hk)) := List.getElem?_eq_getElem (by rw [h.1]; exact hk)
 have := h.2 k _ hx
 refine ⟨_, hx, ?_⟩
 split at this <;> omega
theorem zip_get {f : Int → Int → Int} {xs ys : List Int} {k : Nat} {z : Int} (h : (List.zipWith f xs ys)[k]? = some z) : ∃ x y, xs[k]? = some x ∧ ys[k]? = some y ∧ z = f x y := by
 rw [List.getElem?_zipWith] at h
 cases hx : xs[k]? with
 | none => rw [hx] at h; simp at h
 | some x =>
  cases hy : ys[k]? with
  | none => rw [hx, hy] at h; simp at h
  | some y => rw [hx, hy] at h; simp at h; exact ⟨x, y, rfl, rfl, h.symm⟩
theorem nv_zipAdd : ∀ (xs ys : List Int), xs.length = ys.length → nv (List.zipWith (· + ·) xs ys) = nv xs + nv ys
 | [], [], _ => rfl
 | x :: xs, y :: ys, h => by
  simp only [List.zipWith_cons_cons, nv, nv_zipAdd xs ys (by simpa using h)]
  omega
 | [], _ :: _, h => by simp at h
 | _ :: _, [], h => by simp at h
theorem nb_addN {xs ys : List Int} (h : NB xs) (h2 : NB ys) : NB (carL (List.zipWith (· + ·) xs ys)) := by
 refine carL_nb1 _ fun k z hz => ?_
 obtain ⟨x, y, hx, hy, rfl⟩ := zip_get hz
 have b1 := h.2 k x hx
 have b2 := h2.2 k y hy
 split at b1 <;> split at b2 <;> first | omega | (split <;> omega)
theorem addN_any (xs ys : List Int) (w : World) (h : NB xs) (h2 : NB ys) :
  Calls Tryz.prog 157 #[.agg (ivs xs).toArray, .agg (ivs ys).toArray] w fun e w' => e = .returned (.agg (ivs (carL (List.zipWith (· + ·) xs ys))).toArray) ∧ Below w.heap.size w w' := by
 have HN := hide h
 have HM := hide h2
 have HL := hide h.1
 have HL2 := hide h2.1
 have HS0 := (((St.init w NoB).alloc (ivs xs).toArray 130).alloc (ivs ys).toArray 130).alloc (ivs (List.replicate 16 0)).toArray 130
 rw [size_alloc1, size_alloc1] at HS0
 have HS := hide HS0
 clear HS0 h h2
 go_enter Tryz.func157, Tryz.ntmps157
 go_wp2_with fail
 go_loopw [6] (fun i wr => ZpRel (· + ·) w xs ys i wr) (fun i _ => 16 - (intOf i).toNat)
 case atStart => exact ⟨0, by omega, rfl, by rw [zpF_zero]; exact HS.out⟩
 case round =>
  clear HS
  obtain ⟨i, hi, rfl, hS⟩ := hrel
  have HS := hide hS
  by_cases hlt : i < 16
  ·have d16 : decide ((i : Int) < 16) = true := by simp; omega
   have i16 : (i : Int) < 16 := by omega
   obtain ⟨x, hx, bx0, bx1⟩ := nb_get HN.out hlt
   obtain ⟨y, hy, by0, by1⟩ := nb_get HM.out hlt
   have c0 : wr.cell? ⟨w.heap.size, i, none⟩ = some (.int .i64 x) := by rw [hS.cell 2 rfl i]; exact ivs_get (zpF_get _ xs ys i x HL.out HL2.out hx)
   have c1 : wr.cell? ⟨w.heap.size + 1, i, none⟩ = some (.int .i64 y) := by rw [hS.cell 1 rfl i]; exact ivs_get hy
   have f0 := hS.free 2 rfl i
   have HT := hide (zpF_set (· + ·) xs ys i x y HL.out HL2.out hx hy)
   clear hx hy hS
   go_upto_region 4 with fail
   have c0' : wr.drew.cell? ⟨w.heap.size, i, none⟩ = some (.int .i64 x) := c0
   have c1' : wr.drew.cell? ⟨w.heap.size + 1, i, none⟩ = some (.int .i64 y) := c1
   have f0' : wr.drew.frozen? ⟨w.heap.size, i, none⟩ = false := f0
   refine wp_region_T [(0, 1), (1, 1), (2, 0), (3, 1), (4, 1), (5, 0), (6, 1), (7, 1), (8, 3)] (by kernel_rfl) (by kernel_rfl) (fun _ _ _ _ h => h) ?_
   go_wp2_with (first | (refine wpT_nil ?_)   | ((with_reducible refine fromT_refl ?_); (try simp only [Act.put, nq1, nq2, nq3, nq4, nq5, nq6]))   | ((with_reducible refine fromT_mk (by assumption) ?_); (try simp only [Act.put, nq1, nq2, nq3, nq4, nq5, nq6]))   | (refine wpT_pure (v := ?_) rfl rfl ?_ ?_; rotate_left; (intro wx; go_simp; try go_bits) <;> (with_reducible rfl); (try simp only [Act.put, nq1, nq2, nq3, nq4, nq5, nq6]))   | (refine wpT_load (v := ?_) rfl rfl rfl ?_ ?_; rotate_left; (go_simp; try go_bits) <;> (with_reducible rfl); (try simp only [Act.put, nq1, nq2, nq3, nq4, nq5, nq6]))   | (refine wpT_read (v := ?_) rfl rfl ?_ ?_; rotate_left; (intro wx hx; go_simp; try go_bits) <;> (with_reducible rfl); (try simp only [Act.put, nq1, nq2, nq3, nq4, nq5, nq6]))   | (refine wpT_call rfl rfl ?_; intro K hK)   | (refine wpT_late rfl rfl ?_; intro K hK)   | (refine wpT_any rfl rfl ?_; intro K hK)   | (refine wpT_skip rfl rfl ?_; (try simp only [Act.put, nq1, nq2, nq3, nq4, nq5, nq6])))
   go_roundw
   case rel =>
    have h3 := HS.out.drew.setCell 2 rfl i (.int .i64 (x + y))
    simp only [List.set_cons_succ, List.set_cons_zero, ivs_set] at h3
    rw [HT.out] at h3
    exact ⟨i + 1, by omega, by go_num, h3⟩
   case measure => (simp [intOf]) <;> omega
  ·obtain rfl : i = 16 := by omega
   rw [zpF_all _ xs ys HL.out HL2.out] at hS
   obtain ⟨zs, hzs⟩ : ∃ zs, zs = List.zipWith (· + ·) xs ys := ⟨_, rfl⟩
   have HC := hide (carry_any (List.zipWith (· + ·) xs ys))
   have hB : CyB (List.zipWith (· + ·) xs ys) := by
    refine cyB_small (by rw [List.length_zipWith, HL.out, HL2.out]; rfl) fun k z hz => ?_
    obtain ⟨x, y, hx, hy, rfl⟩ := zip_get hz
    have b1 := HN.out.2 k x hx
    have b2 := HM.out.2 k y hy
    split at b1 <;> split at b2 <;> first | omega | (constructor <;> omega)
   rw [← hzs] at hS HC hB
   have HZ := hide hzs
   have HB := hide hB
   obtain ⟨ys', hys'⟩ : ∃ a, a = (ivs zs).toArray := ⟨_, rfl⟩
   have hsz : ys'.size = 16 := by rw [hys', List.size_toArray, ivs_len]; exact HB.out.1
   have hone : (ivs (carL zs)).toArray.all (·.oneCell') = true := ivs_all _
   have hsc : (ivs (carL zs)).toArray.size = 16 := by rw [List.size_toArray, ivs_len, carL_len]
   have HC2 := hide (fun W => HC.out W HB.out)
   rw [← hys'] at hS HC2
   have HS1 := hide hS
   clear hS hys' HS hB hzs HC
   go_upto_region 6 with fail
   refine wp_region_list ?_
   refine wpList_load_row rfl 130 (.tmp 2) rfl w.heap.size rfl 130 ys' _ _ (HS1.out.heap 2 rfl) Tryz.underlying130 rfl (by rw [hsz]; kernel_rfl) ?_
   refine wl_callN rfl rfl enCarryN rfl (HC2.out _) ?_
   rintro e w1 ⟨rfl, hb1⟩
   refine ⟨_, rfl, ?_⟩
   have HS2 := hide (HS1.out.call hb1)
   have HS3 := hide (HS2.out.setRow 0 rfl (ivs (carL zs)).toArray)
   refine wpList_store_row rfl 130 (.tmp 4) (.tmp 19) rfl (w.heap.size + 2) (ivs (carL zs)).toArray rfl rfl 130 _ (HS2.out.heap 0 rfl) (by rw [hsc]; kernel_rfl) (by rw [hsc]; rfl) hone ?_
   refine wpList_nil ?_
   go_wp2_with fail
   refine bodyPost_ret (results_cell_row rfl _ _ (w.heap.size + 2) _ _ _ _ rfl (HS3.out.heap 0 rfl) Tryz.underlying130 rfl (by rw [hsc]; kernel_rfl)) rfl ?_
   exact ⟨by rw [HZ.out], HS3.out.below⟩
theorem nb_subN {xs ys : List Int} (h : NB xs) (h2 : NB ys) : NB (carL (List.zipWith (· - ·) xs ys)) := by
 refine carL_nb1 _ fun k z hz => ?_
 obtain ⟨x, y, hx, hy, rfl⟩ := zip_get hz
 have b1 := h.2 k x hx
 have b2 := h2.2 k y hy
 split at b1 <;> split at b2 <;> first | omega | (split <;> omega)
theorem subN_any (xs ys : List Int) (w : World) (h : NB xs) (h2 : NB ys) :
  Calls Tryz.prog 156 #[.agg (ivs xs).toArray, .agg (ivs ys).toArray] w fun e w' => e = .returned (.agg (ivs (carL (List.zipWith (· - ·) xs ys))).toArray) ∧ Below w.heap.size w w' := by
 have HN := hide h
 have HM := hide h2
 have HL := hide h.1
 have HL2 := hide h2.1
 have HS0 := (((St.init w NoB).alloc (ivs xs).toArray 130).alloc (ivs ys).toArray 130).alloc (ivs (List.replicate 16 0)).toArray 130
 rw [size_alloc1, size_alloc1] at HS0
 have HS := hide HS0
 clear HS0 h h2
 go_enter Tryz.func156, Tryz.ntmps156
 go_wp2_with fail
 go_loopw [6] (fun i wr => ZpRel (· - ·) w xs ys i wr) (fun i _ => 16 - (intOf i).toNat)
 case atStart => exact ⟨0, by omega, rfl, by rw [zpF_zero]; exact HS.out⟩
 case round =>
  clear HS
  obtain ⟨i, hi, rfl, hS⟩ := hrel
  have HS := hide hS
  by_cases hlt : i < 16
  ·have d16 : decide ((i : Int) < 16) = true := by simp; omega
   have i16 : (i : Int) < 16 := by omega
   obtain ⟨x, hx, bx0, bx1⟩ := nb_get HN.out hlt
   obtain ⟨y, hy, by0, by1⟩ := nb_get HM.out hlt
   have c0 : wr.cell? ⟨w.heap.size, i, none⟩ = some (.int .i64 x) := by rw [hS.cell 2 rfl i]; exact ivs_get (zpF_get _ xs ys i x HL.out HL2.out hx)
   have c1 : wr.cell? ⟨w.heap.size + 1, i, none⟩ = some (.int .i64 y) := by rw [hS.cell 1 rfl i]; exact ivs_get hy
   have f0 := hS.free 2 rfl i
   have HT := hide (zpF_set (· - ·) xs ys i x y HL.out HL2.out hx hy)
   clear hx hy hS
   go_upto_region 4 with fail
   have c0' : wr.drew.cell? ⟨w.heap.size, i, none⟩ = some (.int .i64 x) := c0
   have c1' : wr.drew.cell? ⟨w.heap.size + 1, i, none⟩ = some (.int .i64 y) := c1
   have f0' : wr.drew.frozen? ⟨w.heap.size, i, none⟩ = false := f0
   refine wp_region_T [(0, 1), (1, 1), (2, 0), (3, 1), (4, 1), (5, 0), (6, 1), (7, 1), (8, 3)] (by kernel_rfl) (by kernel_rfl) (fun _ _ _ _ h => h) ?_
   go_wp2_with (first | (refine wpT_nil ?_)   | ((with_reducible refine fromT_refl ?_); (try simp only [Act.put, nq1, nq2, nq3, nq4, nq5, nq6]))   | ((with_reducible refine fromT_mk (by assumption) ?_); (try simp only [Act.put, nq1, nq2, nq3, nq4, nq5, nq6]))   | (refine wpT_pure (v := ?_) rfl rfl ?_ ?_; rotate_left; (intro wx; go_simp; try go_bits) <;> (with_reducible rfl); (try simp only [Act.put, nq1, nq2, nq3, nq4, nq5, nq6]))   | (refine wpT_load (v := ?_) rfl rfl rfl ?_ ?_; rotate_left; (go_simp; try go_bits) <;> (with_reducible rfl); (try simp only [Act.put, nq1, nq2, nq3, nq4, nq5, nq6]))   | (refine wpT_read (v := ?_) rfl rfl ?_ ?_; rotate_left; (intro wx hx; go_simp; try go_bits) <;> (with_reducible rfl); (try simp only [Act.put, nq1, nq2, nq3, nq4, nq5, nq6]))   | (refine wpT_call rfl rfl ?_; intro K hK)   | (refine wpT_late rfl rfl ?_; intro K hK)   | (refine wpT_any rfl rfl ?_; intro K hK)   | (refine wpT_skip rfl rfl ?_; (try simp only [Act.put, nq1, nq2, nq3, nq4, nq5, nq6])))
   go_roundw
   case rel =>
    have h3 := HS.out.drew.setCell 2 rfl i (.int .i64 (x - y))
    simp only [List.set_cons_succ, List.set_cons_zero, ivs_set] at h3
    rw [HT.out] at h3
    exact ⟨i + 1, by omega, by go_num, h3⟩
   case measure => (simp [intOf]) <;> omega
  ·obtain rfl : i = 16 := by omega
   rw [zpF_all _ xs ys HL.out HL2.out] at hS
   obtain ⟨zs, hzs⟩ : ∃ zs, zs = List.zipWith (· - ·) xs ys := ⟨_, rfl⟩
   have HC := hide (carry_any (List.zipWith (· - ·) xs ys))
   have hB : CyB (List.zipWith (· - ·) xs ys) := by
    refine cyB_small (by rw [List.length_zipWith, HL.out, HL2.out]; rfl) fun k z hz => ?_
    obtain ⟨x, y, hx, hy, rfl⟩ := zip_get hz
    have b1 := HN.out.2 k x hx
    have b2 := HM.out.2 k y hy
    split at b1 <;> split at b2 <;> first | omega | (constructor <;> omega)
   rw [← hzs] at hS HC hB
   have HZ := hide hzs
   have HB := hide hB
   obtain ⟨ys', hys'⟩ : ∃ a, a = (ivs zs).toArray := ⟨_, rfl⟩
   have hsz : ys'.size = 16 := by rw [hys', List.size_toArray, ivs_len]; exact HB.out.1
   have hone : (ivs (carL zs)).toArray.all (·.oneCell') = true := ivs_all _
   have hsc : (ivs (carL zs)).toArray.size = 16 := by rw [List.size_toArray, ivs_len, carL_len]
   have HC2 := hide (fun W => HC.out W HB.out)
   rw [← hys'] at hS HC2
   have HS1 := hide hS
   clear hS hys' HS hB hzs HC
   go_upto_region 6 with fail
   refine wp_region_list ?_
   refine wpList_load_row rfl 130 (.tmp 2) rfl w.heap.size rfl 130 ys' _ _ (HS1.out.heap 2 rfl) Tryz.underlying130 rfl (by rw [hsz]; kernel_rfl) ?_
   refine wl_callN rfl rfl enCarryN rfl (HC2.out _) ?_
   rintro e w1 ⟨rfl, hb1⟩
   refine ⟨_, rfl, ?_⟩
   have HS2 := hide (HS1.out.call hb1)
   have HS3 := hide (HS2.out.setRow 0 rfl (ivs (carL zs)).toArray)
   refine wpList_store_row rfl 130 (.tmp 4) (.tmp 19) rfl (w.heap.size + 2) (ivs (carL zs)).toArray rfl rfl 130 _ (HS2.out.heap 0 rfl) (by rw [hsc]; kernel_rfl) (by rw [hsc]; rfl) hone ?_
   refine wpList_nil ?_
   go_wp2_with fail
   refine bodyPost_ret (results_cell_row rfl _ _ (w.heap.size + 2) _ _ _ _ rfl (HS3.out.heap 0 rfl) Tryz.underlying130 rfl (by rw [hsc]; kernel_rfl)) rfl ?_
   exact ⟨by rw [HZ.out], HS3.out.below⟩
end Go.Proofs.YtnohmgpmmhlloaaGreatDoor

namespace Go.Proofs.YtnohmgpmmhlloaaGreatDoor
open Go.RowKit
set_option linter.unusedSimpArgs false

def muR (a : Int) (b : List Int) (i : Nat) : Nat → List Int → List Int
 | 0, t => t
 | j + 1, t => (muR a b i j t).set (i + j) ((muR a b i j t).getD (i + j) 0 + a * b.getD j 0)
def muT (us vs : List Int) : Nat → List Int
 | 0 => List.replicate 31 0
 | i + 1 => muR (us.getD i 0) vs i 16 (muT us vs i)
theorem muR_len (a : Int) (b : List Int) (i : Nat) (t : List Int) : ∀ j, (muR a b i j t).length = t.length
 | 0 => rfl
 | j + 1 => by rw [muR, List.length_set, muR_len a b i t j]
theorem muT_len (us vs : List Int) : ∀ i, (muT us vs i).length = 31
 | 0 => rfl
 | i + 1 => by rw [muT, muR_len, muT_len us vs i]
theorem getD_set (xs : List Int) (k j : Nat) (y : Int) : (xs.set k y).getD j 0 = if k = j ∧ k < xs.length then y else xs.getD j 0 := by
 simp only [List.getD_eq_getElem?_getD, List.getElem?_set]
 split
 ·rename_i h
  subst h
  split
  ·rename_i h; rw [if_pos ⟨rfl, h⟩]; rfl
  ·rename_i h; rw [if_neg (fun x => h x.2), List.getElem?_eq_none (by omega)]
 ·rename_i h
  rw [if_neg (fun x => h x.1)]
theorem muR_bd (a : Int) (b : List Int) (i : Nat) (t : List Int) (C M : Int) (hM : 0 ≤ M) (ht : ∀ k, -C ≤ t.getD k 0 ∧ t.getD k 0 ≤ C) (hm : ∀ k, -M ≤ a * b.getD k 0 ∧ a * b.getD k 0 ≤ M) :
  ∀ (j : Nat) (k : Nat), -(C + j * M) ≤ (muR a b i j t).getD k 0 ∧ (muR a b i j t).getD k 0 ≤ C + j * M
 | 0, k => by have := ht k; simp only [muR]; omega
 | j + 1, k => by
  have ih := muR_bd a b i t C M hM ht hm j
  have h1 := ih k
  have h2 := ih (i + j)
  have h3 := hm j
  rw [muR, getD_set]
  have e : ((j + 1 : Nat) : Int) * M = (j : Int) * M + M := by rw [Int.natCast_add, Int.add_mul]; omega
  rw [e]
  split <;> omega
theorem muT_bd (us vs : List Int) (M : Int) (hM : 0 ≤ M) (hm : ∀ i k, -M ≤ us.getD i 0 * vs.getD k 0 ∧ us.getD i 0 * vs.getD k 0 ≤ M) : ∀ (i k : Nat), -(16 * i * M) ≤ (muT us vs i).getD k 0 ∧ (muT us vs i).getD k 0 ≤ 16 * i * M
 | 0, k => by
  have : (List.replicate 31 (0 : Int)).getD k 0 = 0 := by rw [List.getD_eq_getElem?_getD, List.getElem?_replicate]; split <;> rfl
  rw [muT, this]
  omega
 | i + 1, k => by
  have := muR_bd (us.getD i 0) vs i (muT us vs i) (16 * i * M) M hM (muT_bd us vs M hM hm i) (hm i) 16 k
  have e : 16 * ((i + 1 : Nat) : Int) * M = 16 * (i : Int) * M + ((16 : Nat) : Int) * M := by rw [Int.natCast_add, Int.mul_add, Int.add_mul]; rfl
  rw [e]
  exact this
theorem nv_set : ∀ (xs : List Int) (k : Nat) (y : Int), k < xs.length → nv (xs.set k y) = nv xs + (y - xs.getD k 0) * 65536 ^ k
 | [], k, y, h => by simp at h
 | x :: xs, 0, y, h => by simp [nv]; omega
 | x :: xs, k + 1, y, h => by
  have ih := nv_set xs k y (by simpa using h)
  simp only [List.set_cons_succ, nv, List.getD_cons_succ, ih, Int.pow_succ, Int.mul_add]
  rw [show 65536 * ((y - xs.getD k 0) * 65536 ^ k) = (y - xs.getD k 0) * (65536 ^ k * 65536) from by rw [Int.mul_comm 65536, Int.mul_assoc]]
  omega
theorem muR_nv (a : Int) (b : List Int) (i : Nat) (t : List Int) (hb : b.length = 16) : ∀ j, j ≤ 16 → i + j ≤ t.length → nv (muR a b i j t) = nv t + a * 65536 ^ i * nv (b.take j)
 | 0, _, _ => by simp [muR, nv]
 | j + 1, hj, h => by
  have hx : b[j]? = some b[j] := List.getElem?_eq_getElem (by omega)
  rw [muR, nv_set _ _ _ (by rw [muR_len]; omega), muR_nv a b i t hb j (by omega) (by omega), nv_take hx, getD_of hx, Int.pow_add,
   show (muR a b i j t).getD (i + j) 0 + a * b[j] - (muR a b i j t).getD (i + j) 0 = a * b[j] from by omega]
  have : a * b[j] * (65536 ^ i * 65536 ^ j) = a * 65536 ^ i * (b[j] * 65536 ^ j) := by grind
  rw [this, Int.mul_add]
  omega
theorem muT_nv (us vs : List Int) (ha : us.length = 16) (hb : vs.length = 16) : ∀ i, i ≤ 15 + 1 → nv (muT us vs i) = nv (us.take i) * nv vs
 | 0, _ => by simp only [muT, List.take_zero, nv, Int.zero_mul]; decide
 | i + 1, h => by
  have hx : us[i]? = some us[i] := List.getElem?_eq_getElem (by omega)
  rw [muT, muR_nv _ _ _ _ hb 16 (by omega) (by rw [muT_len]; omega), muT_nv us vs ha hb i (by omega), nv_take hx, getD_of hx, List.take_of_length_le (l := vs) (i := 16) (by omega), Int.add_mul]
def oNL (t : List Int) : List Int := List.zipWith (fun x y => x + 38 * y) (t.take 16) (t.drop 16 ++ [0])
theorem nv_zip38 : ∀ (xs ys : List Int), xs.length = ys.length → nv (List.zipWith (fun x y => x + 38 * y) xs ys) = nv xs + 38 * nv ys
 | [], [], _ => rfl
 | x :: xs, y :: ys, h => by
  simp only [List.zipWith_cons_cons, nv, nv_zip38 xs ys (by simpa using h)]
  omega
 | [], _ :: _, h => by simp at h
 | _ :: _, [], h => by simp at h
theorem oNL_len {t : List Int} (h : t.length = 31) : (oNL t).length = 16 := by unfold oNL; rw [List.length_zipWith, List.length_take, List.length_append, List.length_drop, h]; rfl
theorem oNL_nv {t : List Int} (h : t.length = 31) : nv (oNL t) % (Pq : Int) = nv t % (Pq : Int) := by
 have h1 : nv t = nv (t.take 16) + 65536 ^ 16 * nv (t.drop 16) := by
  have := nv_append (t.take 16) (t.drop 16)
  rw [List.take_append_drop, List.length_take, h] at this
  exact this
 have h2 : nv (oNL t) = nv (t.take 16) + 38 * nv (t.drop 16) := by
  unfold oNL
  rw [nv_zip38 _ _ (by rw [List.length_take, List.length_append, List.length_drop, h]; rfl), nv_append]
  simp only [nv]
  omega
 have h3 : nv t = nv (oNL t) + (Pq : Int) * (2 * nv (t.drop 16)) := by
  have := two_pq
  rw [h1, h2, show (65536 : Int) ^ 16 = 2 * (Pq : Int) + 38 from by omega, Int.add_mul]
  have : (Pq : Int) * (2 * nv (t.drop 16)) = 2 * (Pq : Int) * nv (t.drop 16) := by rw [← Int.mul_assoc, Int.mul_comm (Pq : Int) 2]
  omega
 rw [h3, Int.add_mul_emod_self_left]
theorem oNL_get {t : List Int} (h : t.length = 31) {i : Nat} (hi : i < 16) : (oNL t)[i]? = some (t.getD i 0 + 38 * t.getD (i + 16) 0) := by
 have e1 : (t.take 16)[i]? = some (t.getD i 0) := by
  rw [List.getElem?_take_of_lt hi, List.getD_eq_getElem?_getD, List.getElem?_eq_getElem (by omega)]; rfl
 have e2 : (t.drop 16 ++ [0])[i]? = some (t.getD (i + 16) 0) := by
  rcases Nat.lt_or_ge i 15 with h15 | h15
  ·rw [List.getElem?_append_left (by rw [List.length_drop]; omega), List.getElem?_drop, Nat.add_comm, List.getD_eq_getElem?_getD, List.getElem?_eq_getElem (by omega)]; rfl
  ·obtain rfl : i = 15 := by omega
   rw [List.getElem?_append_right (by rw [List.length_drop, h]; omega), List.length_drop, h, List.getD_eq_getElem?_getD, List.getElem?_eq_none (l := t) (by omega)]
   rfl
 unfold oNL
 rw [List.getElem?_zipWith, e1, e2]
def oNP (t : List Int) (i : Nat) : List Int := (oNL t).take i ++ List.replicate (16 - i) 0
theorem oNP_get {t : List Int} (h : t.length = 31) {i : Nat} (hi : i < 16) : (oNP t i)[i]? = some 0 := by
 unfold oNP
 rw [List.getElem?_append_right (by rw [List.length_take, oNL_len h]; omega), List.length_take, oNL_len h, List.getElem?_replicate, if_pos (by omega)]
theorem oNP_set {t : List Int} (h : t.length = 31) {i : Nat} (hi : i < 16) : (oNP t i).set i (t.getD i 0 + 38 * t.getD (i + 16) 0) = oNP t (i + 1) := by
 unfold oNP
 have hl : ((oNL t).take i).length = i := by rw [List.length_take, oNL_len h]; omega
 rw [List.set_append_right _ _ (by rw [hl]; exact Nat.le_refl _), hl, Nat.sub_self, show 16 - i = (16 - (i + 1)) + 1 from by omega, List.replicate_succ, List.set_cons_zero, List.take_add_one, oNL_get h hi, List.append_assoc]
 rfl
def muN (xs ys : List Int) : List Int := carL (carL (oNL (muT xs ys 16)))
def MuRel (w : World) (xs ys : List Int) (iv : Value) (wr : World) : Prop :=
 ∃ i : Nat, i ≤ 16 ∧ iv = .int .i64 (i : Int) ∧ St w NoB wr [.cells (w.heap.size + 3) (ivs (muT xs ys i)).toArray 208, .cells (w.heap.size + 2) (ivs (List.replicate 16 0)).toArray 130, .cells (w.heap.size + 1) (ivs ys).toArray 130, .cells w.heap.size (ivs xs).toArray 130]
def MvRel (w : World) (xs ys : List Int) (i : Nat) (jv : Value) (wr : World) : Prop :=
 ∃ j : Nat, j ≤ 16 ∧ jv = .int .i64 (j : Int) ∧ St w NoB wr [.cells (w.heap.size + 3) (ivs (muR (xs.getD i 0) ys i j (muT xs ys i))).toArray 208, .cells (w.heap.size + 2) (ivs (List.replicate 16 0)).toArray 130, .cells (w.heap.size + 1) (ivs ys).toArray 130, .cells w.heap.size (ivs xs).toArray 130]
def MoRel (w : World) (xs ys : List Int) (g : Nat) (iv : Value) (wr : World) : Prop :=
 ∃ i : Nat, i ≤ 16 ∧ iv = .int .i64 (i : Int) ∧ St w NoB wr [.cells g (ivs (oNP (muT xs ys 16) i)).toArray 130, .cells (w.heap.size + 3) (ivs (muT xs ys 16)).toArray 208, .cells (w.heap.size + 2) (ivs (List.replicate 16 0)).toArray 130]
theorem nb_getD {xs : List Int} (h : NB xs) (k : Nat) : -76 ≤ xs.getD k 0 ∧ xs.getD k 0 < 65612 := by
 rw [List.getD_eq_getElem?_getD]
 cases hg : xs[k]? with
 | none => simp only [Option.getD_none]; omega
 | some x => have := h.2 k x hg; simp only [Option.getD_some]; split at this <;> omega
theorem nb_prod {xs ys : List Int} (h : NB xs) (h2 : NB ys) (i k : Nat) : -8589934592 ≤ xs.getD i 0 * ys.getD k 0 ∧ xs.getD i 0 * ys.getD k 0 ≤ 8589934592 := by
 have h1 := nb_getD h i
 have h2 := nb_getD h2 k
 generalize xs.getD i 0 = x at *
 generalize ys.getD k 0 = y at *
 have e1 : (x + 76) * (y + 76) = x * y + 76 * x + 76 * y + 5776 := by grind
 have e2 : 0 ≤ (x + 76) * (y + 76) := Int.mul_nonneg (by omega) (by omega)
 have e3 : (x + 76) * (y + 76) ≤ 65688 * 65688 := Int.mul_le_mul (by omega) (by omega) (by omega) (by omega)
 omega
theorem mu_len31 {xs : List Int} {k : Nat} (h : xs.length = 31) (hk : k < 31) : xs[k]? = some (xs.getD k 0) := by
 rw [List.getD_eq_getElem?_getD, List.getElem?_eq_getElem (by omega)]; rfl
theorem len16 {xs : List Int} {k : Nat} (h : xs.length = 16) (hk : k < 16) : xs[k]? = some (xs.getD k 0) := by
 rw [List.getD_eq_getElem?_getD, List.getElem?_eq_getElem (by omega)]; rfl
theorem oNL_bd {t : List Int} (h : t.length = 31) (C : Int) (hC : 0 ≤ C) (ht : ∀ k, -C ≤ t.getD k 0 ∧ t.getD k 0 ≤ C) (k : Nat) (x : Int) (hx : (oNL t)[k]? = some x) : -(39 * C) ≤ x ∧ x ≤ 39 * C := by
 have hk : k < 16 := by have := (List.getElem?_eq_some_iff.1 hx).1; rw [oNL_len h] at this; exact this
 rw [oNL_get h hk] at hx
 injection hx with hx
 have h1 := ht k
 have h2 := ht (k + 16)
 subst hx
 omega
theorem mulN_any (xs ys : List Int) (w : World) (h : NB xs) (h2 : NB ys) :
  Calls Tryz.prog 137 #[.agg (ivs xs).toArray, .agg (ivs ys).toArray] w fun e w' => e = .returned (.agg (ivs (muN xs ys)).toArray) ∧ Below w.heap.size w w' := by
 have HN := hide h
 have HM := hide h2
 have HP := hide (nb_prod h h2)
 have HL := hide h.1
 have HL2 := hide h2.1
 have HS0 := ((((St.init w NoB).alloc (ivs xs).toArray 130).alloc (ivs ys).toArray 130).alloc (ivs (List.replicate 16 0)).toArray 130).alloc (ivs (List.replicate 31 0)).toArray 208
 rw [size_alloc1, size_alloc1, size_alloc1] at HS0
 have HS := hide HS0
 have HBD := hide (muT_bd xs ys 8589934592 (by omega) HP.out)
 clear HS0 h h2
 go_enter Tryz.func137, Tryz.ntmps137
 go_wp2_with fail
 go_loopw [10] (fun i wr => MuRel w xs ys i wr) (fun i _ => 16 - (intOf i).toNat)
 case atStart => exact ⟨0, by omega, rfl, HS.out⟩
 case round =>
  clear HS
  obtain ⟨i, hi, rfl, hS⟩ := hrel
  have HS := hide hS
  clear hS
  by_cases hlt : i < 16
  ·have d16 : decide ((i : Int) < 16) = true := by simp; omega
   have i16 : (i : Int) < 16 := by omega
   go_wp2_with fail
   go_loopw [13] (fun j wr => MvRel w xs ys i j wr) (fun j _ => 16 - (intOf j).toNat)
   case atStart => exact ⟨0, by omega, rfl, HS.out⟩
   case round =>
    clear HS
    obtain ⟨j, hj, rfl, hS⟩ := hrel
    have HS := hide hS
    by_cases hjt : j < 16
    ·have j16 : (j : Int) < 16 := by omega
     have e16 : decide ((j : Int) < 16) = true := by simp; omega
     have hP := HP.out i j
     have hC := muR_bd (xs.getD i 0) ys i (muT xs ys i) (16 * i * 8589934592) 8589934592 (by omega) (HBD.out i) (HP.out i) j (i + j)
     obtain ⟨t, ht⟩ : ∃ t, t = (muR (xs.getD i 0) ys i j (muT xs ys i)).getD (i + j) 0 := ⟨_, rfl⟩
     have c2 : wr.drew.cell? ⟨w.heap.size + 3, i + j, none⟩ = some (.int .i64 t) := by rw [hS.drew.cell 0 rfl (i + j), ht]; exact ivs_get (mu_len31 (by rw [muR_len, muT_len]) (by omega))
     have HT := hide (show (muR (xs.getD i 0) ys i j (muT xs ys i)).set (i + j) (t + xs.getD i 0 * ys.getD j 0) = muR (xs.getD i 0) ys i (j + 1) (muT xs ys i) by rw [ht]; rfl)
     rw [← ht] at hC
     have c0 : wr.drew.cell? ⟨w.heap.size, i, none⟩ = some (.int .i64 (xs.getD i 0)) := by rw [hS.drew.cell 3 rfl i]; exact ivs_get (len16 HL.out hlt)
     have c1 : wr.drew.cell? ⟨w.heap.size + 1, j, none⟩ = some (.int .i64 (ys.getD j 0)) := by rw [hS.drew.cell 2 rfl j]; exact ivs_get (len16 HL2.out hjt)
     have f0 := hS.drew.free 0 rfl (i + j)
     have s1 : IntKind.i64.wrap ((i : Int) + (j : Int)) = ((i + j : Nat) : Int) := by rw [IntKind.wrap_i64]; omega
     have s2 : ((i + j : Nat) : Int) < 31 := by omega
     have s3 : (0 : Int) ≤ ((i + j : Nat) : Int) := by omega
     have tb0 : -4398046511104 ≤ t := by omega
     have tb1 : t ≤ 4398046511104 := by omega
     obtain ⟨x0, hx0⟩ : ∃ x, x = xs.getD i 0 := ⟨_, rfl⟩
     obtain ⟨y0, hy0⟩ : ∃ y, y = ys.getD j 0 := ⟨_, rfl⟩
     rw [← hx0] at c0 hP
     rw [← hy0] at c1 hP
     have HT2 := hide (show (muR (xs.getD i 0) ys i j (muT xs ys i)).set (i + j) (t + x0 * y0) = muR (xs.getD i 0) ys i (j + 1) (muT xs ys i) by rw [hx0, hy0]; exact HT.out)
     obtain ⟨pr, hpr⟩ : ∃ p, p = x0 * y0 := ⟨_, rfl⟩
     rw [← hpr] at hP HT2
     have w1 : wrap64 (x0 * y0) = pr := by rw [← hpr]; exact IntWalk.wrap64_in _ ⟨by omega, by omega⟩
     obtain ⟨z, hz⟩ : ∃ z, z = t + pr := ⟨_, rfl⟩
     rw [← hz] at HT2
     have w2 : wrap64 (t + pr) = z := by rw [hz]; exact IntWalk.wrap64_in _ ⟨by omega, by omega⟩
     generalize hij : i + j = ij at *
     clear hC hP hS ht tb0 tb1 hz hpr hij hx0 hy0 HT
     go_upto_region 8 with fail
     refine wp_region_T [(0, 1), (1, 1), (2, 1), (3, 1), (4, 0), (5, 1), (6, 1), (7, 0), (8, 1), (9, 1), (10, 0), (11, 1), (12, 1), (13, 1), (14, 3)] (by kernel_rfl) (by kernel_rfl) (fun _ _ _ _ h => h) ?_
     go_wp2_with (first | (refine wpT_nil ?_)   | ((with_reducible refine fromT_refl ?_); (try simp only [Act.put, nq1, nq2, nq3, nq4, nq5, nq6]))   | ((with_reducible refine fromT_mk (by assumption) ?_); (try simp only [Act.put, nq1, nq2, nq3, nq4, nq5, nq6]))   | (refine wpT_pure (v := ?_) rfl rfl ?_ ?_; rotate_left; (intro wx; go_simp; try go_bits) <;> (with_reducible rfl); (try simp only [Act.put, nq1, nq2, nq3, nq4, nq5, nq6]))   | (refine wpT_load (v := ?_) rfl rfl rfl ?_ ?_; rotate_left; (go_simp; try go_bits) <;> (with_reducible rfl); (try simp only [Act.put, nq1, nq2, nq3, nq4, nq5, nq6]))   | (refine wpT_read (v := ?_) rfl rfl ?_ ?_; rotate_left; (intro wx hx; go_simp; try go_bits) <;> (with_reducible rfl); (try simp only [Act.put, nq1, nq2, nq3, nq4, nq5, nq6]))   | (refine wpT_call rfl rfl ?_; intro K hK)   | (refine wpT_late rfl rfl ?_; intro K hK)   | (refine wpT_any rfl rfl ?_; intro K hK)   | (refine wpT_skip rfl rfl ?_; (try simp only [Act.put, nq1, nq2, nq3, nq4, nq5, nq6])))
     go_roundw
     case rel =>
      have h3 := HS.out.drew.setCell 0 rfl ij (.int .i64 z)
      simp only [List.set_cons_zero, ivs_set] at h3
      rw [HT2.out] at h3
      exact ⟨j + 1, by omega, by go_num, h3⟩
     case measure => (simp [intOf]) <;> omega
    ·obtain rfl : j = 16 := by omega
     clear hS
     go_wp2_with fail
     go_roundw
     case rel => exact ⟨i + 1, by omega, by go_num, HS.out⟩
     case measure => (simp [intOf]) <;> omega
  ·obtain rfl : i = 16 := by omega
   simp only [Int.cast_ofNat_Int]
   go_wp2_with fail
   have HS3 := hide (show St w NoB _ _ from HS.out.alloc (ivs (List.replicate 16 0)).toArray 130)
   obtain ⟨g, hg⟩ : ∃ g, g = wr.heap.size := ⟨_, rfl⟩
   rw [← hg] at HS3 ⊢
   have hne : g ≠ w.heap.size + 3 := fun e => by
    have := Chunk.lt (HS.out.sat 0 _ rfl) (k := w.heap.size + 3) rfl
    omega
   clear hg HS
   go_loopw [32] (fun i wr => MoRel w xs ys g i wr) (fun i _ => 16 - (intOf i).toNat)
   case atStart => exact ⟨0, by omega, rfl, HS3.out.pickL [0, 1, 2] (by decide) rfl⟩
   case round =>
    clear HS3
    obtain ⟨i, hi, rfl, hS⟩ := hrel
    have HS := hide hS
    have hT31 := muT_len xs ys 16
    have hB16 := HBD.out 16
    obtain ⟨tt, htt⟩ : ∃ t, t = muT xs ys 16 := ⟨_, rfl⟩
    rw [← htt] at hS hT31 hB16
    by_cases hlt : i < 16
    ·have d16 : decide ((i : Int) < 16) = true := by simp; omega
     have i16 : (i : Int) < 16 := by omega
     have q1 := hB16 i
     have q2 := hB16 (i + 16)
     have HT := hide (oNP_set hT31 hlt)
     have c0 : wr.cell? ⟨w.heap.size + 3, i, none⟩ = some (.int .i64 (tt.getD i 0)) := by rw [hS.cell 1 rfl i]; exact ivs_get (mu_len31 hT31 (by omega))
     have c2 : wr.cell? ⟨g, i, none⟩ = some (.int .i64 0) := by rw [hS.cell 0 rfl i]; exact ivs_get (oNP_get hT31 hlt)
     have f0 := hS.free 0 rfl i
     have hne' : w.heap.size + 3 ≠ g := fun e => hne e.symm
     by_cases h15 : i < 15
     ·have d15 : decide ((i : Int) < 15) = true := by simp; omega
      have i15 : (i : Int) < 15 := by omega
      have c1 : wr.cell? ⟨w.heap.size + 3, i + 16, none⟩ = some (.int .i64 (tt.getD (i + 16) 0)) := by rw [hS.cell 1 rfl (i + 16)]; exact ivs_get (mu_len31 hT31 (by omega))
      obtain ⟨k, hk⟩ : ∃ k, k = i + 16 := ⟨_, rfl⟩
      rw [← hk] at c1
      have HK := hide hk
      have s1 : wrap64 ((i : Int) + 16) = (k : Int) := by rw [hk]; exact IntWalk.wrap64_in _ ⟨by omega, by omega⟩
      have s2 : IntKind.i64.wrap ((i : Int) + 16) = (k : Int) := by rw [IntKind.wrap_i64]; omega
      have k31 : (k : Int) < 31 := by omega
      clear hk
      have HH := hide htt
      obtain ⟨x, hx⟩ : ∃ x, x = tt.getD i 0 := ⟨_, rfl⟩
      obtain ⟨y, hy⟩ : ∃ y, y = tt.getD (i + 16) 0 := ⟨_, rfl⟩
      rw [← hx] at q1 c0
      rw [HK.out] at c1
      rw [← hy] at q2 c1
      rw [← HK.out] at c1
      have HX := hide hx
      have HY := hide hy
      have x0 : -4398046511104 ≤ x := by omega
      have x1 : x ≤ 4398046511104 := by omega
      have y0 : -4398046511104 ≤ y := by omega
      have y1 : y ≤ 4398046511104 := by omega
      clear hx hy htt q1 q2 hB16 hT31 hS
      go_upto_region 17 with fail
      refine wp_region_T [(0, 1), (1, 1), (2, 0), (3, 1), (4, 1), (5, 1), (6, 0), (7, 1), (8, 1), (9, 1), (10, 3)] (by kernel_rfl) (by kernel_rfl) (fun _ _ _ _ h => h) ?_
      go_wp2_with (first | (refine wpT_nil ?_)   | ((with_reducible refine fromT_refl ?_); (try simp only [Act.put, nq1, nq2, nq3, nq4, nq5, nq6]))   | ((with_reducible refine fromT_mk (by assumption) ?_); (try simp only [Act.put, nq1, nq2, nq3, nq4, nq5, nq6]))   | (refine wpT_pure (v := ?_) rfl rfl ?_ ?_; rotate_left; (intro wx; go_simp; try go_bits) <;> (with_reducible rfl); (try simp only [Act.put, nq1, nq2, nq3, nq4, nq5, nq6]))   | (refine wpT_load (v := ?_) rfl rfl rfl ?_ ?_; rotate_left; (go_simp; try go_bits) <;> (with_reducible rfl); (try simp only [Act.put, nq1, nq2, nq3, nq4, nq5, nq6]))   | (refine wpT_read (v := ?_) rfl rfl ?_ ?_; rotate_left; (intro wx hx; go_simp; try go_bits) <;> (with_reducible rfl); (try simp only [Act.put, nq1, nq2, nq3, nq4, nq5, nq6]))   | (refine wpT_call rfl rfl ?_; intro K hK)   | (refine wpT_late rfl rfl ?_; intro K hK)   | (refine wpT_any rfl rfl ?_; intro K hK)   | (refine wpT_skip rfl rfl ?_; (try simp only [Act.put, nq1, nq2, nq3, nq4, nq5, nq6])))
      go_roundw
      case rel =>
       have h3 := ((HS.out.setCell 0 rfl i (.int .i64 x)).drew).setCell 0 rfl i (.int .i64 (x + 38 * y))
       simp only [List.set_cons_zero, ivs_set, List.set_set] at h3
       have e : (oNP (muT xs ys 16) i).set i (x + 38 * y) = oNP (muT xs ys 16) (i + 1) := by rw [← HH.out, HX.out, HY.out, HT.out]
       rw [e] at h3
       exact ⟨i + 1, by omega, by go_num, h3⟩
      case measure => (simp [intOf]) <;> omega
     ·obtain rfl : i = 15 := by omega
      have HH := hide htt
      obtain ⟨x, hx⟩ : ∃ x, x = tt.getD 15 0 := ⟨_, rfl⟩
      have h31 : tt.getD (15 + 16) 0 = 0 := by rw [List.getD_eq_getElem?_getD, List.getElem?_eq_none (by omega)]; rfl
      have HT2 := hide (show (oNP tt 15).set 15 x = oNP tt 16 by have := HT.out; rw [h31, Int.mul_zero, Int.add_zero, ← hx] at this; exact this)
      rw [← hx] at c0
      clear hx htt q1 q2 hB16 hT31 hS h31 HT
      go_wp2_with fail
      go_roundw
      case rel =>
       have h3 := HS.out.setCell 0 rfl 15 (.int .i64 x)
       simp only [List.set_cons_zero, ivs_set] at h3
       have e : (oNP (muT xs ys 16) 15).set 15 x = oNP (muT xs ys 16) 16 := by rw [← HH.out, HT2.out]
       rw [e] at h3
       exact ⟨16, by omega, by go_num, h3⟩
      case measure => (simp [intOf]) <;> omega
    ·obtain rfl : i = 16 := by omega
     have hO : oNP tt 16 = oNL tt := by unfold oNP; rw [List.take_of_length_le (by rw [oNL_len hT31]; omega)]; simp
     rw [hO] at hS
     have hC1 := carL_long (oNL tt) 171523813933056 (by omega) (by omega) (fun k x hx => by
      have := oNL_bd hT31 4398046511104 (by omega) (fun k => by have := hB16 k; omega) k x hx
      omega)
     have hA1 : CyB (oNL tt) := by
      have hb0 := oNL_bd hT31 4398046511104 (by omega) (fun k => by have := hB16 k; omega)
      have hb := ky_bd (oNL tt) 171523813933056 (by omega) (fun k x hx => by have := hb0 k x hx; omega)
      refine ⟨oNL_len hT31, fun i => ?_, by have := hb 16; omega, by have := hb 16; omega⟩
      have := hb i
      have hx : -171523813933056 ≤ (oNL tt).getD i 0 ∧ (oNL tt).getD i 0 ≤ 171523813933056 := by
       rw [List.getD_eq_getElem?_getD]
       cases hg : (oNL tt)[i]? with
       | none => simp only [Option.getD_none]; omega
       | some x => have := hb0 i x hg; simp only [Option.getD_some]; omega
      omega
     have hA2 : CyB (carL (oNL tt)) := by
      have hb := ky_bd (carL (oNL tt)) 288230376151711744 (by omega) (fun k x hx => by have := hC1 k x hx; split at this <;> omega)
      have hn := carL_nb2 (carL (oNL tt)) hC1
      refine ⟨carL_len _, fun i => ?_, ?_⟩
      ·have := hb i
       have hx : -288230376151711744 ≤ (carL (oNL tt)).getD i 0 ∧ (carL (oNL tt)).getD i 0 ≤ 288230376151711744 := by
        rw [List.getD_eq_getElem?_getD]
        cases hg : (carL (oNL tt))[i]? with
        | none => simp only [Option.getD_none]; omega
        | some x => have := hC1 i x hg; simp only [Option.getD_some]; split at this <;> omega
       omega
      ·have h0 := hn.2 0 _ (carL_get (carL (oNL tt)) 0 (by omega))
       have hd := dy_bd (carL (oNL tt)) 0
       rw [if_pos rfl, if_pos rfl, if_pos rfl] at h0
       omega
     have HA1 := hide (fun W => carry_any (oNL tt) W hA1)
     have HA2 := hide (fun W => carry_any (carL (oNL tt)) W hA2)
     have HE := hide (show muN xs ys = carL (carL (oNL tt)) by unfold muN; rw [htt])
     obtain ⟨ys', hys'⟩ : ∃ a, a = (ivs (oNL tt)).toArray := ⟨_, rfl⟩
     have hsz : ys'.size = 16 := by rw [hys', List.size_toArray, ivs_len]; exact hA1.1
     obtain ⟨rr, hrr⟩ : ∃ r, r = (ivs (carL (carL (oNL tt)))).toArray := ⟨_, rfl⟩
     have hone : rr.all (·.oneCell') = true := by rw [hrr]; exact ivs_all _
     have hsc : rr.size = 16 := by rw [hrr, List.size_toArray, ivs_len, carL_len]
     have HR := hide hrr
     rw [← hrr] at HA2
     rw [← hys'] at hS HA1
     have HS1 := hide hS
     clear hS hys' HS hO hC1 hA1 hA2 htt hB16 hT31 hrr
     go_upto_region 19 with fail
     refine wp_region_list ?_
     refine wpList_load_row rfl 130 (.tmp 8) rfl g rfl 130 ys' _ _ (HS1.out.heap 0 rfl) Tryz.underlying130 rfl (by rw [hsz]; kernel_rfl) ?_
     refine wl_callN rfl rfl enCarryN rfl (HA1.out _) ?_
     rintro e w1 ⟨rfl, hb1⟩
     refine ⟨_, rfl, ?_⟩
     refine wl_callN rfl rfl enCarryN rfl (HA2.out _) ?_
     rintro e w2 ⟨rfl, hb2⟩
     refine ⟨_, rfl, ?_⟩
     have HS2 := hide ((HS1.out.call hb1).call hb2)
     have HS3 := hide (HS2.out.setRow 2 rfl rr)
     refine wpList_store_row rfl 130 (.tmp 4) (.tmp 55) rfl (w.heap.size + 2) rr rfl rfl 130 _ (HS2.out.heap 2 rfl) (by rw [hsc]; kernel_rfl) (by rw [hsc]; rfl) hone ?_
     refine wpList_nil ?_
     go_wp2_with fail
     refine bodyPost_ret (results_cell_row rfl _ _ (w.heap.size + 2) _ _ _ _ rfl (HS3.out.heap 2 rfl) Tryz.underlying130 rfl (by rw [hsc]; kernel_rfl)) rfl ?_
     exact ⟨by rw [HE.out, HR.out], HS3.out.below⟩
theorem muN_ok {xs ys : List Int} (h : NB xs) (h2 : NB ys) : NB (muN xs ys) ∧ nv (muN xs ys) % (Pq : Int) = nv xs * nv ys % (Pq : Int) := by
 have hT31 := muT_len xs ys 16
 have hB16 := muT_bd xs ys 8589934592 (by omega) (nb_prod h h2) 16
 have hC1 := carL_long (oNL (muT xs ys 16)) 171523813933056 (by omega) (by omega) (fun k x hx => by
  have := oNL_bd hT31 4398046511104 (by omega) (fun k => by have := hB16 k; omega) k x hx
  omega)
 refine ⟨carL_nb2 _ hC1, ?_⟩
 have hv := muT_nv xs ys h.1 h2.1 16 (by omega)
 rw [List.take_of_length_le (by rw [h.1]; omega)] at hv
 unfold muN
 rw [carL_mod _ (carL_len _), carL_mod _ (oNL_len hT31), oNL_nv hT31, hv]
end Go.Proofs.YtnohmgpmmhlloaaGreatDoor

namespace Go.Proofs.YtnohmgpmmhlloaaGreatDoor
open Go.RowKit
set_option linter.unusedSimpArgs false

theorem suL_get {t : List Int} (h : t.length = 16) {i : Nat} (hi : i < 16) : (suL t).getD i 0 = t.getD i 0 - pRow.getD i 0 := by
 unfold suL
 rw [List.getD_eq_getElem?_getD, List.getElem?_zipWith, len16 h hi, len16 (xs := pRow) rfl hi]
 rfl
theorem pRow_mid {i : Nat} (h1 : 1 ≤ i) (h2 : i < 15) : pRow.getD i 0 = 65535 := by
 match i, h1, h2 with
 | 1, _, _ => rfl
 | 2, _, _ => rfl
 | 3, _, _ => rfl
 | 4, _, _ => rfl
 | 5, _, _ => rfl
 | 6, _, _ => rfl
 | 7, _, _ => rfl
 | 8, _, _ => rfl
 | 9, _, _ => rfl
 | 10, _, _ => rfl
 | 11, _, _ => rfl
 | 12, _, _ => rfl
 | 13, _, _ => rfl
 | 14, _, _ => rfl
theorem suA_one {t : List Int} (h : t.length = 16) : t.set 0 (t.getD 0 0 - 65517) = suA t 1 := by
 match t, h with
 | x :: t, h =>
  unfold suA
  rw [suL_get h (by omega)]
  simp [dyL, ky, pRow]
theorem suA_at {t : List Int} (h : t.length = 16) {i : Nat} (h1 : 1 ≤ i) (hi : i ≤ 16) : (suA t i)[i - 1]? = some ((suL t).getD (i - 1) 0 + ky (suL t) (i - 1)) := by
 unfold suA
 rw [List.getElem?_append_right (by rw [dyL_len]; omega), dyL_len, Nat.sub_self]
 rfl
theorem suA_next {t : List Int} (h : t.length = 16) {i : Nat} (h1 : 1 ≤ i) (hi : i < 16) : (suA t i)[i]? = some (t.getD i 0) := by
 obtain ⟨k, rfl⟩ : ∃ k, i = k + 1 := ⟨i - 1, by omega⟩
 unfold suA
 rw [Nat.add_sub_cancel, List.getElem?_append_right (by rw [dyL_len]; omega), dyL_len, Nat.add_sub_cancel_left, List.getElem?_cons_succ, List.getElem?_drop, Nat.add_zero]
 exact len16 h hi
theorem suA_step {t : List Int} (h : t.length = 16) {i : Nat} (h1 : 1 ≤ i) (hi : i < 16) :
  ((suA t i).set i ((suL t).getD i 0 + ky (suL t) i)).set (i - 1) (dy (suL t) (i - 1)) = suA t (i + 1) := by
 obtain ⟨k, rfl⟩ : ∃ k, i = k + 1 := ⟨i - 1, by omega⟩
 have hd : t.drop (k + 1) = t.getD (k + 1) 0 :: t.drop (k + 2) := by
  have := len16 h hi
  rw [List.getElem?_eq_getElem (by omega)] at this
  injection this with this
  rw [List.drop_eq_getElem_cons (by omega), this]
 unfold suA
 rw [Nat.add_sub_cancel, Nat.add_sub_cancel, List.set_append_right _ _ (by rw [dyL_len]; omega), dyL_len, Nat.add_sub_cancel_left, List.set_cons_succ, hd, List.set_cons_zero,
  List.set_append_right _ _ (by rw [dyL_len]; omega), dyL_len, Nat.sub_self, List.set_cons_zero, dyL_succ, List.append_assoc]
 rfl
theorem suA_end {t : List Int} (h : t.length = 16) : suA t 16 = suE t := by
 unfold suA suE
 rw [List.drop_of_length_le (by omega)]
theorem suL_bd {t : List Int} (h : Dig t) {i : Nat} (hi : i < 16) : -65535 ≤ (suL t).getD i 0 ∧ (suL t).getD i 0 ≤ 65535 := by
 rw [suL_get h.1 hi]
 have h1 := h.2 i _ (len16 h.1 hi)
 have h2 : 0 ≤ pRow.getD i 0 ∧ pRow.getD i 0 ≤ 65535 := by
  have : ∀ j : Fin 16, 0 ≤ pRow.getD j.val 0 ∧ pRow.getD j.val 0 ≤ 65535 := by decide
  exact this ⟨i, hi⟩
 omega
theorem suL_ky {t : List Int} (h : Dig t) : ∀ i, i ≤ 16 → -1 ≤ ky (suL t) i ∧ ky (suL t) i ≤ 0
 | 0, _ => by simp [ky]
 | i + 1, hi => by
  have ih := suL_ky h i (by omega)
  have hb := suL_bd h (i := i) (by omega)
  have hz : (suL t).getD i 0 + ky (suL t) i ≤ 65535 := by omega
  rw [ky]
  omega
theorem set_same {xs : List Int} {k : Nat} {x : Int} (h : xs[k]? = some x) : xs.set k x = xs := by
 apply List.ext_getElem?
 intro j
 rw [List.getElem?_set]
 have hk := (List.getElem?_eq_some_iff.1 h).1
 split
 ·rename_i e
  subst e
  simp [h]
 ·rfl
def byN (ts : List Int) (k : Nat) : List UInt8 := (ts.take k).flatMap rowB
theorem byN_succ (ts : List Int) (h : ts.length = 16) (k : Nat) (hk : k < 16) : byN ts (k + 1) = byN ts k ++ rowB (ts.getD k 0) := by
 unfold byN
 rw [List.take_add_one, len16 h hk, Option.toList_some, List.flatMap_append]
 simp
def suNi (t : List Int) : Nat → List Int
 | 0 => t
 | k + 1 => suN (suNi t k)
theorem suNi_dig {t : List Int} (h : Dig t) : ∀ k, Dig (suNi t k)
 | 0 => h
 | k + 1 => (suN_spec (suNi_dig h k)).1
def ByRel (w : World) (g : Nat) (t : List Int) (kv : Value) (wr : World) : Prop :=
 ∃ k : Nat, k ≤ 3 ∧ kv = .int .i64 (k : Int) ∧ St w NoB wr [.cells g (ivs (suNi t k)).toArray 130]
def BzRel (w : World) (g g2 : Nat) (t : List Int) (iv : Value) (wr : World) : Prop :=
 ∃ j : Nat, j ≤ 15 ∧ iv = .int .i64 ((j : Int) + 1) ∧ St w NoB wr [.cells g2 (ivs (suA t (j + 1))).toArray 130, .cells g (ivs t).toArray 130]
def BvRel (w : World) (t : List Int) (bv iv : Value) (wr : World) : Prop :=
 ∃ (i : Nat) (A : Option Addr) (c : Nat), i ≤ 16 ∧ iv = .int .i64 (i : Int) ∧ bv = .slice A (2 * i) c ∧ St w NoB wr [.row (.slice A (2 * i) c) 5 1 (2 * i) (bvs (byN t i))]
theorem ixn0 (x0 x1 x2 x3 x4 x5 x6 x7 x8 x9 x10 x11 x12 x13 x14 x15 : Int) (W : World) : (Instr.index 130 (.agg #[.int .i64 x0, .int .i64 x1, .int .i64 x2, .int .i64 x3, .int .i64 x4, .int .i64 x5, .int .i64 x6, .int .i64 x7, .int .i64 x8, .int .i64 x9, .int .i64 x10, .int .i64 x11, .int .i64 x12, .int .i64 x13, .int .i64 x14, .int .i64 x15]) (.int .i64 ((0 : Nat) : Int))).run Tryz.prog W = .ok (.int .i64 x0) W := by kernel_rfl
theorem ixn1 (x0 x1 x2 x3 x4 x5 x6 x7 x8 x9 x10 x11 x12 x13 x14 x15 : Int) (W : World) : (Instr.index 130 (.agg #[.int .i64 x0, .int .i64 x1, .int .i64 x2, .int .i64 x3, .int .i64 x4, .int .i64 x5, .int .i64 x6, .int .i64 x7, .int .i64 x8, .int .i64 x9, .int .i64 x10, .int .i64 x11, .int .i64 x12, .int .i64 x13, .int .i64 x14, .int .i64 x15]) (.int .i64 ((1 : Nat) : Int))).run Tryz.prog W = .ok (.int .i64 x1) W := by kernel_rfl
theorem ixn2 (x0 x1 x2 x3 x4 x5 x6 x7 x8 x9 x10 x11 x12 x13 x14 x15 : Int) (W : World) : (Instr.index 130 (.agg #[.int .i64 x0, .int .i64 x1, .int .i64 x2, .int .i64 x3, .int .i64 x4, .int .i64 x5, .int .i64 x6, .int .i64 x7, .int .i64 x8, .int .i64 x9, .int .i64 x10, .int .i64 x11, .int .i64 x12, .int .i64 x13, .int .i64 x14, .int .i64 x15]) (.int .i64 ((2 : Nat) : Int))).run Tryz.prog W = .ok (.int .i64 x2) W := by kernel_rfl
theorem ixn3 (x0 x1 x2 x3 x4 x5 x6 x7 x8 x9 x10 x11 x12 x13 x14 x15 : Int) (W : World) : (Instr.index 130 (.agg #[.int .i64 x0, .int .i64 x1, .int .i64 x2, .int .i64 x3, .int .i64 x4, .int .i64 x5, .int .i64 x6, .int .i64 x7, .int .i64 x8, .int .i64 x9, .int .i64 x10, .int .i64 x11, .int .i64 x12, .int .i64 x13, .int .i64 x14, .int .i64 x15]) (.int .i64 ((3 : Nat) : Int))).run Tryz.prog W = .ok (.int .i64 x3) W := by kernel_rfl
theorem ixn4 (x0 x1 x2 x3 x4 x5 x6 x7 x8 x9 x10 x11 x12 x13 x14 x15 : Int) (W : World) : (Instr.index 130 (.agg #[.int .i64 x0, .int .i64 x1, .int .i64 x2, .int .i64 x3, .int .i64 x4, .int .i64 x5, .int .i64 x6, .int .i64 x7, .int .i64 x8, .int .i64 x9, .int .i64 x10, .int .i64 x11, .int .i64 x12, .int .i64 x13, .int .i64 x14, .int .i64 x15]) (.int .i64 ((4 : Nat) : Int))).run Tryz.prog W = .ok (.int .i64 x4) W := by kernel_rfl
theorem ixn5 (x0 x1 x2 x3 x4 x5 x6 x7 x8 x9 x10 x11 x12 x13 x14 x15 : Int) (W : World) : (Instr.index 130 (.agg #[.int .i64 x0, .int .i64 x1, .int .i64 x2, .int .i64 x3, .int .i64 x4, .int .i64 x5, .int .i64 x6, .int .i64 x7, .int .i64 x8, .int .i64 x9, .int .i64 x10, .int .i64 x11, .int .i64 x12, .int .i64 x13, .int .i64 x14, .int .i64 x15]) (.int .i64 ((5 : Nat) : Int))).run Tryz.prog W = .ok (.int .i64 x5) W := by kernel_rfl
theorem ixn6 (x0 x1 x2 x3 x4 x5 x6 x7 x8 x9 x10 x11 x12 x13 x14 x15 : Int) (W : World) : (Instr.index 130 (.agg #[.int .i64 x0, .int .i64 x1, .int .i64 x2, .int .i64 x3, .int .i64 x4, .int .i64 x5, .int .i64 x6, .int .i64 x7, .int .i64 x8, .int .i64 x9, .int .i64 x10, .int .i64 x11, .int .i64 x12, .int .i64 x13, .int .i64 x14, .int .i64 x15]) (.int .i64 ((6 : Nat) : Int))).run Tryz.prog W = .ok (.int .i64 x6) W := by kernel_rfl
theorem ixn7 (x0 x1 x2 x3 x4 x5 x6 x7 x8 x9 x10 x11 x12 x13 x14 x15 : Int) (W : World) : (Instr.index 130 (.agg #[.int .i64 x0, .int .i64 x1, .int .i64 x2, .int .i64 x3, .int .i64 x4, .int .i64 x5, .int .i64 x6, .int .i64 x7, .int .i64 x8, .int .i64 x9, .int .i64 x10, .int .i64 x11, .int .i64 x12, .int .i64 x13, .int .i64 x14, .int .i64 x15]) (.int .i64 ((7 : Nat) : Int))).run Tryz.prog W = .ok (.int .i64 x7) W := by kernel_rfl
theorem ixn8 (x0 x1 x2 x3 x4 x5 x6 x7 x8 x9 x10 x11 x12 x13 x14 x15 : Int) (W : World) : (Instr.index 130 (.agg #[.int .i64 x0, .int .i64 x1, .int .i64 x2, .int .i64 x3, .int .i64 x4, .int .i64 x5, .int .i64 x6, .int .i64 x7, .int .i64 x8, .int .i64 x9, .int .i64 x10, .int .i64 x11, .int .i64 x12, .int .i64 x13, .int .i64 x14, .int .i64 x15]) (.int .i64 ((8 : Nat) : Int))).run Tryz.prog W = .ok (.int .i64 x8) W := by kernel_rfl
theorem ixn9 (x0 x1 x2 x3 x4 x5 x6 x7 x8 x9 x10 x11 x12 x13 x14 x15 : Int) (W : World) : (Instr.index 130 (.agg #[.int .i64 x0, .int .i64 x1, .int .i64 x2, .int .i64 x3, .int .i64 x4, .int .i64 x5, .int .i64 x6, .int .i64 x7, .int .i64 x8, .int .i64 x9, .int .i64 x10, .int .i64 x11, .int .i64 x12, .int .i64 x13, .int .i64 x14, .int .i64 x15]) (.int .i64 ((9 : Nat) : Int))).run Tryz.prog W = .ok (.int .i64 x9) W := by kernel_rfl
theorem ixn10 (x0 x1 x2 x3 x4 x5 x6 x7 x8 x9 x10 x11 x12 x13 x14 x15 : Int) (W : World) : (Instr.index 130 (.agg #[.int .i64 x0, .int .i64 x1, .int .i64 x2, .int .i64 x3, .int .i64 x4, .int .i64 x5, .int .i64 x6, .int .i64 x7, .int .i64 x8, .int .i64 x9, .int .i64 x10, .int .i64 x11, .int .i64 x12, .int .i64 x13, .int .i64 x14, .int .i64 x15]) (.int .i64 ((10 : Nat) : Int))).run Tryz.prog W = .ok (.int .i64 x10) W := by kernel_rfl
theorem ixn11 (x0 x1 x2 x3 x4 x5 x6 x7 x8 x9 x10 x11 x12 x13 x14 x15 : Int) (W : World) : (Instr.index 130 (.agg #[.int .i64 x0, .int .i64 x1, .int .i64 x2, .int .i64 x3, .int .i64 x4, .int .i64 x5, .int .i64 x6, .int .i64 x7, .int .i64 x8, .int .i64 x9, .int .i64 x10, .int .i64 x11, .int .i64 x12, .int .i64 x13, .int .i64 x14, .int .i64 x15]) (.int .i64 ((11 : Nat) : Int))).run Tryz.prog W = .ok (.int .i64 x11) W := by kernel_rfl
theorem ixn12 (x0 x1 x2 x3 x4 x5 x6 x7 x8 x9 x10 x11 x12 x13 x14 x15 : Int) (W : World) : (Instr.index 130 (.agg #[.int .i64 x0, .int .i64 x1, .int .i64 x2, .int .i64 x3, .int .i64 x4, .int .i64 x5, .int .i64 x6, .int .i64 x7, .int .i64 x8, .int .i64 x9, .int .i64 x10, .int .i64 x11, .int .i64 x12, .int .i64 x13, .int .i64 x14, .int .i64 x15]) (.int .i64 ((12 : Nat) : Int))).run Tryz.prog W = .ok (.int .i64 x12) W := by kernel_rfl
theorem ixn13 (x0 x1 x2 x3 x4 x5 x6 x7 x8 x9 x10 x11 x12 x13 x14 x15 : Int) (W : World) : (Instr.index 130 (.agg #[.int .i64 x0, .int .i64 x1, .int .i64 x2, .int .i64 x3, .int .i64 x4, .int .i64 x5, .int .i64 x6, .int .i64 x7, .int .i64 x8, .int .i64 x9, .int .i64 x10, .int .i64 x11, .int .i64 x12, .int .i64 x13, .int .i64 x14, .int .i64 x15]) (.int .i64 ((13 : Nat) : Int))).run Tryz.prog W = .ok (.int .i64 x13) W := by kernel_rfl
theorem ixn14 (x0 x1 x2 x3 x4 x5 x6 x7 x8 x9 x10 x11 x12 x13 x14 x15 : Int) (W : World) : (Instr.index 130 (.agg #[.int .i64 x0, .int .i64 x1, .int .i64 x2, .int .i64 x3, .int .i64 x4, .int .i64 x5, .int .i64 x6, .int .i64 x7, .int .i64 x8, .int .i64 x9, .int .i64 x10, .int .i64 x11, .int .i64 x12, .int .i64 x13, .int .i64 x14, .int .i64 x15]) (.int .i64 ((14 : Nat) : Int))).run Tryz.prog W = .ok (.int .i64 x14) W := by kernel_rfl
theorem ixn15 (x0 x1 x2 x3 x4 x5 x6 x7 x8 x9 x10 x11 x12 x13 x14 x15 : Int) (W : World) : (Instr.index 130 (.agg #[.int .i64 x0, .int .i64 x1, .int .i64 x2, .int .i64 x3, .int .i64 x4, .int .i64 x5, .int .i64 x6, .int .i64 x7, .int .i64 x8, .int .i64 x9, .int .i64 x10, .int .i64 x11, .int .i64 x12, .int .i64 x13, .int .i64 x14, .int .i64 x15]) (.int .i64 ((15 : Nat) : Int))).run Tryz.prog W = .ok (.int .i64 x15) W := by kernel_rfl
theorem ix16 {u : List Int} {i : Nat} (h : u.length = 16) (hi : i < 16) (W : World) : (Instr.index 130 (.agg (ivs u).toArray) (.int .i64 (i : Int))).run Tryz.prog W = .ok (.int .i64 (u.getD i 0)) W := by
 match u, h with
 | [x0, x1, x2, x3, x4, x5, x6, x7, x8, x9, x10, x11, x12, x13, x14, x15], _ =>
  match i, hi with
  | 0, _ => exact ixn0 x0 x1 x2 x3 x4 x5 x6 x7 x8 x9 x10 x11 x12 x13 x14 x15 W
  | 1, _ => exact ixn1 x0 x1 x2 x3 x4 x5 x6 x7 x8 x9 x10 x11 x12 x13 x14 x15 W
  | 2, _ => exact ixn2 x0 x1 x2 x3 x4 x5 x6 x7 x8 x9 x10 x11 x12 x13 x14 x15 W
  | 3, _ => exact ixn3 x0 x1 x2 x3 x4 x5 x6 x7 x8 x9 x10 x11 x12 x13 x14 x15 W
  | 4, _ => exact ixn4 x0 x1 x2 x3 x4 x5 x6 x7 x8 x9 x10 x11 x12 x13 x14 x15 W
  | 5, _ => exact ixn5 x0 x1 x2 x3 x4 x5 x6 x7 x8 x9 x10 x11 x12 x13 x14 x15 W
  | 6, _ => exact ixn6 x0 x1 x2 x3 x4 x5 x6 x7 x8 x9 x10 x11 x12 x13 x14 x15 W
  | 7, _ => exact ixn7 x0 x1 x2 x3 x4 x5 x6 x7 x8 x9 x10 x11 x12 x13 x14 x15 W
  | 8, _ => exact ixn8 x0 x1 x2 x3 x4 x5 x6 x7 x8 x9 x10 x11 x12 x13 x14 x15 W
  | 9, _ => exact ixn9 x0 x1 x2 x3 x4 x5 x6 x7 x8 x9 x10 x11 x12 x13 x14 x15 W
  | 10, _ => exact ixn10 x0 x1 x2 x3 x4 x5 x6 x7 x8 x9 x10 x11 x12 x13 x14 x15 W
  | 11, _ => exact ixn11 x0 x1 x2 x3 x4 x5 x6 x7 x8 x9 x10 x11 x12 x13 x14 x15 W
  | 12, _ => exact ixn12 x0 x1 x2 x3 x4 x5 x6 x7 x8 x9 x10 x11 x12 x13 x14 x15 W
  | 13, _ => exact ixn13 x0 x1 x2 x3 x4 x5 x6 x7 x8 x9 x10 x11 x12 x13 x14 x15 W
  | 14, _ => exact ixn14 x0 x1 x2 x3 x4 x5 x6 x7 x8 x9 x10 x11 x12 x13 x14 x15 W
  | 15, _ => exact ixn15 x0 x1 x2 x3 x4 x5 x6 x7 x8 x9 x10 x11 x12 x13 x14 x15 W
  | i + 16, hi => exact absurd hi (by omega)
theorem cyB_nb {xs : List Int} (h : NB xs) : CyB xs := cyB_small h.1 (fun k x hx => by have := h.2 k x hx; split at this <;> omega)
theorem dig_nb {xs : List Int} (h : Dig xs) : NB xs := ⟨h.1, fun k x hx => by have := h.2 k x hx; split <;> omega⟩
theorem bytesN_any (xs : List Int) (w : World) (h : NB xs) :
  Calls Tryz.prog 136 #[.agg (ivs xs).toArray] w fun e w' => ∃ B d, e = .returned (.slice B 32 d) ∧ Below w.heap.size w w' ∧ w'.ownsRow w.heap.size 5 1 (.slice B 32 d) 32 (bvs (leB 32 (nv xs % (Pq : Int)).toNat)) := by
 have hd := carL_nb_dig h
 have hc2 : carL (carL xs) = carL xs := carL_dig hd
 have HC1 := hide (fun W => carry_any xs W (cyB_nb h))
 have HC2 := hide (fun W => carry_any (carL xs) W (cyB_nb (dig_nb hd)))
 have HE := hide (bytN_spec h)
 obtain ⟨t, ht⟩ : ∃ t, t = carL xs := ⟨_, rfl⟩
 rw [hc2, ← ht] at HC2
 rw [← ht] at HC1 hd
 have HTD := hide hd
 have HTT := hide ht
 obtain ⟨xa, hxa⟩ : ∃ a, a = (ivs xs).toArray := ⟨_, rfl⟩
 have hsz : xa.size = 16 := by rw [hxa, List.size_toArray, ivs_len]; exact h.1
 obtain ⟨ta, hta⟩ : ∃ a, a = (ivs t).toArray := ⟨_, rfl⟩
 have hst : ta.size = 16 := by rw [hta, List.size_toArray, ivs_len]; exact hd.1
 have hone : ta.all (·.oneCell') = true := by rw [hta]; exact ivs_all _
 have HS0 := hide ((St.init w NoB).alloc xa 130)
 rw [← hxa] at HC1 ⊢
 rw [← hta] at HC1 HC2
 have HTA := hide hta
 clear h hd hc2 ht hxa hta
 go_enter Tryz.func136, Tryz.ntmps136
 go_upto_region 1 with fail
 refine wp_region_list ?_
 refine wpList_load_row rfl 130 (.tmp 1) rfl w.heap.size rfl 130 xa _ _ (HS0.out.heap 0 rfl) Tryz.underlying130 rfl (by rw [hsz]; kernel_rfl) ?_
 refine wl_callN rfl rfl enCarryN rfl (HC1.out _) ?_
 rintro e w1 ⟨rfl, hb1⟩
 refine ⟨_, rfl, ?_⟩
 refine wl_callN rfl rfl enCarryN rfl (HC2.out _) ?_
 rintro e w2 ⟨rfl, hb2⟩
 refine ⟨_, rfl, ?_⟩
 refine wl_callN rfl rfl enCarryN rfl (HC2.out _) ?_
 rintro e w3 ⟨rfl, hb3⟩
 refine ⟨_, rfl, ?_⟩
 have HS1 := hide (((HS0.out.call hb1).call hb2).call hb3)
 refine wpList_plain rfl ?_
 intro K hK
 go_simp
 refine hK _ _ ?_
 clear hK K
 have HS2 := hide (show St w NoB _ _ from HS1.out.alloc (ivs (List.replicate 16 0)).toArray 130)
 obtain ⟨g, hg⟩ : ∃ g, g = w3.heap.size := ⟨_, rfl⟩
 rw [← hg] at HS2
 have HS3 := hide (show St w NoB _ [.cells g ta 130] from (HS2.out.setRow 0 rfl ta).pickL [0] (by decide) rfl)
 refine wpList_store_row rfl 130 (.tmp 3) (.tmp 12) rfl g ta (by rw [hg]; rfl) rfl 130 _ (HS2.out.heap 0 rfl) (by rw [hst]; kernel_rfl) (by rw [hst]; rfl) hone ?_
 refine wpList_nil ?_
 rw [HTA.out] at HS3
 have hgE : w3.heap.size = g := hg.symm
 simp only [hgE]
 clear hgE hg HS2 HS1
 go_wp2_with fail
 go_loopw [13] (fun k wr => ByRel w g t k wr) (fun k _ => 3 - (intOf k).toNat)
 case atStart => exact ⟨0, by omega, rfl, HTA.out ▸ HS3.out⟩
 case round =>
  clear HS3
  obtain ⟨k, hk, rfl, hS⟩ := hrel
  have hkd := suNi_dig HTD.out k
  obtain ⟨u, hu⟩ : ∃ u, u = suNi t k := ⟨_, rfl⟩
  rw [← hu] at hS hkd
  have HKD := hide hkd
  have HU := hide hu
  by_cases hlt : k < 3
  ·have d3 : decide ((k : Int) < 3) = true := by simp; omega
   obtain ⟨ua, hua⟩ : ∃ a, a = (ivs u).toArray := ⟨_, rfl⟩
   have hsu : ua.size = 16 := by rw [hua, List.size_toArray, ivs_len]; exact hkd.1
   have hou : ua.all (·.oneCell') = true := by rw [hua]; exact ivs_all _
   rw [← hua] at hS
   have HUA := hide hua
   have HS := hide hS
   clear hS hu hua hkd
   go_upto_region 4 with fail
   refine wp_region_list ?_
   refine wpList_load_row rfl 130 (.tmp 3) rfl g rfl 130 ua _ _ (HS.out.heap 0 rfl) Tryz.underlying130 rfl (by rw [hsu]; kernel_rfl) ?_
   refine wpList_plain rfl ?_
   intro K hK
   go_simp
   refine hK _ _ ?_
   clear hK K
   have HS2 := hide (show St w NoB _ _ from HS.out.alloc #[.int .i64 0, .int .i64 0, .int .i64 0, .int .i64 0, .int .i64 0, .int .i64 0, .int .i64 0, .int .i64 0, .int .i64 0, .int .i64 0, .int .i64 0, .int .i64 0, .int .i64 0, .int .i64 0, .int .i64 0, .int .i64 0] 130)
   obtain ⟨g2, hg⟩ : ∃ g, g = wr.heap.size := ⟨_, rfl⟩
   have hne : g2 ≠ g := fun e => by
    have := Chunk.lt (HS.out.sat 0 _ rfl) (k := g) rfl
    omega
   have hne' : g ≠ g2 := fun e => hne e.symm
   rw [← hg] at HS2
   have hS3 := HS2.out.setRow 0 rfl ua
   refine wpList_store_row rfl 130 (.tmp 4) (.tmp 15) rfl g2 ua (by rw [hg]; rfl) rfl 130 _ (HS2.out.heap 0 rfl) (by rw [hsu]; kernel_rfl) (by rw [hsu]; rfl) hou ?_
   refine wpList_nil ?_
   have hgE : wr.heap.size = g2 := hg.symm
   simp only [hgE]
   generalize ((wr.alloc (.cells #[.int .i64 0, .int .i64 0, .int .i64 0, .int .i64 0, .int .i64 0, .int .i64 0, .int .i64 0, .int .i64 0, .int .i64 0, .int .i64 0, .int .i64 0, .int .i64 0, .int .i64 0, .int .i64 0, .int .i64 0, .int .i64 0] 130)).setRow g2 ua) = wq at hS3 ⊢
   rw [HUA.out] at hS3
   have HS3 := hide (show St w NoB wq [.cells g2 (ivs u).toArray 130, .cells g (ivs u).toArray 130] from hS3)
   have c0 : wq.cell? ⟨g, 0, none⟩ = some (.int .i64 (u.getD 0 0)) := by rw [HS3.out.cell 1 rfl 0]; exact ivs_get (len16 HKD.out.1 (by omega))
   have c1 : wq.cell? ⟨g2, 0, none⟩ = some (.int .i64 (u.getD 0 0)) := by rw [HS3.out.cell 0 rfl 0]; exact ivs_get (len16 HKD.out.1 (by omega))
   have f1 := HS3.out.free 0 rfl 0
   have b0 := HKD.out.2 0 _ (len16 HKD.out.1 (by omega))
   have HS4 := hide (show St w NoB (wq.setCell ⟨g2, 0, none⟩ (.int .i64 (u.getD 0 0 - 65517))) [.cells g2 (ivs (suA u 1)).toArray 130, .cells g (ivs u).toArray 130] by
    have h := HS3.out.setCell 0 rfl 0 (.int .i64 (u.getD 0 0 - 65517))
    simp only [List.set_cons_zero, ivs_set] at h
    rw [suA_one HKD.out.1] at h
    exact h)
   obtain ⟨u0, hu0⟩ : ∃ x, x = u.getD 0 0 := ⟨_, rfl⟩
   rw [← hu0] at c0 c1 b0 HS4
   obtain ⟨b00, b01⟩ := b0
   clear hgE hg HS2 HS hS3 hu0 HS3
   go_wp2_with fail
   go_loopw [5] (fun i wr => BzRel w g g2 u i wr) (fun i _ => 16 - (intOf i).toNat)
   case atStart => exact ⟨0, by omega, rfl, HS4.out⟩
   case round =>
    clear HS4 c0 c1 f1 b00 b01
    obtain ⟨j, hj, rfl, hS⟩ := hrel
    have HS := hide hS
    by_cases hlt : j < 15
    ·have hy0 := suL_bd HKD.out (i := j) (by omega)
     have hk0 := suL_ky HKD.out j (by omega)
     have hz0 := HKD.out.2 (j + 1) _ (len16 HKD.out.1 (by omega))
     have hv0 := suL_get HKD.out.1 (i := j + 1) (by omega)
     have c0 : wr.cell? ⟨g, j + 1, none⟩ = some (.int .i64 (u.getD (j + 1) 0)) := by rw [hS.cell 1 rfl (j + 1)]; exact ivs_get (len16 HKD.out.1 (by omega))
     have c1 : wr.cell? ⟨g2, j, none⟩ = some (.int .i64 ((suL u).getD j 0 + ky (suL u) j)) := by rw [hS.cell 0 rfl j]; exact ivs_get (suA_at HKD.out.1 (i := j + 1) (by omega) (by omega))
     have c2 : wr.cell? ⟨g2, j + 1, none⟩ = some (.int .i64 (u.getD (j + 1) 0)) := by rw [hS.cell 0 rfl (j + 1)]; exact ivs_get (suA_next HKD.out.1 (i := j + 1) (by omega) (by omega))
     have f1 := hS.free 0 rfl j
     have f2 := hS.free 0 rfl (j + 1)
     have HT := hide (suA_step HKD.out.1 (i := j + 1) (by omega) (by omega))
     have hdd : dy (suL u) j = ((suL u).getD j 0 + ky (suL u) j) % 65536 := rfl
     have hkk : ky (suL u) (j + 1) = ((suL u).getD j 0 + ky (suL u) j) / 65536 := rfl
     have HDD := hide hdd
     have HKK := hide hkk
     have HV := hide hv0
     obtain ⟨y, hy⟩ : ∃ y, y = (suL u).getD j 0 + ky (suL u) j := ⟨_, rfl⟩
     obtain ⟨z, hz⟩ : ∃ z, z = u.getD (j + 1) 0 := ⟨_, rfl⟩
     rw [← hy] at c1
     rw [← hz] at c0 c2 hz0
     have y0 : -65536 ≤ y := by omega
     have y1 : y ≤ 65535 := by omega
     obtain ⟨z0, z1⟩ := hz0
     have HY := hide hy
     have HZ := hide hz
     have j16 : (j : Int) + 1 < 16 := by omega
     have d16 : decide ((j : Int) + 1 < 16) = true := by simp; omega
     clear hy0 hk0 hv0 hdd hkk hy hz hS
     by_cases h15 : j = 14
     ·subst h15
      have hq : pRow.getD (14 + 1) 0 = 32767 := rfl
      have HQ := hide hq
      clear hq
      by_cases hneg : y < 0
      ·have dn : decide (y < 0) = true := by simp; omega
       go_wp2_with fail
       go_roundw
       case rel =>
        have h3 := ((((HS.out.setCell 0 rfl 15 (.int .i64 (z - 65535))).setCell 0 rfl 15 (.int .i64 (z - 32767))).setCell 0 rfl 15 (.int .i64 (z - 32767 - 1))).setCell 0 rfl 14 (.int .i64 (y + 65536)))
        simp only [List.set_cons_zero, ivs_set, List.set_set] at h3
        have e1 : z - 32767 - 1 = (suL u).getD (15) 0 + ky (suL u) (15) := by rw [HV.out, HKK.out, HQ.out, ← HY.out, ← HZ.out]; omega
        have e2 : y + 65536 = dy (suL u) 14 := by rw [HDD.out, ← HY.out]; omega
        have e3 : ((suA u (14 + 1)).set (15) (z - 32767 - 1)).set 14 (y + 65536) = suA u (14 + 1 + 1) := by rw [e1, e2]; exact HT.out
        rw [e3] at h3
        exact ⟨14 + 1, by omega, by go_num, h3⟩
       case measure => (simp [intOf]) <;> omega
      ·have dn : decide (y < 0) = false := by simp; omega
       go_wp2_with fail
       go_roundw
       case rel =>
        have h3 := ((HS.out.setCell 0 rfl 15 (.int .i64 (z - 65535))).setCell 0 rfl 15 (.int .i64 (z - 32767)))
        simp only [List.set_cons_zero, ivs_set, List.set_set] at h3
        have e1 : z - 32767 = (suL u).getD (15) 0 + ky (suL u) (15) := by rw [HV.out, HKK.out, HQ.out, ← HY.out, ← HZ.out]; omega
        have e2 : y = dy (suL u) 14 := by rw [HDD.out, ← HY.out]; omega
        have e4 : ((suA u (14 + 1)).set (15) (z - 32767)).set 14 y = (suA u (14 + 1)).set (15) (z - 32767) := set_same (by rw [List.getElem?_set_ne (by omega), HY.out]; exact suA_at HKD.out.1 (i := 14 + 1) (by omega) (by omega))
        have e3 : (suA u (14 + 1)).set (15) (z - 32767) = suA u (14 + 1 + 1) := by rw [← e4, e1, e2]; exact HT.out
        rw [e3] at h3
        exact ⟨14 + 1, by omega, by go_num, h3⟩
       case measure => (simp [intOf]) <;> omega
     ·have e15 : decide ((j : Int) + 1 = 15) = false := by simp; omega
      have e15b : ((j : Int) + 1 == 15) = false := by simp; omega
      have e15c : ((j : Int) == 14) = false := by simp; omega
      have e15d : decide ((j : Int) = 14) = false := by simp; omega
      have n15 : ¬ (j : Int) = 14 := by omega
      have hq := pRow_mid (i := j + 1) (by omega) (by omega)
      have HQ := hide hq
      clear hq
      by_cases hneg : y < 0
      ·have dn : decide (y < 0) = true := by simp; omega
       go_wp2_with fail
       go_roundw
       case rel =>
        have h3 := (((HS.out.setCell 0 rfl (j + 1) (.int .i64 (z - 65535))).setCell 0 rfl (j + 1) (.int .i64 (z - 65535 - 1))).setCell 0 rfl j (.int .i64 (y + 65536)))
        simp only [List.set_cons_zero, ivs_set, List.set_set] at h3
        have e1 : z - 65535 - 1 = (suL u).getD (j + 1) 0 + ky (suL u) (j + 1) := by rw [HV.out, HKK.out, HQ.out, ← HY.out, ← HZ.out]; omega
        have e2 : y + 65536 = dy (suL u) j := by rw [HDD.out, ← HY.out]; omega
        have e3 : ((suA u (j + 1)).set (j + 1) (z - 65535 - 1)).set j (y + 65536) = suA u (j + 1 + 1) := by rw [e1, e2]; exact HT.out
        rw [e3] at h3
        exact ⟨j + 1, by omega, by go_num, h3⟩
       case measure => (simp [intOf]) <;> omega
      ·have dn : decide (y < 0) = false := by simp; omega
       go_wp2_with fail
       go_roundw
       case rel =>
        have h3 := (HS.out.setCell 0 rfl (j + 1) (.int .i64 (z - 65535)))
        simp only [List.set_cons_zero, ivs_set, List.set_set] at h3
        have e1 : z - 65535 = (suL u).getD (j + 1) 0 + ky (suL u) (j + 1) := by rw [HV.out, HKK.out, HQ.out, ← HY.out, ← HZ.out]; omega
        have e2 : y = dy (suL u) j := by rw [HDD.out, ← HY.out]; omega
        have e4 : ((suA u (j + 1)).set (j + 1) (z - 65535)).set j y = (suA u (j + 1)).set (j + 1) (z - 65535) := set_same (by rw [List.getElem?_set_ne (by omega), HY.out]; exact suA_at HKD.out.1 (i := j + 1) (by omega) (by omega))
        have e3 : (suA u (j + 1)).set (j + 1) (z - 65535) = suA u (j + 1 + 1) := by rw [← e4, e1, e2]; exact HT.out
        rw [e3] at h3
        exact ⟨j + 1, by omega, by go_num, h3⟩
       case measure => (simp [intOf]) <;> omega
    ·obtain rfl : j = 15 := by omega
     have hsE : suA u (15 + 1) = suE u := suA_end HKD.out.1
     rw [hsE] at hS
     have c1 : wr.cell? ⟨g2, 15, none⟩ = some (.int .i64 ((suL u).getD 15 0 + ky (suL u) 15)) := by rw [hS.cell 0 rfl 15]; exact ivs_get rfl
     have hN : suNi t (k + 1) = suN u := by rw [HU.out]; rfl
     have HN := hide hN
     have hE : suN u = if 0 ≤ (suL u).getD 15 0 + ky (suL u) 15 then suE u else u := rfl
     have HEE := hide hE
     have hb := suL_bd HKD.out (i := 15) (by omega)
     have hk15 := suL_ky HKD.out 15 (by omega)
     obtain ⟨y, hy⟩ : ∃ y, y = (suL u).getD 15 0 + ky (suL u) 15 := ⟨_, rfl⟩
     rw [← hy] at c1 HEE
     have y0 : -65536 ≤ y := by omega
     have y1 : y ≤ 65535 := by omega
     clear hN hE hsE hb hk15 hy HS
     by_cases hpos : 0 ≤ y
     ·have dp : decide (0 ≤ y) = true := by simp; omega
      have dpn : decide (y < 0) = false := by simp; omega
      have hEE := HEE.out
      rw [if_pos hpos] at hEE
      obtain ⟨ea, hea⟩ : ∃ a, a = (ivs (suE u)).toArray := ⟨_, rfl⟩
      have hse : ea.size = 16 := by rw [hea, List.size_toArray, ivs_len]; unfold suE; rw [List.length_append, dyL_len]; rfl
      have hoe : ea.all (·.oneCell') = true := by rw [hea]; exact ivs_all _
      have hsu : (ivs u).toArray.size = 16 := by rw [List.size_toArray, ivs_len]; exact HKD.out.1
      rw [← hea] at hS
      have HEA := hide (hea.trans (by rw [← hEE, ← HN.out]))
      have HS7 := hide hS
      have HS8 := hide (show St w NoB (wr.setRow g ea) [.cells g ea 130] from (hS.setRow 1 rfl ea).pickL [1] (by decide) rfl)
      clear hS hEE hea
      go_upto_region 16 with fail
      refine wp_region_list ?_
      refine wpList_load_row rfl 130 (.tmp 4) rfl g2 rfl 130 ea _ _ (HS7.out.heap 0 rfl) Tryz.underlying130 rfl (by rw [hse]; kernel_rfl) ?_
      refine wpList_store_row rfl 130 (.tmp 3) (.tmp 57) rfl g ea rfl rfl 130 _ (HS7.out.heap 1 rfl) (by rw [hse]; kernel_rfl) (by rw [hse, hsu]) hoe ?_
      refine wpList_nil ?_
      go_wp2_with fail
      go_roundw
      case rel => exact ⟨k + 1, by omega, by go_num, HEA.out ▸ HS8.out⟩
      case measure => (simp [intOf]) <;> omega
     ·have dp : decide (0 ≤ y) = false := by simp; omega
      have dpn : decide (y < 0) = true := by simp; omega
      have hEE := HEE.out
      rw [if_neg hpos] at hEE
      have HS8 := hide (show St w NoB wr [.cells g (ivs (suNi t (k + 1))).toArray 130] by
       rw [HN.out, hEE]
       exact hS.pickL [1] (by decide) rfl)
      clear hS hEE
      go_wp2_with fail
      go_roundw
      case rel => exact ⟨k + 1, by omega, by go_num, HS8.out⟩
      case measure => (simp [intOf]) <;> omega
  ·obtain rfl : k = 3 := by omega
   have hb : u = bytN xs := by rw [hu, HTT.out]; rfl
   have hbb := HE.out
   rw [← hb] at hbb
   have HV := hide (show leB 32 (nv xs % (Pq : Int)).toNat = byN u 16 by
    unfold byN
    rw [List.take_of_length_le (by rw [hkd.1]; exact Nat.le_refl _), rowsB u (dig_all hkd), hkd.1, hbb.2])
   obtain ⟨ua, hua⟩ : ∃ a, a = (ivs u).toArray := ⟨_, rfl⟩
   have hsu : ua.size = 16 := by rw [hua, List.size_toArray, ivs_len]; exact hkd.1
   rw [← hua] at hS
   have HUA := hide hua
   have HS := hide hS
   clear hS hu hua hkd hbb hb
   simp only [Int.cast_ofNat_Int]
   go_upto_region 19 with fail
   refine wp_region_list ?_
   refine wpList_load_row rfl 130 (.tmp 3) rfl g rfl 130 ua _ _ (HS.out.heap 0 rfl) Tryz.underlying130 rfl (by rw [hsu]; kernel_rfl) ?_
   have HSR := hide ((HS.out.row (Below.refl _ _) (World.ownsRow_nil _ _ 5 1)).pickL [0] (by decide) rfl : St w NoB wr [.row (.slice none 0 0) 5 1 0 []])
   go_wp2_with fail
   go_loopw [6, 60] (fun b i wr => BvRel w u b i wr) (fun _ i _ => 16 - (intOf i).toNat)
   case atStart => exact ⟨0, none, 0, by omega, rfl, rfl, HSR.out⟩
   case round =>
    clear HSR HS
    obtain ⟨i, A, c, hi, rfl, rfl, hS⟩ := hrel
    have HS := hide hS
    by_cases hlt : i < 16
    ·have d16 : decide ((i : Int) < 16) = true := by simp; omega
     have i16 : (i : Int) < 16 := by omega
     have hxd := HKD.out.2 i _ (len16 HKD.out.1 hlt)
     have hix : ∀ W, (Instr.index 130 (.agg ua) (.int .i64 (i : Int))).run Tryz.prog W = .ok (.int .i64 (u.getD i 0)) W := fun W => by
      rw [HUA.out]
      exact ix16 HKD.out.1 hlt W
     have HT := hide (byN_succ u HKD.out.1 i hlt)
     obtain ⟨x, hx⟩ : ∃ x, x = u.getD i 0 := ⟨_, rfl⟩
     rw [← hx] at hix hxd HT
     obtain ⟨x0, x1⟩ := hxd
     obtain ⟨p, hp⟩ : ∃ p : Nat, (p : Int) = x % 256 := ⟨(x % 256).toNat, by omega⟩
     obtain ⟨q, hq⟩ : ∃ q : Nat, (q : Int) = x / 256 % 256 := ⟨(x / 256 % 256).toNat, by omega⟩
     have hr : bvs (rowB x) = [.int .u8 (p : Int), .int .u8 (q : Int)] := by
      have e1 : (x % 256).toNat = p := by omega
      have e2 : (x / 256 % 256).toNat = q := by omega
      simp only [bvs, rowB, List.map_cons, List.map_nil, bv, e1, e2, UInt8.toNat_ofNat']
      rw [Nat.mod_eq_of_lt (by omega), Nat.mod_eq_of_lt (by omega)]
     have HRB := hide hr
     have w1 : IntKind.u8.wrap x = (p : Int) := by rw [IntKind.wrap_u8]; omega
     have w2 : IntKind.u8.wrap (x / 256) = (q : Int) := by rw [IntKind.wrap_u8]; omega
     have w3 : x % 256 = (p : Int) := hp.symm
     have w4 : x / 256 % 256 = (q : Int) := hq.symm
     have p256 : (p : Int) < 256 := by omega
     have q256 : (q : Int) < 256 := by omega
     clear hx hp hq hr hS
     go_wp2_with (at_builtin; refine wl_append1 rfl rfl tyB HS.out 0 rfl rfl (us := [.int .u8 (p : Int), .int .u8 (q : Int)]) rfl rfl ?_ ?_ (by decide) ?_; (intro u hu; simp only [List.mem_cons, List.not_mem_nil, or_false] at hu; rcases hu with rfl | rfl <;> rfl); (simp only [List.length_cons, List.length_nil]; omega); intro B3 d3 w3 hS3)
     go_roundw
     case rel =>
      simp only [List.set_cons_zero] at hS3
      rw [← HRB.out, ← bvs_append, ← HT.out] at hS3
      exact ⟨i + 1, B3, d3, by omega, by go_num, by rw [Nat.mul_add], hS3⟩
     case measure => (simp [intOf]) <;> omega
    ·obtain rfl : i = 16 := by omega
     clear hS
     go_wp2_with fail
     go_ret
     exact ⟨A, c, rfl, HS.out.below, by rw [HV.out]; exact HS.out.ownsRow 0 rfl⟩
end Go.Proofs.YtnohmgpmmhlloaaGreatDoor

namespace Go.Proofs.YtnohmgpmmhlloaaGreatDoor
open Go.RowKit
set_option linter.unusedSimpArgs false

theorem rd_at' {w : World} {B : Option Addr} {n d : Nat} {xs : List Value} {k : Nat} {u : Value} (h : Rd w (.slice B n d) 1 n xs) (hk : xs[k]? = some u) : ∃ b o, B = some ⟨b, o, none⟩ ∧ w.cell? ⟨b, o + k, none⟩ = some u := by
 rcases h.cases with ⟨_, _, h0⟩ | ⟨b, o, sp, c', hv, _, _, _, hl, h4, hc⟩
 ·rw [h0] at hk; simp at hk
 ·injection hv with hv1 _ _
  have hkl : k < xs.length := (List.getElem?_eq_some_iff.1 hk).1
  have := h4 (by omega)
  subst this hv1
  exact ⟨b, o, rfl, hc k u hk⟩
def NE (xs : List Int) (X : FK) : Prop := NB xs ∧ nv xs % (Pq : Int) = (X.val : Int)
theorem ne_small (n : Nat) (h : n < 4294967296) : NB [((n % 65536 : Nat) : Int), ((n / 65536 : Nat) : Int), 0, 0, 0, 0, 0, 0, 0, 0, 0, 0, 0, 0, 0, 0] ∧ nv [((n % 65536 : Nat) : Int), ((n / 65536 : Nat) : Int), 0, 0, 0, 0, 0, 0, 0, 0, 0, 0, 0, 0, 0, 0] = (n : Int) := by
 refine ⟨⟨rfl, fun k x hx => ?_⟩, by simp only [nv]; omega⟩
 match k, hx with
 | 0, hx => simp at hx; subst hx; omega
 | 1, hx => simp at hx; subst hx; omega
 | k + 2, hx =>
  have : x = 0 := by
   have hm := List.mem_of_getElem? hx
   have h2 := List.mem_of_getElem? (l := List.replicate 14 (0 : Int)) (i := k) (a := x) (by simpa using hx)
   exact (List.mem_replicate.1 h2).2
  subst this
  simp
theorem smallN_any (n : Nat) (w : World) (h : n < 4294967296) :
  Calls Tryz.prog 140 #[.int .u32 (n : Int)] w fun e w' => e = .returned (.agg (ivs [((n % 65536 : Nat) : Int), ((n / 65536 : Nat) : Int), 0, 0, 0, 0, 0, 0, 0, 0, 0, 0, 0, 0, 0, 0]).toArray) ∧ Below w.heap.size w w' := by
 have e1 : bits .and .u32 (n : Int) 65535 = ((n % 65536 : Nat) : Int) := by
  rw [show n % 65536 = n &&& 65535 from (Nat.and_two_pow_sub_one_eq_mod n 16).symm]
  exact u32_and_nat n 65535 h (by omega)
 have e2 : (n : Int) / 65536 = ((n / 65536 : Nat) : Int) := by omega
 obtain ⟨p, hp⟩ : ∃ p, p = n % 65536 := ⟨_, rfl⟩
 obtain ⟨q, hq⟩ : ∃ q, q = n / 65536 := ⟨_, rfl⟩
 have p1 : (p : Int) < 65536 := by omega
 have q1 : (q : Int) < 65536 := by omega
 rw [← hp] at e1 ⊢
 rw [← hq] at e2 ⊢
 have hN : (n : Int) < 4294967296 := by omega
 clear hp hq h
 go_enter Tryz.func140, Tryz.ntmps140
 have HS := hide ((St.init w NoB).alloc (ivs [(p : Int), (q : Int), 0, 0, 0, 0, 0, 0, 0, 0, 0, 0, 0, 0, 0, 0]).toArray 130)
 go_wp2_with fail
 refine bodyPost_ret (results_cell_row rfl _ _ w.heap.size _ _ _ _ rfl (HS.out.heap 0 rfl) Tryz.underlying130 rfl (by kernel_rfl)) rfl ?_
 exact ⟨rfl, HS.out.below⟩
end Go.Proofs.YtnohmgpmmhlloaaGreatDoor

namespace Go.Proofs.YtnohmgpmmhlloaaGreatDoor
open Go.RowKit
set_option linter.unusedSimpArgs false

theorem pq_cast (n : Nat) : ((n % Pq : Nat) : Int) = (n : Int) % (Pq : Int) := Int.natCast_emod n Pq
theorem ne_add {xs ys : List Int} {X Y : FK} (h : NE xs X) (h2 : NE ys Y) : NE (carL (List.zipWith (· + ·) xs ys)) (X + Y) := by
 refine ⟨nb_addN h.1 h2.1, ?_⟩
 rw [carL_mod _ (by rw [List.length_zipWith, h.1.1, h2.1.1]; rfl), nv_zipAdd _ _ (by rw [h.1.1, h2.1.1]), fadd_val, pq_cast, Int.natCast_add, ← h.2, ← h2.2, ← Int.add_emod]
theorem ne_sub {xs ys : List Int} {X Y : FK} (h : NE xs X) (h2 : NE ys Y) : NE (carL (List.zipWith (· - ·) xs ys)) (X - Y) := by
 refine ⟨nb_subN h.1 h2.1, ?_⟩
 have hy := Y.isLt
 rw [carL_mod _ (by rw [List.length_zipWith, h.1.1, h2.1.1]; rfl), nv_zip _ _ (by rw [h.1.1, h2.1.1]), fsub_val, pq_cast, Int.natCast_add, Int.natCast_sub (by omega), ← h.2, ← h2.2]
 rw [show nv xs % (Pq : Int) + ((Pq : Int) - nv ys % (Pq : Int)) = nv xs % (Pq : Int) - nv ys % (Pq : Int) + (Pq : Int) from by omega, Int.add_emod_right, ← Int.sub_emod]
theorem ne_mul {xs ys : List Int} {X Y : FK} (h : NE xs X) (h2 : NE ys Y) : NE (muN xs ys) (X * Y) := by
 obtain ⟨h3, h4⟩ := muN_ok h.1 h2.1
 refine ⟨h3, ?_⟩
 rw [h4, fmul_val, pq_cast, Int.natCast_mul, ← h.2, ← h2.2, ← Int.mul_emod]
theorem ne_toNat {xs : List Int} {X : FK} (h : NE xs X) : (nv xs % (Pq : Int)).toNat = X.val := by rw [h.2]; rfl
def zerN : List Int := List.replicate 16 0
theorem ne_zero : NE zerN 0 := by
 refine ⟨⟨rfl, fun k x hx => ?_⟩, ?_⟩
 ·have := (List.mem_replicate.1 (List.mem_of_getElem? hx)).2
  subst this
  split <;> omega
 ·rw [fzero_val]
  show nv (List.replicate 16 0) % _ = _
  rw [show nv (List.replicate 16 0) = 0 from by decide]
  simp
def ResN (w : World) (X : FK) (e : Ending) (w' : World) : Prop := ∃ zs, NE zs X ∧ e = .returned (.agg (ivs zs).toArray) ∧ Below w.heap.size w w'
section
variable {xs ys : List Int} {X Y : FK}
theorem addC (w : World) (h : NE xs X) (h2 : NE ys Y) : Calls Tryz.prog 157 #[.agg (ivs xs).toArray, .agg (ivs ys).toArray] w (ResN w (X + Y)) :=
 (addN_any xs ys w h.1 h2.1).mono fun _ _ he => ⟨_, ne_add h h2, he.1, he.2⟩
theorem subC (w : World) (h : NE xs X) (h2 : NE ys Y) : Calls Tryz.prog 156 #[.agg (ivs xs).toArray, .agg (ivs ys).toArray] w (ResN w (X - Y)) :=
 (subN_any xs ys w h.1 h2.1).mono fun _ _ he => ⟨_, ne_sub h h2, he.1, he.2⟩
theorem mulC (w : World) (h : NE xs X) (h2 : NE ys Y) : Calls Tryz.prog 137 #[.agg (ivs xs).toArray, .agg (ivs ys).toArray] w (ResN w (X * Y)) :=
 (mulN_any xs ys w h.1 h2.1).mono fun _ _ he => ⟨_, ne_mul h h2, he.1, he.2⟩
theorem bytesC (w : World) (h : NE xs X) : Calls Tryz.prog 136 #[.agg (ivs xs).toArray] w fun e w' => ∃ B d, e = .returned (.slice B 32 d) ∧ Below w.heap.size w w' ∧ w'.ownsRow w.heap.size 5 1 (.slice B 32 d) 32 (bvs (leB 32 X.val)) := by
 rw [← ne_toNat h]
 exact bytesN_any xs w h.1
end
theorem enBytesN (args : Array Value) (w : World) : (callFunc 136 args).run Tryz.prog w = .ok (.enter 136 args) w := by kernel_rfl
end Go.Proofs.YtnohmgpmmhlloaaGreatDoor

namespace Go.Proofs.YtnohmgpmmhlloaaGreatDoor
open Go.RowKit
set_option linter.unusedSimpArgs false

theorem and_one8 (n : Nat) (h : n < 256) : bits .and .u8 (n : Int) 1 = ((n % 2 : Nat) : Int) := by
 rw [show n % 2 = n &&& 1 from (Nat.and_two_pow_sub_one_eq_mod n 1).symm]
 exact u8_and_nat n 1 h (by omega)
theorem oddC {xs : List Int} {X : FK} (w : World) (h : NE xs X) :
  Calls Tryz.prog 138 #[.agg (ivs xs).toArray] w fun e w' => e = .returned (.bool (decide (X.val % 2 = 1))) ∧ Below w.heap.size w w' := by
 have HB1 := hide (fun W => bytesC W h)
 obtain ⟨xa, hxa⟩ : ∃ a, a = (ivs xs).toArray := ⟨_, rfl⟩
 have hsz : xa.size = 16 := by rw [hxa, List.size_toArray, ivs_len]; exact h.1.1
 rw [← hxa] at HB1 ⊢
 have HS := hide ((St.init w NoB).alloc xa 130)
 clear hxa h
 go_enter Tryz.func138, Tryz.ntmps138
 go_upto_region 1 with fail
 refine wp_region_list ?_
 refine wpList_load_row rfl 130 (.tmp 1) rfl w.heap.size rfl 130 xa _ _ (HS.out.heap 0 rfl) Tryz.underlying130 rfl (by rw [hsz]; kernel_rfl) ?_
 refine wl_callN rfl rfl enBytesN rfl (HB1.out _) ?_
 rintro e w1 ⟨B1, d1, rfl, hb1, ho1⟩
 refine ⟨_, rfl, ?_⟩
 have HS1 := hide (HS.out.call hb1)
 obtain ⟨b, o, rfl, hc⟩ := rd_at' (rd_own ho1) (bvs_get (l := leB 32 X.val) (j := 0) (c := UInt8.ofNat (X.val % 256)) rfl)
 obtain ⟨p, hp⟩ : ∃ p, p = X.val % 256 := ⟨_, rfl⟩
 have p256 : p < 256 := by omega
 rw [UInt8.toNat_ofNat', ← hp, Nat.mod_eq_of_lt (by omega : p < 2 ^ 8), Nat.add_zero] at hc
 have e1 := and_one8 p p256
 have e2 : (((p % 2 : Nat) : Int) == 1) = decide (X.val % 2 = 1) := by
  rw [Bool.eq_iff_iff, beq_iff_eq, decide_eq_true_iff]
  omega
 have e3 : decide (((p % 2 : Nat) : Int) = 1) = decide (X.val % 2 = 1) := by
  rw [decide_eq_decide]
  omega
 obtain ⟨r, hr⟩ : ∃ r, r = p % 2 := ⟨_, rfl⟩
 obtain ⟨bb, hbb⟩ : ∃ b, b = decide (X.val % 2 = 1) := ⟨_, rfl⟩
 rw [← hr] at e1 e2 e3
 rw [← hbb] at e2 e3
 have HBB := hide hbb
 clear hr hbb hp ho1
 go_wp2_with fail
 go_ret
 exact ⟨by rw [← HBB.out]; rfl, HS1.out.below⟩
def fpw (X : FK) (e : Nat) : FK := ⟨X.val ^ e % Pq, Nat.mod_lt _ pq_pos⟩
theorem fpw_val (X : FK) (e : Nat) : (fpw X e).val = X.val ^ e % Pq := rfl
theorem fpw_mul (X : FK) (e f : Nat) : fpw X e * fpw X f = fpw X (e + f) := Fin.ext (by rw [fmul_val, fpw_val, fpw_val, fpw_val, Nat.pow_add, ← Nat.mul_mod])
theorem fpw_one (X : FK) : fpw X 1 = X := Fin.ext (by rw [fpw_val, Nat.pow_one]; exact Nat.mod_eq_of_lt X.isLt)
theorem fpw_zero (X : FK) : (fpw X 0).val = 1 := by rw [fpw_val, Nat.pow_zero]; exact Nat.mod_eq_of_lt (by have := Pq_256.2; omega)
def bitE (bs : List Bool) : Nat → Nat
 | 0 => 0
 | j + 1 => 2 * bitE bs j + (if bs.getD (254 - j) false then 1 else 0)
def blv (bs : List Bool) : List Value := bs.map Value.bool
theorem blv_len (bs : List Bool) : (blv bs).length = bs.length := by simp [blv]
theorem blv_get {bs : List Bool} {k : Nat} {x : Bool} (h : bs[k]? = some x) : (blv bs).toArray[k]? = some (.bool x) := by simp [blv, h]
def PwRel (w : World) (X : FK) (xs : List Int) (bs : List Bool) (g : Nat) (iv : Value) (wr : World) : Prop :=
 ∃ (j : Nat) (zs : List Int), j ≤ 255 ∧ iv = .int .i64 (254 - (j : Int)) ∧ NE zs (fpw X (bitE bs j)) ∧ St w NoB wr [.cells g (ivs zs).toArray 130, .cells (w.heap.size + 2) (ivs (List.replicate 16 0)).toArray 130, .cells (w.heap.size + 1) (blv bs).toArray 206, .cells w.heap.size (ivs xs).toArray 130]
theorem enMulN (args : Array Value) (w : World) : (callFunc 137 args).run Tryz.prog w = .ok (.enter 137 args) w := by kernel_rfl
theorem enSmallN (args : Array Value) (w : World) : (callFunc 140 args).run Tryz.prog w = .ok (.enter 140 args) w := by kernel_rfl
theorem ivs_size {zs : List Int} {X : FK} (h : NE zs X) : (ivs zs).toArray.size = 16 := by rw [List.size_toArray, ivs_len]; exact h.1.1
theorem powerN_any (xs : List Int) (X : FK) (bs : List Bool) (w : World) (h : NE xs X) (hb : bs.length = 255) :
  Calls Tryz.prog 165 #[.agg (ivs xs).toArray, .agg (blv bs).toArray] w (ResN w (fpw X (bitE bs 255))) := by
 have HN := hide h
 have HL := hide hb
 have hS0 := (((St.init w NoB).alloc (ivs xs).toArray 130).alloc (blv bs).toArray 206).alloc (ivs (List.replicate 16 0)).toArray 130
 rw [size_alloc1, size_alloc1] at hS0
 have HS0 := hide hS0
 clear hS0
 have HSM := hide (fun W => smallN_any 1 W (by omega))
 clear h hb
 go_enter Tryz.func165, Tryz.ntmps165
 go_upto_region 1 with fail
 refine wp_region_list ?_
 refine wl_callN rfl rfl enSmallN rfl (HSM.out _) ?_
 rintro e w1 ⟨rfl, hb1⟩
 refine ⟨_, rfl, ?_⟩
 have HS1 := hide (HS0.out.call hb1)
 have hne1 : NE [((1 % 65536 : Nat) : Int), ((1 / 65536 : Nat) : Int), 0, 0, 0, 0, 0, 0, 0, 0, 0, 0, 0, 0, 0, 0] (fpw X 0) := by
  refine ⟨(ne_small 1 (by omega)).1, ?_⟩
  rw [(ne_small 1 (by omega)).2, fpw_zero]
  have := Pq_256.2
  exact Int.emod_eq_of_lt (by omega) (by omega)
 obtain ⟨z1, hz1⟩ : ∃ z, z = [((1 % 65536 : Nat) : Int), ((1 / 65536 : Nat) : Int), 0, 0, 0, 0, 0, 0, 0, 0, 0, 0, 0, 0, 0, 0] := ⟨_, rfl⟩
 rw [← hz1] at hne1 ⊢
 have HZ1 := hide hne1
 clear hne1 hz1
 refine wpList_plain rfl ?_
 intro K hK
 go_simp
 refine hK _ _ ?_
 clear hK K
 have HS2 := hide (show St w NoB _ _ from HS1.out.alloc #[.int .i64 0, .int .i64 0, .int .i64 0, .int .i64 0, .int .i64 0, .int .i64 0, .int .i64 0, .int .i64 0, .int .i64 0, .int .i64 0, .int .i64 0, .int .i64 0, .int .i64 0, .int .i64 0, .int .i64 0, .int .i64 0] 130)
 obtain ⟨g, hg⟩ : ∃ g, g = w1.heap.size := ⟨_, rfl⟩
 rw [← hg] at HS2
 have HS3 := hide (show St w NoB _ [.cells g (ivs z1).toArray 130, .cells (w.heap.size + 2) (ivs (List.replicate 16 0)).toArray 130, .cells (w.heap.size + 1) (blv bs).toArray 206, .cells w.heap.size (ivs xs).toArray 130] from HS2.out.setRow 0 rfl (ivs z1).toArray)
 refine wpList_store_row rfl 130 (.tmp 5) (.tmp 7) rfl g (ivs z1).toArray (by rw [hg]; rfl) rfl 130 _ (HS2.out.heap 0 rfl) (by rw [ivs_size HZ1.out]; kernel_rfl) (by rw [ivs_size HZ1.out]; rfl) (ivs_all _) ?_
 refine wpList_nil ?_
 have hgE : w1.heap.size = g := hg.symm
 simp only [hgE]
 generalize ((w1.alloc (.cells #[.int .i64 0, .int .i64 0, .int .i64 0, .int .i64 0, .int .i64 0, .int .i64 0, .int .i64 0, .int .i64 0, .int .i64 0, .int .i64 0, .int .i64 0, .int .i64 0, .int .i64 0, .int .i64 0, .int .i64 0, .int .i64 0] 130)).setRow g (ivs z1).toArray) = wq at HS3 ⊢
 have hlt0 := Nat.le_refl w1.heap.size
 clear hgE hg HS2 HS1
 go_wp2_with fail
 go_loopw [6] (fun i wr => PwRel w X xs bs g i wr) (fun i _ => (intOf i + 1).toNat)
 case atStart => exact ⟨0, z1, by omega, rfl, HZ1.out, HS3.out⟩
 case round =>
  clear HS3 HZ1
  obtain ⟨j, zs, hj, rfl, hz, hS⟩ := hrel
  have HZ := hide hz
  have HS := hide hS
  by_cases hlt : j < 255
  ·have dj : decide ((0 : Int) ≤ 254 - (j : Int)) = true := by simp; omega
   have jj : (0 : Int) ≤ 254 - (j : Int) := by omega
   have HM := hide (fun W => mulC W hz hz)
   obtain ⟨bb, hbb⟩ : ∃ b, bs[254 - j]? = some b := ⟨bs[254 - j]'(by rw [HL.out]; omega), List.getElem?_eq_getElem _⟩
   have hE : bitE bs (j + 1) = 2 * bitE bs j + (if bb then 1 else 0) := by rw [bitE, List.getD_eq_getElem?_getD, hbb]; rfl
   rw [fpw_mul, ← Nat.two_mul] at HM
   have HE := hide hE
   clear hz hS hE
   go_upto_region 5 with fail
   refine wp_region_list ?_
   refine wpList_load_row rfl 130 (.tmp 5) rfl g rfl 130 (ivs zs).toArray _ _ (HS.out.heap 0 rfl) Tryz.underlying130 rfl (by rw [ivs_size HZ.out]; kernel_rfl) ?_
   refine wpList_load_row rfl 130 (.tmp 5) rfl g rfl 130 (ivs zs).toArray _ _ (HS.out.heap 0 rfl) Tryz.underlying130 rfl (by rw [ivs_size HZ.out]; kernel_rfl) ?_
   refine wl_callN rfl rfl enMulN rfl (HM.out _) ?_
   rintro e w2 ⟨ys, hy, rfl, hb2⟩
   refine ⟨_, rfl, ?_⟩
   have HY := hide hy
   have HS1 := hide (HS.out.call hb2)
   have HS2 := hide (show St w NoB (w2.setRow g (ivs ys).toArray) [.cells g (ivs ys).toArray 130, .cells (w.heap.size + 2) (ivs (List.replicate 16 0)).toArray 130, .cells (w.heap.size + 1) (blv bs).toArray 206, .cells w.heap.size (ivs xs).toArray 130] from HS1.out.setRow 0 rfl (ivs ys).toArray)
   refine wpList_store_row rfl 130 (.tmp 5) (.tmp 14) rfl g (ivs ys).toArray rfl rfl 130 _ (HS1.out.heap 0 rfl) (by rw [ivs_size HY.out]; kernel_rfl) (by rw [ivs_size HY.out, ivs_size HZ.out]) (ivs_all _) ?_
   refine wpList_nil ?_
   generalize w2.setRow g (ivs ys).toArray = w3 at HS2 ⊢
   have cb : w3.cell? ⟨w.heap.size + 1, 254 - j, none⟩ = some (.bool bb) := by rw [HS2.out.cell 2 rfl (254 - j)]; exact blv_get hbb
   obtain ⟨q, hq⟩ : ∃ q, q = 254 - j := ⟨_, rfl⟩
   rw [← hq] at cb
   have hqi : (254 : Int) - (j : Int) = (q : Int) := by omega
   have q255 : (q : Int) < 255 := by omega
   have HQ := hide hqi
   rw [hqi] at jj dj
   clear HS HS1 hb2 hy hbb hq
   simp only [hqi]
   clear hqi
   cases bb with
   | false =>
    have hE2 := HE.out
    rw [if_neg Bool.false_ne_true, Nat.add_zero] at hE2
    have HE2 := hide hE2
    clear hE2 HE
    go_wp2_with fail
    go_roundw
    case rel => exact ⟨j + 1, ys, by omega, by rw [← HQ.out]; go_num, HE2.out ▸ HY.out, HS2.out⟩
    case measure => (have := HQ.out); (simp [intOf]) <;> omega
   | true =>
    have hE2 := HE.out
    rw [if_pos rfl] at hE2
    have HM2 := hide (fun W => mulC W HY.out HN.out)
    have hx1 : fpw X (2 * bitE bs j) * X = fpw X (bitE bs (j + 1)) := by rw [hE2, ← fpw_mul, fpw_one]
    rw [hx1] at HM2
    clear hE2 HE hx1
    go_upto_region 7 with fail
    refine wp_region_list ?_
    refine wpList_load_row rfl 130 (.tmp 5) rfl g rfl 130 (ivs ys).toArray _ _ (HS2.out.heap 0 rfl) Tryz.underlying130 rfl (by rw [ivs_size HY.out]; kernel_rfl) ?_
    refine wpList_load_row rfl 130 (.tmp 2) rfl w.heap.size rfl 130 (ivs xs).toArray _ _ (HS2.out.heap 3 rfl) Tryz.underlying130 rfl (by rw [ivs_size HN.out]; kernel_rfl) ?_
    refine wl_callN rfl rfl enMulN rfl (HM2.out _) ?_
    rintro e w4 ⟨us, hu, rfl, hb4⟩
    refine ⟨_, rfl, ?_⟩
    have HU := hide hu
    have HS3 := hide (HS2.out.call hb4)
    have HS4 := hide (show St w NoB (w4.setRow g (ivs us).toArray) [.cells g (ivs us).toArray 130, .cells (w.heap.size + 2) (ivs (List.replicate 16 0)).toArray 130, .cells (w.heap.size + 1) (blv bs).toArray 206, .cells w.heap.size (ivs xs).toArray 130] from HS3.out.setRow 0 rfl (ivs us).toArray)
    refine wpList_store_row rfl 130 (.tmp 5) (.tmp 20) rfl g (ivs us).toArray rfl rfl 130 _ (HS3.out.heap 0 rfl) (by rw [ivs_size HU.out]; kernel_rfl) (by rw [ivs_size HU.out, ivs_size HY.out]) (ivs_all _) ?_
    refine wpList_nil ?_
    generalize w4.setRow g (ivs us).toArray = w5 at HS4 ⊢
    clear HS2 HS3 hb4 hu cb
    go_wp2_with fail
    go_roundw
    case rel => exact ⟨j + 1, us, by omega, by rw [← HQ.out]; go_num, HU.out, HS4.out⟩
    case measure => (have := HQ.out); (simp [intOf]) <;> omega
  ·obtain rfl : j = 255 := by omega
   clear hz hS
   go_upto_region 8 with fail
   refine wp_region_list ?_
   refine wpList_load_row rfl 130 (.tmp 5) rfl g rfl 130 (ivs zs).toArray _ _ (HS.out.heap 0 rfl) Tryz.underlying130 rfl (by rw [ivs_size HZ.out]; kernel_rfl) ?_
   have HS3 := hide (HS.out.setRow 1 rfl (ivs zs).toArray)
   refine wpList_store_row rfl 130 (.tmp 4) (.tmp 21) rfl (w.heap.size + 2) (ivs zs).toArray rfl rfl 130 _ (HS.out.heap 1 rfl) (by rw [ivs_size HZ.out]; kernel_rfl) (by rw [ivs_size HZ.out]; rfl) (ivs_all _) ?_
   refine wpList_nil ?_
   go_wp2_with fail
   refine bodyPost_ret (results_cell_row rfl _ _ (w.heap.size + 2) _ _ _ _ rfl (HS3.out.heap 1 rfl) Tryz.underlying130 rfl (by rw [ivs_size HZ.out]; kernel_rfl)) rfl ?_
   exact ⟨zs, HZ.out, rfl, HS3.out.below⟩
def invB (i : Nat) : List Bool := (List.range 255).map (fun j => decide (j < i ∧ j ≠ 2 ∧ j ≠ 4))
theorem invB_len (i : Nat) : (invB i).length = 255 := by simp [invB]
theorem invB_get (i k : Nat) (h : k < 255) : (invB i)[k]? = some (decide (k < i ∧ k ≠ 2 ∧ k ≠ 4)) := by
 unfold invB
 rw [List.getElem?_map, List.getElem?_range h]
 rfl
theorem invB_set (i : Nat) (h : i < 255) : (invB i).set i (decide (i ≠ 2 ∧ i ≠ 4)) = invB (i + 1) := by
 apply List.ext_getElem?
 intro k
 rcases Nat.lt_or_ge k 255 with hk | hk
 ·rw [invB_get _ _ hk, List.getElem?_set]
  split
  ·rename_i e
   subst e
   rw [if_pos (by rw [invB_len]; exact hk)]
   congr 1
   rw [decide_eq_decide]
   omega
  ·rw [invB_get _ _ hk]
   congr 1
   rw [decide_eq_decide]
   omega
 ·rw [List.getElem?_eq_none (by rw [List.length_set, invB_len]; exact hk), List.getElem?_eq_none (by rw [invB_len]; exact hk)]
theorem invBE : bitE (invB 255) 255 = Pq - 2 := by unfold Pq; decide +kernel
theorem fpw_inv (X : FK) : fpw X (Pq - 2) = finv X := Fin.ext (by rw [fpw_val, finv_val])
theorem blv_set (bs : List Bool) (k : Nat) (b : Bool) : (blv bs).toArray.setIfInBounds k (.bool b) = (blv (bs.set k b)).toArray := by simp [blv, List.map_set]
def IvRel (w : World) (xs : List Int) (iv : Value) (wr : World) : Prop :=
 ∃ i : Nat, i ≤ 255 ∧ iv = .int .i64 (i : Int) ∧ St w NoB wr [.cells (w.heap.size + 2) (blv (invB i)).toArray 206, .cells (w.heap.size + 1) (ivs (List.replicate 16 0)).toArray 130, .cells w.heap.size (ivs xs).toArray 130]
theorem zero255 (W : World) : (zeroValue 206).run Tryz.prog W = .ok (.agg (blv (invB 0)).toArray) W := by kernel_rfl
theorem enPowerN (args : Array Value) (w : World) : (callFunc 165 args).run Tryz.prog w = .ok (.enter 165 args) w := by kernel_rfl
theorem invN_any (xs : List Int) (X : FK) (w : World) (h : NE xs X) :
  Calls Tryz.prog 135 #[.agg (ivs xs).toArray] w (ResN w (finv X)) := by
 have HN := hide h
 have HP := hide (fun W => powerN_any xs X (invB 255) W h (invB_len 255))
 rw [invBE, fpw_inv] at HP
 have hS0 := (((St.init w NoB).alloc (ivs xs).toArray 130).alloc (ivs (List.replicate 16 0)).toArray 130).alloc (blv (invB 0)).toArray 206
 rw [size_alloc1, size_alloc1] at hS0
 have HS0 := hide hS0
 have hz := zero255
 clear hS0 h
 go_enter Tryz.func135, Tryz.ntmps135
 go_wp2_with fail
 go_loopw [5] (fun i wr => IvRel w xs i wr) (fun i _ => 255 - (intOf i).toNat)
 case atStart => exact ⟨0, by omega, rfl, HS0.out⟩
 case round =>
  clear HS0 hz
  obtain ⟨i, hi, rfl, hS⟩ := hrel
  have HS := hide hS
  by_cases hlt : i < 255
  ·have d255 : decide ((i : Int) < 255) = true := by simp; omega
   have i255 : (i : Int) < 255 := by omega
   have c0 : wr.cell? ⟨w.heap.size + 2, i, none⟩ = some (.bool (decide (i < i ∧ i ≠ 2 ∧ i ≠ 4))) := by rw [hS.cell 0 rfl i]; exact blv_get (invB_get i i hlt)
   have f0 := hS.free 0 rfl i
   have HT := hide (invB_set i hlt)
   clear hS
   by_cases h2 : i = 2
   ·subst h2
    go_wp2_with fail
    go_roundw
    case rel =>
     have h3 := HS.out.setCell 0 rfl 2 (.bool false)
     rw [List.set_cons_zero, blv_set] at h3
     exact ⟨3, by omega, rfl, by have := HT.out; rw [show decide ((2 : Nat) ≠ 2 ∧ (2 : Nat) ≠ 4) = false from by decide] at this; rw [← this]; exact h3⟩
    case measure => (simp [intOf]) <;> omega
   ·by_cases h4 : i = 4
    ·subst h4
     go_wp2_with fail
     go_roundw
     case rel =>
      have h3 := HS.out.setCell 0 rfl 4 (.bool false)
      rw [List.set_cons_zero, blv_set] at h3
      exact ⟨5, by omega, rfl, by have := HT.out; rw [show decide ((4 : Nat) ≠ 2 ∧ (4 : Nat) ≠ 4) = false from by decide] at this; rw [← this]; exact h3⟩
     case measure => (simp [intOf]) <;> omega
    ·have n2 : ¬ (i : Int) = 2 := by omega
     have n4 : ¬ (i : Int) = 4 := by omega
     have e2 : ((i : Int) != 2) = true := by simp; omega
     have e4 : ((i : Int) != 4) = true := by simp; omega
     have e2' : decide ((i : Int) = 2) = false := by simp; omega
     have e4' : decide ((i : Int) = 4) = false := by simp; omega
     have HT2 := hide (show (invB i).set i true = invB (i + 1) by have := HT.out; rw [show decide (i ≠ 2 ∧ i ≠ 4) = true from by simp; omega] at this; exact this)
     clear h2 h4 HT
     go_wp2_with fail
     go_roundw
     case rel =>
      have h3 := HS.out.setCell 0 rfl i (.bool true)
      rw [List.set_cons_zero, blv_set, HT2.out] at h3
      exact ⟨i + 1, by omega, by go_num, h3⟩
     case measure => (simp [intOf]) <;> omega
  ·obtain rfl : i = 255 := by omega
   have hszB : (blv (invB 255)).toArray.size = 255 := by rw [List.size_toArray, blv_len, invB_len]
   clear hS
   go_upto_region 7 with fail
   refine wp_region_list ?_
   refine wpList_load_row rfl 130 (.tmp 1) rfl w.heap.size rfl 130 (ivs xs).toArray _ _ (HS.out.heap 2 rfl) Tryz.underlying130 rfl (by rw [ivs_size HN.out]; kernel_rfl) ?_
   refine wpList_load_row rfl 206 (.tmp 3) rfl (w.heap.size + 2) rfl 206 (blv (invB 255)).toArray _ _ (HS.out.heap 0 rfl) Tryz.underlying206 rfl (by rw [hszB]; kernel_rfl) ?_
   refine wl_callN rfl rfl enPowerN rfl (HP.out _) ?_
   rintro e w2 ⟨ys, hy, rfl, hb2⟩
   refine ⟨_, rfl, ?_⟩
   have HY := hide hy
   have HS1 := hide (HS.out.call hb2)
   have HS3 := hide (HS1.out.setRow 1 rfl (ivs ys).toArray)
   clear HS hy
   refine wpList_store_row rfl 130 (.tmp 2) (.tmp 19) rfl (w.heap.size + 1) (ivs ys).toArray rfl rfl 130 _ (HS1.out.heap 1 rfl) (by rw [ivs_size HY.out]; kernel_rfl) (by rw [ivs_size HY.out]; rfl) (ivs_all _) ?_
   refine wpList_nil ?_
   go_wp2_with fail
   refine bodyPost_ret (results_cell_row rfl _ _ (w.heap.size + 1) _ _ _ _ rfl (HS3.out.heap 1 rfl) Tryz.underlying130 rfl (by rw [ivs_size HY.out]; kernel_rfl)) rfl ?_
   exact ⟨ys, HY.out, rfl, HS3.out.below⟩
end Go.Proofs.YtnohmgpmmhlloaaGreatDoor

namespace Go.Proofs.YtnohmgpmmhlloaaGreatDoor
open Go.RowKit
set_option linter.unusedSimpArgs false

structure EA (a : Array Value) (X : FK) : Prop where
 ex : ∃ p q s t u : Nat, a = #[.int .u64 (p : Int), .int .u64 (q : Int), .int .u64 (s : Int), .int .u64 (t : Int), .int .u64 (u : Int)] ∧ ev [p, q, s, t, u] = X.val ∧ Red [p, q, s, t, u]
theorem EA.arr {a : Array Value} {X : FK} (h : EA a X) : Arr 5 a := by
 obtain ⟨p, q, s, t, u, rfl, _, _⟩ := h.ex
 exact ⟨rfl, by simp [Value.oneCell']⟩
structure NA (a : Array Value) (X : FK) : Prop where
 ex : ∃ xs, a = (ivs xs).toArray ∧ NE xs X
theorem NA.arr {a : Array Value} {X : FK} (h : NA a X) : Arr 16 a := by
 obtain ⟨xs, rfl, hx⟩ := h.ex
 exact ⟨ivs_size hx, by rw [List.all_toArray, List.all_eq_true]; intro v hv; unfold ivs at hv; obtain ⟨n, _, rfl⟩ := List.mem_map.1 hv; rfl⟩
def ResE (w : World) (X : FK) (e : Ending) (w' : World) : Prop := ∃ z, EA z X ∧ e = .returned (.agg z) ∧ Below w.heap.size w w'
def ResA (w : World) (X : FK) (e : Ending) (w' : World) : Prop := ∃ z, NA z X ∧ e = .returned (.agg z) ∧ Below w.heap.size w w'
theorem ResN.ra {w : World} {X : FK} {e : Ending} {w' : World} (h : ResN w X e w') : ResA w X e w' := by
 obtain ⟨zs, h1, h2, h3⟩ := h
 exact ⟨_, ⟨zs, rfl, h1⟩, h2, h3⟩
theorem res_of {w : World} {X : FK} {e : Ending} {w' : World} (h : ∃ p q s t u : Nat, ev [p, q, s, t, u] = X.val ∧ Red [p, q, s, t, u] ∧ e = .returned (.agg #[.int .u64 (p : Int), .int .u64 (q : Int), .int .u64 (s : Int), .int .u64 (t : Int), .int .u64 (u : Int)]) ∧ Below w.heap.size w w') : ResE w X e w' := by
 obtain ⟨p, q, s, t, u, h1, h2, h3, h4⟩ := h
 exact ⟨_, ⟨p, q, s, t, u, rfl, h1, h2⟩, h3, h4⟩
section
variable {a b : Array Value} {X Y : FK} (w : World)
theorem addA (ha : EA a X) (hb : EA b Y) : Calls Tryz.prog 90 #[.agg a, .agg b] w (ResE w (X + Y)) := by
 obtain ⟨_, _, _, _, _, rfl, h1, h2⟩ := ha.ex
 obtain ⟨_, _, _, _, _, rfl, h3, h4⟩ := hb.ex
 exact (addE h1 h2 h3 h4).mono fun _ _ h => res_of h
theorem subA (ha : EA a X) (hb : EA b Y) : Calls Tryz.prog 88 #[.agg a, .agg b] w (ResE w (X - Y)) := by
 obtain ⟨_, _, _, _, _, rfl, h1, h2⟩ := ha.ex
 obtain ⟨_, _, _, _, _, rfl, h3, h4⟩ := hb.ex
 exact (subE h1 h2 h3 h4).mono fun _ _ h => res_of h
theorem mulA (ha : EA a X) (hb : EA b Y) : Calls Tryz.prog 83 #[.agg a, .agg b] w (ResE w (X * Y)) := by
 obtain ⟨_, _, _, _, _, rfl, h1, h2⟩ := ha.ex
 obtain ⟨_, _, _, _, _, rfl, h3, h4⟩ := hb.ex
 exact (mulE h1 h2 h3 h4).mono fun _ _ h => res_of h
theorem negA (ha : EA a X) : Calls Tryz.prog 91 #[.agg a] w (ResE w (-X)) := by
 obtain ⟨_, _, _, _, _, rfl, h1, h2⟩ := ha.ex
 exact (negE h1 h2).mono fun _ _ h => res_of h
theorem invA (ha : EA a X) : Calls Tryz.prog 82 #[.agg a] w (ResE w (finv X)) := by
 obtain ⟨_, _, _, _, _, rfl, h1, h2⟩ := ha.ex
 exact (invE h1 h2).mono fun _ _ h => res_of h
theorem zeroA (ha : EA a X) : Calls Tryz.prog 121 #[.agg a] w fun e w' => e = .returned (.bool (decide (X = 0))) ∧ Below w.heap.size w w' := by
 obtain ⟨_, _, _, _, _, rfl, h1, h2⟩ := ha.ex
 have e : decide (X = 0) = decide (X.val = 0) := by
  by_cases h : X = 0
  ·rw [decide_eq_true h, decide_eq_true (by rw [h, fzero_val])]
  ·rw [decide_eq_false h, decide_eq_false fun e => h (Fin.ext (e.trans fzero_val.symm))]
 rw [e]
 exact zeroE h1 h2
theorem oddA (ha : EA a X) : Calls Tryz.prog 85 #[.agg a] w fun e w' => e = .returned (.bool (decide (X.val % 2 = 1))) ∧ Below w.heap.size w w' := by
 obtain ⟨_, _, _, _, _, rfl, h1, h2⟩ := ha.ex
 exact oddE h1 h2
theorem bytesA (ha : EA a X) : Calls Tryz.prog 84 #[.agg a] w (ResB 5 w (leB 32 X.val)) := by
 obtain ⟨_, _, _, _, _, rfl, h1, h2⟩ := ha.ex
 rw [← h1]
 exact bytes_walk _ _ _ _ _ w (red_low h2)
theorem small1A : Calls Tryz.prog 89 #[.int .u32 1] w (ResE w 1) := (small1 w).mono fun _ _ h => res_of h
theorem ea_zero : EA #[.int .u64 0, .int .u64 0, .int .u64 0, .int .u64 0, .int .u64 0] 0 := ⟨0, 0, 0, 0, 0, rfl, by rw [fzero_val]; unfold ev fv fv fv fv fv fv; simp, ⟨rfl, fun k x hx => by
 have hx0 : x = 0 := by
  have := List.mem_of_getElem? hx
  simpa using this
 subst hx0
 unfold T51
 omega⟩⟩
def lD : List Nat := [163, 120, 89, 19, 202, 77, 235, 117, 171, 216, 65, 65, 77, 10, 112, 0, 152, 232, 121, 119, 121, 64, 199, 140, 115, 254, 111, 43, 238, 108, 3, 82]
theorem nD_text : strOf (hexT lD) = ⟨#[53, 50, 48, 51, 54, 99, 101, 101, 50, 98, 54, 102, 102, 101, 55, 51, 56, 99, 99, 55, 52, 48, 55, 57, 55, 55, 55, 57, 101, 56, 57, 56, 48, 48, 55, 48, 48, 97, 52, 100, 52, 49, 52, 49, 100, 56, 97, 98, 55, 53, 101, 98, 52, 100, 99, 97, 49, 51, 53, 57, 55, 56, 97, 51]⟩ := by rw [strOf_eq]; rfl
theorem nD_val : fbytes (byL lD) = dF := Fin.ext (by decide +kernel)
theorem numD : Calls Tryz.prog 78 #[.string ⟨#[53, 50, 48, 51, 54, 99, 101, 101, 50, 98, 54, 102, 102, 101, 55, 51, 56, 99, 99, 55, 52, 48, 55, 57, 55, 55, 55, 57, 101, 56, 57, 56, 48, 48, 55, 48, 48, 97, 52, 100, 52, 49, 52, 49, 100, 56, 97, 98, 55, 53, 101, 98, 52, 100, 99, 97, 49, 51, 53, 57, 55, 56, 97, 51]⟩] w (ResE w (dF)) := by
 have h := number_any lD (by decide) (by decide) w
 rw [nD_text, nD_val] at h
 exact h.mono fun _ _ h => res_of h
def lX : List Nat := [26, 213, 37, 143, 96, 45, 86, 201, 178, 167, 37, 149, 96, 199, 44, 105, 92, 220, 214, 253, 49, 226, 164, 192, 254, 83, 110, 205, 211, 54, 105, 33]
theorem nX_text : strOf (hexT lX) = ⟨#[50, 49, 54, 57, 51, 54, 100, 51, 99, 100, 54, 101, 53, 51, 102, 101, 99, 48, 97, 52, 101, 50, 51, 49, 102, 100, 100, 54, 100, 99, 53, 99, 54, 57, 50, 99, 99, 55, 54, 48, 57, 53, 50, 53, 97, 55, 98, 50, 99, 57, 53, 54, 50, 100, 54, 48, 56, 102, 50, 53, 100, 53, 49, 97]⟩ := by rw [strOf_eq]; rfl
theorem nX_val : fbytes (byL lX) = toF bxV := Fin.ext (by decide +kernel)
theorem numX : Calls Tryz.prog 78 #[.string ⟨#[50, 49, 54, 57, 51, 54, 100, 51, 99, 100, 54, 101, 53, 51, 102, 101, 99, 48, 97, 52, 101, 50, 51, 49, 102, 100, 100, 54, 100, 99, 53, 99, 54, 57, 50, 99, 99, 55, 54, 48, 57, 53, 50, 53, 97, 55, 98, 50, 99, 57, 53, 54, 50, 100, 54, 48, 56, 102, 50, 53, 100, 53, 49, 97]⟩] w (ResE w (toF bxV)) := by
 have h := number_any lX (by decide) (by decide) w
 rw [nX_text, nX_val] at h
 exact h.mono fun _ _ h => res_of h
def lY : List Nat := [88, 102, 102, 102, 102, 102, 102, 102, 102, 102, 102, 102, 102, 102, 102, 102, 102, 102, 102, 102, 102, 102, 102, 102, 102, 102, 102, 102, 102, 102, 102, 102]
theorem nY_text : strOf (hexT lY) = ⟨#[54, 54, 54, 54, 54, 54, 54, 54, 54, 54, 54, 54, 54, 54, 54, 54, 54, 54, 54, 54, 54, 54, 54, 54, 54, 54, 54, 54, 54, 54, 54, 54, 54, 54, 54, 54, 54, 54, 54, 54, 54, 54, 54, 54, 54, 54, 54, 54, 54, 54, 54, 54, 54, 54, 54, 54, 54, 54, 54, 54, 54, 54, 53, 56]⟩ := by rw [strOf_eq]; rfl
theorem nY_val : fbytes (byL lY) = toF byV := Fin.ext (by decide +kernel)
theorem numY : Calls Tryz.prog 78 #[.string ⟨#[54, 54, 54, 54, 54, 54, 54, 54, 54, 54, 54, 54, 54, 54, 54, 54, 54, 54, 54, 54, 54, 54, 54, 54, 54, 54, 54, 54, 54, 54, 54, 54, 54, 54, 54, 54, 54, 54, 54, 54, 54, 54, 54, 54, 54, 54, 54, 54, 54, 54, 54, 54, 54, 54, 54, 54, 54, 54, 54, 54, 54, 54, 53, 56]⟩] w (ResE w (toF byV)) := by
 have h := number_any lY (by decide) (by decide) w
 rw [nY_text, nY_val] at h
 exact h.mono fun _ _ h => res_of h

theorem addNA (ha : NA a X) (hb : NA b Y) : Calls Tryz.prog 157 #[.agg a, .agg b] w (ResA w (X + Y)) := by
 obtain ⟨xs, rfl, h1⟩ := ha.ex
 obtain ⟨ys, rfl, h2⟩ := hb.ex
 exact (addC w h1 h2).mono fun _ _ h => ResN.ra h
theorem subNA (ha : NA a X) (hb : NA b Y) : Calls Tryz.prog 156 #[.agg a, .agg b] w (ResA w (X - Y)) := by
 obtain ⟨xs, rfl, h1⟩ := ha.ex
 obtain ⟨ys, rfl, h2⟩ := hb.ex
 exact (subC w h1 h2).mono fun _ _ h => ResN.ra h
theorem mulNA (ha : NA a X) (hb : NA b Y) : Calls Tryz.prog 137 #[.agg a, .agg b] w (ResA w (X * Y)) := by
 obtain ⟨xs, rfl, h1⟩ := ha.ex
 obtain ⟨ys, rfl, h2⟩ := hb.ex
 exact (mulC w h1 h2).mono fun _ _ h => ResN.ra h
theorem invNA (ha : NA a X) : Calls Tryz.prog 135 #[.agg a] w (ResA w (finv X)) := by
 obtain ⟨xs, rfl, h1⟩ := ha.ex
 exact (invN_any xs X w h1).mono fun _ _ h => ResN.ra h
theorem oddNA (ha : NA a X) : Calls Tryz.prog 138 #[.agg a] w fun e w' => e = .returned (.bool (decide (X.val % 2 = 1))) ∧ Below w.heap.size w w' := by
 obtain ⟨xs, rfl, h1⟩ := ha.ex
 exact oddC w h1
theorem bytesNA (ha : NA a X) : Calls Tryz.prog 136 #[.agg a] w (ResB 5 w (leB 32 X.val)) := by
 obtain ⟨xs, rfl, h1⟩ := ha.ex
 have hl : (leB 32 X.val).length = 32 := leB_len 32 X.val
 refine (bytesC w h1).mono fun e w' h => ?_
 obtain ⟨B, d, h2, h3, h4⟩ := h
 unfold ResB
 rw [hl]
 exact ⟨B, d, h2, h3, h4⟩
theorem na_zero : NA (ivs (List.replicate 16 0)).toArray 0 := ⟨_, rfl, ne_zero⟩
theorem ne_of (n : Nat) (rows : List Int) (hl : rows.length = 16) (hb : rows.all (fun x => decide (0 ≤ x) && decide (x < 65536)) = true) (hv : nv rows = (n : Int)) : NE rows (toF n) := by
 refine ⟨⟨hl, fun k x hx => ?_⟩, ?_⟩
 ·have := List.all_eq_true.1 hb x (List.mem_of_getElem? hx)
  rw [Bool.and_eq_true, decide_eq_true_eq, decide_eq_true_eq] at this
  split <;> omega
 ·rw [hv]
  show _ = ((n % Pq : Nat) : Int)
  rw [Int.natCast_emod]
theorem smallNA1 : Calls Tryz.prog 140 #[.int .u32 1] w (ResA w 1) :=
 (smallN_any 1 w (by decide)).mono fun _ _ h => ⟨_, ⟨_, rfl, by rw [← toF_one]; exact ne_of 1 _ rfl (by decide) (by decide)⟩, h.1, h.2⟩
end
end Go.Proofs.YtnohmgpmmhlloaaGreatDoor
