/-
  Layer 2's Mul, plain part: five sums of 128 bits, and what they carry.
-/
import Derived.Test.YtdihedhhkcakoaaKn
import Derived.Laws.CopyRow
namespace Go.Proofs.Ytdihedhhkcakoaa
open Go.RowKit

section
variable {P : Program} {w0 w : World} {M : Nat → Prop} {H : List Chunk}
theorem run_storeVar_agg (w : World) (g k : Nat) (t ty : TypeId) (c : Array Value) (cs : List Value) (hg : w.heap[g]? = some (.cells c t (0, 0))) (hi : (P.info? ty).map (·.size) = some cs.length)
    (hk : k + cs.length ≤ c.size) (h1 : ∀ v ∈ cs, v.oneCell' = true) :
    (storeVar ty ⟨g, k, none⟩ (.agg cs.toArray)).run P w = .ok () (w.setRow g (c.toList.take k ++ cs ++ c.toList.drop (k + cs.length)).toArray) := by
  have := run_storeCells_at (P := P) g k t cs 0 c w hg (by omega) h1
  rw [Nat.add_zero] at this
  cases hq : P.info? ty with
  | none => simp [hq] at hi
  | some i =>
    have hs : cs.length = i.size := by simp [hq] at hi; omega
    have hs2 : cs.toArray.size = i.size := by simpa using hs
    simp [storeVar, sizeOf, typeInfo, hq, Value.cells, hs, this]
/-- A few cells of a block are stored at once, in a region that draws its order. -/
theorem step_storeAgg {yl : Nat → Option Bool} {o : Oper} {a : Act} {K : Act → World → Prop} {Q : Exit → Act → World → Prop} {E : Prop} (hw : Region.wanted o yl = true) {t : TypeId} {p x : Operand}
    (ho : o.op = .store t p x) (hS : St w0 M w H) (i : Nat) {g : Nat} {c : Array Value} {e : TypeId} (hi : H[i]? = some (.cells g c e)) {cs : List Value} (k : Nat) (hk : k + cs.length ≤ c.size)
    (hp : a.eval p = .pointer (some ⟨g, k, none⟩)) (hx : a.eval x = .agg cs.toArray) (ht : (P.info? t).map (·.size) = some cs.length) (h1 : ∀ v ∈ cs, v.oneCell' = true)
    (h : ∀ w', St w0 M w' (H.set i (.cells g (c.toList.take k ++ cs ++ c.toList.drop (k + cs.length)).toArray e)) → K (a.put o.dst undef) w') : if Region.wanted o yl = true then Oper.wp P o a w K Q else E := by
  rw [if_pos hw]
  unfold Oper.wp execOp
  simp only [ho, hp, hx, Instr.storeAt, Instr.sureAddr, Sem.run_bind, Sem.run_pure, Result.andThen_ok, run_storeVar_agg w g k e t c cs (hS.heap i hi) ht hk h1]
  exact h _ (hS.setRow i hi _)
theorem set_two (l : List Value) (k : Nat) (x y : Value) (h : k + 2 ≤ l.length) : l.take k ++ [x, y] ++ l.drop (k + 2) = (l.set k x).set (k + 1) y := by
  have e : l = l.take k ++ (l.drop k).take 2 ++ l.drop (k + 2) := by
    rw [List.append_assoc, ← List.drop_drop, List.take_append_drop, List.take_append_drop]
  have h2 : ((l.drop k).take 2).length = 2 := by rw [List.length_take, List.length_drop]; omega
  have h3 : (l.take k).length = k := by rw [List.length_take]; omega
  generalize l.take k = A at *
  generalize l.drop (k + 2) = C at *
  match hB : (l.drop k).take 2, h2 with
  | [p, q], _ =>
    rw [hB] at e
    subst h3
    rw [e]
    simp
end
/-- Numbers of 128 bits as they lie in memory. -/
def wcs (vs : List Nat) : List Value := vs.flatMap fun v => [uv (v / W1), uv (v % W1)]
theorem wcs_len (vs : List Nat) : (wcs vs).length = 2 * vs.length := by
  induction vs with
  | nil => rfl
  | cons x l ih => show (uv (x / W1) :: uv (x % W1) :: wcs l).length = _; rw [List.length_cons, List.length_cons, ih, List.length_cons]; omega
theorem wcs_get : ∀ {vs : List Nat} {k v : Nat}, vs[k]? = some v → (wcs vs)[2 * k]? = some (uv (v / W1)) ∧ (wcs vs)[2 * k + 1]? = some (uv (v % W1))
  | x :: l, 0, v, h => by
    simp only [List.getElem?_cons_zero, Option.some.injEq] at h
    subst h
    exact ⟨rfl, rfl⟩
  | x :: l, k + 1, v, h => wcs_get (vs := l) (k := k) (by simpa using h)
theorem wcs_set : ∀ (vs : List Nat) (k v : Nat), ((wcs vs).set (2 * k) (uv (v / W1))).set (2 * k + 1) (uv (v % W1)) = wcs (vs.set k v)
  | [], k, v => by simp [wcs]
  | x :: l, 0, v => rfl
  | x :: l, k + 1, v => by
    have := wcs_set l k v
    show uv (x / W1) :: uv (x % W1) :: (((wcs l).set (2 * k) (uv (v / W1))).set (2 * k + 1) (uv (v % W1))) = uv (x / W1) :: uv (x % W1) :: wcs (l.set k v)
    rw [this]
theorem fv_set (T : Nat) : ∀ (vs : List Nat) (j v x : Nat), vs[j]? = some v → fv T (vs.set j (v + x)) = fv T vs + x * T ^ j
  | y :: l, 0, v, x, h => by
    simp only [List.getElem?_cons_zero, Option.some.injEq] at h
    subst h
    simp only [List.set_cons_zero, fv, Nat.pow_zero, Nat.mul_one]
    omega
  | y :: l, j + 1, v, x, h => by
    have := fv_set T l j v x (by simpa using h)
    simp only [List.set_cons_succ, fv, this, Nat.pow_succ, Nat.mul_add]
    rw [Nat.add_assoc, Nat.mul_comm T (x * T ^ j), Nat.mul_assoc]
@[irreducible] def BB : Nat := 19 * ((T51 + 38) * (T51 + 38))
/-- What Mul's loops have done behind i rows and k of the next one. -/
def MulAt (a b : List Nat) (i k : Nat) (vs : List Nat) : Prop :=
  vs.length = 5 ∧ fv T51 vs % Pq = (fv T51 (a.take i) * fv T51 b + a.getD i 0 * T51 ^ i * fv T51 (b.take k)) % Pq ∧
    (∀ (j x : Nat), vs[j]? = some x → x ≤ (i + 1) * BB) ∧ ∀ k', k ≤ k' → k' < 5 → ∀ (x : Nat), vs[(i + k') % 5]? = some x → x ≤ i * BB
theorem mul_start (a b : List Nat) : MulAt a b 0 0 [0, 0, 0, 0, 0] := by
  refine ⟨rfl, by simp [fv], fun (j x : Nat) hx => ?_, fun k' _ h (x : Nat) hx => ?_⟩
  · have : x ∈ [0, 0, 0, 0, 0] := List.mem_of_getElem? hx
    simp at this
    omega
  · have : x ∈ [0, 0, 0, 0, 0] := List.mem_of_getElem? hx
    simp at this
    omega
def foldY (i k y : Nat) : Nat := if 5 ≤ i + k then 19 * y else y
theorem fold_at (i k : Nat) (hi : i < 5) (hk : k < 5) (x y : Nat) : x * foldY i k y * T51 ^ ((i + k) % 5) % Pq = x * T51 ^ i * (y * T51 ^ k) % Pq := by
  have e : x * T51 ^ i * (y * T51 ^ k) = x * y * T51 ^ (i + k) := by
    rw [Nat.pow_add]
    simp only [Nat.mul_assoc, Nat.mul_left_comm]
  rw [e]
  unfold foldY
  by_cases h : 5 ≤ i + k
  · rw [if_pos h]
    obtain ⟨m, hm⟩ : ∃ m, i + k = m + 5 := ⟨i + k - 5, by omega⟩
    have e2 : x * y * T51 ^ (m + 5) = x * (19 * y) * T51 ^ m + Pq * (x * y * T51 ^ m) := by
      rw [Nat.pow_add, Pq_eq]
      generalize T51 ^ m = M
      generalize Pq = P
      rw [Nat.mul_add, Nat.mul_add, Nat.add_comm]
      congr 1 <;> simp only [Nat.mul_comm, Nat.mul_left_comm, Nat.mul_assoc]
    rw [hm, Nat.add_mod_right, Nat.mod_eq_of_lt (show m < 5 by omega), e2, Nat.add_mul_mod_self_left]
  · rw [if_neg h, Nat.mod_eq_of_lt (show i + k < 5 by omega)]
theorem mul_next {a b : List Nat} {i k x y v : Nat} {vs : List Nat} (h : MulAt a b i k vs) (hi : i < 5) (hk : k < 5) (hx : a[i]? = some x) (hy : b[k]? = some y) (hv : vs[(i + k) % 5]? = some v) (hxy : x * foldY i k y ≤ BB) :
    MulAt a b i (k + 1) (vs.set ((i + k) % 5) (v + x * foldY i k y)) := by
  obtain ⟨h1, h2, h3, h4⟩ := h
  have hxd : a.getD i 0 = x := by rw [List.getD_eq_getElem?_getD, hx]; rfl
  refine ⟨by rw [List.length_set]; exact h1, ?_, ?_, ?_⟩
  · rw [fv_set T51 vs _ v _ hv, fv_take hy, Nat.mul_add, ← Nat.add_assoc, Nat.add_mod, h2, fold_at i k hi hk, ← Nat.add_mod, hxd]
  · intro j z hz
    by_cases hj : j = (i + k) % 5
    · subst hj
      rw [List.getElem?_set_self (by omega)] at hz
      injection hz with hz
      have := h4 k (Nat.le_refl _) hk v hv
      rw [Nat.add_mul, Nat.one_mul]
      omega
    · rw [List.getElem?_set_ne (by omega)] at hz
      exact h3 j z hz
  · intro k' hk' hk5 z hz
    rw [List.getElem?_set_ne (by omega)] at hz
    exact h4 k' (by omega) hk5 z hz
theorem mul_row {a b : List Nat} {i : Nat} {vs : List Nat} (h : MulAt a b i 5 vs) (hi : i < 5) (ha : a.length = 5) (hb : b.length = 5) : MulAt a b (i + 1) 0 vs := by
  obtain ⟨h1, h2, h3, h4⟩ := h
  refine ⟨h1, ?_, ?_, ?_⟩
  · have hx : a[i]? = some (a.getD i 0) := by
      rw [List.getD_eq_getElem?_getD, List.getElem?_eq_getElem (by omega)]
      rfl
    rw [List.take_of_length_le (show b.length ≤ 5 by omega)] at h2
    rw [h2, fv_take hx, Nat.add_mul, List.take_zero]
    simp [fv]
  · intro j x hx
    have := h3 j x hx
    rw [Nat.add_mul (i + 1) 1]
    omega
  · intro k' _ _ x hx
    exact h3 _ x hx
theorem mul_end {a b vs : List Nat} (h : MulAt a b 5 0 vs) (ha : a.length = 5) : fv T51 vs % Pq = ev a * ev b % Pq ∧ ∀ (j x : Nat), vs[j]? = some x → x ≤ 6 * BB := by
  obtain ⟨h1, h2, h3, h4⟩ := h
  have e0 : fv T51 (b.take 0) = 0 := by rw [List.take_zero]; rfl
  rw [List.take_of_length_le (show a.length ≤ 5 by omega), e0, Nat.mul_zero, Nat.add_zero] at h2
  have e6 : (5 + 1) * BB = 6 * BB := by generalize BB = q; omega
  rw [e6] at h3
  refine ⟨?_, h3⟩
  unfold ev
  generalize fv T51 vs = f at *
  generalize fv T51 a = g at *
  generalize fv T51 b = u at *
  generalize Pq = P at *
  rw [h2]
  exact Nat.mul_mod g u P
/-- What the carrying loop has done behind k sums. -/
def CarAt (vs : List Nat) (k o : Nat) (cur : List Nat) : Prop :=
  cur.length = 5 ∧ fv T51 (cur.take k) + o * T51 ^ k = fv T51 (vs.take k) ∧ (∀ (j x : Nat), cur[j]? = some x → x < T51) ∧ o ≤ 120 * T51
theorem cars_start (vs : List Nat) : CarAt vs 0 0 [0, 0, 0, 0, 0] := by
  refine ⟨rfl, by simp [fv], fun j x hx => ?_, by omega⟩
  have : x ∈ [0, 0, 0, 0, 0] := List.mem_of_getElem? hx
  simp at this
  unfold T51
  omega
theorem bb6 (v o : Nat) (hv : v ≤ 6 * BB) (ho : o ≤ 120 * T51) : v + o < 41538374868278621028243970633760768 ∧ (v + o) / T51 ≤ 120 * T51 := by
  unfold BB T51 at *
  omega
theorem cars_next {vs : List Nat} {k o v : Nat} {cur : List Nat} (h : CarAt vs k o cur) (hk : k < 5) (hv : vs[k]? = some v) (hb : v ≤ 6 * BB) :
    CarAt vs (k + 1) ((v + o) / T51) (cur.set k ((v + o) % T51)) := by
  obtain ⟨h1, h2, h3, h4⟩ := h
  refine ⟨by rw [List.length_set]; exact h1, ?_, ?_, (bb6 v o hb h4).2⟩
  · rw [fv_take_set T51 cur k _ (by omega), fv_take hv, Nat.pow_succ]
    have e := Nat.div_add_mod (v + o) T51
    have e2 : (v + o) % T51 * T51 ^ k + (v + o) / T51 * (T51 ^ k * T51) = (v + o) * T51 ^ k := by
      rw [Nat.mul_comm (T51 ^ k) T51, ← Nat.mul_assoc, ← Nat.add_mul, Nat.add_comm, Nat.mul_comm _ T51, e]
    rw [Nat.add_mul] at e2
    omega
  · intro j z hz
    by_cases hj : j = k
    · subst hj
      rw [List.getElem?_set_self (by omega)] at hz
      injection hz with hz
      rw [← hz]
      exact Nat.mod_lt _ (by decide)
    · rw [List.getElem?_set_ne (by omega)] at hz
      exact h3 j z hz
theorem cars_end {vs : List Nat} {o p0 p1 p2 p3 p4 : Nat} (h : CarAt vs 5 o [p0, p1, p2, p3, p4]) (hvs : vs.length = 5) : ev [p0 + 19 * o, p1, p2, p3, p4] = fv T51 vs % Pq ∧ Low [p0 + 19 * o, p1, p2, p3, p4] ∧ 19 * o < W1 ∧ p0 + 19 * o < W1 := by
  obtain ⟨_, h2, h3, h4⟩ := h
  rw [List.take_of_length_le (Nat.le_refl 5), List.take_of_length_le (by omega)] at h2
  have b0 := h3 0 p0 rfl
  refine ⟨fold_ev p0 o _ [p1, p2, p3, p4] h2, fun k x hx => ?_, by unfold T51 W1 at *; omega, by unfold T51 W1 at *; omega⟩
  match k, hx with
  | 0, hx => injection hx with hx; unfold T51 at *; omega
  | 1, hx => have := h3 1 x hx; unfold T51 at *; omega
  | 2, hx => have := h3 2 x hx; unfold T51 at *; omega
  | 3, hx => have := h3 3 x hx; unfold T51 at *; omega
  | 4, hx => have := h3 4 x hx; unfold T51 at *; omega
/-- The words of the carrying loop. -/
theorem cars_words (v o : Nat) (hv : v + o < 41538374868278621028243970633760768) (ho : o < W1) :
    adS (v % W1) o 0 = (v + o) % W1 ∧ v / W1 + adC (v % W1) o 0 = (v + o) / W1 ∧ adC (v % W1) o 0 ≤ 1 ∧
      (v + o) % W1 % T51 = (v + o) % T51 ∧ (v + o) % W1 / T51 + (v + o) / W1 % 2 ^ 51 * 2 ^ 13 = (v + o) / T51 ∧ (v + o) / W1 < T51 := by
  obtain ⟨a1, a2, a3⟩ := ad_spec (v % W1) o 0 (Nat.mod_lt _ (by decide)) ho (Nat.zero_le 1)
  generalize adS (v % W1) o 0 = s at *
  generalize adC (v % W1) o 0 = c at *
  unfold W1 T51 at *
  refine ⟨by omega, by omega, a3, by omega, by omega, by omega⟩
theorem mul_bound (x y i k : Nat) (hx : x < T51 + 38) (hy : y < T51 + 38) : x * foldY i k y ≤ BB ∧ foldY i k y < W1 := by
  have h1 : foldY i k y ≤ 19 * (T51 + 38) := by unfold foldY; split <;> omega
  refine ⟨?_, by unfold W1; unfold T51 at *; omega⟩
  refine Nat.le_trans (Nat.mul_le_mul (Nat.le_of_lt hx) h1) ?_
  unfold BB T51
  omega
theorem sums_room (v p : Nat) (hv : v ≤ 6 * BB) (hp : p ≤ BB) : v + p < W1 * W1 := by
  unfold BB T51 at *
  unfold W1
  omega
end Go.Proofs.Ytdihedhhkcakoaa
