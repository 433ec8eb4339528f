/-
  Rows of 64-bit words as numbers; how such rows lie in memory; laws of single steps. No program is named here.
-/
import Derived.Test.YthpioncehigoaaaNum
import Derived.Test.YthpioncehigoaaaReg
import Derived.Lib.Mul64
import Derived.Laws.CopyRow
set_option linter.unusedSimpArgs false
set_option linter.unusedVariables false
namespace Go.Proofs.Ythpioncehigoaaa
open Go.RowKit

def uv (x : Nat) : Value := .int .u64 (x : Int)
def uvs (xs : List Nat) : List Value := xs.map uv
theorem uvs_len (xs : List Nat) : (uvs xs).length = xs.length := by simp [uvs]
theorem uvs_get {xs : List Nat} {k x : Nat} (h : xs[k]? = some x) : (uvs xs).toArray[k]? = some (.int .u64 (x : Int)) := by
  simp only [uvs, List.getElem?_toArray, List.getElem?_map, h]; rfl
theorem uvs_set (xs : List Nat) (k y : Nat) : (uvs xs).toArray.setIfInBounds k (.int .u64 (y : Int)) = (uvs (xs.set k y)).toArray := by
  simp [uvs, List.map_set, uv]
theorem uvs_one (xs : List Nat) : ∀ v ∈ uvs xs, v.oneCell' = true := by
  intro v hv
  simp only [uvs, List.mem_map] at hv
  obtain ⟨x, _, rfl⟩ := hv
  rfl
/-- The number of words, the lowest first. -/
def lv : List Nat → Nat
  | [] => 0
  | x :: xs => x + 18446744073709551616 * lv xs
theorem lv_append : ∀ (xs : List Nat) (ys : List Nat), lv (xs ++ ys) = lv xs + 18446744073709551616 ^ xs.length * lv ys
  | [], ys => by simp [lv]
  | x :: xs, ys => by
    simp only [List.cons_append, lv, lv_append xs ys, List.length_cons]
    rw [Nat.pow_succ, Nat.mul_add, Nat.add_assoc, ← Nat.mul_assoc, Nat.mul_comm (18446744073709551616 ^ xs.length) 18446744073709551616]
theorem lv_take {xs : List Nat} {k x : Nat} (h : xs[k]? = some x) : lv (xs.take (k + 1)) = lv (xs.take k) + x * 18446744073709551616 ^ k := by
  have hk := (List.getElem?_eq_some_iff.1 h).1
  rw [List.take_add_one, h, Option.toList_some, lv_append, List.length_take, Nat.min_eq_left (by omega)]
  simp only [lv, Nat.mul_zero, Nat.add_zero]
  rw [Nat.mul_comm]
theorem lv_take_set (xs : List Nat) (k y : Nat) (hk : k < xs.length) : lv ((xs.set k y).take (k + 1)) = lv (xs.take k) + y * 18446744073709551616 ^ k := by
  have h : (xs.set k y)[k]? = some y := by simp [hk]
  rw [lv_take h, List.take_set_of_le (Nat.le_refl k)]
theorem drop_set_succ (xs : List Nat) (k y : Nat) : (xs.set k y).drop (k + 1) = xs.drop (k + 1) := by
  rw [List.drop_set_of_lt (by omega)]
def Words (xs : List Nat) : Prop := ∀ x ∈ xs, x < 18446744073709551616
theorem words_get {xs : List Nat} (h : Words xs) {k x : Nat} (hx : xs[k]? = some x) : x < 18446744073709551616 := h x (List.mem_of_getElem? hx)
theorem words_set {xs : List Nat} (h : Words xs) (k y : Nat) (hy : y < 18446744073709551616) : Words (xs.set k y) := fun x hx => by
  rcases List.mem_or_eq_of_mem_set hx with h1 | h1
  · exact h x h1
  · omega
theorem lv_lt : ∀ (xs : List Nat), Words xs → lv xs < 18446744073709551616 ^ xs.length
  | [], _ => by simp [lv]
  | x :: xs, h => by
    have h1 := lv_lt xs fun y hy => h y (List.mem_cons_of_mem _ hy)
    have h2 := h x (List.mem_cons_self ..)
    simp only [lv, List.length_cons, Nat.pow_succ]
    have := Nat.mul_le_mul_left 18446744073709551616 h1
    rw [Nat.mul_comm (18446744073709551616 ^ xs.length)]
    omega
/-- The k lowest words of a number. -/
def wds : Nat → Nat → List Nat
  | 0, _ => []
  | k + 1, n => n % 18446744073709551616 :: wds k (n / 18446744073709551616)
theorem wds_len : ∀ (k n : Nat), (wds k n).length = k
  | 0, _ => rfl
  | k + 1, n => by simp [wds, wds_len k]
theorem wds_words : ∀ (k n : Nat), Words (wds k n)
  | 0, _ => fun x hx => by cases hx
  | k + 1, n => fun x hx => by
    rcases List.mem_cons.1 hx with rfl | h
    · exact Nat.mod_lt _ (by omega)
    · exact wds_words k _ x h
theorem lv_wds : ∀ (k n : Nat), n < 18446744073709551616 ^ k → lv (wds k n) = n
  | 0, n, h => by simp at h; simp [wds, lv, h]
  | k + 1, n, h => by
    rw [Nat.pow_succ] at h
    have h' : n / 18446744073709551616 < 18446744073709551616 ^ k := Nat.div_lt_of_lt_mul (by rw [Nat.mul_comm]; exact h)
    simp only [wds, lv, lv_wds k _ h']
    omega
theorem wds_lv : ∀ (xs : List Nat), Words xs → wds xs.length (lv xs) = xs
  | [], _ => rfl
  | x :: xs, h => by
    have h2 := h x (List.mem_cons_self ..)
    simp only [lv, List.length_cons, wds]
    rw [show (x + 18446744073709551616 * lv xs) % 18446744073709551616 = x from by omega, show (x + 18446744073709551616 * lv xs) / 18446744073709551616 = lv xs from by omega, wds_lv xs fun y hy => h y (List.mem_cons_of_mem _ hy)]

theorem lv_get_le : ∀ (xs : List Nat) (k x : Nat), xs[k]? = some x → x * 18446744073709551616 ^ k ≤ lv xs
  | [], k, x, h => by simp at h
  | y :: xs, 0, x, h => by
    simp only [List.getElem?_cons_zero, Option.some.injEq] at h
    subst h
    simp [lv]
  | y :: xs, k + 1, x, h => by
    have := lv_get_le xs k x (by simpa using h)
    simp only [lv, Nat.pow_succ]
    rw [← Nat.mul_assoc, Nat.mul_comm _ 18446744073709551616]
    have := Nat.mul_le_mul_left 18446744073709551616 this
    omega
theorem lv_set : ∀ (xs : List Nat) (k x y : Nat), xs[k]? = some x → lv (xs.set k y) + x * 18446744073709551616 ^ k = lv xs + y * 18446744073709551616 ^ k
  | [], k, x, y, h => by simp at h
  | z :: xs, 0, x, y, h => by
    simp only [List.getElem?_cons_zero, Option.some.injEq] at h
    subst h
    simp [lv]
    omega
  | z :: xs, k + 1, x, y, h => by
    have := lv_set xs k x y (by simpa using h)
    simp only [List.set_cons_succ, lv, Nat.pow_succ]
    have e := congrArg (18446744073709551616 * ·) this
    simp only [Nat.mul_add] at e
    rw [show x * (18446744073709551616 ^ k * 18446744073709551616) = 18446744073709551616 * (x * 18446744073709551616 ^ k) from by rw [← Nat.mul_assoc, Nat.mul_comm _ 18446744073709551616],
      show y * (18446744073709551616 ^ k * 18446744073709551616) = 18446744073709551616 * (y * 18446744073709551616 ^ k) from by rw [← Nat.mul_assoc, Nat.mul_comm _ 18446744073709551616]]
    omega

/-! Sums, differences, products of words. -/
@[irreducible] def sbD (x y b : Nat) : Nat := (x + 18446744073709551616 - y - b) % 18446744073709551616
@[irreducible] def sbB (x y b : Nat) : Nat := if x < y + b then 1 else 0
@[irreducible] def adS (x y c : Nat) : Nat := (x + y + c) % 18446744073709551616
@[irreducible] def adC (x y c : Nat) : Nat := (x + y + c) / 18446744073709551616
@[irreducible] def muH (x y : Nat) : Nat := x * y / 18446744073709551616
@[irreducible] def muL (x y : Nat) : Nat := x * y % 18446744073709551616
theorem sb_spec (x y b : Nat) (hx : x < 18446744073709551616) (hy : y < 18446744073709551616) (hb : b ≤ 1) :
    sbD x y b + y + b = x + sbB x y b * 18446744073709551616 ∧ sbD x y b < 18446744073709551616 ∧ sbB x y b ≤ 1 := by
  unfold sbD sbB
  split <;> omega
theorem ad_spec (x y c : Nat) (hx : x < 18446744073709551616) (hy : y < 18446744073709551616) (hc : c ≤ 1) :
    adS x y c + adC x y c * 18446744073709551616 = x + y + c ∧ adS x y c < 18446744073709551616 ∧ adC x y c ≤ 1 := by
  unfold adS adC
  omega
theorem mu_spec (x y : Nat) (hx : x < 18446744073709551616) (hy : y < 18446744073709551616) :
    muL x y + muH x y * 18446744073709551616 = x * y ∧ muL x y < 18446744073709551616 ∧ muH x y ≤ 18446744073709551614 := by
  unfold muL muH
  have : x * y ≤ 18446744073709551615 * 18446744073709551615 := Nat.mul_le_mul (by omega) (by omega)
  generalize x * y = z at *
  omega

/-! One cell is stored, in a region that draws its order. -/
section
variable {P : Program} {w0 w : World} {M : Nat → Prop} {H : List Chunk}
/-- A block that is held, sliced whole, reads as its cells. -/
theorem rd_cells (hS : St w0 M w H) (i : Nat) {g : Nat} {xs : List Value} {e : TypeId} (hi : H[i]? = some (.cells g xs.toArray e)) (n : Nat) (hn : xs.length = n) (hm : n ≤ maxLen) : Rd w (.slice (some ⟨g, 0, none⟩) n n) 1 n xs :=
  ⟨some ⟨g, 0, none⟩, n, rfl, by omega, Nat.le_refl _, hm, (fun h => by cases h), fun b o sp hA => by
    injection hA with hA
    injection hA with hb ho hsp
    subst hb ho hsp
    refine ⟨fun _ => rfl, fun j u hu => ?_⟩
    rw [Nat.zero_add, hS.cell i hi j]
    simpa using hu⟩
theorem _root_.Go.World.ownsRow.base_le {w : World} {base base' : Nat} {e : TypeId} {size n : Nat} {v : Value} {xs : List Value} (h : w.ownsRow base e size v n xs) (hb : base' ≤ base) : w.ownsRow base' e size v n xs := by
  obtain ⟨h1, h2⟩ := h
  refine ⟨h1, ?_⟩
  rcases h2 with h2 | ⟨g, cap, cur, rfl, hg, hr⟩
  · exact .inl h2
  · exact .inr ⟨g, cap, cur, rfl, Nat.le_trans hb hg, hr⟩
/-- 'copy' into the head of a block that is held. -/
theorem step_copy {yl : Nat → Option Bool} {o : Oper} {a : Act} {K : Act → World → Prop} {Q : Exit → Act → World → Prop} {E : Prop} (hw : Region.wanted o yl = true) {d s : Operand} {dT sT elem : TypeId}
    (ho : o.op = .call { callee := .builtin .copy, args := #[d, s], argTypes := #[dT, sT] }) (hu : P.underlying dT = some (.slice elem)) (hsz : (P.info? elem).map (·.size) = some 1)
    (hS : St w0 M w H) (i : Nat) {g : Nat} {cur : Array Value} {e : TypeId} (hi : H[i]? = some (.cells g cur e)) {dn dc m : Nat} (hd : a.eval d = .slice (some ⟨g, 0, none⟩) dn dc)
    {y : Value} {ys : List Value} (hx : a.eval s = y) (hr : Rd w y 1 m ys) (hm : m ≤ dn) (hpos : 0 < m) (hfit : dn ≤ cur.size) (h1 : ∀ u ∈ ys, u.oneCell' = true)
    (h : ∀ w', St w0 M w' (H.set i (.cells g (ys ++ cur.toList.drop m).toArray e)) → K (a.put o.dst (goInt m)) w') : if Region.wanted o yl = true then Oper.wp P o a w K Q else E := by
  rw [if_pos hw]
  rcases hr.cases with ⟨_, h0, _⟩ | ⟨b, off, sp, c, rfl, hb, hnc, hcm, hl, hsp, hc⟩
  · omega
  obtain rfl : sp = none := hsp (by omega)
  have hl' : ys.length = m := by omega
  have hrun := run_copy_row (P := P) w dT sT o.type elem g 0 dn dc ⟨b, off, none⟩ m c cur e ys hu hsz (hS.heap i hi) (by rw [hl']; exact (Nat.min_eq_left hm).symm) (fun j v hv => by rw [Addr.add_lit]; exact hc j v hv) (by omega) h1
  unfold Oper.wp execOp
  simp only [ho, resolve, invoke, builtin, Sem.run_bind, Sem.run_pure, Result.andThen_ok, List.map_toArray, List.map_cons, List.map_nil, hd, hx, hrun]
  rw [hl']
  have := hS.setRow i hi (cur.toList.take 0 ++ ys ++ cur.toList.drop (0 + ys.length)).toArray
  rw [List.take_zero, List.nil_append, Nat.zero_add, hl'] at this
  simp only [List.take_zero, List.nil_append, Nat.zero_add, hl'] 
  exact h _ this
theorem step_run {yl : Nat → Option Bool} {o : Oper} {a : Act} {K : Act → World → Prop} {Q : Exit → Act → World → Prop} {E : Prop} (hw : Region.wanted o yl = true) {v : Value} {w w' : World}
    (hrun : (execOp a.eval o).run P w = .ok (.value v) w') (h : K (a.put o.dst v) w') : if Region.wanted o yl = true then Oper.wp P o a w K Q else E := by
  rw [if_pos hw]
  unfold Oper.wp
  rw [hrun, Oper.upon_value]
  exact h
theorem step_skip {yl : Nat → Option Bool} {o : Oper} {a : Act} {K : Act → World → Prop} {Q : Exit → Act → World → Prop} {E : Prop} (hw : Region.wanted o yl = true) {w w' : World}
    (hrun : (execOp a.eval o).run P w = .ok .skip w') (h : K (a.put o.dst undef) w') : if Region.wanted o yl = true then Oper.wp P o a w K Q else E := by
  rw [if_pos hw]
  unfold Oper.wp
  rw [hrun]
  exact h
/-- A row's cells are stored at once, in a region that draws its order. -/
theorem step_storeRow {yl : Nat → Option Bool} {o : Oper} {a : Act} {K : Act → World → Prop} {Q : Exit → Act → World → Prop} {E : Prop} (hw : Region.wanted o yl = true) {t : TypeId} {p x : Operand}
    (ho : o.op = .store t p x) (hS : St w0 M w H) (i : Nat) {g : Nat} {c : Array Value} {e : TypeId} (hi : H[i]? = some (.cells g c e)) {cs : Array Value}
    (hp : a.eval p = .pointer (some ⟨g, 0, none⟩)) (hx : a.eval x = .agg cs) (ht : (P.info? t).map (·.size) = some cs.size) (hc : c.size = cs.size) (h1 : cs.all (·.oneCell') = true)
    (h : ∀ w', St w0 M w' (H.set i (.cells g cs e)) → K (a.put o.dst undef) w') : if Region.wanted o yl = true then Oper.wp P o a w K Q else E := by
  rw [if_pos hw]
  exact wp_store_row t p x ho g cs hp hx e c (hS.heap i hi) ht hc h1 (h _ (hS.setRow i hi cs))
/-- A variable is made, in a region that draws its order. -/
theorem step_alloc {yl : Nat → Option Bool} {o : Oper} {a : Act} {K : Act → World → Prop} {Q : Exit → Act → World → Prop} {E : Prop} (hw : Region.wanted o yl = true) {zs : Array Value} {e : TypeId}
    (hrun : ∀ w, (execOp a.eval o).run P w = .ok (.value (.pointer (some ⟨w.heap.size, 0, none⟩))) (w.alloc (.cells zs e))) (hS : St w0 M w H)
    (h : ∀ g w', St w0 M w' (.cells g zs e :: H) → Below w.heap.size w w' → K (a.put o.dst (.pointer (some ⟨g, 0, none⟩))) w') : if Region.wanted o yl = true then Oper.wp P o a w K Q else E :=
  step_run hw (hrun w) (h w.heap.size _ (hS.alloc zs e) ((Below.refl _ _).alloc (Nat.le_refl _) _))
theorem step_store {yl : Nat → Option Bool} {o : Oper} {a : Act} {K : Act → World → Prop} {Q : Exit → Act → World → Prop} {E : Prop} (hw : Region.wanted o yl = true) {t : TypeId} {p x : Operand}
    (ho : o.op = .store t p x) (ht : (P.info? t).map (·.size) = some 1) (hS : St w0 M w H) (i : Nat) {g : Nat} {c : Array Value} {e : TypeId} (hi : H[i]? = some (.cells g c e)) (k : Nat) (hk : k < c.size)
    (hp : a.eval p = .pointer (some ⟨g, k, none⟩)) {v : Value} (hx : a.eval x = v) (hv : v.oneCell' = true)
    (h : ∀ w', St w0 M w' (H.set i (.cells g (c.setIfInBounds k v) e)) → K (a.put o.dst undef) w') : if Region.wanted o yl = true then Oper.wp P o a w K Q else E := by
  rw [if_pos hw]
  have hc := hS.cell i hi k
  rw [Array.getElem?_eq_getElem hk] at hc
  have hf := hS.free i hi k
  have hrun : (storeVar t ⟨g, k, none⟩ v).run P w = .ok () (w.setCell ⟨g, k, none⟩ v) := by
    cases hq : P.info? t with
    | none => rw [hq] at ht; cases ht
    | some j =>
      rw [hq] at ht
      simp only [Option.map_some, Option.some.injEq] at ht
      have hst : ∀ m, (store (⟨g, k, none⟩ : Addr) v m).run P w = .ok () (w.setCell ⟨g, k, none⟩ v) := fun m => by rw [run_store P w _ v m hv, hc]; simp [hf]
      cases v <;> first
        | (cases hv; done)
        | (simp [storeVar, sizeOf, typeInfo, hq, Value.cells, ht, storeCells]; rw [Addr.add_zero']; exact hst _)
  unfold Oper.wp execOp
  simp only [ho, hp, hx, Instr.storeAt, Instr.sureAddr, Sem.run_bind, Sem.run_pure, Result.andThen_ok, hrun]
  exact h _ (hS.setCell i hi k v)
end
theorem size_alloc1 (w : World) (o : Obj) : (w.alloc o).heap.size = w.heap.size + 1 := by
  show (w.heap.push o).size = _
  simp
theorem results_cell_tmp_row {P : Program} {fn : Func} {p u : Tmp} {ty : TypeId} (h : fn.results = #[.cell p ty, .tmp u]) (tmps : Array Value) (w : World) (g : Nat) (t : TypeId) (cs : Array Value) (fr : Nat × Nat) (d : TypeDesc)
    (hp : tmps.getD p undef = .pointer (some ⟨g, 0, none⟩)) (hg : w.heap[g]? = some (.cells cs t fr))
    (hu : P.underlying ty = some d) (hd : (match d with | .struct _ | .array _ _ => true | _ => false) = true) (hi : (P.info? ty).map (·.size) = some cs.size) :
    (results fn tmps).run P w = .ok (.tuple #[.agg cs, tmps.getD u undef]) w := by
  have hp' : tmps[p]?.getD undef = .pointer (some ⟨g, 0, none⟩) := by simpa using hp
  simp [results, h, hp', asAddr, run_loadVar_row w g t ty cs fr d hg hu hd hi]
end Go.Proofs.Ythpioncehigoaaa
