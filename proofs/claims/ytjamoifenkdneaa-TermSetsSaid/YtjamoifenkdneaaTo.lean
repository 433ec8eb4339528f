/-
  Layer 7: the pile: Len, Less, Swap.
-/
import Derived.Test.YtjamoifenkdneaaTn
namespace Go.Proofs.Ytjamoifenkdneaa
open Go.RowKit
set_option linter.unusedSimpArgs false

theorem pLen_any (A : Option Addr) (n c : Nat) (w : World) : Calls Try.prog 39 #[.slice A n c] w fun e w' => e = .returned (.int .i64 (n : Int)) ∧ w = w' := by
  go_enter Try.func39, Try.ntmps39
  go_wp2_with fail
  go_ret
  exact ⟨rfl, rfl⟩
set_option maxRecDepth 100000 in
set_option maxHeartbeats 800000 in
theorem pLess_any (A : Option Addr) (n c : Nat) (l : List Tm) (i j : Nat) (x y : Tm) (w : World) (hr : Rd w (.slice A n c) 4 n (tmCells l)) (hi : l[i]? = some x) (hj : l[j]? = some y) (hin : i < n) (hjn : j < n) (hx : TmOK w x) (hy : TmOK w y) (hn : n ≤ 140737488351232) :
    Calls Try.prog 70 #[.slice A n c, .int .i64 (i : Int), .int .i64 (j : Int)] w fun e w' => e = .returned (.bool (decide (cmpA x y < 0))) ∧ Below w.heap.size w w' := by
  obtain ⟨b, o, rfl, hb8, hc⟩ := tm_at hr hi
  obtain ⟨b', o', e', _, hc'⟩ := tm_at hr hj
  injection e' with e'
  injection e' with e1' e2'
  subst e1' e2'
  obtain ⟨c0, c1, c2, c3⟩ := hc w.drew (Below.refl _ _).drew
  obtain ⟨d0, d1, d2, d3⟩ := hc' w.drew (Below.refl _ _).drew
  have HC := hide (fun W hW => compare_any x y W (hx.on hW) (hy.on hW))
  have HD := hide (Below.refl w.heap.size w).drew
  clear hc hc' hr hi hj hx hy
  unfold Tm.val Tm.row at *
  generalize cmpA x y = z at HC ⊢
  have ii : (i : Int) < (n : Int) := by omega
  have jj : (j : Int) < (n : Int) := by omega
  go_enter Try.func70, Try.ntmps70
  go_wp2_with fail
  refine wp_region_T [(0, 1), (1, 1), (2, 1), (3, 0), (4, 1), (5, 1), (6, 1), (7, 0), (8, 2), (9, 1), (10, 1)] (by kernel_rfl) (by kernel_rfl) (fun _ _ _ _ h => h) ?_
  go_wp2_with (first
    | (refine wpT_nil ?_)   | ((with_reducible refine fromT_refl ?_); (try simp only [Act.put, List.setIfInBounds_toArray, List.set_cons_zero, List.set_cons_succ, List.getElem_toArray, List.getElem_cons_succ, List.getElem_cons_zero]))   | ((with_reducible refine fromT_mk (by assumption) ?_); (try simp only [Act.put, List.setIfInBounds_toArray, List.set_cons_zero, List.set_cons_succ, List.getElem_toArray, List.getElem_cons_succ, List.getElem_cons_zero]))   | (refine wpT_pure (v := ?_) rfl rfl ?_ ?_; rotate_left; (intro wx; go_simp; try go_bits) <;> (with_reducible rfl); (try simp only [Act.put, List.setIfInBounds_toArray, List.set_cons_zero, List.set_cons_succ, List.getElem_toArray, List.getElem_cons_succ, List.getElem_cons_zero]))   | (refine wpT_load (v := ?_) rfl rfl rfl ?_ ?_; rotate_left; (go_simp; try go_bits) <;> (with_reducible rfl); (try simp only [Act.put, List.setIfInBounds_toArray, List.set_cons_zero, List.set_cons_succ, List.getElem_toArray, List.getElem_cons_succ, List.getElem_cons_zero]))   | (refine wpT_read (v := ?_) rfl rfl ?_ ?_; rotate_left; (intro wx hx; go_simp; try go_bits) <;> (with_reducible rfl); (try simp only [Act.put, List.setIfInBounds_toArray, List.set_cons_zero, List.set_cons_succ, List.getElem_toArray, List.getElem_cons_succ, List.getElem_cons_zero]))   | (refine wpT_call rfl rfl ?_; intro K hK)   | (refine wpT_late rfl rfl ?_; intro K hK)   | (refine wpT_any rfl rfl ?_; intro K hK)   | (refine wpT_skip rfl rfl ?_; (try simp only [Act.put, List.setIfInBounds_toArray, List.set_cons_zero, List.set_cons_succ, List.getElem_toArray, List.getElem_cons_succ, List.getElem_cons_zero]))
    | (go_at_call 11; (with_reducible refine (HC.out _ HD.out).mono ?_); rintro e w' ⟨rfl, hb⟩; have HB := hide (HD.out.trans (hb.mono HD.out.size))))
  go_ret
  exact ⟨rfl, HB.out⟩
/-- Cells put into cells from some place on. -/
def putC (c : Array Value) (k : Nat) : List Value → Array Value
  | [] => c
  | v :: vs => putC (c.setIfInBounds k v) (k + 1) vs
theorem run_storeCells {P : Program} {w0 : World} {M : Nat → Prop} (g k : Nat) (e : TypeId) : ∀ (vs : List Value) (i : Nat) (H : List Chunk) (j : Nat) (c : Array Value) (W : World), (∀ v ∈ vs, v.oneCell' = true) → St w0 M W H → H[j]? = some (.cells g c e) → k + i + vs.length ≤ c.size →
    ∃ W', (storeCells ⟨g, k, none⟩ vs i).run P W = .ok () W' ∧ St w0 M W' (H.set j (.cells g (putC c (k + i) vs) e))
  | [], i, H, j, c, W, _, hS, hj, _ => by
    refine ⟨W, rfl, ?_⟩
    have : H.set j (.cells g (putC c (k + i) []) e) = H := by
      rw [putC]
      obtain ⟨hlt, hx⟩ := List.getElem?_eq_some_iff.1 hj
      rw [← hx, List.set_getElem_self]
    rw [this]
    exact hS
  | v :: vs, i, H, j, c, W, hv, hS, hj, hk => by
    rw [List.length_cons] at hk
    have hc := hS.cell j hj (k + i)
    rw [Array.getElem?_eq_getElem (by omega)] at hc
    have hf := hS.free j hj (k + i)
    have h1 : (store (⟨g, k, none⟩ : Addr) v .plain).run P W = (store (⟨g, k, none⟩ : Addr) v .plain).run P W := rfl
    have hst : (store ((⟨g, k, none⟩ : Addr).add i) v).run P W = .ok () (W.setCell ⟨g, k + i, none⟩ v) := by
      rw [Addr.add_lit, run_store P W _ v _ (hv v (List.mem_cons_self ..)), hc]
      simp [hf]
    obtain ⟨W', hW, hS'⟩ := run_storeCells (P := P) g k e vs (i + 1) (H.set j (.cells g (c.setIfInBounds (k + i) v) e)) j (c.setIfInBounds (k + i) v) _ (fun u hu => hv u (List.mem_cons_of_mem _ hu)) (hS.setCell j hj (k + i) v)
      (by rw [List.getElem?_set_self (List.getElem?_eq_some_iff.1 hj).1]) (by rw [Array.size_setIfInBounds]; omega)
    refine ⟨W', ?_, ?_⟩
    · rw [storeCells]
      simp only [Sem.run_bind, hst, Result.andThen_ok]
      exact hW
    · rw [List.set_set] at hS'
      exact hS'
/-- A value of some cells is stored into a row. -/
theorem wp_storeC {P : Program} {w0 w : World} {M : Nat → Prop} {H : List Chunk} {o : Oper} {a : Act} {K : Act → World → Prop} {Q : Exit → Act → World → Prop} {t : TypeId} {x y : Operand} (ho : o.op = .store t x y) (hS : St w0 M w H) (j : Nat) {g k : Nat} {c : Array Value} {e : TypeId} (hj : H[j]? = some (.cells g c e))
    {vs : List Value} (ht : (P.info? t).map (·.size) = some vs.length) (hk : k + vs.length ≤ c.size) (hp : a.eval x = .pointer (some ⟨g, k, none⟩)) (hy : a.eval y = .agg vs.toArray) (hv : ∀ v ∈ vs, v.oneCell' = true)
    (h : ∀ w', St w0 M w' (H.set j (.cells g (putC c k vs) e)) → K (a.put o.dst undef) w') : o.wp P a w K Q := by
  obtain ⟨W', hW, hS'⟩ := run_storeCells (P := P) g k e vs 0 H j c w hv hS hj (by omega)
  have hrun : (storeVar t ⟨g, k, none⟩ (.agg vs.toArray)).run P w = .ok () W' := by
    cases hq : P.info? t with
    | none => rw [hq] at ht; cases ht
    | some q =>
      rw [hq] at ht
      simp only [Option.map_some, Option.some.injEq] at ht
      simp [storeVar, sizeOf, typeInfo, hq, Value.cells, ht, hW]
  unfold Oper.wp execOp
  simp only [ho, hp, hy, Instr.storeAt, Instr.sureAddr, Sem.run_bind, Sem.run_pure, Result.andThen_ok, hrun]
  exact h _ hS'
theorem putC_list : ∀ (vs mid pre post : List Value), mid.length = vs.length → putC (pre ++ (mid ++ post)).toArray pre.length vs = (pre ++ (vs ++ post)).toArray
  | [], [], pre, post, _ => rfl
  | v :: vs, m :: mid, pre, post, h => by
    rw [putC]
    have e : ((pre ++ (m :: mid ++ post)).toArray).setIfInBounds pre.length v = ((pre ++ [v]) ++ (mid ++ post)).toArray := by
      simp
    rw [e]
    have := putC_list vs mid (pre ++ [v]) post (by simpa using h)
    rw [List.length_append, List.length_singleton] at this
    rw [this]
    simp
  | [], _ :: _, _, _, h => by simp at h
  | _ :: _, [], _, _, h => by simp at h
theorem put_tm {l : List Tm} {i : Nat} {x : Tm} (y : Tm) (rest : List Value) (hi : l[i]? = some x) : putC (tmCells l ++ rest).toArray (i * 4) y.cells = (tmCells (l.set i y) ++ rest).toArray := by
  obtain ⟨hlt, hx⟩ := List.getElem?_eq_some_iff.1 hi
  have e1 : l = l.take i ++ x :: l.drop (i + 1) := by rw [← hx, ← List.drop_eq_getElem_cons hlt, List.take_append_drop]
  have e2 : l.set i y = l.take i ++ y :: l.drop (i + 1) := by rw [List.set_eq_take_append_cons_drop, if_pos hlt]
  have c1 : tmCells l ++ rest = tmCells (l.take i) ++ (x.cells ++ (tmCells (l.drop (i + 1)) ++ rest)) := by
    conv => lhs; rw [e1]
    unfold tmCells
    rw [List.flatMap_append, List.flatMap_cons, List.append_assoc, List.append_assoc]
  have c2 : tmCells (l.set i y) ++ rest = tmCells (l.take i) ++ (y.cells ++ (tmCells (l.drop (i + 1)) ++ rest)) := by
    rw [e2]
    unfold tmCells
    rw [List.flatMap_append, List.flatMap_cons, List.append_assoc, List.append_assoc]
  rw [c1, c2]
  have hl : (tmCells (l.take i)).length = i * 4 := by rw [tmCells_length, List.length_take, Nat.min_eq_left (by omega)]
  rw [← hl]
  exact putC_list y.cells x.cells _ _ rfl
theorem Tm.one (t : Tm) : ∀ v ∈ t.cells, v.oneCell' = true := by
  intro v hv
  unfold Tm.cells Tm.row at hv
  simp only [List.mem_cons, List.not_mem_nil, or_false] at hv
  rcases hv with rfl | rfl | rfl | rfl <;> rfl
theorem szTerm : (Try.prog.info? 24).map (·.size) = some 4 := by kernel_rfl
set_option maxRecDepth 100000 in
set_option maxHeartbeats 800000 in
theorem pSwap_any {w0 : World} {M : Nat → Prop} {H : List Chunk} (b n c : Nat) (l : List Tm) (rest : List Value) (i j : Nat) (x y : Tm) (w : World) (hi : l[i]? = some x) (hj : l[j]? = some y) (hin : i < n) (hjn : j < n) (hn : n ≤ 140737488351232)
    (hS : St w0 M w (.cells b (tmCells l ++ rest).toArray 24 :: H)) :
    Calls Try.prog 71 #[.slice (some ⟨b, 0, none⟩) n c, .int .i64 (i : Int), .int .i64 (j : Int)] w fun e w' => e = .returned (.tuple #[]) ∧ St w0 M w' (.cells b (tmCells ((l.set i y).set j x) ++ rest).toArray 24 :: H) := by
  have cx : ∀ k u, k < 4 → x.cells[k]? = some u → w.drew.cell? ⟨b, i * 4 + k, none⟩ = some u := fun k u hk hu => by
    have hg := hS.drew.cell 0 rfl (i * 4 + k)
    rw [hg, List.getElem?_toArray, List.getElem?_append_left (by rw [tmCells_length]; have := (List.getElem?_eq_some_iff.1 hi).1; omega), tmCells_at hi hk]
    exact hu
  have cy : ∀ k u, k < 4 → y.cells[k]? = some u → w.drew.cell? ⟨b, j * 4 + k, none⟩ = some u := fun k u hk hu => by
    have hg := hS.drew.cell 0 rfl (j * 4 + k)
    rw [hg, List.getElem?_toArray, List.getElem?_append_left (by rw [tmCells_length]; have := (List.getElem?_eq_some_iff.1 hj).1; omega), tmCells_at hj hk]
    exact hu
  have c0 : w.drew.cell? ⟨b, i * 4, none⟩ = some (.int .i64 x.k) := cx 0 _ (by omega) rfl
  have c1 : w.drew.cell? ⟨b, i * 4 + 1, none⟩ = some (.int .i64 x.n) := cx 1 _ (by omega) rfl
  have c2 : w.drew.cell? ⟨b, i * 4 + 2, none⟩ = some (.string (strOf x.s)) := cx 2 _ (by omega) rfl
  have c3 : w.drew.cell? ⟨b, i * 4 + 3, none⟩ = some (.slice x.A x.l.length x.c) := cx 3 _ (by omega) rfl
  have d0 : w.drew.cell? ⟨b, j * 4, none⟩ = some (.int .i64 y.k) := cy 0 _ (by omega) rfl
  have d1 : w.drew.cell? ⟨b, j * 4 + 1, none⟩ = some (.int .i64 y.n) := cy 1 _ (by omega) rfl
  have d2 : w.drew.cell? ⟨b, j * 4 + 2, none⟩ = some (.string (strOf y.s)) := cy 2 _ (by omega) rfl
  have d3 : w.drew.cell? ⟨b, j * 4 + 3, none⟩ = some (.slice y.A y.l.length y.c) := cy 3 _ (by omega) rfl
  have HS := hide hS
  have ii : (i : Int) < (n : Int) := by omega
  have jj : (j : Int) < (n : Int) := by omega
  clear hS cx cy
  go_enter Try.func71, Try.ntmps71
  go_wp2_with fail
  refine wp_region_T [(0, 1), (1, 1), (2, 1), (3, 1), (4, 1), (5, 1), (6, 1), (7, 0), (8, 1), (9, 1), (10, 1), (11, 0), (12, 1), (13, 3), (14, 1), (15, 4)] (by kernel_rfl) (by kernel_rfl) (fun _ _ _ _ h => h) ?_
  go_wp2_with (first
    | (refine wpT_late rfl rfl ?_; intro K hK; refine wp_storeC (k := i * 4) (vs := y.cells) rfl HS.out.drew 0 rfl szTerm (by rw [Tm.cells_length, List.size_toArray, List.length_append, tmCells_length]; have := (List.getElem?_eq_some_iff.1 hi).1; omega) rfl rfl y.one ?_; intro w1 hS1; rw [put_tm y rest hi] at hS1; have HS1 := hide hS1; clear hS1)
    | (refine wpT_any rfl rfl ?_; intro K hK; refine wp_storeC (k := j * 4) (vs := x.cells) rfl HS1.out 0 rfl szTerm (by rw [Tm.cells_length, List.size_toArray, List.length_append, tmCells_length, List.length_set]; have := (List.getElem?_eq_some_iff.1 hj).1; omega) rfl rfl x.one ?_; intro w2 hS2; have HS2 := hide hS2; clear hS2)
    | (refine wpT_nil ?_)   | ((with_reducible refine fromT_refl ?_); (try simp only [Act.put, List.setIfInBounds_toArray, List.set_cons_zero, List.set_cons_succ, List.getElem_toArray, List.getElem_cons_succ, List.getElem_cons_zero]))   | ((with_reducible refine fromT_mk (by assumption) ?_); (try simp only [Act.put, List.setIfInBounds_toArray, List.set_cons_zero, List.set_cons_succ, List.getElem_toArray, List.getElem_cons_succ, List.getElem_cons_zero]))   | (refine wpT_pure (v := ?_) rfl rfl ?_ ?_; rotate_left; (intro wx; go_simp; try go_bits) <;> (with_reducible rfl); (try simp only [Act.put, List.setIfInBounds_toArray, List.set_cons_zero, List.set_cons_succ, List.getElem_toArray, List.getElem_cons_succ, List.getElem_cons_zero]))   | (refine wpT_load (v := ?_) rfl rfl rfl ?_ ?_; rotate_left; (go_simp; try go_bits) <;> (with_reducible rfl); (try simp only [Act.put, List.setIfInBounds_toArray, List.set_cons_zero, List.set_cons_succ, List.getElem_toArray, List.getElem_cons_succ, List.getElem_cons_zero]))   | (refine wpT_read (v := ?_) rfl rfl ?_ ?_; rotate_left; (intro wx hx; go_simp; try go_bits) <;> (with_reducible rfl); (try simp only [Act.put, List.setIfInBounds_toArray, List.set_cons_zero, List.set_cons_succ, List.getElem_toArray, List.getElem_cons_succ, List.getElem_cons_zero]))   | (refine wpT_call rfl rfl ?_; intro K hK)   | (refine wpT_late rfl rfl ?_; intro K hK)   | (refine wpT_any rfl rfl ?_; intro K hK)   | (refine wpT_skip rfl rfl ?_; (try simp only [Act.put, List.setIfInBounds_toArray, List.set_cons_zero, List.set_cons_succ, List.getElem_toArray, List.getElem_cons_succ, List.getElem_cons_zero])))
  go_end0
  obtain ⟨y', hj'⟩ : ∃ y', (l.set i y)[j]? = some y' := ⟨_, List.getElem?_eq_getElem (by rw [List.length_set]; exact (List.getElem?_eq_some_iff.1 hj).1)⟩
  have hS2 := HS2.out
  rw [List.set_set, put_tm x rest hj'] at hS2
  exact ⟨rfl, hS2⟩
end Go.Proofs.Ytjamoifenkdneaa
