/-
  Terms: a row of them copied; a value of some cells stored into a row.
-/
import Derived.Test.YthpioncehigoaaaTn
import Derived.Test.YthpioncehigoaaaRs
import Derived.Test.YthpioncehigoaaaTz
set_option linter.unusedVariables false
namespace Go.Proofs.Ythpioncehigoaaa
open Go.RowKit
set_option linter.unusedSimpArgs false

/-- Cells put into cells from some place on. -/
def putC (c : Array Value) (k : Nat) : List Value → Array Value
  | [] => c
  | v :: vs => putC (c.setIfInBounds k v) (k + 1) vs
theorem run_storeCells {P : Program} {w0 : World} {M : Nat → Prop} (g k : Nat) (e : TypeId) : ∀ (vs : List Value) (i : Nat) (H : List Chunk) (j : Nat) (c : Array Value) (W : World), (∀ v ∈ vs, v.oneCell' = true) → St w0 M W H → H[j]? = some (.cells g c e) → k + i + vs.length ≤ c.size →
    ∃ W', (storeCells ⟨g, k, none⟩ vs i).run P W = .ok () W' ∧ St w0 M W' (H.set j (.cells g (putC c (k + i) vs) e))
  | [], i, H, j, c, W, _, hS, hj, _ => by
    refine ⟨W, rfl, ?_⟩
    have : H.set j (.cells g (putC c (k + i) []) e) = H := by
      rw [putC]
      obtain ⟨hlt, hx⟩ := List.getElem?_eq_some_iff.1 hj
      rw [← hx, List.set_getElem_self]
    rw [this]
    exact hS
  | v :: vs, i, H, j, c, W, hv, hS, hj, hk => by
    rw [List.length_cons] at hk
    have hc := hS.cell j hj (k + i)
    rw [Array.getElem?_eq_getElem (by omega)] at hc
    have hf := hS.free j hj (k + i)
    have h1 : (store (⟨g, k, none⟩ : Addr) v .plain).run P W = (store (⟨g, k, none⟩ : Addr) v .plain).run P W := rfl
    have hst : (store ((⟨g, k, none⟩ : Addr).add i) v).run P W = .ok () (W.setCell ⟨g, k + i, none⟩ v) := by
      rw [Addr.add_lit, run_store P W _ v _ (hv v (List.mem_cons_self ..)), hc]
      simp [hf]
    obtain ⟨W', hW, hS'⟩ := run_storeCells (P := P) g k e vs (i + 1) (H.set j (.cells g (c.setIfInBounds (k + i) v) e)) j (c.setIfInBounds (k + i) v) _ (fun u hu => hv u (List.mem_cons_of_mem _ hu)) (hS.setCell j hj (k + i) v)
      (by rw [List.getElem?_set_self (List.getElem?_eq_some_iff.1 hj).1]) (by rw [Array.size_setIfInBounds]; omega)
    refine ⟨W', ?_, ?_⟩
    · rw [storeCells]
      simp only [Sem.run_bind, hst, Result.andThen_ok]
      exact hW
    · rw [List.set_set] at hS'
      exact hS'
/-- A value of some cells is stored into a row. -/
theorem wp_storeC {P : Program} {w0 w : World} {M : Nat → Prop} {H : List Chunk} {o : Oper} {a : Act} {K : Act → World → Prop} {Q : Exit → Act → World → Prop} {t : TypeId} {x y : Operand} (ho : o.op = .store t x y) (hS : St w0 M w H) (j : Nat) {g k : Nat} {c : Array Value} {e : TypeId} (hj : H[j]? = some (.cells g c e))
    {vs : List Value} (ht : (P.info? t).map (·.size) = some vs.length) (hk : k + vs.length ≤ c.size) (hp : a.eval x = .pointer (some ⟨g, k, none⟩)) (hy : a.eval y = .agg vs.toArray) (hv : ∀ v ∈ vs, v.oneCell' = true)
    (h : ∀ w', St w0 M w' (H.set j (.cells g (putC c k vs) e)) → K (a.put o.dst undef) w') : o.wp P a w K Q := by
  obtain ⟨W', hW, hS'⟩ := run_storeCells (P := P) g k e vs 0 H j c w hv hS hj (by omega)
  have hrun : (storeVar t ⟨g, k, none⟩ (.agg vs.toArray)).run P w = .ok () W' := by
    cases hq : P.info? t with
    | none => rw [hq] at ht; cases ht
    | some q =>
      rw [hq] at ht
      simp only [Option.map_some, Option.some.injEq] at ht
      simp [storeVar, sizeOf, typeInfo, hq, Value.cells, ht, hW]
  unfold Oper.wp execOp
  simp only [ho, hp, hy, Instr.storeAt, Instr.sureAddr, Sem.run_bind, Sem.run_pure, Result.andThen_ok, hrun]
  exact h _ hS'
theorem putC_list : ∀ (vs mid pre post : List Value), mid.length = vs.length → putC (pre ++ (mid ++ post)).toArray pre.length vs = (pre ++ (vs ++ post)).toArray
  | [], [], pre, post, _ => rfl
  | v :: vs, m :: mid, pre, post, h => by
    rw [putC]
    have e : ((pre ++ (m :: mid ++ post)).toArray).setIfInBounds pre.length v = ((pre ++ [v]) ++ (mid ++ post)).toArray := by
      simp
    rw [e]
    have := putC_list vs mid (pre ++ [v]) post (by simpa using h)
    rw [List.length_append, List.length_singleton] at this
    rw [this]
    simp
  | [], _ :: _, _, _, h => by simp at h
  | _ :: _, [], _, _, h => by simp at h
theorem Tm.one (t : Tm) : ∀ v ∈ t.cells, v.oneCell' = true := by
  intro v hv
  unfold Tm.cells Tm.row at hv
  simp only [List.mem_cons, List.not_mem_nil, or_false] at hv
  rcases hv with rfl | rfl | rfl | rfl <;> rfl
theorem szTerm : (Try.prog.info? 62).map (·.size) = some 4 := by kernel_rfl
theorem tmCells_one (l : List Tm) : ∀ u ∈ tmCells l, u.oneCell' = true := by
  intro u hu
  unfold tmCells at hu
  obtain ⟨t, _, ht⟩ := List.mem_flatMap.1 hu
  exact t.one u ht
theorem rowTm : RowTy Try.prog 22 62 4 56 := rowTy_of (z := .agg #[.int .i64 0, .int .i64 0, .string ⟨#[]⟩, .slice none 0 0]) (by kernel_rfl) (by kernel_rfl) rfl (by decide)
set_option maxRecDepth 100000 in
set_option maxHeartbeats 800000 in
theorem clone_any {w0 w : World} {M : Nat → Prop} {H : List Chunk} (v : Value) (l : List Tm) (hr : Rd w v 4 l.length (tmCells l)) (hn : l.length ≤ 1000000) (hS : St w0 M w H) :
    Calls Try.prog 66 #[v] w fun e w' => ∃ A c, e = .returned (.slice A l.length c) ∧ St w0 M w' (.row (.slice A l.length c) 62 4 l.length (tmCells l) :: H) := by
  obtain ⟨A, c, rfl, hr⟩ := Rd.isSlice hr
  cases A with
  | none =>
    have h0 : l.length = 0 ∧ c = 0 := by
      obtain ⟨A', c', hv, _, h1, h2, h3, _⟩ := hr
      injection hv with hv1 hv2 hv3
      subst hv1 hv3
      have := h3 rfl
      omega
    obtain ⟨h0, rfl⟩ := h0
    have hl : l = [] := List.eq_nil_of_length_eq_zero h0
    subst hl
    have HS := hide hS
    have hnil : ∀ W, (binOp .eql 22 (.slice none 0 0) (.slice none 0 0)).run Try.prog W = .ok (.bool true) W := fun W => by kernel_rfl
    clear hS hr hn h0
    go_enter Try.func66, Try.ntmps66
    go_wp2_with fail
    go_ret
    exact ⟨none, 0, rfl, HS.out.row (Below.refl _ _) (World.ownsRow_nil _ _ _ _)⟩
  | some a =>
    have hS1 : St w0 M (w.alloc (.cells #[] 62)) (.row (.slice (some ⟨w.heap.size, 0, none⟩) 0 0) 62 4 0 [] :: H) := hS.row ((Below.refl w.heap.size w).alloc (Nat.le_refl _) _) ⟨rfl, .inr ⟨w.heap.size, 0, #[], rfl, Nat.le_refl _, by show (w.heap.push _)[w.heap.size]? = _; simp, Nat.le_refl _, by decide, rfl, rfl⟩⟩
    have hr1 := hr.below ((Below.refl w.heap.size w).alloc (Nat.le_refl _) (.cells #[] 62))
    have HS1 := hide hS1
    have HR1 := hide hr1
    clear hS hS1 hr hr1
    obtain ⟨n, hnn⟩ : ∃ n, n = l.length := ⟨_, rfl⟩
    rw [← hnn] at HR1 hn ⊢
    clear hnn
    have hnil : ∀ W, (binOp .eql 22 (.slice (some a) n c) (.slice none 0 0)).run Try.prog W = .ok (.bool false) W := fun W => by kernel_rfl
    go_enter Try.func66, Try.ntmps66
    go_wp2_with (at_builtin; refine wl_append rfl rfl rowTm HS1.out 0 rfl rfl rfl HR1.out (tmCells_one l) (by omega) (by decide) ?_; intro A' c' w' hS2; rw [Nat.zero_add, List.nil_append] at hS2; have HS2 := hide hS2; clear hS2)
    go_ret
    exact ⟨_, _, rfl, HS2.out⟩
theorem wl_storeC {P : Program} {w0 w : World} {M : Nat → Prop} {H : List Chunk} {ops : Array Oper} {more : List Oper} {o : Oper} {a : Act} {Q : Exit → Act → World → Prop} (hgd : o.guard = none) {t : TypeId} {x y : Operand} (ho : o.op = .store t x y) (hS : St w0 M w H) (j : Nat) {g k : Nat} {c : Array Value} {e : TypeId} (hj : H[j]? = some (.cells g c e))
    {vs : List Value} (ht : (P.info? t).map (·.size) = some vs.length) (hk : k + vs.length ≤ c.size) (hp : a.eval x = .pointer (some ⟨g, k, none⟩)) (hy : a.eval y = .agg vs.toArray) (hv : ∀ v ∈ vs, v.oneCell' = true)
    (h : ∀ w', St w0 M w' (H.set j (.cells g (putC c k vs) e)) → wpList P ops Q more (a.put o.dst undef) w') : wpList P ops Q (o :: more) a w :=
  wpList_plain hgd fun _ hK => wp_storeC ho hS j hj ht hk hp hy hv fun w' h2 => hK _ _ (h w' h2)
/-- A row of one's own, its block told. -/
theorem St.cells_of {w0 w : World} {M : Nat → Prop} {H : List Chunk} {A : Option Addr} {n c : Nat} {e : TypeId} {xs : List Value} (hS : St w0 M w (.row (.slice A n c) e 4 n xs :: H)) (hn : 0 < n) :
    ∃ b rest, A = some ⟨b, 0, none⟩ ∧ n ≤ c ∧ c ≤ maxLen ∧ St w0 M w (.cells b (xs ++ rest).toArray e :: H) := by
  have ho : w.ownsRow 0 e 4 (.slice A n c) n xs := hS.sat 0 _ rfl
  obtain ⟨h1, h2⟩ := ho
  rcases h2 with ⟨_, h0⟩ | ⟨g, cap, cur, hv, _, hh, h3, h4, h5, h6⟩
  · omega
  · injection hv with hv1 hv2 hv3
    subst hv1 hv3
    have hcur : cur = (xs ++ cur.toList.drop (n * 4)).toArray := by
      rw [← h6, List.take_append_drop]
    refine ⟨g, cur.toList.drop (n * 4), rfl, h3, h4, ?_⟩
    rw [← hcur]
    have key := hS.turn (i := 0) (c := .row (.slice (some ⟨g, 0, none⟩) n c) e 4 n xs) (d := .cells g cur e) rfl (Ext.refl _ _) hh
    exact key (fun k hk => .inl hk)
end Go.Proofs.Ythpioncehigoaaa
