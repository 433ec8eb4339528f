/-
  Rows of one's own, of elements of any size: opened, closed, copied into, grown by zeros. No program is named here.
-/
import Derived.Test.YthpioncehigoaaaYf
import Derived.Lib.AppendZerosOnto
import Derived.Lib.Overlaps
set_option linter.unusedSimpArgs false
set_option linter.unusedVariables false
namespace Go.Proofs.Ythpioncehigoaaa
open Go.RowKit

section
variable {w0 w w' : World} {M : Nat → Prop} {H : List Chunk}
/-- Any chunk, by itself. -/
theorem St.soloC (h : St w0 M w H) (i : Nat) {c : Chunk} (hi : H[i]? = some c) : St w (fun k => c.block = some k) w [c] := by
  refine ⟨Ext.refl _ _, fun j d hd => ?_, fun j d k hd hk => ?_, fun j l d d' k hjl hd hd' => ?_⟩
  · cases j with
    | zero => simp only [List.getElem?_cons_zero, Option.some.injEq] at hd; subst hd; exact h.sat i _ hi
    | succ j => simp at hd
  · cases j with
    | zero => simp only [List.getElem?_cons_zero, Option.some.injEq] at hd; subst hd; exact .inr hk
    | succ j => simp at hd
  · cases j with
    | zero =>
      cases l with
      | zero => exact absurd rfl hjl
      | succ l => simp at hd'
    | succ j => simp at hd
theorem St.backC (h : St w0 M w H) (i : Nat) {c d : Chunk} (hi : H[i]? = some c) (h' : St w (fun k => c.block = some k) w' [d]) : St w0 M w' (H.set i d) :=
  h.turn hi h'.ext (h'.sat 0 _ rfl) fun k hk => by
    rcases h'.own 0 _ k rfl hk with h1 | h1
    · exact .inr h1
    · exact .inl h1
theorem St.cells_ofG {A : Option Addr} {n c size : Nat} {e : TypeId} {xs : List Value} (hS : St w0 M w (.row (.slice A n c) e size n xs :: H)) (hn : 0 < n) :
    ∃ b rest, A = some ⟨b, 0, none⟩ ∧ n ≤ c ∧ c ≤ maxLen ∧ xs.length = n * size ∧ (xs ++ rest).length = c * size ∧ St w0 M w (.cells b (xs ++ rest).toArray e :: H) := by
  have ho : w.ownsRow 0 e size (.slice A n c) n xs := hS.sat 0 _ rfl
  obtain ⟨h1, h2⟩ := ho
  rcases h2 with ⟨_, h0⟩ | ⟨g, cap, cur, hv, _, hh, h3, h4, h5, h6⟩
  · omega
  · injection hv with hv1 hv2 hv3
    subst hv1 hv3
    have hcur : cur = (xs ++ cur.toList.drop (n * size)).toArray := by
      rw [← h6, List.take_append_drop]
    refine ⟨g, cur.toList.drop (n * size), rfl, h3, h4, h1, ?_, ?_⟩
    · have h7 : cur.toList.length = c * size := by rw [Array.length_toList]; exact h5
      rw [← h6, List.take_append_drop]
      exact h7
    · rw [← hcur]
      have key := hS.turn (i := 0) (c := .row (.slice (some ⟨g, 0, none⟩) n c) e size n xs) (d := .cells g cur e) rfl (Ext.refl _ _) hh
      exact key (fun k hk => .inl hk)
theorem St.as_row {b m c size : Nat} {e : TypeId} {zs R : List Value} (hS : St w0 M w (.cells b (zs ++ R).toArray e :: H)) (hz : zs.length = m * size) (hc : (zs ++ R).length = c * size) (hm : m ≤ c) (hcm : c ≤ maxLen) :
    St w0 M w (.row (.slice (some ⟨b, 0, none⟩) m c) e size m zs :: H) := by
  have key := hS.turn (i := 0) (c := .cells b (zs ++ R).toArray e) (d := .row (.slice (some ⟨b, 0, none⟩) m c) e size m zs) rfl (Ext.refl _ _)
    ⟨hz, .inr ⟨b, c, (zs ++ R).toArray, rfl, Nat.zero_le _, hS.sat 0 _ rfl, hm, hcm, by rw [List.size_toArray]; exact hc, by rw [← hz]; exact List.take_left⟩⟩
  exact key (fun k hk => .inl hk)
end
theorem rd_nilcap {w : World} {A : Option Addr} {n c size : Nat} {xs : List Value} (h : Rd w (.slice A n c) size n xs) : n ≤ c ∧ (A = none → c = 0) := by
  obtain ⟨A', c', e, _, h2, _, h4, _⟩ := h
  injection e with e1 _ e3
  subst e1 e3
  exact ⟨h2, h4⟩
theorem sliced_lt {b o k n c s : Nat} (h : k < c) : sliced (some ⟨b, o, none⟩) k n c s = .slice (some ⟨b, o + k * s, none⟩) (n - k) (c - k) := by
  unfold sliced
  rw [if_neg (by omega), Option.map_some, Addr.add_lit]
section
variable {P : Program} {w0 w : World} {M : Nat → Prop} {H : List Chunk}
/-- 'copy(d, s)', elements of any size, into a block that is held. -/
theorem wp_copyC {o : Oper} {a : Act} {K : Act → World → Prop} {Q : Exit → Act → World → Prop} {d s : Operand} {dT sT elem : TypeId} {size : Nat}
    (ho : o.op = .call { callee := .builtin .copy, args := #[d, s], argTypes := #[dT, sT] }) (hu : P.underlying dT = some (.slice elem)) (hsz : (P.info? elem).map (·.size) = some size)
    (hS : St w0 M w H) (i : Nat) {g off : Nat} {cur : Array Value} {e : TypeId} (hi : H[i]? = some (.cells g cur e)) {dn dc m q : Nat} (hd : a.eval d = .slice (some ⟨g, off, none⟩) dn dc)
    {y : Value} {ys : List Value} (hx : a.eval s = y) (hr : Rd w y size m ys) (hq : q = min m dn) (hfit : off + q * size ≤ cur.size) (h1 : ∀ u ∈ ys.take (q * size), u.oneCell' = true)
    (h : ∀ w', St w0 M w' (H.set i (.cells g (putC cur off (ys.take (q * size))) e)) → K (a.put o.dst (goInt q)) w') : Oper.wp P o a w K Q := by
  cases hp : P.info? elem with
  | none => rw [hp] at hsz; cases hsz
  | some inf =>
    have hi2 : inf.size = size := by rw [hp] at hsz; simpa using hsz
    rcases hr.cases with ⟨rfl, rfl, rfl⟩ | ⟨b, off2, sp, c, rfl, hb, hnc, hcm, hl, hsp, hc⟩
    · have hq0 : q = 0 := by rw [hq]; exact Nat.zero_min _
      subst hq0
      have hrun := run_copy_nil (P := P) w dT sT o.type elem ⟨g, off, none⟩ dn dc hu (by rw [hp]; rfl)
      unfold Oper.wp execOp
      simp only [ho, resolve, invoke, builtin, Sem.run_bind, Sem.run_pure, Result.andThen_ok, List.map_toArray, List.map_cons, List.map_nil, hd, hx, hrun]
      refine h w ?_
      rw [List.take_nil, putC]
      have e2 : H.set i (.cells g cur e) = H := by
        refine List.ext_getElem? fun k => ?_
        by_cases hk : k = i
        · subst hk; rw [List.getElem?_set_self (List.getElem?_eq_some_iff.1 hi).1, hi]
        · rw [List.getElem?_set_ne (by omega)]
      rw [e2]
      exact hS
    · have hqm : q ≤ m := by rw [hq]; exact Nat.min_le_left _ _
      have hql : (ys.take (q * size)).length = q * size := by
        rw [List.length_take, hl]
        exact Nat.min_eq_left (Nat.mul_le_mul_right size hqm)
      have hsrc : ∀ j u, (ys.take (q * size))[j]? = some u → w.cell? ((⟨b, off2, sp⟩ : Addr).add j) = some u := fun j u hj => by
        have hjl := (List.getElem?_eq_some_iff.1 hj).1
        rw [hql] at hjl
        have hpos : 0 < m * size := Nat.lt_of_lt_of_le (by omega) (Nat.mul_le_mul_right size hqm)
        obtain rfl : sp = none := hsp hpos
        rw [List.getElem?_take_of_lt hjl] at hj
        rw [Addr.add_lit]
        exact hc j u hj
      have hfc := run_firstCells_some (P := P) w size q ⟨b, off2, sp⟩ m c (ys.take (q * size)) hql hsrc
      obtain ⟨W', hW, hS'⟩ := run_storeCells (P := P) g off e (ys.take (q * size)) 0 H i cur w h1 hS hi (by rw [hql]; omega)
      have hqe : Nat.min m dn = q := hq.symm
      have hrun : (Builtin.copy_ #[dT, sT] o.type #[.slice (some ⟨g, off, none⟩) dn dc, .slice (some ⟨b, off2, sp⟩) m c]).run P w = .ok (goInt q) W' := by
        simp [Builtin.copy_, run_underlying hu, Builtin.lenOf, sizeOf, typeInfo, hp, hi2, hqe, hfc, hW]
      unfold Oper.wp execOp
      simp only [ho, resolve, invoke, builtin, Sem.run_bind, Sem.run_pure, Result.andThen_ok, List.map_toArray, List.map_cons, List.map_nil, hd, hx, hrun]
      exact h _ hS'
theorem wl_copyC {ops : Array Oper} {more : List Oper} {o : Oper} {a : Act} {Q : Exit → Act → World → Prop} (hgd : o.guard = none) {d s : Operand} {dT sT elem : TypeId} {size : Nat}
    (ho : o.op = .call { callee := .builtin .copy, args := #[d, s], argTypes := #[dT, sT] }) (hu : P.underlying dT = some (.slice elem)) (hsz : (P.info? elem).map (·.size) = some size)
    (hS : St w0 M w H) (i : Nat) {g off : Nat} {cur : Array Value} {e : TypeId} (hi : H[i]? = some (.cells g cur e)) {dn dc m q : Nat} (hd : a.eval d = .slice (some ⟨g, off, none⟩) dn dc)
    {y : Value} {ys : List Value} (hx : a.eval s = y) (hr : Rd w y size m ys) (hq : q = min m dn) (hfit : off + q * size ≤ cur.size) (h1 : ∀ u ∈ ys.take (q * size), u.oneCell' = true)
    (h : ∀ w', St w0 M w' (H.set i (.cells g (putC cur off (ys.take (q * size))) e)) → wpList P ops Q more (a.put o.dst (goInt q)) w') : wpList P ops Q (o :: more) a w :=
  wpList_plain hgd fun _ hK => wp_copyC ho hu hsz hS i hi hd hx hr hq hfit h1 fun w' h2 => hK _ _ (h w' h2)
/-- 'append(s, make([]T, k)...)' where s has no room: a new row. -/
theorem wl_appendZF {ops : Array Oper} {more : List Oper} {o : Oper} {a : Act} {Q : Exit → Act → World → Prop} (hgd : o.guard = none) {s x : Operand} {t tn e : TypeId} {kq kn : IntKind} {z : Value} {size bytes : Nat}
    (ho : o.op = .call { callee := .builtin .append, args := #[s, x], argTypes := #[t, tn] }) (ht : P.underlying t = some (.slice e)) (htn : P.underlying tn = some (.int kn)) (hinfo : (P.info? e).map (fun i => (i.zero, i.size, i.bytes)) = some (some z, size, bytes)) (hzs : z.cells.size = size) (hsz : 0 < size)
    {b off m c : Nat} {olds : List Value} (hs : a.eval s = .slice (some ⟨b, off, none⟩) m c) (hol : olds.length = m * size) (holds : ∀ j u, olds[j]? = some u → w.cell? ⟨b, off + j, none⟩ = some u)
    {k : Nat} (hx : a.eval x = .int kq (k : Int)) (hk0 : 0 < k) (hlen : m + k ≤ 4294967296) (hby : bytes ≤ 32768) (hc : c < m + k)
    (h : ∀ g c' Z R w', Z.length = k * size → (olds ++ (Z ++ R)).length = c' * size → m + k ≤ c' → c' ≤ maxLen → g = w.heap.size → Below w.heap.size w w' → w'.heap[g]? = some (.cells (olds ++ (Z ++ R)).toArray e (0, 0)) → wpList P ops Q more (a.put o.dst (.slice (some ⟨g, 0, none⟩) (m + k) c')) w') : wpList P ops Q (o :: more) a w := by
  refine wpList_plain hgd fun K' hK => ?_
  cases hi : P.info? e with
  | none => rw [hi] at hinfo; cases hinfo
  | some inf =>
    rw [hi] at hinfo
    simp only [Option.map_some, Option.some.injEq, Prod.mk.injEq] at hinfo
    obtain ⟨hz, hsz2, hby2⟩ := hinfo
    have hold := run_firstCells_some (P := P) w.drew inf.size m ⟨b, off, none⟩ m c olds (by rw [hsz2]; exact hol) (fun j u hu => by rw [Addr.add_lit]; exact holds j u hu)
    have hmul : (m + k) * bytes ≤ 140737488355328 := Nat.le_trans (Nat.mul_le_mul hlen hby) (by decide)
    have hkb : k * bytes ≤ (m + k) * bytes := Nat.mul_le_mul_right bytes (Nat.le_add_left k m)
    have hrun := Go.Lib.run_append_grow_zeros (P := P) w t tn o.type e inf z kq kn ht htn hi hz (some ⟨b, off, none⟩) m c olds hold k hk0 (by omega) hc (by omega) (by rw [hby2]; omega) (growslice_fits hc (by rw [hby2]; exact hmul))
    have hge := grownCap_ge w (m + k) c e
    have hcm2 : grownCap w (m + k) c e ≤ maxLen := grownCap_le_maxLen w (m + k) c e (by unfold maxLen; omega)
    unfold Oper.wp execOp
    simp only [ho, resolve, invoke, builtin, Sem.run_bind, Sem.run_pure, Result.andThen_ok, List.map_toArray, List.map_cons, List.map_nil, hs, hx, hrun]
    refine hK _ _ (h _ _ (Builtin.zeroCells z.cells k).toList (Builtin.zeroCells z.cells (grownCap w (m + k) c e - (m + k))).toList _ ?_ ?_ hge hcm2 rfl (((Below.refl _ _).drew).alloc (by simp) _) ?_)
    · rw [Array.length_toList, size_zeroCells, hzs]
    · have e5 : olds.length + (k * size + (grownCap w (m + k) c e - (m + k)) * size) = grownCap w (m + k) c e * size := by
        rw [hol, ← Nat.add_mul, ← Nat.add_mul]
        congr 1
        omega
      rw [← e5, List.length_append, List.length_append]
      congr 1
      congr 1
      · rw [Array.length_toList, size_zeroCells, hzs]
      · rw [Array.length_toList, size_zeroCells, hzs]
    · have := heap_alloc_new w.drew (.cells (olds.toArray ++ Builtin.zeroCells z.cells k ++ Builtin.zeroCells z.cells (grownCap w (m + k) c e - (m + k))) e)
      have e4 : (olds ++ ((Builtin.zeroCells z.cells k).toList ++ (Builtin.zeroCells z.cells (grownCap w (m + k) c e - (m + k))).toList)).toArray = olds.toArray ++ Builtin.zeroCells z.cells k ++ Builtin.zeroCells z.cells (grownCap w (m + k) c e - (m + k)) := by
        apply Array.ext'
        simp
      rw [e4]
      exact this
end
end Go.Proofs.Ythpioncehigoaaa
