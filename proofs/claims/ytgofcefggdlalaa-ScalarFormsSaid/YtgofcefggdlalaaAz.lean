/-
  'append(s, make([]T, k)...)': zeros behind a row of one's own; 'make' as a row. No program is named here.
-/
import Derived.Test.YtgofcefggdlalaaNm
import Derived.Lib.AppendZerosOnto
import Derived.Laws.OwnMore
import Derived.Laws.MakeOwn
import Derived.Lib.SmallJoins
namespace Go.Proofs.Ytgofcefggdlalaa
open Go.RowKit

theorem run_append_zeros_own {P : Program} (w : World) (base : Nat) (t tn ty e : TypeId) (i : TypeInfo) (z : Value) (kq kn : IntKind) (size bytes : Nat) (ht : P.underlying t = some (.slice e)) (htn : P.underlying tn = some (.int kn))
    (hi : P.info? e = some i) (hz : i.zero = some z) (hsize : i.size = size) (hby : i.bytes = bytes) (hzs : z.cells.size = size) (hsz : 0 < size)
    (v : Value) (n : Nat) (xs : List Value) (hown : w.ownsRow base e size v n xs) (k : Nat) (hk : 0 < k) (h1 : ∀ u ∈ (Builtin.zeroCells z.cells k).toList, u.oneCell' = true)
    (h63 : n + k ≤ maxLen) (hbytes : (n + k) * bytes ≤ 140737488355328) (hbase : base ≤ w.heap.size) :
    ∃ v' w', (Builtin.append_ #[t, tn] ty #[v, .int kq k]).run P w = .ok v' w' ∧ w'.ownsRow base e size v' (n + k) (xs ++ (Builtin.zeroCells z.cells k).toList) ∧ w.grownBy w' v.ownBlock ∧ (v'.ownBlock = v.ownBlock ∨ v'.ownBlock = some w.heap.size) := by
  subst hsize
  subst hby
  have hsmall : n + k ≤ 9223372036854775807 := by simp only [maxLen] at h63; omega
  have hzl : (Builtin.zeroCells z.cells k).toList.length = k * i.size := by simp [size_zeroCells, hzs]
  have hlen : (xs ++ (Builtin.zeroCells z.cells k).toList).length = (n + k) * i.size := by rw [List.length_append, hown.1, hzl, Nat.add_mul]
  have grown : ∀ (old : Nat), old < n + k → ∀ (row : Option Nat),
      (w.drew.alloc (.cells (xs.toArray ++ Builtin.zeroCells z.cells k ++ Builtin.zeroCells z.cells (grownCap w (n + k) old e - (n + k))) e)).ownsRow base e i.size
        (.slice (some ⟨w.heap.size, 0, none⟩) (n + k) (grownCap w (n + k) old e)) (n + k) (xs ++ (Builtin.zeroCells z.cells k).toList) ∧
      w.grownBy (w.drew.alloc (.cells (xs.toArray ++ Builtin.zeroCells z.cells k ++ Builtin.zeroCells z.cells (grownCap w (n + k) old e - (n + k))) e)) row := by
    intro old ho row
    have hge := grownCap_ge w (n + k) old e
    have hcm : grownCap w (n + k) old e ≤ maxLen := grownCap_le_maxLen w (n + k) old e h63
    refine ⟨⟨hlen, .inr ⟨w.heap.size, _, _, rfl, hbase, heap_alloc_new w.drew _, hge, hcm, ?_, ?_⟩⟩, ⟨rfl, rfl, rfl, by simp, fun j hj _ => heap_alloc_old w.drew _ hj⟩⟩
    · simp only [Array.size_append, List.size_toArray, size_zeroCells, hzs, hown.1, ← Nat.add_mul]
      congr 1
      omega
    · simp only [Array.toList_append, List.append_assoc]
      rw [← List.append_assoc, ← hlen]
      exact List.take_left
  have hkb : k * i.bytes ≤ 281474976710656 := by
    have : k * i.bytes ≤ (n + k) * i.bytes := Nat.mul_le_mul_right _ (by omega)
    omega
  rcases hown.2 with ⟨rfl, rfl⟩ | ⟨g, cap, cur, rfl, hbg, hg, hnc, hcm, hcs, htake⟩
  · have hx : xs = [] := List.eq_nil_of_length_eq_zero (by simpa using hown.1)
    subst hx
    have hr := Go.Lib.run_append_nil_zeros (P := P) w t tn ty e i z kq kn ht htn hi hz k hk hsz (by omega) hkb
    have hgr := grown 0 (by omega) (Value.ownBlock (.slice none 0 0))
    simp only [Nat.zero_add, List.nil_append, Array.empty_append] at hgr ⊢
    exact ⟨_, _, hr, hgr.1, hgr.2, Or.inr rfl⟩
  · by_cases hroom : n + k ≤ cap
    · have hfit : n * i.size + (Builtin.zeroCells z.cells k).toList.length ≤ cur.size := by rw [hzl, hcs, ← Nat.add_mul]; exact Nat.mul_le_mul_right _ hroom
      have hst := run_storeCells_at P g (n * i.size) e (Builtin.zeroCells z.cells k).toList 0 cur w hg (by simpa using hfit) h1
      simp only [Nat.add_zero] at hst
      have hw : IntKind.i64.wrap (k : Int) = k := by rw [IntKind.wrap_i64]; omega
      have hneg : ¬ ((k : Int) < 0) := by omega
      have hns : ¬ (k * i.size = 0) := Nat.mul_ne_zero (by omega) (by omega)
      have hk0 : k ≠ 0 := by omega
      have h48i : ¬ (281474976710656 < (k : Int) * (i.bytes : Int)) := by
        rw [← Int.natCast_mul]
        omega
      have hr : (Builtin.append_ #[t, tn] ty #[.slice (some ⟨g, 0, none⟩) n cap, .int kq k]).run P w =
          .ok (.slice (some ⟨g, 0, none⟩) (n + k) cap) (w.setRow g (cur.toList.take (n * i.size) ++ (Builtin.zeroCells z.cells k).toList ++ cur.toList.drop (n * i.size + (Builtin.zeroCells z.cells k).toList.length)).toArray) := by
        simp [Builtin.append_, run_underlying ht, run_underlying htn, sizeOf, typeInfo, zeroValue, hi, hz, asInt, asIntOf, hw, hneg, hns, hk0, h48i, hroom, Addr.add_lit, hst]
      refine ⟨_, _, hr, ⟨hlen, .inr ⟨g, cap, _, rfl, hbg, setRow_heap w g cur _ e _ hg, hroom, hcm, ?_, ?_⟩⟩, ⟨rfl, rfl, rfl, by simp, fun k _ hk => setRow_other w g k _ (fun e => hk (by simp [Value.ownBlock, e]))⟩, Or.inl rfl⟩
      · have hzs2 : (Builtin.zeroCells z.cells k).size = k * i.size := by rw [size_zeroCells, hzs]
        rw [hzl] at hfit
        simp only [List.size_toArray, List.length_append, List.length_take, List.length_drop, Array.length_toList, hzs2]
        omega
      · rw [htake, ← hlen]
        exact List.take_left
    · have holds : ∀ j u, xs[j]? = some u → w.drew.cell? ((⟨g, 0, none⟩ : Addr).add j) = some u := fun j u hu => hown.cells (g := g) rfl j u hu
      have hold := run_firstCells_some (P := P) w.drew i.size n ⟨g, 0, none⟩ n cap xs hown.1 holds
      have hr := Go.Lib.run_append_grow_zeros (P := P) w t tn ty e i z kq kn ht htn hi hz (some ⟨g, 0, none⟩) n cap xs hold k hk hsz (by omega) (by omega) hkb (growslice_fits (by omega) hbytes)
      have hgr := grown cap (by omega) (Value.ownBlock (.slice (some ⟨g, 0, none⟩) n cap))
      exact ⟨_, _, hr, hgr.1, hgr.2, Or.inr rfl⟩

theorem zeros_bytes (k : Nat) : (Builtin.zeroCells #[.int .u8 0] k).toList = bvs (List.replicate k 0) := by
  apply List.ext_getElem
  · simp [size_zeroCells, bvs]
  · intro j h1 h2
    simp [Builtin.zeroCells, bvs, bv, Nat.mod_one]

section
variable {P : Program} {w0 w : World} {M : Nat → Prop} {H : List Chunk} {A : Option Addr} {n c : Nat} {e : TypeId} {xs : List Value}
/-- 'append(s, make([]byte, k)...)'. -/
theorem wp_appendZ {o : Oper} {a : Act} {K : Act → World → Prop} {Q : Exit → Act → World → Prop} {s x : Operand} {t tn e : TypeId} {kq kn : IntKind}
    (ho : o.op = .call { callee := .builtin .append, args := #[s, x], argTypes := #[t, tn] }) (ht : P.underlying t = some (.slice e)) (htn : P.underlying tn = some (.int kn)) (hinfo : (P.info? e).map (fun i => (i.zero, i.size, i.bytes)) = some (some (.int .u8 0), 1, 1))
    (hS : St w0 M w H) (i : Nat) {v : Value} {n : Nat} {l : List UInt8} (hk : H[i]? = some (.row v e 1 n (bvs l))) (hs : a.eval s = v) {k : Nat} (hx : a.eval x = .int kq (k : Int)) (hk0 : 0 < k) (hlen : n + k ≤ 4294967296)
    (h : ∀ A' c' w', St w0 M w' (H.set i (.row (.slice A' (n + k) c') e 1 (n + k) (bvs (l ++ List.replicate k 0)))) → K (a.put o.dst (.slice A' (n + k) c')) w') : o.wp P a w K Q := by
  have hown : w.ownsRow 0 e 1 v n (bvs l) := hS.sat i _ hk
  cases hi : P.info? e with
  | none => rw [hi] at hinfo; cases hinfo
  | some inf =>
    rw [hi] at hinfo
    simp only [Option.map_some, Option.some.injEq, Prod.mk.injEq] at hinfo
    obtain ⟨hz, hsz, hby⟩ := hinfo
    have hzc : (Value.int IntKind.u8 0).cells = #[.int .u8 0] := rfl
    obtain ⟨v', w', hrun, h2, h3, h4⟩ := run_append_zeros_own (P := P) w 0 t tn o.type e inf (.int .u8 0) kq kn 1 1 ht htn hi hz hsz hby rfl (by omega) v n (bvs l) hown k hk0 (by rw [hzc, zeros_bytes]; exact one_bvs _) (by unfold maxLen; omega) (by omega) (Nat.zero_le _)
    rw [hzc, zeros_bytes, ← bvs_append] at h2
    unfold Oper.wp execOp
    simp only [ho, resolve, invoke, builtin, Sem.run_bind, Sem.run_pure, Result.andThen_ok, List.map_toArray, List.map_cons, List.map_nil, hs, hx, hrun]
    obtain ⟨A', c', rfl⟩ := own_slice h2
    exact h A' c' w' (hS.grown i hk h3 h2 h4)
theorem wl_appendZ {ops : Array Oper} {rest : List Oper} {o : Oper} {a : Act} {Q : Exit → Act → World → Prop} (hgd : o.guard = none) {s x : Operand} {t tn e : TypeId} {kq kn : IntKind}
    (ho : o.op = .call { callee := .builtin .append, args := #[s, x], argTypes := #[t, tn] }) (ht : P.underlying t = some (.slice e)) (htn : P.underlying tn = some (.int kn)) (hinfo : (P.info? e).map (fun i => (i.zero, i.size, i.bytes)) = some (some (.int .u8 0), 1, 1))
    (hS : St w0 M w H) (i : Nat) {v : Value} {n : Nat} {l : List UInt8} (hk : H[i]? = some (.row v e 1 n (bvs l))) (hs : a.eval s = v) {k : Nat} (hx : a.eval x = .int kq (k : Int)) (hk0 : 0 < k) (hlen : n + k ≤ 4294967296)
    (h : ∀ A' c' w', St w0 M w' (H.set i (.row (.slice A' (n + k) c') e 1 (n + k) (bvs (l ++ List.replicate k 0)))) → wpList P ops Q rest (a.put o.dst (.slice A' (n + k) c')) w') : wpList P ops Q (o :: rest) a w :=
  wpList_plain hgd fun _ hK => wp_appendZ ho ht htn hinfo hS i hk hs hx hk0 hlen fun A' c' w' h2 => hK _ _ (h A' c' w' h2)
/-- 'append(s, make([]byte, k)...)' where s has no room: a new row. -/
theorem wp_appendZnew {o : Oper} {a : Act} {K : Act → World → Prop} {Q : Exit → Act → World → Prop} {s x : Operand} {t tn e : TypeId} {kq kn : IntKind}
    (ho : o.op = .call { callee := .builtin .append, args := #[s, x], argTypes := #[t, tn] }) (ht : P.underlying t = some (.slice e)) (htn : P.underlying tn = some (.int kn)) (hinfo : (P.info? e).map (fun i => (i.zero, i.size, i.bytes)) = some (some (.int .u8 0), 1, 1))
    (hS : St w0 M w H) {v : Value} {A : Option Addr} {n c : Nat} {l : List UInt8} (hv : v = .slice A n c) (hr : Rd w v 1 n (bvs l)) (hs : a.eval s = v) {k : Nat} (hx : a.eval x = .int kq (k : Int)) (hk0 : 0 < k) (hn0 : 0 < n) (hlen : n + k ≤ 4294967296) (hc : c < n + k)
    (h : ∀ A' c' w', St w0 M w' (.row (.slice A' (n + k) c') e 1 (n + k) (bvs (l ++ List.replicate k 0)) :: H) → Below w.heap.size w w' → K (a.put o.dst (.slice A' (n + k) c')) w') : o.wp P a w K Q := by
  subst hv
  rcases hr.cases with ⟨_, h0, _⟩ | ⟨b, off, sp, c', hA, hb, hnc, hcm, hl, hsp, hcl⟩
  · omega
  injection hA with hA1 _ hA3
  subst hA1 hA3
  obtain rfl : sp = none := hsp (by omega)
  cases hi : P.info? e with
  | none => rw [hi] at hinfo; cases hinfo
  | some inf =>
    rw [hi] at hinfo
    simp only [Option.map_some, Option.some.injEq, Prod.mk.injEq] at hinfo
    obtain ⟨hz, hsz, hby⟩ := hinfo
    have hzc : (Value.int IntKind.u8 0).cells = #[.int .u8 0] := rfl
    have holds : ∀ j u, (bvs l)[j]? = some u → w.drew.cell? ((⟨b, off, none⟩ : Addr).add j) = some u := fun j u hu => by rw [Addr.add_lit]; exact hcl j u hu
    have hold := run_firstCells_some (P := P) w.drew inf.size n ⟨b, off, none⟩ n c (bvs l) (by rw [hsz]; exact hl) holds
    have hrun := Go.Lib.run_append_grow_zeros (P := P) w t tn o.type e inf (.int .u8 0) kq kn ht htn hi hz (some ⟨b, off, none⟩) n c (bvs l) hold k hk0 (by omega) hc (by omega) (by rw [hby]; omega) (growslice_fits hc (by rw [hby]; omega))
    have hge := grownCap_ge w (n + k) c e
    have hcm2 : grownCap w (n + k) c e ≤ maxLen := grownCap_le_maxLen w (n + k) c e (by unfold maxLen; omega)
    unfold Oper.wp execOp
    simp only [ho, resolve, invoke, builtin, Sem.run_bind, Sem.run_pure, Result.andThen_ok, List.map_toArray, List.map_cons, List.map_nil, hs, hx, hrun]
    have hbl : Below w.heap.size w (w.drew.alloc (.cells ((bvs l).toArray ++ Builtin.zeroCells (Value.int IntKind.u8 0).cells k ++ Builtin.zeroCells (Value.int IntKind.u8 0).cells (grownCap w (n + k) c e - (n + k))) e)) :=
      ((Below.refl _ _).drew).alloc (by simp) _
    refine h _ _ _ (hS.row hbl ?_) hbl
    have hll : (bvs l).length = n := by omega
    refine ⟨by rw [length_bvs] at hll ⊢; simp [hll], .inr ⟨w.heap.size, _, _, rfl, Nat.le_refl _, heap_alloc_new w.drew _, hge, hcm2, ?_, ?_⟩⟩
    · simp only [Array.size_append, List.size_toArray, size_zeroCells, hzc, hll]
      simp
      omega
    · simp only [Array.toList_append, List.append_assoc]
      rw [hzc, zeros_bytes, ← List.append_assoc, ← bvs_append]
      have e : (n + k) * 1 = (bvs (l ++ List.replicate k 0)).length := by
        rw [length_bvs] at hll ⊢
        simp [hll]
      rw [e]
      exact List.take_left
theorem wl_appendZnew {ops : Array Oper} {rest : List Oper} {o : Oper} {a : Act} {Q : Exit → Act → World → Prop} (hgd : o.guard = none) {s x : Operand} {t tn e : TypeId} {kq kn : IntKind}
    (ho : o.op = .call { callee := .builtin .append, args := #[s, x], argTypes := #[t, tn] }) (ht : P.underlying t = some (.slice e)) (htn : P.underlying tn = some (.int kn)) (hinfo : (P.info? e).map (fun i => (i.zero, i.size, i.bytes)) = some (some (.int .u8 0), 1, 1))
    (hS : St w0 M w H) {v : Value} {A : Option Addr} {n c : Nat} {l : List UInt8} (hv : v = .slice A n c) (hr : Rd w v 1 n (bvs l)) (hs : a.eval s = v) {k : Nat} (hx : a.eval x = .int kq (k : Int)) (hk0 : 0 < k) (hn0 : 0 < n) (hlen : n + k ≤ 4294967296) (hc : c < n + k)
    (h : ∀ A' c' w', St w0 M w' (.row (.slice A' (n + k) c') e 1 (n + k) (bvs (l ++ List.replicate k 0)) :: H) → Below w.heap.size w w' → wpList P ops Q rest (a.put o.dst (.slice A' (n + k) c')) w') : wpList P ops Q (o :: rest) a w :=
  wpList_plain hgd fun _ hK => wp_appendZnew ho ht htn hinfo hS hv hr hs hx hk0 hn0 hlen hc fun A' c' w' h2 h3 => hK _ _ (h A' c' w' h2 h3)
/-- A constant's bytes: their block bears a mark behind them. -/
theorem rd_mark (w : World) (us : List Value) (e : TypeId) (fr : Nat × Nat) (n : Nat) (hn : us.length = n) (hm : n ≤ maxLen) : Rd (w.alloc (.cells us.toArray e fr)) (.slice (some ⟨w.heap.size, 0, none⟩) n n) 1 n us :=
  ⟨_, n, rfl, by omega, Nat.le_refl _, hm, (fun h => by cases h), fun b o sp hA => by
    injection hA with hA
    injection hA with hb ho hsp
    subst hb ho hsp
    refine ⟨fun _ => rfl, fun j u hu => ?_⟩
    rw [Nat.zero_add, World.cell?_alloc_mark]
    simpa using hu⟩
theorem made_bytes (k : Nat) : (madeCells #[.int .u8 0] k) = (bvs (List.replicate k 0)).toArray := by
  apply Array.ext
  · simp [madeCells, bvs]
  · intro j h1 h2
    simp [madeCells, bvs, bv, Nat.mod_one]
/-- 'make([]byte, n)'. -/
theorem wp_makeB {o : Oper} {a : Act} {K : Act → World → Prop} {Q : Exit → Act → World → Prop} {x y : Operand} {t e : TypeId} {kl kc : IntKind}
    (ho : o.op = .makeSlice t x y) (ht : P.underlying t = some (.slice e)) (hinfo : (P.info? e).map (fun i => (i.zero, i.size, i.bytes)) = some (some (.int .u8 0), 1, 1))
    (hS : St w0 M w H) {n : Nat} (hx : a.eval x = .int kl (n : Int)) (hy : a.eval y = .int kc (n : Int)) (hn : n ≤ 4294967296)
    (h : ∀ g w', St w0 M w' (.row (.slice (some ⟨g, 0, none⟩) n n) e 1 n (bvs (List.replicate n 0)) :: H) → Below w.heap.size w w' → K (a.put o.dst (.slice (some ⟨g, 0, none⟩) n n)) w') : o.wp P a w K Q := by
  cases hi : P.info? e with
  | none => rw [hi] at hinfo; cases hinfo
  | some inf =>
    rw [hi] at hinfo
    simp only [Option.map_some, Option.some.injEq, Prod.mk.injEq] at hinfo
    obtain ⟨hz, hsz, hby⟩ := hinfo
    obtain ⟨w', hrun, hown, hg⟩ := run_make_full (P := P) w w.heap.size t e inf (.int .u8 0) 1 ht hi hz hsz kl kc n (by rw [hby]; omega) (by unfold maxLen; omega) (Nat.le_refl _)
    have hzc : (Value.int IntKind.u8 0).cells = #[.int .u8 0] := rfl
    rw [Nat.mul_one, hzc, made_bytes] at hown
    have hbl : Below w.heap.size w w' := ⟨hg.os, hg.tape, hg.output, hg.size, fun k hk => hg.block k hk (by simp)⟩
    unfold Oper.wp execOp
    simp only [ho, hx, hy, Sem.run_bind, Sem.run_pure, Result.andThen_ok, hrun]
    exact h w.heap.size w' (hS.row hbl hown) hbl
theorem wl_makeB {ops : Array Oper} {rest : List Oper} {o : Oper} {a : Act} {Q : Exit → Act → World → Prop} (hgd : o.guard = none) {x y : Operand} {t e : TypeId} {kl kc : IntKind}
    (ho : o.op = .makeSlice t x y) (ht : P.underlying t = some (.slice e)) (hinfo : (P.info? e).map (fun i => (i.zero, i.size, i.bytes)) = some (some (.int .u8 0), 1, 1))
    (hS : St w0 M w H) {n : Nat} (hx : a.eval x = .int kl (n : Int)) (hy : a.eval y = .int kc (n : Int)) (hn : n ≤ 4294967296)
    (h : ∀ g w', St w0 M w' (.row (.slice (some ⟨g, 0, none⟩) n n) e 1 n (bvs (List.replicate n 0)) :: H) → Below w.heap.size w w' → wpList P ops Q rest (a.put o.dst (.slice (some ⟨g, 0, none⟩) n n)) w') : wpList P ops Q (o :: rest) a w :=
  wpList_plain hgd fun _ hK => wp_makeB ho ht hinfo hS hx hy hn fun g w' h2 h3 => hK _ _ (h g w' h2 h3)
theorem step_makeB {yl : Nat → Option Bool} {o : Oper} {a : Act} {K : Act → World → Prop} {Q : Exit → Act → World → Prop} {E : Prop} (hw : Region.wanted o yl = true) {x y : Operand} {t e : TypeId} {kl kc : IntKind}
    (ho : o.op = .makeSlice t x y) (ht : P.underlying t = some (.slice e)) (hinfo : (P.info? e).map (fun i => (i.zero, i.size, i.bytes)) = some (some (.int .u8 0), 1, 1))
    (hS : St w0 M w H) {n : Nat} (hx : a.eval x = .int kl (n : Int)) (hy : a.eval y = .int kc (n : Int)) (hn : n ≤ 4294967296)
    (h : ∀ g w', St w0 M w' (.row (.slice (some ⟨g, 0, none⟩) n n) e 1 n (bvs (List.replicate n 0)) :: H) → Below w.heap.size w w' → K (a.put o.dst (.slice (some ⟨g, 0, none⟩) n n)) w') : if Region.wanted o yl = true then Oper.wp P o a w K Q else E := by
  rw [if_pos hw]
  exact wp_makeB ho ht hinfo hS hx hy hn h
/-- A literal's block is a row of one's own. -/
theorem St.lit (h : St w0 M w H) (us : List Value) (e : TypeId) (size n : Nat) (hl : us.length = n * size) (hn : n ≤ maxLen) :
    St w0 M (w.alloc (.cells us.toArray e)) (.row (.slice (some ⟨w.heap.size, 0, none⟩) n n) e size n us :: H) := by
  refine h.add ((Below.refl _ _).alloc (Nat.le_refl _) _) ?_ (fun k hk => ?_)
  · exact ⟨hl, .inr ⟨w.heap.size, n, us.toArray, rfl, Nat.zero_le _, heap_alloc_new w _, Nat.le_refl _, hn, by simpa using hl, by rw [← hl]; simp⟩⟩
  · simp only [Chunk.block, Value.ownBlock, Option.some.injEq] at hk
    omega
/-- A row of one's own, opened for a store. -/
theorem St.rowOpen (h : St w0 M w H) (i : Nat) {v : Value} {e : TypeId} {size n : Nat} {xs : List Value} (hi : H[i]? = some (.row v e size n xs)) (hpos : 0 < n * size) :
    ∃ g c, v = .slice (some ⟨g, 0, none⟩) n c ∧ n ≤ c ∧ c ≤ maxLen ∧ (∀ (j : Nat) (u : Value), xs[j]? = some u → w.cell? ⟨g, j, none⟩ = some u) ∧ (∀ j, w.frozen? ⟨g, j, none⟩ = false) ∧
      ∀ (j : Nat) (u : Value), j < n * size → St w0 M (w.setCell ⟨g, j, none⟩ u) (H.set i (.row v e size n (xs.set j u))) := by
  have hs : w.ownsRow 0 e size v n xs := h.sat i _ hi
  obtain ⟨h1, h2⟩ := hs
  rcases h2 with ⟨rfl, rfl⟩ | ⟨g, cap, cur, rfl, hg, hh, hn, hm, hc, ht⟩
  · simp at hpos
  · refine ⟨g, cap, rfl, hn, hm, fun j u hu => ?_, fun j => frozen_of_row w g j cur e hh, fun j u hj => ?_⟩
    · rw [cell_of_row w g j cur e (0, 0) hh]
      rw [← ht, List.getElem?_take] at hu
      split at hu
      · simpa using hu
      · cases hu
    · refine h.turn hi (ext_setCell w ⟨g, j, none⟩ u) ?_ (fun k hk => .inl hk)
      refine ⟨by simpa using h1, .inr ⟨g, cap, cur.setIfInBounds j u, rfl, hg, heap_setCell_same w g j cur e u hh, hn, hm, by simpa using hc, ?_⟩⟩
      rw [Array.toList_setIfInBounds, ← ht, List.take_set]
theorem St.rowSet (h : St w0 M w H) (i : Nat) {g c : Nat} {e : TypeId} {size n : Nat} {xs : List Value} (hi : H[i]? = some (.row (.slice (some ⟨g, 0, none⟩) n c) e size n xs)) (j : Nat) (u : Value) (hj : j < n * size) :
    St w0 M (w.setCell ⟨g, j, none⟩ u) (H.set i (.row (.slice (some ⟨g, 0, none⟩) n c) e size n (xs.set j u))) := by
  obtain ⟨g', c', hv, _, _, _, _, hset⟩ := h.rowOpen i hi (by omega)
  injection hv with h1 _ h3
  injection h1 with h1
  injection h1 with h1
  subst h1 h3
  exact hset j u hj
/-- The head of a row of one's own. -/
theorem St.rowTake (h : St w0 M w (.row (.slice A n c) e 1 n xs :: H)) (m : Nat) (hm : m ≤ n) : St w0 M w (.row (.slice A m c) e 1 m (xs.take m) :: H) := by
  refine ⟨h.ext, fun i d hd => ?_, fun i d k hd hk => ?_, fun i j d d' k hij hd hd' hk => ?_⟩
  · cases i with
    | zero =>
      simp only [List.getElem?_cons_zero, Option.some.injEq] at hd
      subst hd
      obtain ⟨h1, h2⟩ := (h.sat 0 _ rfl : w.ownsRow 0 e 1 (.slice A n c) n xs)
      refine ⟨by rw [List.length_take]; omega, ?_⟩
      rcases h2 with ⟨h2, h3⟩ | ⟨g, cap, cur, hv, hg, hh, hn, hmx, hc, ht⟩
      · injection h2 with e1 _ e3
        subst e1 e3
        obtain rfl : m = 0 := by omega
        exact .inl ⟨rfl, rfl⟩
      · injection hv with e1 _ e3
        subst e1 e3
        refine .inr ⟨g, c, cur, rfl, hg, hh, by omega, hmx, hc, ?_⟩
        rw [← ht, List.take_take, Nat.mul_one, Nat.mul_one, Nat.min_eq_left hm]
    | succ i => exact h.sat (i + 1) d (by simpa using hd)
  · cases i with
    | zero =>
      simp only [List.getElem?_cons_zero, Option.some.injEq] at hd
      subst hd
      exact h.own 0 _ k rfl (by cases A <;> exact hk)
    | succ i => exact h.own (i + 1) d k (by simpa using hd) hk
  · have key : ∀ (i : Nat) (d : Chunk), (Chunk.row (.slice A m c) e 1 m (xs.take m) :: H)[i]? = some d → ∃ d2, (Chunk.row (.slice A n c) e 1 n xs :: H)[i]? = some d2 ∧ d2.block = d.block := by
      intro i d hd
      cases i with
      | zero =>
        simp only [List.getElem?_cons_zero, Option.some.injEq] at hd
        subst hd
        exact ⟨_, rfl, by cases A <;> rfl⟩
      | succ i => exact ⟨d, by simpa using hd, rfl⟩
    obtain ⟨a, ha, ha2⟩ := key i d hd
    obtain ⟨b, hb, hb2⟩ := key j d' hd'
    rw [← hb2]
    exact h.apart i j a b k hij ha hb (by rw [ha2]; exact hk)
end
theorem bvs_set (l : List UInt8) (j m : Nat) (hm : m < 256) : (bvs l).set j (.int .u8 (m : Int)) = bvs (l.set j (UInt8.ofNat m)) := by
  unfold bvs
  rw [List.map_set, bv, UInt8.toNat_ofNat', Nat.mod_eq_of_lt (by omega)]
theorem bvs_get {l : List UInt8} {j : Nat} {c : UInt8} (h : l[j]? = some c) : (bvs l)[j]? = some (.int .u8 (c.toNat : Int)) := by
  simp only [bvs, List.getElem?_map, h]; rfl
theorem rd_take {w : World} {A : Option Addr} {n c : Nat} {l : List UInt8} (h : Rd w (.slice A n c) 1 n (bvs l)) (k : Nat) (hk : k ≤ n) : Rd w (.slice A k c) 1 k (bvs (l.take k)) := by
  obtain ⟨A', c', e, h1, h2, h3, h4, h5⟩ := h
  injection e with e1 _ e3
  subst e1 e3
  rw [length_bvs] at h1
  refine ⟨_, _, rfl, by rw [length_bvs, List.length_take]; omega, by omega, by omega, h4, fun b o sp hA => ?_⟩
  obtain ⟨k1, k2⟩ := h5 b o sp hA
  refine ⟨fun hn => k1 (by omega), fun j u hu => k2 j u ?_⟩
  rw [← hu]
  have hj : j < k := by
    have := (List.getElem?_eq_some_iff.1 hu).1
    rw [length_bvs, List.length_take] at this
    omega
  simp [bvs, List.getElem?_take, hj]
theorem rd_cap {w : World} {A : Option Addr} {n c size : Nat} {xs : List Value} (h : Rd w (.slice A n c) size n xs) : n ≤ c := by
  obtain ⟨_, _, e, _, h, _⟩ := h
  injection e with _ _ e
  omega
end Go.Proofs.Ytgofcefggdlalaa
