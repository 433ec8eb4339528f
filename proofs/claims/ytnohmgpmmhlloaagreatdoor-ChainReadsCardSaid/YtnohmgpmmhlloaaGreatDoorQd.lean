/-
 Joined of texts of mine, in build order: Bd, Na, Nb, Nc, Nd, Ne, Nf, Ng, Nh, Be, Bf, Bk, Bm, Bg, Bh, Bi, Bj, Bn, Bo, Sa, Sb. Each says what it proves at its own head.
-/
import Derived.Test.YtnohmgpmmhlloaaGreatDoorRows
import Derived.Laws.Bits64b
import Derived.Laws.Externs
import Derived.Deep.DeepCutAuto
import Derived.Deep.LoopGhost
import Derived.Test.YtnohmgpmmhlloaaGreatDoorQc
set_option linter.unusedSimpArgs false
set_option linter.unusedVariables false
set_option maxRecDepth 100000
set_option maxHeartbeats 25600000

namespace Go.Proofs.YtnohmgpmmhlloaaGreatDoor
open Go.RowKit

structure Arr (n : Nat) (cs : Array Value) : Prop where
 size : cs.size = n
 one : cs.all (·.oneCell') = true
inductive Upd (g : Nat) (c cs : Array Value) (e : TypeId) : List Chunk → List Chunk → Prop where
 | head {H : List Chunk} : Upd g c cs e (.cells g c e :: H) (.cells g cs e :: H)
 | tail {d : Chunk} {H H' : List Chunk} (h : Upd g c cs e H H') : Upd g c cs e (d :: H) (d :: H')
theorem Upd.at {g : Nat} {c cs : Array Value} {e : TypeId} {H H' : List Chunk} (h : Upd g c cs e H H') : ∃ i : Nat, H[i]? = some (.cells g c e) ∧ H' = H.set i (.cells g cs e) := by
 induction h with
 | head => exact ⟨0, rfl, rfl⟩
 | tail h ih =>
  obtain ⟨i, h1, h2⟩ := ih
  exact ⟨i + 1, by simpa using h1, by rw [h2]; rfl⟩
section
variable {P : Program} {w0 w : World} {M : Nat → Prop} {H H' : List Chunk}
theorem St.heapM (h : St w0 M w H) {g : Nat} {cs : Array Value} {e : TypeId} (hm : Chunk.cells g cs e ∈ H) : w.heap[g]? = some (.cells cs e (0, 0)) := by
 obtain ⟨i, hi⟩ := List.getElem?_of_mem hm
 exact h.heap i hi
theorem St.updR (h : St w0 M w H) {g : Nat} {c cs : Array Value} {e : TypeId} (hu : Upd g c cs e H H') : w.heap[g]? = some (.cells c e (0, 0)) ∧ St w0 M (w.setRow g cs) H' := by
 obtain ⟨i, hi, rfl⟩ := hu.at
 exact ⟨h.heap i hi, h.setRow i hi cs⟩
theorem St.addAt (h : St w0 M w H) {c : Chunk} {g : Nat} (hc : c.sat w) (hb : c.block = some g) (hg : w0.heap.size ≤ g) (hf : ∀ d ∈ H, d.block ≠ some g) : St w0 M w (c :: H) := by
 refine ⟨h.ext, ?_, ?_, ?_⟩
 ·intro i d hd
  cases i with
  | zero => simp only [List.getElem?_cons_zero, Option.some.injEq] at hd; subst hd; exact hc
  | succ i => exact h.sat i d (by simpa using hd)
 ·intro i d k hd hk
  cases i with
  | zero =>
   simp only [List.getElem?_cons_zero, Option.some.injEq] at hd
   subst hd
   rw [hb] at hk
   injection hk with hk
   exact .inl (hk ▸ hg)
  | succ i => exact h.own i d k (by simpa using hd) hk
 ·intro i j d e k hij hd he hk hk'
  cases i with
  | zero =>
   simp only [List.getElem?_cons_zero, Option.some.injEq] at hd
   subst hd
   cases j with
   | zero => exact hij rfl
   | succ j => exact hf e (List.mem_of_getElem? (by simpa using he)) (hk'.trans (hk.symm.trans hb))
  | succ i =>
   cases j with
   | zero =>
    simp only [List.getElem?_cons_zero, Option.some.injEq] at he
    subst he
    exact hf d (List.mem_of_getElem? (by simpa using hd)) (hk.trans (hk'.symm.trans hb))
   | succ j => exact h.apart i j d e k (by omega) (by simpa using hd) (by simpa using he) hk hk'
theorem St.floats {W0 x : World} {F : List Nat} {cs : Array Value} {e : TypeId} {G : Nat → Nat} (h : St w0 M W0 H) (hx : From W0 x) (hF : FlAt W0 F cs e G x) : ∀ (F' : List Nat), F'.Nodup → (∀ f ∈ F', f ∈ F) → St w0 M x (F'.map (fun f => Chunk.cells (G f) cs e) ++ H) := by
 have hc := h.call hx
 intro F'
 induction F' with
 | nil => intro _ _; exact hc
 | cons f F' ih =>
  intro hn hs
  obtain ⟨hf, hn'⟩ := List.nodup_cons.1 hn
  have ih := ih hn' fun g hg => hs g (List.mem_cons_of_mem _ hg)
  have hGf := hF.at_ f (hs f (List.mem_cons_self ..))
  have hfresh : ∀ c ∈ F'.map (fun f => Chunk.cells (G f) cs e) ++ H, c.block ≠ some (G f) := fun c hcm e' => by
   rcases List.mem_append.1 hcm with hm | hm
   ·obtain ⟨g, hg, rfl⟩ := List.mem_map.1 hm
    have : G g = G f := by injection e'
    exact hF.ne g (hs g (List.mem_cons_of_mem _ hg)) f (hs f (List.mem_cons_self ..)) (fun e => hf (e ▸ hg)) this
   ·obtain ⟨i, hi⟩ := List.getElem?_of_mem hm
    have := Chunk.lt (h.sat i c hi) e'
    omega
  have hsat : (Chunk.cells (G f) cs e).sat x := hGf.2
  exact ih.addAt hsat rfl (Nat.le_trans h.ext.size hGf.1) hfresh
def Part (cs part : Array Value) (off : Nat) : Prop := ∀ (j : Nat) (v : Value), part[j]? = some v → cs[off + j]? = some v
def quad (a b c d : Array Value) : Array Value := a ++ b ++ c ++ d
theorem quad_size (a b c d : Array Value) : (quad a b c d).size = a.size + b.size + c.size + d.size := by unfold quad; rw [Array.size_append, Array.size_append, Array.size_append]
theorem quad_arr {n : Nat} {a b c d : Array Value} (ha : Arr n a) (hb : Arr n b) (hc : Arr n c) (hd : Arr n d) {m : Nat} (hm : n * 4 = m) : Arr m (quad a b c d) :=
 ⟨by rw [quad_size, ha.size, hb.size, hc.size, hd.size]; omega, by unfold quad; rw [Array.all_append, Array.all_append, Array.all_append, ha.one, hb.one, hc.one, hd.one]; rfl⟩
inductive PartN (n : Nat) : Array Value → Array Value → Nat → Prop where
 | all {cs : Array Value} (h : Arr n cs) : PartN n cs cs 0
 | q0 {a b c d : Array Value} (ha : Arr n a) : PartN n (quad a b c d) a 0
 | q1 {a b c d : Array Value} (ha : Arr n a) (hb : Arr n b) : PartN n (quad a b c d) b (n * 1)
 | q2 {a b c d : Array Value} (ha : Arr n a) (hb : Arr n b) (hc : Arr n c) : PartN n (quad a b c d) c (n * 2)
 | q3 {a b c d : Array Value} (ha : Arr n a) (hb : Arr n b) (hc : Arr n c) (hd : Arr n d) : PartN n (quad a b c d) d (n * 3)
theorem app_l {a b : Array Value} {j : Nat} {v : Value} (h : a[j]? = some v) : (a ++ b)[j]? = some v := by
 rw [Array.getElem?_append_left (Array.getElem?_eq_some_iff.1 h).1]; exact h
theorem app_r {a b : Array Value} {j k : Nat} {v : Value} (h : b[j]? = some v) (hk : a.size = k) : (a ++ b)[k + j]? = some v := by
 rw [Array.getElem?_append_right (by omega), show k + j - a.size = j from by omega]; exact h
theorem PartN.ok {n : Nat} {cs part : Array Value} {off : Nat} (h : PartN n cs part off) : part.size = n ∧ Part cs part off := by
 cases h with
 | all h => exact ⟨h.size, fun j v h => by rw [Nat.zero_add]; exact h⟩
 | q0 ha => exact ⟨ha.size, fun j v h => by rw [Nat.zero_add]; exact app_l (app_l (app_l h))⟩
 | q1 ha hb => exact ⟨hb.size, fun j v h => app_l (app_l (app_r h (by rw [ha.size, Nat.mul_one])))⟩
 | q2 ha hb hc => exact ⟨hc.size, fun j v h => app_l (app_r h (by rw [Array.size_append, ha.size, hb.size]; omega))⟩
 | q3 ha hb hc hd => exact ⟨hd.size, fun j v h => app_r h (by rw [Array.size_append, Array.size_append, ha.size, hb.size, hc.size]; omega)⟩
def isRow (d : TypeDesc) : Bool := match d with | .struct _ | .array _ _ => true | _ => false
theorem run_loadVar_part (w : World) (g off : Nat) (t ty : TypeId) (cs part : Array Value) (fr : Nat × Nat) (d : TypeDesc) (hg : w.heap[g]? = some (.cells cs t fr))
  (hu : P.underlying ty = some d) (hd : isRow d = true) (hi : (P.info? ty).map (·.size) = some part.size) (hp : Part cs part off) :
  (loadVar ty ⟨g, off, none⟩).run P w = .ok (.agg part) w := by
 have hl : (loadCells ⟨g, off, none⟩ part.toList.length).run P w = .ok part.toList.toArray w :=
  run_loadCells_list (P := P) w ⟨g, off, none⟩ part.toList (fun j v hv => by
   have hadd : (⟨g, off, none⟩ : Addr).add j = ⟨g, off + j, none⟩ := by unfold Addr.add; split <;> simp_all
   rw [hadd, cell_of_row w g (off + j) cs t fr hg]
   exact hp j v (by simpa using hv))
 cases hq : P.info? ty with
 | none => simp [hq] at hi
 | some i =>
  have hs : i.size = part.size := by simpa [hq] using hi
  have hagg : (isAgg ty).run P w = .ok true w := by
   unfold isAgg
   rw [Sem.run_bind, run_underlying hu w]
   cases d <;> simp_all [isRow]
  simp only [Array.length_toList, Array.toArray_toList] at hl
  simp [loadVar, Sem.run_bind, hagg, sizeOf, typeInfo, hq, hs, hl]
structure RowOf (P : Program) (t : TypeId) (n : Nat) : Prop where
 d : ∃ d, P.underlying t = some d ∧ isRow d = true
 n : (P.info? t).map (·.size) = some n
theorem run_load_part {o : Oper} {a : Act} {t : TypeId} {x : Operand} {n : Nat} (ho : o.op = .load t x) (hT : RowOf P t n) {g off : Nat} (hx : a.eval x = .pointer (some ⟨g, off, none⟩)) {cs part : Array Value} {e : TypeId} (hg : w.heap[g]? = some (.cells cs e (0, 0))) (hp : PartN n cs part off) :
  (execOp a.eval o).run P w = .ok (.value (.agg part)) w := by
 obtain ⟨⟨d, hu, hd⟩, hi⟩ := hT
 have h := run_loadVar_part (P := P) w g off e t cs part (0, 0) d hg hu hd (by rw [hi, hp.ok.1]) hp.ok.2
 unfold execOp
 simp only [ho, hx, Instr.loadAt, Instr.sureAddr, Sem.run_bind, Sem.run_pure, Result.andThen_ok, h]
end
section
variable {P : Program} {ops : Array Oper} {Q : Exit → Act → World → Prop} {rest : List Oper} {restT : List (Nat × Nat)} {i : Nat} {o : Oper} {a : Act} {w0 w : World} {M : Nat → Prop} {H H' : List Chunk} {t e : TypeId} {n g off : Nat} {x : Operand} {cs part : Array Value}
 {W0 : World} {F : List (Nat × Nat)} {fc : Array Value} {fe : TypeId} {suf : STr}
theorem wl_loadP (hgd : o.guard = none) (ho : o.op = .load t x) (hx : a.eval x = .pointer (some ⟨g, off, none⟩)) (hS : St w0 M w H) (hm : Chunk.cells g cs e ∈ H) (hT : RowOf P t n) (hp : PartN n cs part off)
  (h : wpList P ops Q rest (a.put o.dst (.agg part)) w) : wpList P ops Q (o :: rest) a w :=
 wpList_plain hgd fun K hK => by
  unfold Oper.wp
  rw [run_load_part ho hT hx (hS.heapM hm) hp]
  exact hK _ _ h
theorem wpT_loadP (hoi : ops[i]? = some o) (ho : o.op = .load t x) (hw : Region.wanted o (yielded ops a.tmps) = true) (hx : a.eval x = .pointer (some ⟨g, off, none⟩)) (hS : St w0 M w H) (hm : Chunk.cells g cs e ∈ H) (hT : RowOf P t n) (hp : PartN n cs part off)
  (h : wpT P ops Q restT (a.put o.dst (.agg part)) w) : wpT P ops Q ((i, 0) :: restT) a w :=
 wpT_load hoi ho hw (run_load_part ho hT hx (hS.heapM hm) hp) h
theorem wpX_loadP (hoi : ops[i]? = some o) (ho : o.op = .load t x) (hw : Region.wanted o (yielded ops a.tmps) = true) (hx : a.eval x = .pointer (some ⟨g, off, none⟩)) (hS : St w0 M W0 H) (hm : Chunk.cells g cs e ∈ H) (hT : RowOf P t n) (hp : PartN n cs part off)
  (h : XGo P ops Q F fc fe suf W0 restT (a.put o.dst (.agg part)) w) : XGo P ops Q F fc fe suf W0 ((i, 0) :: restT) a w :=
 wpX_load hoi ho hw (run_load_part ho hT hx (hS.heapM hm) hp) h
theorem wpX_callF {f : FuncId} {xs : List Operand} {ts : Array TypeId} {vs : List Value} {R : World → Ending → World → Prop} (ho : ops[i]? = some o) (hw : Region.wanted o (yielded ops a.tmps) = true)
  (hop : o.op = .call { callee := .value (.func f), args := xs.toArray, argTypes := ts }) (hf : ∀ (args : Array Value) (w : World), (callFunc f args).run P w = .ok (.enter f args) w)
  (hx : xs.map a.eval = vs) (hc : ∀ x, Calls P f vs.toArray x (R x)) (h : ∀ x e w', R x e w' → ∃ v, e = .returned v ∧ Below x.heap.size x w' ∧ XGo P ops Q F fc fe suf W0 restT (a.put o.dst v) w') : XGo P ops Q F fc fe suf W0 ((i, 2) :: restT) a w :=
 wpX_call ho hw fun x _ K hK => wp_call hop hf hx (hc x) fun e w' hr => by
  obtain ⟨v, he, hb, hk⟩ := h x e w' hr
  exact ⟨v, he, hK _ _ ⟨hb, hk⟩⟩
theorem wp_storeR {K : Act → World → Prop} {p : Operand} {c : Array Value} (ho : o.op = .store t p x) (hp : a.eval p = .pointer (some ⟨g, 0, none⟩)) (hx : a.eval x = .agg cs) (hS : St w0 M w H) (hT : RowOf P t n) (hu : Upd g c cs e H H') (hc : Arr n c) (hcs : Arr n cs)
  (h : ∀ w', St w0 M w' H' → K (a.put o.dst undef) w') : o.wp P a w K Q := by
 obtain ⟨h1, h2⟩ := hS.updR hu
 exact wp_store_row t p x ho g cs hp hx e c h1 (by rw [hT.n, hcs.size]) (by rw [hc.size, hcs.size]) hcs.one (h _ h2)
theorem wl_storeR {p : Operand} {c : Array Value} (hgd : o.guard = none) (ho : o.op = .store t p x) (hp : a.eval p = .pointer (some ⟨g, 0, none⟩)) (hx : a.eval x = .agg cs) (hS : St w0 M w H) (hT : RowOf P t n) (hu : Upd g c cs e H H') (hc : Arr n c) (hcs : Arr n cs)
  (h : ∀ w', St w0 M w' H' → wpList P ops Q rest (a.put o.dst undef) w') : wpList P ops Q (o :: rest) a w :=
 wpList_plain hgd fun _ hK => wp_storeR ho hp hx hS hT hu hc hcs fun w' h' => hK _ _ (h w' h')
theorem wpS_storeF {p : Operand} {c : Array Value} {restS : STr} (hoi : ops[i]? = some o) (hw : Region.wanted o (yielded ops a.tmps) = true) (ho : o.op = .store t p x) (hp : a.eval p = .pointer (some ⟨g, 0, none⟩)) (hx : a.eval x = .agg cs) (hS : St w0 M w H) (hX : From W0 w) (hg : W0.heap.size ≤ g) (hT : RowOf P t n) (hu : Upd g c cs e H H') (hc : Arr n c) (hcs : Arr n cs)
  (h : ∀ w', St w0 M w' H' → From W0 w' → wpS P ops Q W0 restS (a.put o.dst undef) w') : wpS P ops Q W0 (.op i 2 restS) a w :=
 wpS_call hoi hw fun K hK => by
  obtain ⟨h1, h2⟩ := hS.updR hu
  have hX' : From W0 (w.setRow g cs) := ⟨hX.os, hX.tape, hX.output, by rw [size_setRow]; exact hX.size, fun k hk => (setRow_other w g k cs (by omega)).trans (hX.block k hk)⟩
  exact wp_store_row t p x ho g cs hp hx e c h1 (by rw [hT.n, hcs.size]) (by rw [hc.size, hcs.size]) hcs.one (hK _ _ ⟨hX', h _ h2 hX'⟩)
def NewOf (P : Program) (t : TypeId) (zs : Array Value) : Prop := ∀ x : World, (Instr.alloc t true (.tuple #[])).run P x = .ok (.pointer (some ⟨x.heap.size, 0, none⟩)) (x.alloc (.cells zs t))
theorem run_allocR {zs : Array Value} (ho : o.op = .alloc t) (hN : NewOf P t zs) (ev : Operand → Value) (y : World) : (execOp ev o).run P y = .ok (.value (.pointer (some ⟨y.heap.size, 0, none⟩))) (y.alloc (.cells zs t)) := by
 unfold execOp
 simp only [ho, Sem.run_bind, hN y, Sem.run_pure, Result.andThen_ok]
theorem wl_allocR {zs : Array Value} (hgd : o.guard = none) (ho : o.op = .alloc t) (hS : St w0 M w H) (hN : NewOf P t zs)
  (h : ∀ g w', St w0 M w' (.cells g zs t :: H) → wpList P ops Q rest (a.put o.dst (.pointer (some ⟨g, 0, none⟩))) w') : wpList P ops Q (o :: rest) a w :=
 wpList_plain hgd fun _ hK => by
  unfold Oper.wp
  rw [run_allocR ho hN]
  exact hK _ _ (h _ _ (hS.alloc zs t))
theorem wl_boxR (hgd : o.guard = none) (ho : o.op = .box t x) (hx : a.eval x = .agg cs) (hS : St w0 M w H)
  (h : ∀ g w', St w0 M w' (.cells g cs t :: H) → wpList P ops Q rest (a.put o.dst (.pointer (some ⟨g, 0, none⟩))) w') : wpList P ops Q (o :: rest) a w :=
 wpList_plain hgd fun _ hK => by
  unfold Oper.wp execOp
  simp only [ho, hx, Sem.run_bind, Instr.box, newVar, newRow, run_newObj_alloc, Sem.run_pure, Result.andThen_ok]
  exact hK _ _ (h _ _ (hS.alloc cs t))
def BuildOf (P : Program) (t : TypeId) (A : Array Value → Prop) : Prop := ∀ a b c d : Array Value, A a → A b → A c → A d → P.built t [(0, .agg a), (1, .agg b), (2, .agg c), (3, .agg d)] = some (quad a b c d)
theorem run_build4 {A : Array Value → Prop} {p q r s : Operand} {va vb vc vd : Array Value} (ho : o.op = .build t #[(0, p), (1, q), (2, r), (3, s)]) (h0 : a.eval p = .agg va) (h1 : a.eval q = .agg vb) (h2 : a.eval r = .agg vc) (h3 : a.eval s = .agg vd)
  (hB : BuildOf P t A) (ha : A va) (hb : A vb) (hc : A vc) (hd : A vd) (y : World) : (execOp a.eval o).run P y = .ok (.value (.agg (quad va vb vc vd))) y := by
 have hf := hB va vb vc vd ha hb hc hd
 have e : ((#[(0, p), (1, q), (2, r), (3, s)] : Array (Nat × Operand)).map fun (i, x) => (i, a.eval x)).toList = [(0, .agg va), (1, .agg vb), (2, .agg vc), (3, .agg vd)] := by
  simp [h0, h1, h2, h3]
 unfold execOp
 simp only [ho]
 simp only [Sem.run_bind, run_build y t _ _ (by rw [e]; exact hf), Result.andThen_ok]
 rfl
end
end Go.Proofs.YtnohmgpmmhlloaaGreatDoor

namespace Go.Proofs.YtnohmgpmmhlloaaGreatDoor
open Go.RowKit

def nv : List Int → Int
 | [] => 0
 | x :: xs => x + 65536 * nv xs
def NB (xs : List Int) : Prop := xs.length = 16 ∧ ∀ (k : Nat) (x : Int), xs[k]? = some x → (if k = 0 then -76 else 0) ≤ x ∧ x < 65536 + (if k = 0 then 76 else 0)
end Go.Proofs.YtnohmgpmmhlloaaGreatDoor

namespace Go.Proofs.YtnohmgpmmhlloaaGreatDoor
open Go.RowKit
set_option linter.unusedSimpArgs false

def ivs (xs : List Int) : List Value := xs.map (.int .i64 ·)
theorem ivs_len (xs : List Int) : (ivs xs).length = xs.length := by simp [ivs]
end Go.Proofs.YtnohmgpmmhlloaaGreatDoor

namespace Go.Proofs.YtnohmgpmmhlloaaGreatDoor
open Go.RowKit
set_option linter.unusedSimpArgs false

section
variable {P : Program} {ops : Array Oper} {rest : List Oper} {o : Oper} {a : Act} {w : World} {Q : Exit → Act → World → Prop}
end
end Go.Proofs.YtnohmgpmmhlloaaGreatDoor

namespace Go.Proofs.YtnohmgpmmhlloaaGreatDoor
open Go.RowKit
set_option linter.unusedSimpArgs false

end Go.Proofs.YtnohmgpmmhlloaaGreatDoor

namespace Go.Proofs.YtnohmgpmmhlloaaGreatDoor
open Go.RowKit
set_option linter.unusedSimpArgs false

end Go.Proofs.YtnohmgpmmhlloaaGreatDoor

namespace Go.Proofs.YtnohmgpmmhlloaaGreatDoor
open Go.RowKit
set_option linter.unusedSimpArgs false

theorem rd_at' {w : World} {B : Option Addr} {n d : Nat} {xs : List Value} {k : Nat} {u : Value} (h : Rd w (.slice B n d) 1 n xs) (hk : xs[k]? = some u) : ∃ b o, B = some ⟨b, o, none⟩ ∧ w.cell? ⟨b, o + k, none⟩ = some u := by
 rcases h.cases with ⟨_, _, h0⟩ | ⟨b, o, sp, c', hv, _, _, _, hl, h4, hc⟩
 ·rw [h0] at hk; simp at hk
 ·injection hv with hv1 _ _
  have hkl : k < xs.length := (List.getElem?_eq_some_iff.1 hk).1
  have := h4 (by omega)
  subst this hv1
  exact ⟨b, o, rfl, hc k u hk⟩
def NE (xs : List Int) (X : FK) : Prop := NB xs ∧ nv xs % (Pq : Int) = (X.val : Int)
end Go.Proofs.YtnohmgpmmhlloaaGreatDoor

namespace Go.Proofs.YtnohmgpmmhlloaaGreatDoor
open Go.RowKit
set_option linter.unusedSimpArgs false

section
variable {xs ys : List Int} {X Y : FK}
end
end Go.Proofs.YtnohmgpmmhlloaaGreatDoor

namespace Go.Proofs.YtnohmgpmmhlloaaGreatDoor
open Go.RowKit
set_option linter.unusedSimpArgs false

theorem ivs_size {zs : List Int} {X : FK} (h : NE zs X) : (ivs zs).toArray.size = 16 := by rw [List.size_toArray, ivs_len]; exact h.1.1
end Go.Proofs.YtnohmgpmmhlloaaGreatDoor

namespace Go.Proofs.YtnohmgpmmhlloaaGreatDoor
open Go.RowKit
set_option linter.unusedSimpArgs false

structure EA (a : Array Value) (X : FK) : Prop where
 ex : ∃ p q s t u : Nat, a = #[.int .u64 (p : Int), .int .u64 (q : Int), .int .u64 (s : Int), .int .u64 (t : Int), .int .u64 (u : Int)] ∧ ev [p, q, s, t, u] = X.val ∧ Red [p, q, s, t, u]
theorem EA.arr {a : Array Value} {X : FK} (h : EA a X) : Arr 5 a := by
 obtain ⟨p, q, s, t, u, rfl, _, _⟩ := h.ex
 exact ⟨rfl, by simp [Value.oneCell']⟩
structure NA (a : Array Value) (X : FK) : Prop where
 ex : ∃ xs, a = (ivs xs).toArray ∧ NE xs X
theorem NA.arr {a : Array Value} {X : FK} (h : NA a X) : Arr 16 a := by
 obtain ⟨xs, rfl, hx⟩ := h.ex
 exact ⟨ivs_size hx, by rw [List.all_toArray, List.all_eq_true]; intro v hv; unfold ivs at hv; obtain ⟨n, _, rfl⟩ := List.mem_map.1 hv; rfl⟩
def ResE (w : World) (X : FK) (e : Ending) (w' : World) : Prop := ∃ z, EA z X ∧ e = .returned (.agg z) ∧ Below w.heap.size w w'
theorem res_of {w : World} {X : FK} {e : Ending} {w' : World} (h : ∃ p q s t u : Nat, ev [p, q, s, t, u] = X.val ∧ Red [p, q, s, t, u] ∧ e = .returned (.agg #[.int .u64 (p : Int), .int .u64 (q : Int), .int .u64 (s : Int), .int .u64 (t : Int), .int .u64 (u : Int)]) ∧ Below w.heap.size w w') : ResE w X e w' := by
 obtain ⟨p, q, s, t, u, h1, h2, h3, h4⟩ := h
 exact ⟨_, ⟨p, q, s, t, u, rfl, h1, h2⟩, h3, h4⟩
section
variable {a b : Array Value} {X Y : FK} (w : World)
theorem addA (ha : EA a X) (hb : EA b Y) : Calls Tryz.prog 90 #[.agg a, .agg b] w (ResE w (X + Y)) := by
 obtain ⟨_, _, _, _, _, rfl, h1, h2⟩ := ha.ex
 obtain ⟨_, _, _, _, _, rfl, h3, h4⟩ := hb.ex
 exact (addE h1 h2 h3 h4).mono fun _ _ h => res_of h
theorem subA (ha : EA a X) (hb : EA b Y) : Calls Tryz.prog 88 #[.agg a, .agg b] w (ResE w (X - Y)) := by
 obtain ⟨_, _, _, _, _, rfl, h1, h2⟩ := ha.ex
 obtain ⟨_, _, _, _, _, rfl, h3, h4⟩ := hb.ex
 exact (subE h1 h2 h3 h4).mono fun _ _ h => res_of h
theorem mulA (ha : EA a X) (hb : EA b Y) : Calls Tryz.prog 83 #[.agg a, .agg b] w (ResE w (X * Y)) := by
 obtain ⟨_, _, _, _, _, rfl, h1, h2⟩ := ha.ex
 obtain ⟨_, _, _, _, _, rfl, h3, h4⟩ := hb.ex
 exact (mulE h1 h2 h3 h4).mono fun _ _ h => res_of h
theorem invA (ha : EA a X) : Calls Tryz.prog 82 #[.agg a] w (ResE w (finv X)) := by
 obtain ⟨_, _, _, _, _, rfl, h1, h2⟩ := ha.ex
 exact (invE h1 h2).mono fun _ _ h => res_of h
theorem zeroA (ha : EA a X) : Calls Tryz.prog 121 #[.agg a] w fun e w' => e = .returned (.bool (decide (X = 0))) ∧ Below w.heap.size w w' := by
 obtain ⟨_, _, _, _, _, rfl, h1, h2⟩ := ha.ex
 have e : decide (X = 0) = decide (X.val = 0) := by
  by_cases h : X = 0
  ·rw [decide_eq_true h, decide_eq_true (by rw [h, fzero_val])]
  ·rw [decide_eq_false h, decide_eq_false fun e => h (Fin.ext (e.trans fzero_val.symm))]
 rw [e]
 exact zeroE h1 h2
theorem oddA (ha : EA a X) : Calls Tryz.prog 85 #[.agg a] w fun e w' => e = .returned (.bool (decide (X.val % 2 = 1))) ∧ Below w.heap.size w w' := by
 obtain ⟨_, _, _, _, _, rfl, h1, h2⟩ := ha.ex
 exact oddE h1 h2
theorem bytesA (ha : EA a X) : Calls Tryz.prog 84 #[.agg a] w (ResB 5 w (leB 32 X.val)) := by
 obtain ⟨_, _, _, _, _, rfl, h1, h2⟩ := ha.ex
 rw [← h1]
 exact bytes_walk _ _ _ _ _ w (red_low h2)
theorem small1A : Calls Tryz.prog 89 #[.int .u32 1] w (ResE w 1) := (small1 w).mono fun _ _ h => res_of h
theorem ea_zero : EA #[.int .u64 0, .int .u64 0, .int .u64 0, .int .u64 0, .int .u64 0] 0 := ⟨0, 0, 0, 0, 0, rfl, by rw [fzero_val]; unfold ev fv fv fv fv fv fv; simp, ⟨rfl, fun k x hx => by
 have hx0 : x = 0 := by
  have := List.mem_of_getElem? hx
  simpa using this
 subst hx0
 unfold T51
 omega⟩⟩
def lD : List Nat := [163, 120, 89, 19, 202, 77, 235, 117, 171, 216, 65, 65, 77, 10, 112, 0, 152, 232, 121, 119, 121, 64, 199, 140, 115, 254, 111, 43, 238, 108, 3, 82]
theorem nD_text : strOf (hexT lD) = ⟨#[53, 50, 48, 51, 54, 99, 101, 101, 50, 98, 54, 102, 102, 101, 55, 51, 56, 99, 99, 55, 52, 48, 55, 57, 55, 55, 55, 57, 101, 56, 57, 56, 48, 48, 55, 48, 48, 97, 52, 100, 52, 49, 52, 49, 100, 56, 97, 98, 55, 53, 101, 98, 52, 100, 99, 97, 49, 51, 53, 57, 55, 56, 97, 51]⟩ := by rw [strOf_eq]; rfl
theorem nD_val : fbytes (byL lD) = dF := Fin.ext (by decide +kernel)
theorem numD : Calls Tryz.prog 78 #[.string ⟨#[53, 50, 48, 51, 54, 99, 101, 101, 50, 98, 54, 102, 102, 101, 55, 51, 56, 99, 99, 55, 52, 48, 55, 57, 55, 55, 55, 57, 101, 56, 57, 56, 48, 48, 55, 48, 48, 97, 52, 100, 52, 49, 52, 49, 100, 56, 97, 98, 55, 53, 101, 98, 52, 100, 99, 97, 49, 51, 53, 57, 55, 56, 97, 51]⟩] w (ResE w (dF)) := by
 have h := number_any lD (by decide) (by decide) w
 rw [nD_text, nD_val] at h
 exact h.mono fun _ _ h => res_of h
def lX : List Nat := [26, 213, 37, 143, 96, 45, 86, 201, 178, 167, 37, 149, 96, 199, 44, 105, 92, 220, 214, 253, 49, 226, 164, 192, 254, 83, 110, 205, 211, 54, 105, 33]
theorem nX_text : strOf (hexT lX) = ⟨#[50, 49, 54, 57, 51, 54, 100, 51, 99, 100, 54, 101, 53, 51, 102, 101, 99, 48, 97, 52, 101, 50, 51, 49, 102, 100, 100, 54, 100, 99, 53, 99, 54, 57, 50, 99, 99, 55, 54, 48, 57, 53, 50, 53, 97, 55, 98, 50, 99, 57, 53, 54, 50, 100, 54, 48, 56, 102, 50, 53, 100, 53, 49, 97]⟩ := by rw [strOf_eq]; rfl
theorem nX_val : fbytes (byL lX) = toF bxV := Fin.ext (by decide +kernel)
theorem numX : Calls Tryz.prog 78 #[.string ⟨#[50, 49, 54, 57, 51, 54, 100, 51, 99, 100, 54, 101, 53, 51, 102, 101, 99, 48, 97, 52, 101, 50, 51, 49, 102, 100, 100, 54, 100, 99, 53, 99, 54, 57, 50, 99, 99, 55, 54, 48, 57, 53, 50, 53, 97, 55, 98, 50, 99, 57, 53, 54, 50, 100, 54, 48, 56, 102, 50, 53, 100, 53, 49, 97]⟩] w (ResE w (toF bxV)) := by
 have h := number_any lX (by decide) (by decide) w
 rw [nX_text, nX_val] at h
 exact h.mono fun _ _ h => res_of h
def lY : List Nat := [88, 102, 102, 102, 102, 102, 102, 102, 102, 102, 102, 102, 102, 102, 102, 102, 102, 102, 102, 102, 102, 102, 102, 102, 102, 102, 102, 102, 102, 102, 102, 102]
theorem nY_text : strOf (hexT lY) = ⟨#[54, 54, 54, 54, 54, 54, 54, 54, 54, 54, 54, 54, 54, 54, 54, 54, 54, 54, 54, 54, 54, 54, 54, 54, 54, 54, 54, 54, 54, 54, 54, 54, 54, 54, 54, 54, 54, 54, 54, 54, 54, 54, 54, 54, 54, 54, 54, 54, 54, 54, 54, 54, 54, 54, 54, 54, 54, 54, 54, 54, 54, 54, 53, 56]⟩ := by rw [strOf_eq]; rfl
theorem nY_val : fbytes (byL lY) = toF byV := Fin.ext (by decide +kernel)
theorem numY : Calls Tryz.prog 78 #[.string ⟨#[54, 54, 54, 54, 54, 54, 54, 54, 54, 54, 54, 54, 54, 54, 54, 54, 54, 54, 54, 54, 54, 54, 54, 54, 54, 54, 54, 54, 54, 54, 54, 54, 54, 54, 54, 54, 54, 54, 54, 54, 54, 54, 54, 54, 54, 54, 54, 54, 54, 54, 54, 54, 54, 54, 54, 54, 54, 54, 54, 54, 54, 54, 53, 56]⟩] w (ResE w (toF byV)) := by
 have h := number_any lY (by decide) (by decide) w
 rw [nY_text, nY_val] at h
 exact h.mono fun _ _ h => res_of h

end
end Go.Proofs.YtnohmgpmmhlloaaGreatDoor

namespace Go.Proofs.YtnohmgpmmhlloaaGreatDoor
open Go.RowKit
set_option linter.unusedSimpArgs false

def zE : Array Value := #[.int .u64 0, .int .u64 0, .int .u64 0, .int .u64 0, .int .u64 0]
def zP : Array Value := #[.int .u64 0, .int .u64 0, .int .u64 0, .int .u64 0, .int .u64 0, .int .u64 0, .int .u64 0, .int .u64 0, .int .u64 0, .int .u64 0, .int .u64 0, .int .u64 0, .int .u64 0, .int .u64 0, .int .u64 0, .int .u64 0, .int .u64 0, .int .u64 0, .int .u64 0, .int .u64 0]
def zN : Array Value := (ivs (List.replicate 16 0)).toArray
def zQ : Array Value := (ivs (List.replicate 64 0)).toArray
theorem rowE : RowOf Tryz.prog 61 5 := ⟨⟨_, Tryz.underlying61, rfl⟩, by kernel_rfl⟩
theorem rowP : RowOf Tryz.prog 63 20 := ⟨⟨_, Tryz.underlying63, rfl⟩, by kernel_rfl⟩
theorem rowN : RowOf Tryz.prog 130 16 := ⟨⟨_, Tryz.underlying130, rfl⟩, by kernel_rfl⟩
theorem rowQ : RowOf Tryz.prog 132 64 := ⟨⟨_, Tryz.underlying132, rfl⟩, by kernel_rfl⟩
theorem newE : NewOf Tryz.prog 61 zE := fun x => by kernel_rfl
theorem newP : NewOf Tryz.prog 63 zP := fun x => by kernel_rfl
theorem newN : NewOf Tryz.prog 130 zN := fun x => by kernel_rfl
theorem newQ : NewOf Tryz.prog 132 zQ := fun x => by kernel_rfl
theorem arr_zE : Arr 5 zE := ⟨rfl, by kernel_rfl⟩
theorem arr_zP : Arr 20 zP := ⟨rfl, by kernel_rfl⟩
theorem arr_zN : Arr 16 zN := ⟨by kernel_rfl, by kernel_rfl⟩
theorem arr_zQ : Arr 64 zQ := ⟨by kernel_rfl, by kernel_rfl⟩
theorem qE {a b c d : Array Value} {X Y Z T : FK} (h1 : EA a X) (h2 : EA b Y) (h3 : EA c Z) (h4 : EA d T) : Arr 20 (quad a b c d) := quad_arr h1.arr h2.arr h3.arr h4.arr rfl
theorem qN {a b c d : Array Value} {X Y Z T : FK} (h1 : NA a X) (h2 : NA b Y) (h3 : NA c Z) (h4 : NA d T) : Arr 64 (quad a b c d) := quad_arr h1.arr h2.arr h3.arr h4.arr rfl
theorem exE {a : Array Value} {X : FK} (h : EA a X) : ∃ X, EA a X := ⟨_, h⟩
theorem exN {a : Array Value} {X : FK} (h : NA a X) : ∃ X, NA a X := ⟨_, h⟩
theorem buildQ0 (a0 a1 a2 a3 a4 a5 a6 a7 a8 a9 a10 a11 a12 a13 a14 a15 b0 b1 b2 b3 b4 b5 b6 b7 b8 b9 b10 b11 b12 b13 b14 b15 c0 c1 c2 c3 c4 c5 c6 c7 c8 c9 c10 c11 c12 c13 c14 c15 d0 d1 d2 d3 d4 d5 d6 d7 d8 d9 d10 d11 d12 d13 d14 d15 : Value) : (Tryz.prog.built 132 [(0, .agg #[a0, a1, a2, a3, a4, a5, a6, a7, a8, a9, a10, a11, a12, a13, a14, a15]), (1, .agg #[b0, b1, b2, b3, b4, b5, b6, b7, b8, b9, b10, b11, b12, b13, b14, b15]), (2, .agg #[c0, c1, c2, c3, c4, c5, c6, c7, c8, c9, c10, c11, c12, c13, c14, c15]), (3, .agg #[d0, d1, d2, d3, d4, d5, d6, d7, d8, d9, d10, d11, d12, d13, d14, d15])]) = some (quad #[a0, a1, a2, a3, a4, a5, a6, a7, a8, a9, a10, a11, a12, a13, a14, a15] #[b0, b1, b2, b3, b4, b5, b6, b7, b8, b9, b10, b11, b12, b13, b14, b15] #[c0, c1, c2, c3, c4, c5, c6, c7, c8, c9, c10, c11, c12, c13, c14, c15] #[d0, d1, d2, d3, d4, d5, d6, d7, d8, d9, d10, d11, d12, d13, d14, d15]) := by kernel_rfl
theorem arr16 {a : Array Value} (h : a.size = 16) : ∃ a0 a1 a2 a3 a4 a5 a6 a7 a8 a9 a10 a11 a12 a13 a14 a15 : Value, a = #[a0, a1, a2, a3, a4, a5, a6, a7, a8, a9, a10, a11, a12, a13, a14, a15] := by
 obtain ⟨l⟩ := a
 match l, h with
 | [a0, a1, a2, a3, a4, a5, a6, a7, a8, a9, a10, a11, a12, a13, a14, a15], _ => exact ⟨a0, a1, a2, a3, a4, a5, a6, a7, a8, a9, a10, a11, a12, a13, a14, a15, rfl⟩
theorem buildQ : BuildOf Tryz.prog 132 (fun a => ∃ X, NA a X) := fun a b c d ha hb hc hd => by
 obtain ⟨_, ha⟩ := ha
 obtain ⟨_, hb⟩ := hb
 obtain ⟨_, hc⟩ := hc
 obtain ⟨_, hd⟩ := hd
 obtain ⟨a0, a1, a2, a3, a4, a5, a6, a7, a8, a9, a10, a11, a12, a13, a14, a15, rfl⟩ := arr16 ha.arr.size
 obtain ⟨b0, b1, b2, b3, b4, b5, b6, b7, b8, b9, b10, b11, b12, b13, b14, b15, rfl⟩ := arr16 hb.arr.size
 obtain ⟨c0, c1, c2, c3, c4, c5, c6, c7, c8, c9, c10, c11, c12, c13, c14, c15, rfl⟩ := arr16 hc.arr.size
 obtain ⟨d0, d1, d2, d3, d4, d5, d6, d7, d8, d9, d10, d11, d12, d13, d14, d15, rfl⟩ := arr16 hd.arr.size
 exact buildQ0 _ _ _ _ _ _ _ _ _ _ _ _ _ _ _ _ _ _ _ _ _ _ _ _ _ _ _ _ _ _ _ _ _ _ _ _ _ _ _ _ _ _ _ _ _ _ _ _ _ _ _ _ _ _ _ _ _ _ _ _ _ _ _ _
theorem buildP : BuildOf Tryz.prog 63 (fun a => ∃ X, EA a X) := fun a b c d ha hb hc hd => by
 obtain ⟨_, ha⟩ := ha
 obtain ⟨_, hb⟩ := hb
 obtain ⟨_, hc⟩ := hc
 obtain ⟨_, hd⟩ := hd
 obtain ⟨_, _, _, _, _, rfl, _, _⟩ := ha.ex
 obtain ⟨_, _, _, _, _, rfl, _, _⟩ := hb.ex
 obtain ⟨_, _, _, _, _, rfl, _, _⟩ := hc.ex
 obtain ⟨_, _, _, _, _, rfl, _, _⟩ := hd.ex
 kernel_rfl
def ResP (w : World) (A : Pj) (e : Ending) (w' : World) : Prop := ∃ a b c d, EA a A.X ∧ EA b A.Y ∧ EA c A.Z ∧ EA d A.T ∧ e = .returned (.agg (quad a b c d)) ∧ Below w.heap.size w w'
theorem at_any {a b : Array Value} {X Y : FK} (w : World) (hea : EA a X) (heb : EA b Y) : Calls Tryz.prog 77 #[.agg a, .agg b] w (ResP w ⟨X, Y, 1, X * Y⟩) := by
 have HS := hide (St.init w NoB)
 go_enter Tryz.func77, Tryz.ntmps77
 go_wp2_with (first | (refine wl_loadP rfl rfl rfl HS.out (by (repeat first | exact .head _ | apply List.Mem.tail)) (by first | exact rowE | exact rowP | exact rowN | exact rowQ) (by (first | exact .q0 (EA.arr ‹_›) | exact .q1 (EA.arr ‹_›) (EA.arr ‹_›) | exact .q2 (EA.arr ‹_›) (EA.arr ‹_›) (EA.arr ‹_›) | exact .q3 (EA.arr ‹_›) (EA.arr ‹_›) (EA.arr ‹_›) (EA.arr ‹_›) | exact .q0 (NA.arr ‹_›) | exact .q1 (NA.arr ‹_›) (NA.arr ‹_›) | exact .q2 (NA.arr ‹_›) (NA.arr ‹_›) (NA.arr ‹_›) | exact .q3 (NA.arr ‹_›) (NA.arr ‹_›) (NA.arr ‹_›) (NA.arr ‹_›) | exact .all (by (first | exact EA.arr ‹_› | exact NA.arr ‹_› | exact arr_zE | exact arr_zN | exact arr_zP | exact arr_zQ | exact PtN.arr ‹_› | exact PtV.arr ‹_› | exact QtN.arr ‹_› | exact qE ‹_› ‹_› ‹_› ‹_› | exact qN ‹_› ‹_› ‹_› ‹_›)))) ?_; (try simp only [Act.put, nq1, nq2, nq3, nq4, nq5, nq6])) | (refine wl_storeR rfl rfl rfl rfl HS.out (by first | exact rowE | exact rowP | exact rowN | exact rowQ) (by (repeat first | exact .head | apply Upd.tail)) (by (first | exact EA.arr ‹_› | exact NA.arr ‹_› | exact arr_zE | exact arr_zN | exact arr_zP | exact arr_zQ | exact PtN.arr ‹_› | exact PtV.arr ‹_› | exact QtN.arr ‹_› | exact qE ‹_› ‹_› ‹_› ‹_› | exact qN ‹_› ‹_› ‹_› ‹_›)) (by (first | exact EA.arr ‹_› | exact NA.arr ‹_› | exact arr_zE | exact arr_zN | exact arr_zP | exact arr_zQ | exact PtN.arr ‹_› | exact PtV.arr ‹_› | exact QtN.arr ‹_› | exact qE ‹_› ‹_› ‹_› ‹_› | exact qN ‹_› ‹_› ‹_› ‹_›)) ?_; intro wz hS9; have HS := hide hS9; clear hS9; (try simp only [Act.put, nq1, nq2, nq3, nq4, nq5, nq6])) | (refine wl_allocR rfl rfl HS.out (by first | exact newE | exact newP | exact newN | exact newQ) ?_; intro gz wz hS9; have HS := hide hS9; clear hS9; (try simp only [Act.put, nq1, nq2, nq3, nq4, nq5, nq6])) | (refine wl_boxR rfl rfl rfl HS.out ?_; intro gz wz hS9; have HS := hide hS9; clear hS9; (try simp only [Act.put, nq1, nq2, nq3, nq4, nq5, nq6])) | (refine wpT_loadP rfl rfl rfl rfl HS.out (by (repeat first | exact .head _ | apply List.Mem.tail)) (by first | exact rowE | exact rowP | exact rowN | exact rowQ) (by (first | exact .q0 (EA.arr ‹_›) | exact .q1 (EA.arr ‹_›) (EA.arr ‹_›) | exact .q2 (EA.arr ‹_›) (EA.arr ‹_›) (EA.arr ‹_›) | exact .q3 (EA.arr ‹_›) (EA.arr ‹_›) (EA.arr ‹_›) (EA.arr ‹_›) | exact .q0 (NA.arr ‹_›) | exact .q1 (NA.arr ‹_›) (NA.arr ‹_›) | exact .q2 (NA.arr ‹_›) (NA.arr ‹_›) (NA.arr ‹_›) | exact .q3 (NA.arr ‹_›) (NA.arr ‹_›) (NA.arr ‹_›) (NA.arr ‹_›) | exact .all (by (first | exact EA.arr ‹_› | exact NA.arr ‹_› | exact arr_zE | exact arr_zN | exact arr_zP | exact arr_zQ | exact PtN.arr ‹_› | exact PtV.arr ‹_› | exact QtN.arr ‹_› | exact qE ‹_› ‹_› ‹_› ‹_› | exact qN ‹_› ‹_› ‹_› ‹_›)))) ?_; (try simp only [Act.put, nq1, nq2, nq3, nq4, nq5, nq6])) | (refine wpT_pure rfl rfl (fun x => run_build4 rfl rfl rfl rfl rfl buildP (exE (by assumption)) (exE (by assumption)) (exE (by assumption)) (exE (by assumption)) x) ?_; (try simp only [Act.put, nq1, nq2, nq3, nq4, nq5, nq6])) | (refine wpT_pure rfl rfl (fun x => run_build4 rfl rfl rfl rfl rfl buildQ (exN (by assumption)) (exN (by assumption)) (exN (by assumption)) (exN (by assumption)) x) ?_; (try simp only [Act.put, nq1, nq2, nq3, nq4, nq5, nq6])) | (refine wpT_late rfl rfl ?_; intro K hK; refine wp_storeR rfl rfl rfl HS.out (by first | exact rowE | exact rowP | exact rowN | exact rowQ) (by (repeat first | exact .head | apply Upd.tail)) (by (first | exact EA.arr ‹_› | exact NA.arr ‹_› | exact arr_zE | exact arr_zN | exact arr_zP | exact arr_zQ | exact PtN.arr ‹_› | exact PtV.arr ‹_› | exact QtN.arr ‹_› | exact qE ‹_› ‹_› ‹_› ‹_› | exact qN ‹_› ‹_› ‹_› ‹_›)) (by (first | exact EA.arr ‹_› | exact NA.arr ‹_› | exact arr_zE | exact arr_zN | exact arr_zP | exact arr_zQ | exact PtN.arr ‹_› | exact PtV.arr ‹_› | exact QtN.arr ‹_› | exact qE ‹_› ‹_› ‹_› ‹_› | exact qN ‹_› ‹_› ‹_› ‹_›)) ?_; intro wz hS9; have HS := hide hS9; clear hS9) | (refine wpT_any rfl rfl ?_; intro K hK; refine wp_storeR rfl rfl rfl HS.out (by first | exact rowE | exact rowP | exact rowN | exact rowQ) (by (repeat first | exact .head | apply Upd.tail)) (by (first | exact EA.arr ‹_› | exact NA.arr ‹_› | exact arr_zE | exact arr_zN | exact arr_zP | exact arr_zQ | exact PtN.arr ‹_› | exact PtV.arr ‹_› | exact QtN.arr ‹_› | exact qE ‹_› ‹_› ‹_› ‹_› | exact qN ‹_› ‹_› ‹_› ‹_›)) (by (first | exact EA.arr ‹_› | exact NA.arr ‹_› | exact arr_zE | exact arr_zN | exact arr_zP | exact arr_zQ | exact PtN.arr ‹_› | exact PtV.arr ‹_› | exact QtN.arr ‹_› | exact qE ‹_› ‹_› ‹_› ‹_› | exact qN ‹_› ‹_› ‹_› ‹_›)) ?_; intro wz hS9; have HS := hide hS9; clear hS9) | (refine wpX_loadP rfl rfl rfl rfl HS.out (by (repeat first | exact .head _ | apply List.Mem.tail)) (by first | exact rowE | exact rowP | exact rowN | exact rowQ) (by (first | exact .q0 (EA.arr ‹_›) | exact .q1 (EA.arr ‹_›) (EA.arr ‹_›) | exact .q2 (EA.arr ‹_›) (EA.arr ‹_›) (EA.arr ‹_›) | exact .q3 (EA.arr ‹_›) (EA.arr ‹_›) (EA.arr ‹_›) (EA.arr ‹_›) | exact .q0 (NA.arr ‹_›) | exact .q1 (NA.arr ‹_›) (NA.arr ‹_›) | exact .q2 (NA.arr ‹_›) (NA.arr ‹_›) (NA.arr ‹_›) | exact .q3 (NA.arr ‹_›) (NA.arr ‹_›) (NA.arr ‹_›) (NA.arr ‹_›) | exact .all (by (first | exact EA.arr ‹_› | exact NA.arr ‹_› | exact arr_zE | exact arr_zN | exact arr_zP | exact arr_zQ | exact PtN.arr ‹_› | exact PtV.arr ‹_› | exact QtN.arr ‹_› | exact qE ‹_› ‹_› ‹_› ‹_› | exact qN ‹_› ‹_› ‹_› ‹_›)))) ?_; (try simp only [Act.put, nq1, nq2, nq3, nq4, nq5, nq6])) | (refine wpX_pure rfl rfl (fun x => run_build4 rfl rfl rfl rfl rfl buildP (exE (by assumption)) (exE (by assumption)) (exE (by assumption)) (exE (by assumption)) x) ?_; (try simp only [Act.put, nq1, nq2, nq3, nq4, nq5, nq6])) | (refine wpX_pure rfl rfl (fun x => run_build4 rfl rfl rfl rfl rfl buildQ (exN (by assumption)) (exN (by assumption)) (exN (by assumption)) (exN (by assumption)) x) ?_; (try simp only [Act.put, nq1, nq2, nq3, nq4, nq5, nq6])) | (refine wpX_nil ?_; intro G xz hx0 hx hF; have hS9 := HS.out.floats hx0 hF _ (by decide) (fun _ h => h); simp only [List.map_cons, List.map_nil, List.cons_append, List.nil_append] at hS9; have HS := hide hS9; clear hS9 hF hx0 hx; simp only [putsE, List.foldl_cons, List.foldl_nil]; (try simp only [Act.put, nq1, nq2, nq3, nq4, nq5, nq6])) | (refine wpX_pure (v := ?_) rfl rfl ?_ ?_; rotate_left; (intro wx; go_simp; try go_bits) <;> (with_reducible rfl); (try simp only [Act.put, nq1, nq2, nq3, nq4, nq5, nq6])) | (refine wpX_call rfl rfl ?_; intro xc hxc K hK) | (refine wpX_skip rfl rfl ?_; (try simp only [Act.put, nq1, nq2, nq3, nq4, nq5, nq6])))
 have HS := hide HS.out.drew
 refine wp_region_T [(0, 0), (1, 0), (3, 0), (4, 0), (2, 2), (5, 2), (6, 1), (7, 3)] (by kernel_rfl) (by kernel_rfl) (fun _ _ _ _ h => h) ?_
 go_wp2_with (first | (go_at_call 89; (with_reducible refine (small1A _).mono ?_); rintro e wy ⟨z, hz, rfl, hb⟩; try have HS := hide (HS.out.call hb)) | (go_at_call 83; (with_reducible refine (mulA _ (by assumption) (by assumption)).mono ?_); rintro e wy ⟨z, hz, rfl, hb⟩; try have HS := hide (HS.out.call hb)) | (go_at_call 90; (with_reducible refine (addA _ (by assumption) (by assumption)).mono ?_); rintro e wy ⟨z, hz, rfl, hb⟩; try have HS := hide (HS.out.call hb)) | (go_at_call 88; (with_reducible refine (subA _ (by assumption) (by assumption)).mono ?_); rintro e wy ⟨z, hz, rfl, hb⟩; try have HS := hide (HS.out.call hb)) | (go_at_call 91; (with_reducible refine (negA _ (by assumption)).mono ?_); rintro e wy ⟨z, hz, rfl, hb⟩; try have HS := hide (HS.out.call hb)) | (go_at_call 82; (with_reducible refine (invA _ (by assumption)).mono ?_); rintro e wy ⟨z, hz, rfl, hb⟩; try have HS := hide (HS.out.call hb)) | (refine wl_loadP rfl rfl rfl HS.out (by (repeat first | exact .head _ | apply List.Mem.tail)) (by first | exact rowE | exact rowP | exact rowN | exact rowQ) (by (first | exact .q0 (EA.arr ‹_›) | exact .q1 (EA.arr ‹_›) (EA.arr ‹_›) | exact .q2 (EA.arr ‹_›) (EA.arr ‹_›) (EA.arr ‹_›) | exact .q3 (EA.arr ‹_›) (EA.arr ‹_›) (EA.arr ‹_›) (EA.arr ‹_›) | exact .q0 (NA.arr ‹_›) | exact .q1 (NA.arr ‹_›) (NA.arr ‹_›) | exact .q2 (NA.arr ‹_›) (NA.arr ‹_›) (NA.arr ‹_›) | exact .q3 (NA.arr ‹_›) (NA.arr ‹_›) (NA.arr ‹_›) (NA.arr ‹_›) | exact .all (by (first | exact EA.arr ‹_› | exact NA.arr ‹_› | exact arr_zE | exact arr_zN | exact arr_zP | exact arr_zQ | exact PtN.arr ‹_› | exact PtV.arr ‹_› | exact QtN.arr ‹_› | exact qE ‹_› ‹_› ‹_› ‹_› | exact qN ‹_› ‹_› ‹_› ‹_›)))) ?_; (try simp only [Act.put, nq1, nq2, nq3, nq4, nq5, nq6])) | (refine wl_storeR rfl rfl rfl rfl HS.out (by first | exact rowE | exact rowP | exact rowN | exact rowQ) (by (repeat first | exact .head | apply Upd.tail)) (by (first | exact EA.arr ‹_› | exact NA.arr ‹_› | exact arr_zE | exact arr_zN | exact arr_zP | exact arr_zQ | exact PtN.arr ‹_› | exact PtV.arr ‹_› | exact QtN.arr ‹_› | exact qE ‹_› ‹_› ‹_› ‹_› | exact qN ‹_› ‹_› ‹_› ‹_›)) (by (first | exact EA.arr ‹_› | exact NA.arr ‹_› | exact arr_zE | exact arr_zN | exact arr_zP | exact arr_zQ | exact PtN.arr ‹_› | exact PtV.arr ‹_› | exact QtN.arr ‹_› | exact qE ‹_› ‹_› ‹_› ‹_› | exact qN ‹_› ‹_› ‹_› ‹_›)) ?_; intro wz hS9; have HS := hide hS9; clear hS9; (try simp only [Act.put, nq1, nq2, nq3, nq4, nq5, nq6])) | (refine wl_allocR rfl rfl HS.out (by first | exact newE | exact newP | exact newN | exact newQ) ?_; intro gz wz hS9; have HS := hide hS9; clear hS9; (try simp only [Act.put, nq1, nq2, nq3, nq4, nq5, nq6])) | (refine wl_boxR rfl rfl rfl HS.out ?_; intro gz wz hS9; have HS := hide hS9; clear hS9; (try simp only [Act.put, nq1, nq2, nq3, nq4, nq5, nq6])) | (refine wpT_loadP rfl rfl rfl rfl HS.out (by (repeat first | exact .head _ | apply List.Mem.tail)) (by first | exact rowE | exact rowP | exact rowN | exact rowQ) (by (first | exact .q0 (EA.arr ‹_›) | exact .q1 (EA.arr ‹_›) (EA.arr ‹_›) | exact .q2 (EA.arr ‹_›) (EA.arr ‹_›) (EA.arr ‹_›) | exact .q3 (EA.arr ‹_›) (EA.arr ‹_›) (EA.arr ‹_›) (EA.arr ‹_›) | exact .q0 (NA.arr ‹_›) | exact .q1 (NA.arr ‹_›) (NA.arr ‹_›) | exact .q2 (NA.arr ‹_›) (NA.arr ‹_›) (NA.arr ‹_›) | exact .q3 (NA.arr ‹_›) (NA.arr ‹_›) (NA.arr ‹_›) (NA.arr ‹_›) | exact .all (by (first | exact EA.arr ‹_› | exact NA.arr ‹_› | exact arr_zE | exact arr_zN | exact arr_zP | exact arr_zQ | exact PtN.arr ‹_› | exact PtV.arr ‹_› | exact QtN.arr ‹_› | exact qE ‹_› ‹_› ‹_› ‹_› | exact qN ‹_› ‹_› ‹_› ‹_›)))) ?_; (try simp only [Act.put, nq1, nq2, nq3, nq4, nq5, nq6])) | (refine wpT_pure rfl rfl (fun x => run_build4 rfl rfl rfl rfl rfl buildP (exE (by assumption)) (exE (by assumption)) (exE (by assumption)) (exE (by assumption)) x) ?_; (try simp only [Act.put, nq1, nq2, nq3, nq4, nq5, nq6])) | (refine wpT_pure rfl rfl (fun x => run_build4 rfl rfl rfl rfl rfl buildQ (exN (by assumption)) (exN (by assumption)) (exN (by assumption)) (exN (by assumption)) x) ?_; (try simp only [Act.put, nq1, nq2, nq3, nq4, nq5, nq6])) | (refine wpT_late rfl rfl ?_; intro K hK; refine wp_storeR rfl rfl rfl HS.out (by first | exact rowE | exact rowP | exact rowN | exact rowQ) (by (repeat first | exact .head | apply Upd.tail)) (by (first | exact EA.arr ‹_› | exact NA.arr ‹_› | exact arr_zE | exact arr_zN | exact arr_zP | exact arr_zQ | exact PtN.arr ‹_› | exact PtV.arr ‹_› | exact QtN.arr ‹_› | exact qE ‹_› ‹_› ‹_› ‹_› | exact qN ‹_› ‹_› ‹_› ‹_›)) (by (first | exact EA.arr ‹_› | exact NA.arr ‹_› | exact arr_zE | exact arr_zN | exact arr_zP | exact arr_zQ | exact PtN.arr ‹_› | exact PtV.arr ‹_› | exact QtN.arr ‹_› | exact qE ‹_› ‹_› ‹_› ‹_› | exact qN ‹_› ‹_› ‹_› ‹_›)) ?_; intro wz hS9; have HS := hide hS9; clear hS9) | (refine wpT_any rfl rfl ?_; intro K hK; refine wp_storeR rfl rfl rfl HS.out (by first | exact rowE | exact rowP | exact rowN | exact rowQ) (by (repeat first | exact .head | apply Upd.tail)) (by (first | exact EA.arr ‹_› | exact NA.arr ‹_› | exact arr_zE | exact arr_zN | exact arr_zP | exact arr_zQ | exact PtN.arr ‹_› | exact PtV.arr ‹_› | exact QtN.arr ‹_› | exact qE ‹_› ‹_› ‹_› ‹_› | exact qN ‹_› ‹_› ‹_› ‹_›)) (by (first | exact EA.arr ‹_› | exact NA.arr ‹_› | exact arr_zE | exact arr_zN | exact arr_zP | exact arr_zQ | exact PtN.arr ‹_› | exact PtV.arr ‹_› | exact QtN.arr ‹_› | exact qE ‹_› ‹_› ‹_› ‹_› | exact qN ‹_› ‹_› ‹_› ‹_›)) ?_; intro wz hS9; have HS := hide hS9; clear hS9) | (refine wpX_loadP rfl rfl rfl rfl HS.out (by (repeat first | exact .head _ | apply List.Mem.tail)) (by first | exact rowE | exact rowP | exact rowN | exact rowQ) (by (first | exact .q0 (EA.arr ‹_›) | exact .q1 (EA.arr ‹_›) (EA.arr ‹_›) | exact .q2 (EA.arr ‹_›) (EA.arr ‹_›) (EA.arr ‹_›) | exact .q3 (EA.arr ‹_›) (EA.arr ‹_›) (EA.arr ‹_›) (EA.arr ‹_›) | exact .q0 (NA.arr ‹_›) | exact .q1 (NA.arr ‹_›) (NA.arr ‹_›) | exact .q2 (NA.arr ‹_›) (NA.arr ‹_›) (NA.arr ‹_›) | exact .q3 (NA.arr ‹_›) (NA.arr ‹_›) (NA.arr ‹_›) (NA.arr ‹_›) | exact .all (by (first | exact EA.arr ‹_› | exact NA.arr ‹_› | exact arr_zE | exact arr_zN | exact arr_zP | exact arr_zQ | exact PtN.arr ‹_› | exact PtV.arr ‹_› | exact QtN.arr ‹_› | exact qE ‹_› ‹_› ‹_› ‹_› | exact qN ‹_› ‹_› ‹_› ‹_›)))) ?_; (try simp only [Act.put, nq1, nq2, nq3, nq4, nq5, nq6])) | (refine wpX_pure rfl rfl (fun x => run_build4 rfl rfl rfl rfl rfl buildP (exE (by assumption)) (exE (by assumption)) (exE (by assumption)) (exE (by assumption)) x) ?_; (try simp only [Act.put, nq1, nq2, nq3, nq4, nq5, nq6])) | (refine wpX_pure rfl rfl (fun x => run_build4 rfl rfl rfl rfl rfl buildQ (exN (by assumption)) (exN (by assumption)) (exN (by assumption)) (exN (by assumption)) x) ?_; (try simp only [Act.put, nq1, nq2, nq3, nq4, nq5, nq6])) | (refine wpX_nil ?_; intro G xz hx0 hx hF; have hS9 := HS.out.floats hx0 hF _ (by decide) (fun _ h => h); simp only [List.map_cons, List.map_nil, List.cons_append, List.nil_append] at hS9; have HS := hide hS9; clear hS9 hF hx0 hx; simp only [putsE, List.foldl_cons, List.foldl_nil]; (try simp only [Act.put, nq1, nq2, nq3, nq4, nq5, nq6])) | (refine wpX_pure (v := ?_) rfl rfl ?_ ?_; rotate_left; (intro wx; go_simp; try go_bits) <;> (with_reducible rfl); (try simp only [Act.put, nq1, nq2, nq3, nq4, nq5, nq6])) | (refine wpX_call rfl rfl ?_; intro xc hxc K hK) | (refine wpX_skip rfl rfl ?_; (try simp only [Act.put, nq1, nq2, nq3, nq4, nq5, nq6])) | (refine wpT_nil ?_)   | ((with_reducible refine fromT_refl ?_); (try simp only [Act.put, nq1, nq2, nq3, nq4, nq5, nq6]))   | ((with_reducible refine fromT_mk (by assumption) ?_); (try simp only [Act.put, nq1, nq2, nq3, nq4, nq5, nq6]))   | (refine wpT_pure (v := ?_) rfl rfl ?_ ?_; rotate_left; (intro wx; go_simp; try go_bits) <;> (with_reducible rfl); (try simp only [Act.put, nq1, nq2, nq3, nq4, nq5, nq6]))   | (refine wpT_load (v := ?_) rfl rfl rfl ?_ ?_; rotate_left; (go_simp; try go_bits) <;> (with_reducible rfl); (try simp only [Act.put, nq1, nq2, nq3, nq4, nq5, nq6]))   | (refine wpT_read (v := ?_) rfl rfl ?_ ?_; rotate_left; (intro wx hx; go_simp; try go_bits) <;> (with_reducible rfl); (try simp only [Act.put, nq1, nq2, nq3, nq4, nq5, nq6]))   | (refine wpT_call rfl rfl ?_; intro K hK)   | (refine wpT_late rfl rfl ?_; intro K hK)   | (refine wpT_any rfl rfl ?_; intro K hK)   | (refine wpT_skip rfl rfl ?_; (try simp only [Act.put, nq1, nq2, nq3, nq4, nq5, nq6])))
 refine bodyPost_ret (results_cell_row rfl _ _ _ _ _ _ _ rfl (HS.out.heapM (by (repeat first | exact .head _ | apply List.Mem.tail))) Tryz.underlying63 rfl (by first | (rw [(EA.arr ‹_›).size]; kernel_rfl) | (rw [(NA.arr ‹_›).size]; kernel_rfl) | (rw [(qE ‹_› ‹_› ‹_› ‹_›).size]; kernel_rfl) | (rw [(qN ‹_› ‹_› ‹_› ‹_›).size]; kernel_rfl) | (rw [(PtN.arr ‹_›).size]; kernel_rfl) | (rw [(PtV.arr ‹_›).size]; kernel_rfl) | (rw [(QtN.arr ‹_›).size]; kernel_rfl))) rfl ?_
 exact ⟨_, _, _, _, hea, heb, by assumption, by assumption, rfl, HS.out.below⟩
end Go.Proofs.YtnohmgpmmhlloaaGreatDoor

namespace Go.Proofs.YtnohmgpmmhlloaaGreatDoor
open Go.RowKit

def packL (P : Ed) : List UInt8 := leB 32 (packN P)
theorem packL_len (P : Ed) : (packL P).length = 32 := leB_len 32 _
theorem top_bit (y : Nat) (hy : y < 2 ^ 255) : ∃ (l : List UInt8) (r : Nat), l.length = 31 ∧ r < 128 ∧ leB 32 y = l ++ [UInt8.ofNat r] ∧ leB 32 (y + 2 ^ 255) = l ++ [UInt8.ofNat (r + 128)] := by
 obtain ⟨x, hx⟩ : ∃ x, x = y % 256 ^ 31 := ⟨_, rfl⟩
 obtain ⟨r, hr⟩ : ∃ r, r = y / 256 ^ 31 := ⟨_, rfl⟩
 have hB : (2 : Nat) ^ 255 = 256 ^ 31 * 128 := by decide
 have hx2 : x < 256 ^ 31 := by rw [hx]; exact Nat.mod_lt _ (by decide)
 have e : y = x + 256 ^ 31 * r := by rw [hx, hr, Nat.mod_add_div]
 have hr2 : r < 128 := by
  rw [hr]
  refine Nat.div_lt_of_lt_mul ?_
  rw [← hB]
  exact hy
 refine ⟨leB 31 x, r, leB_len 31 x, hr2, ?_, ?_⟩
 ·rw [e]
  have h := leB_add 31 1 x r hx2
  rw [show (31 + 1 : Nat) = 32 from rfl] at h
  rw [h]
  show _ ++ [UInt8.ofNat (r % 256)] = _
  rw [Nat.mod_eq_of_lt (by omega)]
 ·rw [e, hB, Nat.add_assoc, ← Nat.mul_add]
  have h := leB_add 31 1 x (r + 128) hx2
  rw [show (31 + 1 : Nat) = 32 from rfl] at h
  rw [h]
  show _ ++ [UInt8.ofNat ((r + 128) % 256)] = _
  rw [Nat.mod_eq_of_lt (by omega)]
end Go.Proofs.YtnohmgpmmhlloaaGreatDoor

namespace Go.Proofs.YtnohmgpmmhlloaaGreatDoor
open Go.RowKit
set_option linter.unusedSimpArgs false

end Go.Proofs.YtnohmgpmmhlloaaGreatDoor

namespace Go.Proofs.YtnohmgpmmhlloaaGreatDoor
open Go.RowKit
set_option linter.unusedSimpArgs false

theorem en36_pl (args : Array Value) (w : World) : (callFunc 83 args).run Tryz.prog w = .ok (.enter 83 args) w := by kernel_rfl
theorem en52_pl (args : Array Value) (w : World) : (callFunc 88 args).run Tryz.prog w = .ok (.enter 88 args) w := by kernel_rfl
theorem en53_pl (args : Array Value) (w : World) : (callFunc 90 args).run Tryz.prog w = .ok (.enter 90 args) w := by kernel_rfl
theorem plus_any {a b c d a' b' c' d' k : Array Value} {X Y Z T X' Y' Z' T' : FK} (w : World) (h1 : EA a X) (h2 : EA b Y) (h3 : EA c Z) (h4 : EA d T) (g1 : EA a' X') (g2 : EA b' Y') (g3 : EA c' Z') (g4 : EA d' T') (hk : EA k dF) :
  Calls Tryz.prog 80 #[.agg (quad a b c d), .agg (quad a' b' c' d'), .agg k] w (ResP w (plJ ⟨X, Y, Z, T⟩ ⟨X', Y', Z', T'⟩)) := by
 have HS := hide (St.init w NoB)
 go_enter Tryz.func80, Tryz.ntmps80
 go_wp2_with (first | (refine wl_loadP rfl rfl rfl HS.out (by (repeat first | exact .head _ | apply List.Mem.tail)) (by first | exact rowE | exact rowP | exact rowN | exact rowQ) (by (first | exact .q0 (EA.arr ‹_›) | exact .q1 (EA.arr ‹_›) (EA.arr ‹_›) | exact .q2 (EA.arr ‹_›) (EA.arr ‹_›) (EA.arr ‹_›) | exact .q3 (EA.arr ‹_›) (EA.arr ‹_›) (EA.arr ‹_›) (EA.arr ‹_›) | exact .q0 (NA.arr ‹_›) | exact .q1 (NA.arr ‹_›) (NA.arr ‹_›) | exact .q2 (NA.arr ‹_›) (NA.arr ‹_›) (NA.arr ‹_›) | exact .q3 (NA.arr ‹_›) (NA.arr ‹_›) (NA.arr ‹_›) (NA.arr ‹_›) | exact .all (by (first | exact EA.arr ‹_› | exact NA.arr ‹_› | exact arr_zE | exact arr_zN | exact arr_zP | exact arr_zQ | exact PtN.arr ‹_› | exact PtV.arr ‹_› | exact QtN.arr ‹_› | exact qE ‹_› ‹_› ‹_› ‹_› | exact qN ‹_› ‹_› ‹_› ‹_›)))) ?_; (try simp only [Act.put, nq1, nq2, nq3, nq4, nq5, nq6])) | (refine wl_storeR rfl rfl rfl rfl HS.out (by first | exact rowE | exact rowP | exact rowN | exact rowQ) (by (repeat first | exact .head | apply Upd.tail)) (by (first | exact EA.arr ‹_› | exact NA.arr ‹_› | exact arr_zE | exact arr_zN | exact arr_zP | exact arr_zQ | exact PtN.arr ‹_› | exact PtV.arr ‹_› | exact QtN.arr ‹_› | exact qE ‹_› ‹_› ‹_› ‹_› | exact qN ‹_› ‹_› ‹_› ‹_›)) (by (first | exact EA.arr ‹_› | exact NA.arr ‹_› | exact arr_zE | exact arr_zN | exact arr_zP | exact arr_zQ | exact PtN.arr ‹_› | exact PtV.arr ‹_› | exact QtN.arr ‹_› | exact qE ‹_› ‹_› ‹_› ‹_› | exact qN ‹_› ‹_› ‹_› ‹_›)) ?_; intro wz hS9; have HS := hide hS9; clear hS9; (try simp only [Act.put, nq1, nq2, nq3, nq4, nq5, nq6])) | (refine wl_allocR rfl rfl HS.out (by first | exact newE | exact newP | exact newN | exact newQ) ?_; intro gz wz hS9; have HS := hide hS9; clear hS9; (try simp only [Act.put, nq1, nq2, nq3, nq4, nq5, nq6])) | (refine wl_boxR rfl rfl rfl HS.out ?_; intro gz wz hS9; have HS := hide hS9; clear hS9; (try simp only [Act.put, nq1, nq2, nq3, nq4, nq5, nq6])))
 have HS := hide HS.out.drew
 refine wp_region_XE [(11, 7)] [(0, 1), (1, 0), (2, 1), (3, 0), (5, 1), (6, 0), (7, 1), (8, 0), (4, 2), (9, 2), (10, 2)] (.op 12 2 (.nil)) zE 61 (by kernel_rfl) (by kernel_rfl) (by kernel_rfl) (by intro p hp; simp only [List.mem_cons, List.not_mem_nil, or_false] at hp; subst hp <;> exact flOp_of rfl rfl rfl (fun ev x => run_allocR rfl newE ev x)) (fun _ _ _ _ h => h) ?_
 (refine wpX_pure (v := ?_) rfl rfl ?_ ?_; rotate_left; (intro wx; go_simp; try go_bits) <;> (with_reducible rfl)); (try simp only [Act.put, nq1, nq2, nq3, nq4, nq5, nq6])
 refine wpX_loadP rfl rfl rfl rfl HS.out (.tail _ (.tail _ (.tail _ (.head _)))) rowE (.q1 (EA.arr ‹_›) (EA.arr ‹_›)) ?_; (try simp only [Act.put, nq1, nq2, nq3, nq4, nq5, nq6])
 (refine wpX_pure (v := ?_) rfl rfl ?_ ?_; rotate_left; (intro wx; go_simp; try go_bits) <;> (with_reducible rfl)); (try simp only [Act.put, nq1, nq2, nq3, nq4, nq5, nq6])
 refine wpX_loadP rfl rfl rfl rfl HS.out (.tail _ (.tail _ (.tail _ (.head _)))) rowE (.q0 (EA.arr ‹_›)) ?_; (try simp only [Act.put, nq1, nq2, nq3, nq4, nq5, nq6])
 (refine wpX_pure (v := ?_) rfl rfl ?_ ?_; rotate_left; (intro wx; go_simp; try go_bits) <;> (with_reducible rfl)); (try simp only [Act.put, nq1, nq2, nq3, nq4, nq5, nq6])
 refine wpX_loadP rfl rfl rfl rfl HS.out (.tail _ (.tail _ (.head _))) rowE (.q1 (EA.arr ‹_›) (EA.arr ‹_›)) ?_; (try simp only [Act.put, nq1, nq2, nq3, nq4, nq5, nq6])
 (refine wpX_pure (v := ?_) rfl rfl ?_ ?_; rotate_left; (intro wx; go_simp; try go_bits) <;> (with_reducible rfl)); (try simp only [Act.put, nq1, nq2, nq3, nq4, nq5, nq6])
 refine wpX_loadP rfl rfl rfl rfl HS.out (.tail _ (.tail _ (.head _))) rowE (.q0 (EA.arr ‹_›)) ?_; (try simp only [Act.put, nq1, nq2, nq3, nq4, nq5, nq6])
 refine wpX_callF rfl rfl rfl en52_pl rfl (fun x => subA x ‹_› ‹_›) ?_; rintro xw e wy ⟨z, hz, rfl, hb⟩; refine ⟨_, rfl, hb, ?_⟩; (try simp only [Act.put, nq1, nq2, nq3, nq4, nq5, nq6])
 refine wpX_callF rfl rfl rfl en52_pl rfl (fun x => subA x ‹_› ‹_›) ?_; rintro xw e wy ⟨z, hz, rfl, hb⟩; refine ⟨_, rfl, hb, ?_⟩; (try simp only [Act.put, nq1, nq2, nq3, nq4, nq5, nq6])
 refine wpX_callF rfl rfl rfl en36_pl rfl (fun x => mulA x ‹_› ‹_›) ?_; rintro xw e wy ⟨z, hz, rfl, hb⟩; refine ⟨_, rfl, hb, ?_⟩; (try simp only [Act.put, nq1, nq2, nq3, nq4, nq5, nq6])
 refine wpX_nil ?_; intro G xz hx0 hx hF; have hS9 := HS.out.floats hx0 hF _ (by decide) (fun _ h => h); simp only [List.map_cons, List.map_nil, List.cons_append, List.nil_append] at hS9; have HS := hide hS9; have HX := hide hx0; have HG := hide hF.at_; clear hS9 hF hx0 hx; simp only [putsE, List.foldl_cons, List.foldl_nil]; (try simp only [Act.put, nq1, nq2, nq3, nq4, nq5, nq6])
 refine wpS_storeF rfl rfl rfl rfl rfl HS.out HX.out (HG.out 11 (by simp)).1 rowE (.head) (by first | exact EA.arr ‹_› | exact arr_zE) (by first | exact EA.arr ‹_› | exact arr_zE) ?_; intro wz hS9 hX9; have HS := hide hS9; have HX := hide hX9; clear hS9 hX9; (try simp only [Act.put, nq1, nq2, nq3, nq4, nq5, nq6])
 refine wpS_nil ?_
 go_wp2_with fail
 have HS := hide HS.out.drew
 refine wp_region_XE [(11, 8)] [(0, 1), (1, 0), (2, 1), (3, 0), (5, 1), (6, 0), (7, 1), (8, 0), (4, 2), (9, 2), (10, 2)] (.op 12 2 (.nil)) zE 61 (by kernel_rfl) (by kernel_rfl) (by kernel_rfl) (by intro p hp; simp only [List.mem_cons, List.not_mem_nil, or_false] at hp; subst hp <;> exact flOp_of rfl rfl rfl (fun ev x => run_allocR rfl newE ev x)) (fun _ _ _ _ h => h) ?_
 (refine wpX_pure (v := ?_) rfl rfl ?_ ?_; rotate_left; (intro wx; go_simp; try go_bits) <;> (with_reducible rfl)); (try simp only [Act.put, nq1, nq2, nq3, nq4, nq5, nq6])
 refine wpX_loadP rfl rfl rfl rfl HS.out (.tail _ (.tail _ (.tail _ (.tail _ (.head _))))) rowE (.q1 (EA.arr ‹_›) (EA.arr ‹_›)) ?_; (try simp only [Act.put, nq1, nq2, nq3, nq4, nq5, nq6])
 (refine wpX_pure (v := ?_) rfl rfl ?_ ?_; rotate_left; (intro wx; go_simp; try go_bits) <;> (with_reducible rfl)); (try simp only [Act.put, nq1, nq2, nq3, nq4, nq5, nq6])
 refine wpX_loadP rfl rfl rfl rfl HS.out (.tail _ (.tail _ (.tail _ (.tail _ (.head _))))) rowE (.q0 (EA.arr ‹_›)) ?_; (try simp only [Act.put, nq1, nq2, nq3, nq4, nq5, nq6])
 (refine wpX_pure (v := ?_) rfl rfl ?_ ?_; rotate_left; (intro wx; go_simp; try go_bits) <;> (with_reducible rfl)); (try simp only [Act.put, nq1, nq2, nq3, nq4, nq5, nq6])
 refine wpX_loadP rfl rfl rfl rfl HS.out (.tail _ (.tail _ (.tail _ (.head _)))) rowE (.q1 (EA.arr ‹_›) (EA.arr ‹_›)) ?_; (try simp only [Act.put, nq1, nq2, nq3, nq4, nq5, nq6])
 (refine wpX_pure (v := ?_) rfl rfl ?_ ?_; rotate_left; (intro wx; go_simp; try go_bits) <;> (with_reducible rfl)); (try simp only [Act.put, nq1, nq2, nq3, nq4, nq5, nq6])
 refine wpX_loadP rfl rfl rfl rfl HS.out (.tail _ (.tail _ (.tail _ (.head _)))) rowE (.q0 (EA.arr ‹_›)) ?_; (try simp only [Act.put, nq1, nq2, nq3, nq4, nq5, nq6])
 refine wpX_callF rfl rfl rfl en53_pl rfl (fun x => addA x ‹_› ‹_›) ?_; rintro xw e wy ⟨z, hz, rfl, hb⟩; refine ⟨_, rfl, hb, ?_⟩; (try simp only [Act.put, nq1, nq2, nq3, nq4, nq5, nq6])
 refine wpX_callF rfl rfl rfl en53_pl rfl (fun x => addA x ‹_› ‹_›) ?_; rintro xw e wy ⟨z, hz, rfl, hb⟩; refine ⟨_, rfl, hb, ?_⟩; (try simp only [Act.put, nq1, nq2, nq3, nq4, nq5, nq6])
 refine wpX_callF rfl rfl rfl en36_pl rfl (fun x => mulA x ‹_› ‹_›) ?_; rintro xw e wy ⟨z, hz, rfl, hb⟩; refine ⟨_, rfl, hb, ?_⟩; (try simp only [Act.put, nq1, nq2, nq3, nq4, nq5, nq6])
 refine wpX_nil ?_; intro G xz hx0 hx hF; have hS9 := HS.out.floats hx0 hF _ (by decide) (fun _ h => h); simp only [List.map_cons, List.map_nil, List.cons_append, List.nil_append] at hS9; have HS := hide hS9; have HX := hide hx0; have HG := hide hF.at_; clear hS9 hF hx0 hx; simp only [putsE, List.foldl_cons, List.foldl_nil]; (try simp only [Act.put, nq1, nq2, nq3, nq4, nq5, nq6])
 refine wpS_storeF rfl rfl rfl rfl rfl HS.out HX.out (HG.out 11 (by simp)).1 rowE (.head) (by first | exact EA.arr ‹_› | exact arr_zE) (by first | exact EA.arr ‹_› | exact arr_zE) ?_; intro wz hS9 hX9; have HS := hide hS9; have HX := hide hX9; clear hS9 hX9; (try simp only [Act.put, nq1, nq2, nq3, nq4, nq5, nq6])
 refine wpS_nil ?_
 go_wp2_with fail
 have HS := hide HS.out.drew
 refine wp_region_XE [(7, 9)] [(0, 1), (1, 0), (2, 1), (3, 0), (5, 0), (4, 2), (6, 2)] (.op 8 2 (.nil)) zE 61 (by kernel_rfl) (by kernel_rfl) (by kernel_rfl) (by intro p hp; simp only [List.mem_cons, List.not_mem_nil, or_false] at hp; subst hp <;> exact flOp_of rfl rfl rfl (fun ev x => run_allocR rfl newE ev x)) (fun _ _ _ _ h => h) ?_
 (refine wpX_pure (v := ?_) rfl rfl ?_ ?_; rotate_left; (intro wx; go_simp; try go_bits) <;> (with_reducible rfl)); (try simp only [Act.put, nq1, nq2, nq3, nq4, nq5, nq6])
 refine wpX_loadP rfl rfl rfl rfl HS.out (.tail _ (.tail _ (.tail _ (.tail _ (.tail _ (.head _)))))) rowE (.q3 (EA.arr ‹_›) (EA.arr ‹_›) (EA.arr ‹_›) (EA.arr ‹_›)) ?_; (try simp only [Act.put, nq1, nq2, nq3, nq4, nq5, nq6])
 (refine wpX_pure (v := ?_) rfl rfl ?_ ?_; rotate_left; (intro wx; go_simp; try go_bits) <;> (with_reducible rfl)); (try simp only [Act.put, nq1, nq2, nq3, nq4, nq5, nq6])
 refine wpX_loadP rfl rfl rfl rfl HS.out (.tail _ (.tail _ (.tail _ (.tail _ (.head _))))) rowE (.q3 (EA.arr ‹_›) (EA.arr ‹_›) (EA.arr ‹_›) (EA.arr ‹_›)) ?_; (try simp only [Act.put, nq1, nq2, nq3, nq4, nq5, nq6])
 refine wpX_loadP rfl rfl rfl rfl HS.out (.tail _ (.tail _ (.tail _ (.head _)))) rowE (.all (by first | exact EA.arr ‹_› | exact arr_zE)) ?_; (try simp only [Act.put, nq1, nq2, nq3, nq4, nq5, nq6])
 refine wpX_callF rfl rfl rfl en36_pl rfl (fun x => mulA x ‹_› ‹_›) ?_; rintro xw e wy ⟨z, hz, rfl, hb⟩; refine ⟨_, rfl, hb, ?_⟩; (try simp only [Act.put, nq1, nq2, nq3, nq4, nq5, nq6])
 refine wpX_callF rfl rfl rfl en36_pl rfl (fun x => mulA x ‹_› ‹_›) ?_; rintro xw e wy ⟨z, hz, rfl, hb⟩; refine ⟨_, rfl, hb, ?_⟩; (try simp only [Act.put, nq1, nq2, nq3, nq4, nq5, nq6])
 refine wpX_nil ?_; intro G xz hx0 hx hF; have hS9 := HS.out.floats hx0 hF _ (by decide) (fun _ h => h); simp only [List.map_cons, List.map_nil, List.cons_append, List.nil_append] at hS9; have HS := hide hS9; have HX := hide hx0; have HG := hide hF.at_; clear hS9 hF hx0 hx; simp only [putsE, List.foldl_cons, List.foldl_nil]; (try simp only [Act.put, nq1, nq2, nq3, nq4, nq5, nq6])
 refine wpS_storeF rfl rfl rfl rfl rfl HS.out HX.out (HG.out 7 (by simp)).1 rowE (.head) (by first | exact EA.arr ‹_› | exact arr_zE) (by first | exact EA.arr ‹_› | exact arr_zE) ?_; intro wz hS9 hX9; have HS := hide hS9; have HX := hide hX9; clear hS9 hX9; (try simp only [Act.put, nq1, nq2, nq3, nq4, nq5, nq6])
 refine wpS_nil ?_
 go_wp2_with (first | (go_at_call 83; (with_reducible refine (mulA _ (by assumption) (by assumption)).mono ?_); rintro e wy ⟨z, hz, rfl, hb⟩; try have HS := hide (HS.out.call hb)) | (go_at_call 90; (with_reducible refine (addA _ (by assumption) (by assumption)).mono ?_); rintro e wy ⟨z, hz, rfl, hb⟩; try have HS := hide (HS.out.call hb)) | (go_at_call 88; (with_reducible refine (subA _ (by assumption) (by assumption)).mono ?_); rintro e wy ⟨z, hz, rfl, hb⟩; try have HS := hide (HS.out.call hb)) | (go_at_call 91; (with_reducible refine (negA _ (by assumption)).mono ?_); rintro e wy ⟨z, hz, rfl, hb⟩; try have HS := hide (HS.out.call hb)) | (go_at_call 82; (with_reducible refine (invA _ (by assumption)).mono ?_); rintro e wy ⟨z, hz, rfl, hb⟩; try have HS := hide (HS.out.call hb)) | (refine wl_loadP rfl rfl rfl HS.out (by (repeat first | exact .head _ | apply List.Mem.tail)) (by first | exact rowE | exact rowP | exact rowN | exact rowQ) (by (first | exact .q0 (EA.arr ‹_›) | exact .q1 (EA.arr ‹_›) (EA.arr ‹_›) | exact .q2 (EA.arr ‹_›) (EA.arr ‹_›) (EA.arr ‹_›) | exact .q3 (EA.arr ‹_›) (EA.arr ‹_›) (EA.arr ‹_›) (EA.arr ‹_›) | exact .q0 (NA.arr ‹_›) | exact .q1 (NA.arr ‹_›) (NA.arr ‹_›) | exact .q2 (NA.arr ‹_›) (NA.arr ‹_›) (NA.arr ‹_›) | exact .q3 (NA.arr ‹_›) (NA.arr ‹_›) (NA.arr ‹_›) (NA.arr ‹_›) | exact .all (by (first | exact EA.arr ‹_› | exact NA.arr ‹_› | exact arr_zE | exact arr_zN | exact arr_zP | exact arr_zQ | exact PtN.arr ‹_› | exact PtV.arr ‹_› | exact QtN.arr ‹_› | exact qE ‹_› ‹_› ‹_› ‹_› | exact qN ‹_› ‹_› ‹_› ‹_›)))) ?_; (try simp only [Act.put, nq1, nq2, nq3, nq4, nq5, nq6])) | (refine wl_storeR rfl rfl rfl rfl HS.out (by first | exact rowE | exact rowP | exact rowN | exact rowQ) (by (repeat first | exact .head | apply Upd.tail)) (by (first | exact EA.arr ‹_› | exact NA.arr ‹_› | exact arr_zE | exact arr_zN | exact arr_zP | exact arr_zQ | exact PtN.arr ‹_› | exact PtV.arr ‹_› | exact QtN.arr ‹_› | exact qE ‹_› ‹_› ‹_› ‹_› | exact qN ‹_› ‹_› ‹_› ‹_›)) (by (first | exact EA.arr ‹_› | exact NA.arr ‹_› | exact arr_zE | exact arr_zN | exact arr_zP | exact arr_zQ | exact PtN.arr ‹_› | exact PtV.arr ‹_› | exact QtN.arr ‹_› | exact qE ‹_› ‹_› ‹_› ‹_› | exact qN ‹_› ‹_› ‹_› ‹_›)) ?_; intro wz hS9; have HS := hide hS9; clear hS9; (try simp only [Act.put, nq1, nq2, nq3, nq4, nq5, nq6])) | (refine wl_allocR rfl rfl HS.out (by first | exact newE | exact newP | exact newN | exact newQ) ?_; intro gz wz hS9; have HS := hide hS9; clear hS9; (try simp only [Act.put, nq1, nq2, nq3, nq4, nq5, nq6])) | (refine wl_boxR rfl rfl rfl HS.out ?_; intro gz wz hS9; have HS := hide hS9; clear hS9; (try simp only [Act.put, nq1, nq2, nq3, nq4, nq5, nq6])))
 have HS := hide HS.out.drew
 refine wp_region_XE [(12, 11), (13, 12), (14, 13), (15, 14)] [(0, 0), (1, 0), (3, 0), (4, 0), (6, 0), (7, 0), (9, 0), (10, 0), (2, 2), (5, 2), (8, 2), (11, 2)] (.op 16 2 (.op 17 2 (.op 18 2 (.op 19 2 (.nil))))) zE 61 (by kernel_rfl) (by kernel_rfl) (by kernel_rfl) (by intro p hp; simp only [List.mem_cons, List.not_mem_nil, or_false] at hp; rcases hp with rfl | rfl | rfl | rfl <;> exact flOp_of rfl rfl rfl (fun ev x => run_allocR rfl newE ev x)) (fun _ _ _ _ h => h) ?_
 refine wpX_loadP rfl rfl rfl rfl HS.out (.tail _ (.tail _ (.head _))) rowE (.all (by first | exact EA.arr ‹_› | exact arr_zE)) ?_; (try simp only [Act.put, nq1, nq2, nq3, nq4, nq5, nq6])
 refine wpX_loadP rfl rfl rfl rfl HS.out (.tail _ (.tail _ (.tail _ (.head _)))) rowE (.all (by first | exact EA.arr ‹_› | exact arr_zE)) ?_; (try simp only [Act.put, nq1, nq2, nq3, nq4, nq5, nq6])
 refine wpX_loadP rfl rfl rfl rfl HS.out (.head _) rowE (.all (by first | exact EA.arr ‹_› | exact arr_zE)) ?_; (try simp only [Act.put, nq1, nq2, nq3, nq4, nq5, nq6])
 refine wpX_loadP rfl rfl rfl rfl HS.out (.tail _ (.head _)) rowE (.all (by first | exact EA.arr ‹_› | exact arr_zE)) ?_; (try simp only [Act.put, nq1, nq2, nq3, nq4, nq5, nq6])
 refine wpX_loadP rfl rfl rfl rfl HS.out (.head _) rowE (.all (by first | exact EA.arr ‹_› | exact arr_zE)) ?_; (try simp only [Act.put, nq1, nq2, nq3, nq4, nq5, nq6])
 refine wpX_loadP rfl rfl rfl rfl HS.out (.tail _ (.head _)) rowE (.all (by first | exact EA.arr ‹_› | exact arr_zE)) ?_; (try simp only [Act.put, nq1, nq2, nq3, nq4, nq5, nq6])
 refine wpX_loadP rfl rfl rfl rfl HS.out (.tail _ (.tail _ (.head _))) rowE (.all (by first | exact EA.arr ‹_› | exact arr_zE)) ?_; (try simp only [Act.put, nq1, nq2, nq3, nq4, nq5, nq6])
 refine wpX_loadP rfl rfl rfl rfl HS.out (.tail _ (.tail _ (.tail _ (.head _)))) rowE (.all (by first | exact EA.arr ‹_› | exact arr_zE)) ?_; (try simp only [Act.put, nq1, nq2, nq3, nq4, nq5, nq6])
 refine wpX_callF rfl rfl rfl en52_pl rfl (fun x => subA x ‹_› ‹_›) ?_; rintro xw e wy ⟨z, hz, rfl, hb⟩; refine ⟨_, rfl, hb, ?_⟩; (try simp only [Act.put, nq1, nq2, nq3, nq4, nq5, nq6])
 refine wpX_callF rfl rfl rfl en52_pl rfl (fun x => subA x ‹_› ‹_›) ?_; rintro xw e wy ⟨z, hz, rfl, hb⟩; refine ⟨_, rfl, hb, ?_⟩; (try simp only [Act.put, nq1, nq2, nq3, nq4, nq5, nq6])
 refine wpX_callF rfl rfl rfl en53_pl rfl (fun x => addA x ‹_› ‹_›) ?_; rintro xw e wy ⟨z, hz, rfl, hb⟩; refine ⟨_, rfl, hb, ?_⟩; (try simp only [Act.put, nq1, nq2, nq3, nq4, nq5, nq6])
 refine wpX_callF rfl rfl rfl en53_pl rfl (fun x => addA x ‹_› ‹_›) ?_; rintro xw e wy ⟨z, hz, rfl, hb⟩; refine ⟨_, rfl, hb, ?_⟩; (try simp only [Act.put, nq1, nq2, nq3, nq4, nq5, nq6])
 refine wpX_nil ?_; intro G xz hx0 hx hF; have hS9 := HS.out.floats hx0 hF _ (by decide) (fun _ h => h); simp only [List.map_cons, List.map_nil, List.cons_append, List.nil_append] at hS9; have HS := hide hS9; have HX := hide hx0; have HG := hide hF.at_; clear hS9 hF hx0 hx; simp only [putsE, List.foldl_cons, List.foldl_nil]; (try simp only [Act.put, nq1, nq2, nq3, nq4, nq5, nq6])
 refine wpS_storeF rfl rfl rfl rfl rfl HS.out HX.out (HG.out 12 (by simp)).1 rowE (.head) (by first | exact EA.arr ‹_› | exact arr_zE) (by first | exact EA.arr ‹_› | exact arr_zE) ?_; intro wz hS9 hX9; have HS := hide hS9; have HX := hide hX9; clear hS9 hX9; (try simp only [Act.put, nq1, nq2, nq3, nq4, nq5, nq6])
 refine wpS_storeF rfl rfl rfl rfl rfl HS.out HX.out (HG.out 13 (by simp)).1 rowE (.tail (.head)) (by first | exact EA.arr ‹_› | exact arr_zE) (by first | exact EA.arr ‹_› | exact arr_zE) ?_; intro wz hS9 hX9; have HS := hide hS9; have HX := hide hX9; clear hS9 hX9; (try simp only [Act.put, nq1, nq2, nq3, nq4, nq5, nq6])
 refine wpS_storeF rfl rfl rfl rfl rfl HS.out HX.out (HG.out 14 (by simp)).1 rowE (.tail (.tail (.head))) (by first | exact EA.arr ‹_› | exact arr_zE) (by first | exact EA.arr ‹_› | exact arr_zE) ?_; intro wz hS9 hX9; have HS := hide hS9; have HX := hide hX9; clear hS9 hX9; (try simp only [Act.put, nq1, nq2, nq3, nq4, nq5, nq6])
 refine wpS_storeF rfl rfl rfl rfl rfl HS.out HX.out (HG.out 15 (by simp)).1 rowE (.tail (.tail (.tail (.head)))) (by first | exact EA.arr ‹_› | exact arr_zE) (by first | exact EA.arr ‹_› | exact arr_zE) ?_; intro wz hS9 hX9; have HS := hide hS9; have HX := hide hX9; clear hS9 hX9; (try simp only [Act.put, nq1, nq2, nq3, nq4, nq5, nq6])
 refine wpS_nil ?_
 go_wp2_with fail
 have HS := hide HS.out.drew
 refine wp_region_T [(0, 0), (1, 0), (3, 0), (4, 0), (6, 0), (7, 0), (9, 0), (10, 0), (2, 2), (5, 2), (8, 2), (11, 2), (12, 1), (13, 3)] (by kernel_rfl) (by kernel_rfl) (fun _ _ _ _ h => h) ?_
 refine wpT_loadP rfl rfl rfl rfl HS.out (.head _) rowE (.all (by first | exact EA.arr ‹_› | exact arr_zE)) ?_; (try simp only [Act.put, nq1, nq2, nq3, nq4, nq5, nq6])
 refine wpT_loadP rfl rfl rfl rfl HS.out (.tail _ (.head _)) rowE (.all (by first | exact EA.arr ‹_› | exact arr_zE)) ?_; (try simp only [Act.put, nq1, nq2, nq3, nq4, nq5, nq6])
 refine wpT_loadP rfl rfl rfl rfl HS.out (.tail _ (.tail _ (.head _))) rowE (.all (by first | exact EA.arr ‹_› | exact arr_zE)) ?_; (try simp only [Act.put, nq1, nq2, nq3, nq4, nq5, nq6])
 refine wpT_loadP rfl rfl rfl rfl HS.out (.tail _ (.tail _ (.tail _ (.head _)))) rowE (.all (by first | exact EA.arr ‹_› | exact arr_zE)) ?_; (try simp only [Act.put, nq1, nq2, nq3, nq4, nq5, nq6])
 refine wpT_loadP rfl rfl rfl rfl HS.out (.tail _ (.head _)) rowE (.all (by first | exact EA.arr ‹_› | exact arr_zE)) ?_; (try simp only [Act.put, nq1, nq2, nq3, nq4, nq5, nq6])
 refine wpT_loadP rfl rfl rfl rfl HS.out (.tail _ (.tail _ (.head _))) rowE (.all (by first | exact EA.arr ‹_› | exact arr_zE)) ?_; (try simp only [Act.put, nq1, nq2, nq3, nq4, nq5, nq6])
 refine wpT_loadP rfl rfl rfl rfl HS.out (.head _) rowE (.all (by first | exact EA.arr ‹_› | exact arr_zE)) ?_; (try simp only [Act.put, nq1, nq2, nq3, nq4, nq5, nq6])
 refine wpT_loadP rfl rfl rfl rfl HS.out (.tail _ (.tail _ (.tail _ (.head _)))) rowE (.all (by first | exact EA.arr ‹_› | exact arr_zE)) ?_; (try simp only [Act.put, nq1, nq2, nq3, nq4, nq5, nq6])
 refine wpT_callF rfl rfl rfl en36_pl rfl (mulA _ ‹_› ‹_›) ?_; rintro e wy ⟨z, hz, rfl, hb⟩; refine ⟨_, rfl, hb, ?_⟩; have HS := hide (HS.out.call hb); (try simp only [Act.put, nq1, nq2, nq3, nq4, nq5, nq6])
 refine wpT_callF rfl rfl rfl en36_pl rfl (mulA _ ‹_› ‹_›) ?_; rintro e wy ⟨z, hz, rfl, hb⟩; refine ⟨_, rfl, hb, ?_⟩; have HS := hide (HS.out.call hb); (try simp only [Act.put, nq1, nq2, nq3, nq4, nq5, nq6])
 refine wpT_callF rfl rfl rfl en36_pl rfl (mulA _ ‹_› ‹_›) ?_; rintro e wy ⟨z, hz, rfl, hb⟩; refine ⟨_, rfl, hb, ?_⟩; have HS := hide (HS.out.call hb); (try simp only [Act.put, nq1, nq2, nq3, nq4, nq5, nq6])
 refine wpT_callF rfl rfl rfl en36_pl rfl (mulA _ ‹_› ‹_›) ?_; rintro e wy ⟨z, hz, rfl, hb⟩; refine ⟨_, rfl, hb, ?_⟩; have HS := hide (HS.out.call hb); (try simp only [Act.put, nq1, nq2, nq3, nq4, nq5, nq6])
 refine wpT_pure rfl rfl (fun x => run_build4 rfl rfl rfl rfl rfl buildP (exE ‹_›) (exE ‹_›) (exE ‹_›) (exE ‹_›) x) ?_; (try simp only [Act.put, nq1, nq2, nq3, nq4, nq5, nq6])
 refine wpT_late rfl rfl ?_; intro K hK; refine wp_storeR rfl rfl rfl HS.out rowP (.tail (.tail (.tail (.tail (.tail (.tail (.tail (.tail (.head))))))))) (by first | exact arr_zP | exact PtN.arr ‹_› | exact PtV.arr ‹_› | exact qE ‹_› ‹_› ‹_› ‹_›) (by first | exact arr_zP | exact PtN.arr ‹_› | exact PtV.arr ‹_› | exact qE ‹_› ‹_› ‹_› ‹_›) ?_; intro wz hS9; have HS := hide hS9; clear hS9; refine hK _ _ ?_; (try simp only [Act.put, nq1, nq2, nq3, nq4, nq5, nq6])
 refine wpT_nil ?_
 go_wp2_with fail
 refine bodyPost_ret (results_cell_row rfl _ _ _ _ _ _ _ rfl (HS.out.heapM (by (repeat first | exact .head _ | apply List.Mem.tail))) Tryz.underlying63 rfl (by first | (rw [(EA.arr ‹_›).size]; kernel_rfl) | (rw [(NA.arr ‹_›).size]; kernel_rfl) | (rw [(qE ‹_› ‹_› ‹_› ‹_›).size]; kernel_rfl) | (rw [(qN ‹_› ‹_› ‹_› ‹_›).size]; kernel_rfl) | (rw [(PtN.arr ‹_›).size]; kernel_rfl) | (rw [(PtV.arr ‹_›).size]; kernel_rfl) | (rw [(QtN.arr ‹_›).size]; kernel_rfl))) rfl ?_
 refine ⟨_, _, _, _, ?_, ?_, ?_, ?_, rfl, HS.out.below⟩ <;> assumption
end Go.Proofs.YtnohmgpmmhlloaaGreatDoor

namespace Go.Proofs.YtnohmgpmmhlloaaGreatDoor
open Go.RowKit
set_option linter.unusedSimpArgs false

structure PtN (v : Array Value) (P : Ed) : Prop where
 ex : ∃ A a b c d, v = quad a b c d ∧ EA a A.X ∧ EA b A.Y ∧ EA c A.Z ∧ EA d A.T ∧ Rp A P
structure PtV (v : Array Value) (P : Ed) : Prop where
 ex : ∃ A a b c d, v = quad a b c d ∧ EA a A.X ∧ EA b A.Y ∧ EA c A.Z ∧ EA d A.T ∧ (Rp A P ∨ (A.Z = 0 ∧ P = .zero))
theorem PtN.v {v : Array Value} {P : Ed} (h : PtN v P) : PtV v P := by
 obtain ⟨A, a, b, c, d, h1, h2, h3, h4, h5, h6⟩ := h.ex
 exact ⟨A, a, b, c, d, h1, h2, h3, h4, h5, .inl h6⟩
theorem PtV.arr {v : Array Value} {P : Ed} (h : PtV v P) : Arr 20 v := by
 obtain ⟨A, a, b, c, d, rfl, h2, h3, h4, h5, _⟩ := h.ex
 exact quad_arr h2.arr h3.arr h4.arr h5.arr rfl
theorem PtN.arr {v : Array Value} {P : Ed} (h : PtN v P) : Arr 20 v := h.v.arr
def ResV (w : World) (P : Ed) (e : Ending) (w' : World) : Prop := ∃ v, PtN v P ∧ e = .returned (.agg v) ∧ Below w.heap.size w w'
theorem ResP.v {w : World} {A : Pj} {P : Ed} {e : Ending} {w' : World} (h : ResP w A e w') (hr : Rp A P) : ResV w P e w' := by
 obtain ⟨a, b, c, d, h1, h2, h3, h4, h5, h6⟩ := h
 exact ⟨_, ⟨A, a, b, c, d, rfl, h1, h2, h3, h4, hr⟩, h5, h6⟩
theorem plusP {u v k : Array Value} {P Q : Ed} (w : World) (hu : PtN u P) (hv : PtN v Q) (hk : EA k dF) : Calls Tryz.prog 80 #[.agg u, .agg v, .agg k] w (ResV w (P.add Q)) := by
 obtain ⟨⟨X, Y, Z, T⟩, a, b, c, d, rfl, h1, h2, h3, h4, h5⟩ := hu.ex
 obtain ⟨⟨X', Y', Z', T'⟩, a', b', c', d', rfl, g1, g2, g3, g4, g5⟩ := hv.ex
 exact (plus_any w h1 h2 h3 h4 g1 g2 g3 g4 hk).mono fun e w' h => h.v (rp_plus h5 g5)
theorem zeroP (w : World) : Calls Tryz.prog 81 #[] w (ResV w .zero) := by
 have hz0 := ea_zero
 have HS := hide (St.init w NoB)
 go_enter Tryz.func81, Tryz.ntmps81
 go_wp2_with (first | (go_at_call 89; (with_reducible refine (small1A _).mono ?_); rintro e wy ⟨z, hz, rfl, hb⟩; try have HS := hide (HS.out.call hb)) | (go_at_call 77; (with_reducible refine (at_any _ (by assumption) (by assumption)).mono ?_); rintro e wy ⟨qa, qb, qc, qd, hqa, hqb, hqc, hqd, rfl, hb⟩; have HS := hide (HS.out.call hb)) | (refine wl_loadP rfl rfl rfl HS.out (by (repeat first | exact .head _ | apply List.Mem.tail)) (by first | exact rowE | exact rowP | exact rowN | exact rowQ) (by (first | exact .q0 (EA.arr ‹_›) | exact .q1 (EA.arr ‹_›) (EA.arr ‹_›) | exact .q2 (EA.arr ‹_›) (EA.arr ‹_›) (EA.arr ‹_›) | exact .q3 (EA.arr ‹_›) (EA.arr ‹_›) (EA.arr ‹_›) (EA.arr ‹_›) | exact .q0 (NA.arr ‹_›) | exact .q1 (NA.arr ‹_›) (NA.arr ‹_›) | exact .q2 (NA.arr ‹_›) (NA.arr ‹_›) (NA.arr ‹_›) | exact .q3 (NA.arr ‹_›) (NA.arr ‹_›) (NA.arr ‹_›) (NA.arr ‹_›) | exact .all (by (first | exact EA.arr ‹_› | exact NA.arr ‹_› | exact arr_zE | exact arr_zN | exact arr_zP | exact arr_zQ | exact PtN.arr ‹_› | exact PtV.arr ‹_› | exact QtN.arr ‹_› | exact qE ‹_› ‹_› ‹_› ‹_› | exact qN ‹_› ‹_› ‹_› ‹_›)))) ?_; (try simp only [Act.put, nq1, nq2, nq3, nq4, nq5, nq6])) | (refine wl_storeR rfl rfl rfl rfl HS.out (by first | exact rowE | exact rowP | exact rowN | exact rowQ) (by (repeat first | exact .head | apply Upd.tail)) (by (first | exact EA.arr ‹_› | exact NA.arr ‹_› | exact arr_zE | exact arr_zN | exact arr_zP | exact arr_zQ | exact PtN.arr ‹_› | exact PtV.arr ‹_› | exact QtN.arr ‹_› | exact qE ‹_› ‹_› ‹_› ‹_› | exact qN ‹_› ‹_› ‹_› ‹_›)) (by (first | exact EA.arr ‹_› | exact NA.arr ‹_› | exact arr_zE | exact arr_zN | exact arr_zP | exact arr_zQ | exact PtN.arr ‹_› | exact PtV.arr ‹_› | exact QtN.arr ‹_› | exact qE ‹_› ‹_› ‹_› ‹_› | exact qN ‹_› ‹_› ‹_› ‹_›)) ?_; intro wz hS9; have HS := hide hS9; clear hS9; (try simp only [Act.put, nq1, nq2, nq3, nq4, nq5, nq6])) | (refine wl_allocR rfl rfl HS.out (by first | exact newE | exact newP | exact newN | exact newQ) ?_; intro gz wz hS9; have HS := hide hS9; clear hS9; (try simp only [Act.put, nq1, nq2, nq3, nq4, nq5, nq6])) | (refine wl_boxR rfl rfl rfl HS.out ?_; intro gz wz hS9; have HS := hide hS9; clear hS9; (try simp only [Act.put, nq1, nq2, nq3, nq4, nq5, nq6])))
 refine bodyPost_ret (results_cell_row rfl _ _ _ _ _ _ _ rfl (HS.out.heapM (by (repeat first | exact .head _ | apply List.Mem.tail))) Tryz.underlying63 rfl (by first | (rw [(EA.arr ‹_›).size]; kernel_rfl) | (rw [(NA.arr ‹_›).size]; kernel_rfl) | (rw [(qE ‹_› ‹_› ‹_› ‹_›).size]; kernel_rfl) | (rw [(qN ‹_› ‹_› ‹_› ‹_›).size]; kernel_rfl) | (rw [(PtN.arr ‹_›).size]; kernel_rfl) | (rw [(PtV.arr ‹_›).size]; kernel_rfl) | (rw [(QtN.arr ‹_›).size]; kernel_rfl))) rfl ?_
 exact ⟨_, ⟨⟨_, _, _, _⟩, _, _, _, _, rfl, hqa, hqb, hqc, hqd, by rw [show ((0 : FK) * 1) = 0 from fl8 0]; exact rp_zero⟩, rfl, HS.out.below⟩
theorem baseP (w : World) : Calls Tryz.prog 35 #[] w (ResV w Bp) := by
 have HS := hide (St.init w NoB)
 go_enter Tryz.func35, Tryz.ntmps35
 go_wp2_with (first | (go_at_call 78; (with_reducible refine (numX _).mono ?_); rintro e wy ⟨z, hz, rfl, hb⟩; try have HS := hide (HS.out.call hb)) | (go_at_call 78; (with_reducible refine (numY _).mono ?_); rintro e wy ⟨z, hz, rfl, hb⟩; try have HS := hide (HS.out.call hb)) | (go_at_call 77; (with_reducible refine (at_any _ (by assumption) (by assumption)).mono ?_); rintro e wy ⟨qa, qb, qc, qd, hqa, hqb, hqc, hqd, rfl, hb⟩; have HS := hide (HS.out.call hb)) | (refine wl_loadP rfl rfl rfl HS.out (by (repeat first | exact .head _ | apply List.Mem.tail)) (by first | exact rowE | exact rowP | exact rowN | exact rowQ) (by (first | exact .q0 (EA.arr ‹_›) | exact .q1 (EA.arr ‹_›) (EA.arr ‹_›) | exact .q2 (EA.arr ‹_›) (EA.arr ‹_›) (EA.arr ‹_›) | exact .q3 (EA.arr ‹_›) (EA.arr ‹_›) (EA.arr ‹_›) (EA.arr ‹_›) | exact .q0 (NA.arr ‹_›) | exact .q1 (NA.arr ‹_›) (NA.arr ‹_›) | exact .q2 (NA.arr ‹_›) (NA.arr ‹_›) (NA.arr ‹_›) | exact .q3 (NA.arr ‹_›) (NA.arr ‹_›) (NA.arr ‹_›) (NA.arr ‹_›) | exact .all (by (first | exact EA.arr ‹_› | exact NA.arr ‹_› | exact arr_zE | exact arr_zN | exact arr_zP | exact arr_zQ | exact PtN.arr ‹_› | exact PtV.arr ‹_› | exact QtN.arr ‹_› | exact qE ‹_› ‹_› ‹_› ‹_› | exact qN ‹_› ‹_› ‹_› ‹_›)))) ?_; (try simp only [Act.put, nq1, nq2, nq3, nq4, nq5, nq6])) | (refine wl_storeR rfl rfl rfl rfl HS.out (by first | exact rowE | exact rowP | exact rowN | exact rowQ) (by (repeat first | exact .head | apply Upd.tail)) (by (first | exact EA.arr ‹_› | exact NA.arr ‹_› | exact arr_zE | exact arr_zN | exact arr_zP | exact arr_zQ | exact PtN.arr ‹_› | exact PtV.arr ‹_› | exact QtN.arr ‹_› | exact qE ‹_› ‹_› ‹_› ‹_› | exact qN ‹_› ‹_› ‹_› ‹_›)) (by (first | exact EA.arr ‹_› | exact NA.arr ‹_› | exact arr_zE | exact arr_zN | exact arr_zP | exact arr_zQ | exact PtN.arr ‹_› | exact PtV.arr ‹_› | exact QtN.arr ‹_› | exact qE ‹_› ‹_› ‹_› ‹_› | exact qN ‹_› ‹_› ‹_› ‹_›)) ?_; intro wz hS9; have HS := hide hS9; clear hS9; (try simp only [Act.put, nq1, nq2, nq3, nq4, nq5, nq6])) | (refine wl_allocR rfl rfl HS.out (by first | exact newE | exact newP | exact newN | exact newQ) ?_; intro gz wz hS9; have HS := hide hS9; clear hS9; (try simp only [Act.put, nq1, nq2, nq3, nq4, nq5, nq6])) | (refine wl_boxR rfl rfl rfl HS.out ?_; intro gz wz hS9; have HS := hide hS9; clear hS9; (try simp only [Act.put, nq1, nq2, nq3, nq4, nq5, nq6])))
 refine bodyPost_ret (results_cell_row rfl _ _ _ _ _ _ _ rfl (HS.out.heapM (by (repeat first | exact .head _ | apply List.Mem.tail))) Tryz.underlying63 rfl (by first | (rw [(EA.arr ‹_›).size]; kernel_rfl) | (rw [(NA.arr ‹_›).size]; kernel_rfl) | (rw [(qE ‹_› ‹_› ‹_› ‹_›).size]; kernel_rfl) | (rw [(qN ‹_› ‹_› ‹_› ‹_›).size]; kernel_rfl) | (rw [(PtN.arr ‹_›).size]; kernel_rfl) | (rw [(PtV.arr ‹_›).size]; kernel_rfl) | (rw [(QtN.arr ‹_›).size]; kernel_rfl))) rfl ?_
 exact ⟨_, ⟨⟨_, _, _, _⟩, _, _, _, _, rfl, hqa, hqb, hqc, hqd, rp_of Bp⟩, rfl, HS.out.below⟩
theorem wholeP {v : Array Value} {P : Ed} (w : World) (hv : PtV v P) : Calls Tryz.prog 79 #[.agg v] w (ResV w P) := by
 have hN := hv
 obtain ⟨⟨X, Y, Z, T⟩, a, b, c, d, rfl, h1, h2, h3, h4, h5⟩ := hv.ex
 have HS := hide (St.init w NoB)
 have HZ := hide (fun W => zeroP W)
 by_cases hz : Z = 0
 ·have hP : P = .zero := by
   rcases h5 with h | h
   ·exact absurd hz h.z
   ·exact h.2
  subst hP
  have HC := hide (fun W => zeroA W h3)
  rw [decide_eq_true hz] at HC
  clear h5 hz
  go_enter Tryz.func79, Tryz.ntmps79
  go_wp2_with (first | (go_at_call 121; (with_reducible refine (HC.out _).mono ?_); rintro e wy ⟨rfl, hb⟩; have HS := hide (HS.out.call hb)) | (go_at_call 81; (with_reducible refine (HZ.out _).mono ?_); rintro e wy ⟨z, hz, rfl, hb⟩; try have HS := hide (HS.out.call hb)) | (refine wl_loadP rfl rfl rfl HS.out (by (repeat first | exact .head _ | apply List.Mem.tail)) (by first | exact rowE | exact rowP | exact rowN | exact rowQ) (by (first | exact .q0 (EA.arr ‹_›) | exact .q1 (EA.arr ‹_›) (EA.arr ‹_›) | exact .q2 (EA.arr ‹_›) (EA.arr ‹_›) (EA.arr ‹_›) | exact .q3 (EA.arr ‹_›) (EA.arr ‹_›) (EA.arr ‹_›) (EA.arr ‹_›) | exact .q0 (NA.arr ‹_›) | exact .q1 (NA.arr ‹_›) (NA.arr ‹_›) | exact .q2 (NA.arr ‹_›) (NA.arr ‹_›) (NA.arr ‹_›) | exact .q3 (NA.arr ‹_›) (NA.arr ‹_›) (NA.arr ‹_›) (NA.arr ‹_›) | exact .all (by (first | exact EA.arr ‹_› | exact NA.arr ‹_› | exact arr_zE | exact arr_zN | exact arr_zP | exact arr_zQ | exact PtN.arr ‹_› | exact PtV.arr ‹_› | exact QtN.arr ‹_› | exact qE ‹_› ‹_› ‹_› ‹_› | exact qN ‹_› ‹_› ‹_› ‹_›)))) ?_; (try simp only [Act.put, nq1, nq2, nq3, nq4, nq5, nq6])) | (refine wl_storeR rfl rfl rfl rfl HS.out (by first | exact rowE | exact rowP | exact rowN | exact rowQ) (by (repeat first | exact .head | apply Upd.tail)) (by (first | exact EA.arr ‹_› | exact NA.arr ‹_› | exact arr_zE | exact arr_zN | exact arr_zP | exact arr_zQ | exact PtN.arr ‹_› | exact PtV.arr ‹_› | exact QtN.arr ‹_› | exact qE ‹_› ‹_› ‹_› ‹_› | exact qN ‹_› ‹_› ‹_› ‹_›)) (by (first | exact EA.arr ‹_› | exact NA.arr ‹_› | exact arr_zE | exact arr_zN | exact arr_zP | exact arr_zQ | exact PtN.arr ‹_› | exact PtV.arr ‹_› | exact QtN.arr ‹_› | exact qE ‹_› ‹_› ‹_› ‹_› | exact qN ‹_› ‹_› ‹_› ‹_›)) ?_; intro wz hS9; have HS := hide hS9; clear hS9; (try simp only [Act.put, nq1, nq2, nq3, nq4, nq5, nq6])) | (refine wl_allocR rfl rfl HS.out (by first | exact newE | exact newP | exact newN | exact newQ) ?_; intro gz wz hS9; have HS := hide hS9; clear hS9; (try simp only [Act.put, nq1, nq2, nq3, nq4, nq5, nq6])) | (refine wl_boxR rfl rfl rfl HS.out ?_; intro gz wz hS9; have HS := hide hS9; clear hS9; (try simp only [Act.put, nq1, nq2, nq3, nq4, nq5, nq6])))
  refine bodyPost_ret (results_cell_row rfl _ _ _ _ _ _ _ rfl (HS.out.heapM (by (repeat first | exact .head _ | apply List.Mem.tail))) Tryz.underlying63 rfl (by first | (rw [(EA.arr ‹_›).size]; kernel_rfl) | (rw [(NA.arr ‹_›).size]; kernel_rfl) | (rw [(qE ‹_› ‹_› ‹_› ‹_›).size]; kernel_rfl) | (rw [(qN ‹_› ‹_› ‹_› ‹_›).size]; kernel_rfl) | (rw [(PtN.arr ‹_›).size]; kernel_rfl) | (rw [(PtV.arr ‹_›).size]; kernel_rfl) | (rw [(QtN.arr ‹_›).size]; kernel_rfl))) rfl ?_
  exact ⟨_, by assumption, rfl, HS.out.below⟩
 ·have hr : Rp ⟨X, Y, Z, T⟩ P := by
   rcases h5 with h | h
   ·exact h
   ·exact absurd h.1 hz
  have HC := hide (fun W => zeroA W h3)
  rw [decide_eq_false hz] at HC
  clear h5
  go_enter Tryz.func79, Tryz.ntmps79
  go_wp2_with (first | (go_at_call 121; (with_reducible refine (HC.out _).mono ?_); rintro e wy ⟨rfl, hb⟩; have HS := hide (HS.out.call hb)) | (refine wl_loadP rfl rfl rfl HS.out (by (repeat first | exact .head _ | apply List.Mem.tail)) (by first | exact rowE | exact rowP | exact rowN | exact rowQ) (by (first | exact .q0 (EA.arr ‹_›) | exact .q1 (EA.arr ‹_›) (EA.arr ‹_›) | exact .q2 (EA.arr ‹_›) (EA.arr ‹_›) (EA.arr ‹_›) | exact .q3 (EA.arr ‹_›) (EA.arr ‹_›) (EA.arr ‹_›) (EA.arr ‹_›) | exact .q0 (NA.arr ‹_›) | exact .q1 (NA.arr ‹_›) (NA.arr ‹_›) | exact .q2 (NA.arr ‹_›) (NA.arr ‹_›) (NA.arr ‹_›) | exact .q3 (NA.arr ‹_›) (NA.arr ‹_›) (NA.arr ‹_›) (NA.arr ‹_›) | exact .all (by (first | exact EA.arr ‹_› | exact NA.arr ‹_› | exact arr_zE | exact arr_zN | exact arr_zP | exact arr_zQ | exact PtN.arr ‹_› | exact PtV.arr ‹_› | exact QtN.arr ‹_› | exact qE ‹_› ‹_› ‹_› ‹_› | exact qN ‹_› ‹_› ‹_› ‹_›)))) ?_; (try simp only [Act.put, nq1, nq2, nq3, nq4, nq5, nq6])) | (refine wl_storeR rfl rfl rfl rfl HS.out (by first | exact rowE | exact rowP | exact rowN | exact rowQ) (by (repeat first | exact .head | apply Upd.tail)) (by (first | exact EA.arr ‹_› | exact NA.arr ‹_› | exact arr_zE | exact arr_zN | exact arr_zP | exact arr_zQ | exact PtN.arr ‹_› | exact PtV.arr ‹_› | exact QtN.arr ‹_› | exact qE ‹_› ‹_› ‹_› ‹_› | exact qN ‹_› ‹_› ‹_› ‹_›)) (by (first | exact EA.arr ‹_› | exact NA.arr ‹_› | exact arr_zE | exact arr_zN | exact arr_zP | exact arr_zQ | exact PtN.arr ‹_› | exact PtV.arr ‹_› | exact QtN.arr ‹_› | exact qE ‹_› ‹_› ‹_› ‹_› | exact qN ‹_› ‹_› ‹_› ‹_›)) ?_; intro wz hS9; have HS := hide hS9; clear hS9; (try simp only [Act.put, nq1, nq2, nq3, nq4, nq5, nq6])) | (refine wl_allocR rfl rfl HS.out (by first | exact newE | exact newP | exact newN | exact newQ) ?_; intro gz wz hS9; have HS := hide hS9; clear hS9; (try simp only [Act.put, nq1, nq2, nq3, nq4, nq5, nq6])) | (refine wl_boxR rfl rfl rfl HS.out ?_; intro gz wz hS9; have HS := hide hS9; clear hS9; (try simp only [Act.put, nq1, nq2, nq3, nq4, nq5, nq6])))
  refine bodyPost_ret (results_cell_row rfl _ _ _ _ _ _ _ rfl (HS.out.heapM (by (repeat first | exact .head _ | apply List.Mem.tail))) Tryz.underlying63 rfl (by first | (rw [(EA.arr ‹_›).size]; kernel_rfl) | (rw [(NA.arr ‹_›).size]; kernel_rfl) | (rw [(qE ‹_› ‹_› ‹_› ‹_›).size]; kernel_rfl) | (rw [(qN ‹_› ‹_› ‹_› ‹_›).size]; kernel_rfl) | (rw [(PtN.arr ‹_›).size]; kernel_rfl) | (rw [(PtV.arr ‹_›).size]; kernel_rfl) | (rw [(QtN.arr ‹_›).size]; kernel_rfl))) rfl ?_
  exact ⟨_, ⟨⟨X, Y, Z, T⟩, _, _, _, _, rfl, h1, h2, h3, h4, hr⟩, rfl, HS.out.below⟩
end Go.Proofs.YtnohmgpmmhlloaaGreatDoor

namespace Go.Proofs.YtnohmgpmmhlloaaGreatDoor
open Go.RowKit
set_option linter.unusedSimpArgs false

theorem bval_bit (l : List UInt8) {q r : Nat} {c : UInt8} (hc : l[q]? = some c) (hr : r < 8) : c.toNat / 2 ^ r % 2 = bval l / 2 ^ (8 * q + r) % 2 := by
 have hq := (List.getElem?_eq_some_iff.1 hc).1
 have h1 : bval l = bval (l.take q) + 256 ^ q * (c.toNat + 256 * bval (l.drop (q + 1))) := by
  have e := bval_append (l.take q) (l.drop q)
  rw [List.take_append_drop, List.length_take, Nat.min_eq_left (by omega)] at e
  rw [e, List.drop_eq_getElem_cons hq]
  rw [List.getElem?_eq_getElem hq] at hc
  injection hc with hc
  rw [hc, bval]
 have h2 := bval_lt (l.take q)
 rw [List.length_take, Nat.min_eq_left (by omega)] at h2
 have hp : (2 : Nat) ^ (8 * q + r) = 256 ^ q * 2 ^ r := by rw [Nat.pow_add, Nat.pow_mul]
 rw [hp, ← Nat.div_div_eq_div_mul, h1, Nat.add_mul_div_left _ _ (Nat.pos_of_ne_zero (by omega)), Nat.div_eq_of_lt h2, Nat.zero_add]
 generalize bval (l.drop (q + 1)) = R
 generalize c.toNat = C
 match r, hr with
 | 0, _ => omega
 | 1, _ => omega
 | 2, _ => omega
 | 3, _ => omega
 | 4, _ => omega
 | 5, _ => omega
 | 6, _ => omega
 | 7, _ => omega
theorem u8_and1 (n : Nat) (h : n < 256) : bits .and .u8 (n : Int) 1 = ((n % 2 : Nat) : Int) := by
 have : ∀ m : Fin 256, bits .and .u8 (m.val : Int) 1 = ((m.val % 2 : Nat) : Int) := by decide +kernel
 exact this ⟨n, h⟩
def mulV (l : List UInt8) : Nat := bval (l.take 32)
theorem mulP_any {v : Array Value} {P : Ed} (A : Option Addr) (n c : Nat) (l : List UInt8) (w : World) (hv : PtV v P) (hl : l.length = n) (hn : n ≤ 1000) (hr : Rd w (.slice A n c) 1 n (bvs l)) :
  Calls Tryz.prog 36 #[.agg v, .slice A n c] w (ResV w (tmE P (mulV l))) := by
 obtain ⟨m, hm⟩ : ∃ m, m = min n 32 := ⟨_, rfl⟩
 have hmi : min (n : Int) 32 = (m : Int) := by omega
 have hmi2 : (if (n : Int) ≤ 32 then (n : Int) else 32) = (m : Int) := by split <;> omega
 have hmi3 : (if (32 : Int) < (n : Int) then (32 : Int) else (n : Int)) = (m : Int) := by split <;> omega
 have hm32 : m ≤ 32 := by omega
 have hmn : m ≤ n := by omega
 have HM := hide (show mulV l < 256 ^ m by
  unfold mulV
  have := bval_lt (l.take 32)
  rw [List.length_take, hl] at this
  rw [hm, Nat.min_comm]
  exact this)
 have HBIT := hide (fun (i k : Nat) (c : UInt8) (hc : l[i]? = some c) (hi : i < m) (hk : k < 8) => show c.toNat / 2 ^ k % 2 = mulV l / 2 ^ (8 * i + k) % 2 from by
  have h : (l.take 32)[i]? = some c := by rw [List.getElem?_take_of_lt (by omega)]; exact hc
  exact bval_bit (l.take 32) h hk)
 have HR := hide hr
 have HL := hide hl
 generalize mulV l = V at *
 have HS := hide (St.init w NoB)
 clear hr hl hm
 go_enter Tryz.func36, Tryz.ntmps36
 go_wp2_with (first | (go_at_call 79; (with_reducible refine (wholeP _ (by assumption)).mono ?_); rintro e wy ⟨z, hz, rfl, hb⟩; try have HS := hide (HS.out.call hb)) | (go_at_call 78; (with_reducible refine (numD _).mono ?_); rintro e wy ⟨z, hz, rfl, hb⟩; try have HS := hide (HS.out.call hb)) | (go_at_call 81; (with_reducible refine (zeroP _).mono ?_); rintro e wy ⟨z, hz, rfl, hb⟩; try have HS := hide (HS.out.call hb)) | (refine wl_loadP rfl rfl rfl HS.out (by (repeat first | exact .head _ | apply List.Mem.tail)) (by first | exact rowE | exact rowP | exact rowN | exact rowQ) (by (first | exact .q0 (EA.arr ‹_›) | exact .q1 (EA.arr ‹_›) (EA.arr ‹_›) | exact .q2 (EA.arr ‹_›) (EA.arr ‹_›) (EA.arr ‹_›) | exact .q3 (EA.arr ‹_›) (EA.arr ‹_›) (EA.arr ‹_›) (EA.arr ‹_›) | exact .q0 (NA.arr ‹_›) | exact .q1 (NA.arr ‹_›) (NA.arr ‹_›) | exact .q2 (NA.arr ‹_›) (NA.arr ‹_›) (NA.arr ‹_›) | exact .q3 (NA.arr ‹_›) (NA.arr ‹_›) (NA.arr ‹_›) (NA.arr ‹_›) | exact .all (by (first | exact EA.arr ‹_› | exact NA.arr ‹_› | exact arr_zE | exact arr_zN | exact arr_zP | exact arr_zQ | exact PtN.arr ‹_› | exact PtV.arr ‹_› | exact QtN.arr ‹_› | exact qE ‹_› ‹_› ‹_› ‹_› | exact qN ‹_› ‹_› ‹_› ‹_›)))) ?_; (try simp only [Act.put, nq1, nq2, nq3, nq4, nq5, nq6])) | (refine wl_storeR rfl rfl rfl rfl HS.out (by first | exact rowE | exact rowP | exact rowN | exact rowQ) (by (repeat first | exact .head | apply Upd.tail)) (by (first | exact EA.arr ‹_› | exact NA.arr ‹_› | exact arr_zE | exact arr_zN | exact arr_zP | exact arr_zQ | exact PtN.arr ‹_› | exact PtV.arr ‹_› | exact QtN.arr ‹_› | exact qE ‹_› ‹_› ‹_› ‹_› | exact qN ‹_› ‹_› ‹_› ‹_›)) (by (first | exact EA.arr ‹_› | exact NA.arr ‹_› | exact arr_zE | exact arr_zN | exact arr_zP | exact arr_zQ | exact PtN.arr ‹_› | exact PtV.arr ‹_› | exact QtN.arr ‹_› | exact qE ‹_› ‹_› ‹_› ‹_› | exact qN ‹_› ‹_› ‹_› ‹_›)) ?_; intro wz hS9; have HS := hide hS9; clear hS9; (try simp only [Act.put, nq1, nq2, nq3, nq4, nq5, nq6])) | (refine wl_allocR rfl rfl HS.out (by first | exact newE | exact newP | exact newN | exact newQ) ?_; intro gz wz hS9; have HS := hide hS9; clear hS9; (try simp only [Act.put, nq1, nq2, nq3, nq4, nq5, nq6])) | (refine wl_boxR rfl rfl rfl HS.out ?_; intro gz wz hS9; have HS := hide hS9; clear hS9; (try simp only [Act.put, nq1, nq2, nq3, nq4, nq5, nq6])))
 rename_i HSa gP wa HSb gR wb HSc wc uP huP hbP HSd wd HSe we uD huD hbD HSf gD wf HSg wg HSh HSi wh HSj K1 a1
 clear HSa HSb HSc hbP HSd HSe hbD HSf HSg HSh HSi HSj hb
 go_loopw [8] (fun iv wr => ∃ (j : Nat) (u : Array Value), j ≤ m ∧ iv = .int .i64 ((j : Int) - 1) ∧ Hid (PtN u (tmE P (V / 2 ^ (8 * j)))) ∧ Hid (St w NoB wr [.cells gz u 63, .cells gD uD 61, .cells gR zP 63, .cells gP uP 63])) (fun iv _ => (1 + intOf iv).toNat)
 case atStart =>
  refine ⟨m, z, by omega, rfl, hide ?_, HS⟩
  have h := HM.out
  rw [show (256 : Nat) ^ m = 2 ^ (8 * m) from by rw [Nat.pow_mul]] at h
  rw [Nat.div_eq_of_lt h]
  exact hz
 case round =>
  clear HS hz
  obtain ⟨j, u, hj, rfl, HU, HS⟩ := hrel
  cases j with
  | zero =>
   have e0 : ((0 : Nat) : Int) - 1 = -1 := by omega
   simp only [e0]
   have hu := HU.out
   go_wp2_with (first | (refine wl_loadP rfl rfl rfl HS.out (by (repeat first | exact .head _ | apply List.Mem.tail)) (by first | exact rowE | exact rowP | exact rowN | exact rowQ) (by (first | exact .q0 (EA.arr ‹_›) | exact .q1 (EA.arr ‹_›) (EA.arr ‹_›) | exact .q2 (EA.arr ‹_›) (EA.arr ‹_›) (EA.arr ‹_›) | exact .q3 (EA.arr ‹_›) (EA.arr ‹_›) (EA.arr ‹_›) (EA.arr ‹_›) | exact .q0 (NA.arr ‹_›) | exact .q1 (NA.arr ‹_›) (NA.arr ‹_›) | exact .q2 (NA.arr ‹_›) (NA.arr ‹_›) (NA.arr ‹_›) | exact .q3 (NA.arr ‹_›) (NA.arr ‹_›) (NA.arr ‹_›) (NA.arr ‹_›) | exact .all (by (first | exact EA.arr ‹_› | exact NA.arr ‹_› | exact arr_zE | exact arr_zN | exact arr_zP | exact arr_zQ | exact PtN.arr ‹_› | exact PtV.arr ‹_› | exact QtN.arr ‹_› | exact qE ‹_› ‹_› ‹_› ‹_› | exact qN ‹_› ‹_› ‹_› ‹_›)))) ?_; (try simp only [Act.put, nq1, nq2, nq3, nq4, nq5, nq6])) | (refine wl_storeR rfl rfl rfl rfl HS.out (by first | exact rowE | exact rowP | exact rowN | exact rowQ) (by (repeat first | exact .head | apply Upd.tail)) (by (first | exact EA.arr ‹_› | exact NA.arr ‹_› | exact arr_zE | exact arr_zN | exact arr_zP | exact arr_zQ | exact PtN.arr ‹_› | exact PtV.arr ‹_› | exact QtN.arr ‹_› | exact qE ‹_› ‹_› ‹_› ‹_› | exact qN ‹_› ‹_› ‹_› ‹_›)) (by (first | exact EA.arr ‹_› | exact NA.arr ‹_› | exact arr_zE | exact arr_zN | exact arr_zP | exact arr_zQ | exact PtN.arr ‹_› | exact PtV.arr ‹_› | exact QtN.arr ‹_› | exact qE ‹_› ‹_› ‹_› ‹_› | exact qN ‹_› ‹_› ‹_› ‹_›)) ?_; intro wz hS9; have HS := hide hS9; clear hS9; (try simp only [Act.put, nq1, nq2, nq3, nq4, nq5, nq6])) | (refine wl_allocR rfl rfl HS.out (by first | exact newE | exact newP | exact newN | exact newQ) ?_; intro gz wz hS9; have HS := hide hS9; clear hS9; (try simp only [Act.put, nq1, nq2, nq3, nq4, nq5, nq6])) | (refine wl_boxR rfl rfl rfl HS.out ?_; intro gz wz hS9; have HS := hide hS9; clear hS9; (try simp only [Act.put, nq1, nq2, nq3, nq4, nq5, nq6])))
   refine bodyPost_ret (results_cell_row rfl _ _ _ _ _ _ _ rfl (HS.out.heapM (by (repeat first | exact .head _ | apply List.Mem.tail))) Tryz.underlying63 rfl (by first | (rw [(EA.arr ‹_›).size]; kernel_rfl) | (rw [(NA.arr ‹_›).size]; kernel_rfl) | (rw [(qE ‹_› ‹_› ‹_› ‹_›).size]; kernel_rfl) | (rw [(qN ‹_› ‹_› ‹_› ‹_›).size]; kernel_rfl) | (rw [(PtN.arr ‹_›).size]; kernel_rfl) | (rw [(PtV.arr ‹_›).size]; kernel_rfl) | (rw [(QtN.arr ‹_›).size]; kernel_rfl))) rfl ?_
   rw [Nat.mul_zero, Nat.pow_zero, Nat.div_one] at hu
   exact ⟨_, hu, rfl, HS.out.below⟩
  | succ j =>
   have e1 : (((j + 1 : Nat) : Int) - 1) = (j : Int) := by omega
   simp only [e1]
   have di : decide ((0 : Int) ≤ (j : Int)) = true := by simp
   have jn : (j : Int) < (n : Int) := by omega
   have j32 : (j : Int) < 32 := by omega
   obtain ⟨cb, hxb⟩ : ∃ cb, l[j]? = some cb := ⟨l[j]'(by have := HL.out; omega), List.getElem?_eq_getElem _⟩
   obtain ⟨b, o, rfl, hcb⟩ := rd_at' HR.out (bvs_get hxb)
   have hbl := World.block_lt_of_cell? _ _ hcb
   obtain ⟨ch, hch⟩ : ∃ c : Nat, c = cb.toNat := ⟨_, rfl⟩
   have HBB := hide (fun k hk => HBIT.out j k cb hxb (by omega) hk)
   have hc8 : ch < 256 := by rw [hch]; exact UInt8.toNat_lt _
   rw [← hch] at hcb HBB
   have HB := hide (fun W (h : Below w.heap.size w W) => (h.cell (p := ⟨b, o + j, none⟩) hbl).trans hcb)
   have HJ := hide hj
   clear hxb hch hcb hbl hj e1
   go_wp2_with fail
   go_loopw [9] (fun kv wr => ∃ (q : Nat) (u : Array Value), q ≤ 8 ∧ kv = .int .i64 ((q : Int) - 1) ∧ Hid (PtN u (tmE P (V / 2 ^ (8 * j + q)))) ∧ Hid (St w NoB wr [.cells gz u 63, .cells gD uD 61, .cells gR zP 63, .cells gP uP 63])) (fun kv _ => (1 + intOf kv).toNat)
   case atStart => exact ⟨8, u, by omega, by first | rfl | go_num, HU, HS⟩
   case round =>
    clear HS HU
    obtain ⟨q, u2, hq, rfl, HU, HS⟩ := hrel
    cases q with
    | zero =>
     have e0 : ((0 : Nat) : Int) - 1 = -1 := by omega
     simp only [e0]
     go_wp2_with fail
     go_roundw
     case rel => exact ⟨j, u2, by have := HJ.out; omega, by first | rfl | go_num, HU, HS⟩
     case measure => (simp [intOf]) <;> omega
    | succ r =>
     have e1 : (((r + 1 : Nat) : Int) - 1) = (r : Int) := by omega
     simp only [e1]
     have dr : decide ((0 : Int) ≤ (r : Int)) = true := by simp
     have r8 : (r : Int) < 8 := by omega
     obtain ⟨bt, hbt⟩ : ∃ t, t = ch / 2 ^ r % 2 := ⟨_, rfl⟩
     obtain ⟨cs, hcs⟩ : ∃ t, t = ch / 2 ^ r := ⟨_, rfl⟩
     have s1 : (ch : Int) / 2 ^ r = (cs : Int) := by rw [hcs, Int.natCast_ediv, Int.natCast_pow]; rfl
     have cs8' : cs < 256 := by have := Nat.div_le_self ch (2 ^ r); omega
     have cs8 : (cs : Int) < 256 := by omega
     have s2 : bits .and .u8 (cs : Int) 1 = (bt : Int) := by rw [u8_and1 _ cs8', hbt, ← hcs]
     have hbit := HBB.out r (by omega)
     rw [← hbt] at hbit
     have hu := HU.out
     have HSTEP := hide (tmE_bit P V (8 * j + r))
     rw [← hbit] at HSTEP
     clear hbt hcs hbit e1 cs8'
     have HR9 := hide hq
     by_cases hb1 : bt = 1
     ·subst hb1
      rw [if_pos rfl] at HSTEP
      go_wp2_with (first | (go_at_call 80; (with_reducible refine (plusP _ hu2 huP huD).mono ?_); rintro e wy ⟨z, hu3, rfl, hb⟩; have HS := hide (HS.out.call hb); clear hb) | (go_at_call 80; (with_reducible refine (plusP _ hu hu huD).mono ?_); rintro e wy ⟨z, hu2, rfl, hb⟩; have HS := hide (HS.out.call hb); clear hb) | (refine wl_storeR rfl rfl rfl rfl HS.out rowP .head (PtN.arr hu2) (PtN.arr hu3) ?_; intro wz hS9; have HS := hide hS9; have hq := HB.out _ hS9.below; clear hS9; (try simp only [Act.put, nq1, nq2, nq3, nq4, nq5, nq6])) | (refine wl_storeR rfl rfl rfl rfl HS.out rowP .head (PtN.arr hu) (PtN.arr hu2) ?_; intro wz hS9; have HS := hide hS9; have hq := HB.out _ hS9.below; clear hS9; (try simp only [Act.put, nq1, nq2, nq3, nq4, nq5, nq6])) | (refine wl_loadP rfl rfl rfl HS.out (.tail _ (.tail _ (.tail _ (.head _)))) rowP (.all (PtN.arr huP)) ?_; (try simp only [Act.put, nq1, nq2, nq3, nq4, nq5, nq6])) | (refine wl_loadP rfl rfl rfl HS.out (.head _) rowP (.all (PtN.arr hu2)) ?_; (try simp only [Act.put, nq1, nq2, nq3, nq4, nq5, nq6])) | (refine wl_loadP rfl rfl rfl HS.out (.head _) rowP (.all (PtN.arr hu)) ?_; (try simp only [Act.put, nq1, nq2, nq3, nq4, nq5, nq6])) | (refine wl_loadP rfl rfl rfl HS.out (.tail _ (.head _)) rowE (.all huD.arr) ?_; (try simp only [Act.put, nq1, nq2, nq3, nq4, nq5, nq6])))
      go_roundw
      case rel => exact ⟨r, _, by have := HR9.out; omega, by first | rfl | go_num, hide (by rw [HSTEP.out]; assumption), HS⟩
      case measure => (simp [intOf]) <;> omega
     ·have b0 : (((bt : Nat) : Int) == 1) = false := by simp; omega
      have b0' : (bt == 1) = false := by simp; omega
      have b0d : decide (((bt : Nat) : Int) = 1) = false := by simp; omega
      rw [if_neg hb1] at HSTEP
      clear hb1
      go_wp2_with (first | (go_at_call 80; (with_reducible refine (plusP _ hu hu huD).mono ?_); rintro e wy ⟨z, hu2, rfl, hb⟩; have HS := hide (HS.out.call hb); clear hb) | (refine wl_storeR rfl rfl rfl rfl HS.out rowP .head (PtN.arr hu) (PtN.arr hu2) ?_; intro wz hS9; have HS := hide hS9; have hq := HB.out _ hS9.below; clear hS9; (try simp only [Act.put, nq1, nq2, nq3, nq4, nq5, nq6])) | (refine wl_loadP rfl rfl rfl HS.out (.head _) rowP (.all (PtN.arr hu)) ?_; (try simp only [Act.put, nq1, nq2, nq3, nq4, nq5, nq6])) | (refine wl_loadP rfl rfl rfl HS.out (.tail _ (.head _)) rowE (.all huD.arr) ?_; (try simp only [Act.put, nq1, nq2, nq3, nq4, nq5, nq6])))
      go_roundw
      case rel => exact ⟨r, _, by have := HR9.out; omega, by first | rfl | go_num, hide (by rw [HSTEP.out]; assumption), HS⟩
      case measure => (simp [intOf]) <;> omega
end Go.Proofs.YtnohmgpmmhlloaaGreatDoor

namespace Go.Proofs.YtnohmgpmmhlloaaGreatDoor
open Go.RowKit
set_option linter.unusedSimpArgs false

theorem u8_or128 (n : Nat) (h : n < 128) : bits .or .u8 (n : Int) 128 = ((n + 128 : Nat) : Int) := by
 have : ∀ m : Fin 128, bits .or .u8 (m.val : Int) 128 = ((m.val + 128 : Nat) : Int) := by decide +kernel
 exact this ⟨n, h⟩
theorem list_top {l : List UInt8} {r : Nat} (hl : l.length = 31) (x : UInt8) : (l ++ [UInt8.ofNat r])[31]? = some (UInt8.ofNat r) ∧ (l ++ [UInt8.ofNat r]).set 31 x = l ++ [x] := by
 constructor
 ·rw [List.getElem?_append_right (by omega), hl]; rfl
 ·rw [List.set_append_right _ _ (by omega), hl]; rfl
theorem bytesP {v : Array Value} {P : Ed} (w : World) (hv : PtV v P) : Calls Tryz.prog 37 #[.agg v] w (ResB 5 w (packL P)) := by
 have HS := hide (St.init w NoB)
 obtain ⟨l, r, hl31, hr128, e1, e2⟩ := top_bit P.y.val (Nat.lt_trans P.y.isLt pq_255)
 have HE1 := hide e1
 have HE2 := hide e2
 have HL31 := hide hl31
 have hpk : packL P = if P.x.val % 2 = 1 then l ++ [UInt8.ofNat (r + 128)] else l ++ [UInt8.ofNat r] := by
  unfold packL packN
  split
  ·exact e2
  ·rw [Nat.add_zero]; exact e1
 have HPK := hide hpk
 have hlen : (l ++ [UInt8.ofNat r]).length = 32 := by rw [List.length_append, hl31]; rfl
 have HLEN := hide hlen
 clear e1 e2 hpk hl31 hlen
 go_enter Tryz.func37, Tryz.ntmps37
 go_upto_region 4 with (first
  | (go_at_call 79; (with_reducible refine (wholeP _ (by assumption)).mono ?_); rintro e wy ⟨v2, hv2, rfl, hb⟩; obtain ⟨⟨X, Y, Z, T⟩, a, b, c, d, rfl, h1, h2, h3, h4, h5⟩ := hv2.ex; have HS := hide (HS.out.call hb))
  | (go_at_call 82; (with_reducible refine (invA _ h3).mono ?_); rintro e wy ⟨zi, hzi, rfl, hb⟩; have HS := hide (HS.out.call hb))
  | (go_at_call 83; (with_reducible refine (mulA _ h2 hzi).mono ?_); rintro e wy ⟨zy, hzy, rfl, hb⟩; rw [rp_y h5] at hzy; have HS := hide (HS.out.call hb))
  | (go_at_call 84; (with_reducible refine (bytesA _ hzy).mono ?_); rintro e wy hRB; rw [HE1.out] at hRB; obtain ⟨B, dd, rfl, hb, ho⟩ := hRB; rw [HLEN.out] at ho ⊢; have HS := hide (HS.out.row hb ho); clear ho)
  | (refine wl_loadP rfl rfl rfl HS.out (by (repeat first | exact .head _ | apply List.Mem.tail)) (by first | exact rowE | exact rowP | exact rowN | exact rowQ) (by (first | exact .q0 (EA.arr ‹_›) | exact .q1 (EA.arr ‹_›) (EA.arr ‹_›) | exact .q2 (EA.arr ‹_›) (EA.arr ‹_›) (EA.arr ‹_›) | exact .q3 (EA.arr ‹_›) (EA.arr ‹_›) (EA.arr ‹_›) (EA.arr ‹_›) | exact .q0 (NA.arr ‹_›) | exact .q1 (NA.arr ‹_›) (NA.arr ‹_›) | exact .q2 (NA.arr ‹_›) (NA.arr ‹_›) (NA.arr ‹_›) | exact .q3 (NA.arr ‹_›) (NA.arr ‹_›) (NA.arr ‹_›) (NA.arr ‹_›) | exact .all (by (first | exact EA.arr ‹_› | exact NA.arr ‹_› | exact arr_zE | exact arr_zN | exact arr_zP | exact arr_zQ | exact PtN.arr ‹_› | exact PtV.arr ‹_› | exact QtN.arr ‹_› | exact qE ‹_› ‹_› ‹_› ‹_› | exact qN ‹_› ‹_› ‹_› ‹_›)))) ?_; (try simp only [Act.put, nq1, nq2, nq3, nq4, nq5, nq6])) | (refine wl_storeR rfl rfl rfl rfl HS.out (by first | exact rowE | exact rowP | exact rowN | exact rowQ) (by (repeat first | exact .head | apply Upd.tail)) (by (first | exact EA.arr ‹_› | exact NA.arr ‹_› | exact arr_zE | exact arr_zN | exact arr_zP | exact arr_zQ | exact PtN.arr ‹_› | exact PtV.arr ‹_› | exact QtN.arr ‹_› | exact qE ‹_› ‹_› ‹_› ‹_› | exact qN ‹_› ‹_› ‹_› ‹_›)) (by (first | exact EA.arr ‹_› | exact NA.arr ‹_› | exact arr_zE | exact arr_zN | exact arr_zP | exact arr_zQ | exact PtN.arr ‹_› | exact PtV.arr ‹_› | exact QtN.arr ‹_› | exact qE ‹_› ‹_› ‹_› ‹_› | exact qN ‹_› ‹_› ‹_› ‹_›)) ?_; intro wz hS9; have HS := hide hS9; clear hS9; (try simp only [Act.put, nq1, nq2, nq3, nq4, nq5, nq6])) | (refine wl_allocR rfl rfl HS.out (by first | exact newE | exact newP | exact newN | exact newQ) ?_; intro gz wz hS9; have HS := hide hS9; clear hS9; (try simp only [Act.put, nq1, nq2, nq3, nq4, nq5, nq6])) | (refine wl_boxR rfl rfl rfl HS.out ?_; intro gz wz hS9; have HS := hide hS9; clear hS9; (try simp only [Act.put, nq1, nq2, nq3, nq4, nq5, nq6])))
 have gB : ((bvs (l ++ [UInt8.ofNat r]))[31]? = some (.int .u8 (r : Int))) := by
  rw [bvs_get (list_top HL31.out (UInt8.ofNat r)).1, UInt8.toNat_ofNat', Nat.mod_eq_of_lt (by omega)]
 have GB := hide gB
 have hor := u8_or128 r hr128
 have HR := hide hr128
 clear gB
 have hx31 := rp_x h5
 by_cases hodd : P.x.val % 2 = 1
 ·go_wp2_with (first
   | (go_at_call 83; (with_reducible refine (mulA _ h1 hzi).mono ?_); rintro e wy ⟨zx, hzx, rfl, hb⟩; rw [hx31] at hzx; have HS := hide (HS.out.call hb))
   | (go_at_call 85; (with_reducible refine (oddA _ hzx).mono ?_); rintro e wy ⟨rfl, hb⟩; rw [decide_eq_true hodd]; have HS := hide (HS.out.call hb); obtain ⟨g, c1, hvv, _, _, hcs, hfr, _⟩ := HS.out.rowOpen 0 rfl (by omega); injection hvv with hvv1 _ hvv3; subst hvv1 hvv3; have k31 := hcs 31 _ GB.out; have f31 := hfr 31; have HS9 := hide HS.out; clear hcs hfr)
   | (refine wl_loadP rfl rfl rfl HS.out (by (repeat first | exact .head _ | apply List.Mem.tail)) (by first | exact rowE | exact rowP | exact rowN | exact rowQ) (by (first | exact .q0 (EA.arr ‹_›) | exact .q1 (EA.arr ‹_›) (EA.arr ‹_›) | exact .q2 (EA.arr ‹_›) (EA.arr ‹_›) (EA.arr ‹_›) | exact .q3 (EA.arr ‹_›) (EA.arr ‹_›) (EA.arr ‹_›) (EA.arr ‹_›) | exact .q0 (NA.arr ‹_›) | exact .q1 (NA.arr ‹_›) (NA.arr ‹_›) | exact .q2 (NA.arr ‹_›) (NA.arr ‹_›) (NA.arr ‹_›) | exact .q3 (NA.arr ‹_›) (NA.arr ‹_›) (NA.arr ‹_›) (NA.arr ‹_›) | exact .all (by (first | exact EA.arr ‹_› | exact NA.arr ‹_› | exact arr_zE | exact arr_zN | exact arr_zP | exact arr_zQ | exact PtN.arr ‹_› | exact PtV.arr ‹_› | exact QtN.arr ‹_› | exact qE ‹_› ‹_› ‹_› ‹_› | exact qN ‹_› ‹_› ‹_› ‹_›)))) ?_; (try simp only [Act.put, nq1, nq2, nq3, nq4, nq5, nq6])) | (refine wl_storeR rfl rfl rfl rfl HS.out (by first | exact rowE | exact rowP | exact rowN | exact rowQ) (by (repeat first | exact .head | apply Upd.tail)) (by (first | exact EA.arr ‹_› | exact NA.arr ‹_› | exact arr_zE | exact arr_zN | exact arr_zP | exact arr_zQ | exact PtN.arr ‹_› | exact PtV.arr ‹_› | exact QtN.arr ‹_› | exact qE ‹_› ‹_› ‹_› ‹_› | exact qN ‹_› ‹_› ‹_› ‹_›)) (by (first | exact EA.arr ‹_› | exact NA.arr ‹_› | exact arr_zE | exact arr_zN | exact arr_zP | exact arr_zQ | exact PtN.arr ‹_› | exact PtV.arr ‹_› | exact QtN.arr ‹_› | exact qE ‹_› ‹_› ‹_› ‹_› | exact qN ‹_› ‹_› ‹_› ‹_›)) ?_; intro wz hS9; have HS := hide hS9; clear hS9; (try simp only [Act.put, nq1, nq2, nq3, nq4, nq5, nq6])) | (refine wl_allocR rfl rfl HS.out (by first | exact newE | exact newP | exact newN | exact newQ) ?_; intro gz wz hS9; have HS := hide hS9; clear hS9; (try simp only [Act.put, nq1, nq2, nq3, nq4, nq5, nq6])) | (refine wl_boxR rfl rfl rfl HS.out ?_; intro gz wz hS9; have HS := hide hS9; clear hS9; (try simp only [Act.put, nq1, nq2, nq3, nq4, nq5, nq6])))
  go_ret
  have h9 := HS9.out.rowSet 0 rfl 31 (.int .u8 ((r + 128 : Nat) : Int)) (by omega)
  rw [bvs_set _ _ _ (by have := HR.out; omega), (list_top HL31.out _).2] at h9
  refine resB_of h9 0 rfl ?_
  rw [HPK.out, if_pos hodd]
 ·go_wp2_with (first
   | (go_at_call 83; (with_reducible refine (mulA _ h1 hzi).mono ?_); rintro e wy ⟨zx, hzx, rfl, hb⟩; rw [hx31] at hzx; have HS := hide (HS.out.call hb))
   | (go_at_call 85; (with_reducible refine (oddA _ hzx).mono ?_); rintro e wy ⟨rfl, hb⟩; rw [decide_eq_false hodd]; have HS := hide (HS.out.call hb))
   | (refine wl_loadP rfl rfl rfl HS.out (by (repeat first | exact .head _ | apply List.Mem.tail)) (by first | exact rowE | exact rowP | exact rowN | exact rowQ) (by (first | exact .q0 (EA.arr ‹_›) | exact .q1 (EA.arr ‹_›) (EA.arr ‹_›) | exact .q2 (EA.arr ‹_›) (EA.arr ‹_›) (EA.arr ‹_›) | exact .q3 (EA.arr ‹_›) (EA.arr ‹_›) (EA.arr ‹_›) (EA.arr ‹_›) | exact .q0 (NA.arr ‹_›) | exact .q1 (NA.arr ‹_›) (NA.arr ‹_›) | exact .q2 (NA.arr ‹_›) (NA.arr ‹_›) (NA.arr ‹_›) | exact .q3 (NA.arr ‹_›) (NA.arr ‹_›) (NA.arr ‹_›) (NA.arr ‹_›) | exact .all (by (first | exact EA.arr ‹_› | exact NA.arr ‹_› | exact arr_zE | exact arr_zN | exact arr_zP | exact arr_zQ | exact PtN.arr ‹_› | exact PtV.arr ‹_› | exact QtN.arr ‹_› | exact qE ‹_› ‹_› ‹_› ‹_› | exact qN ‹_› ‹_› ‹_› ‹_›)))) ?_; (try simp only [Act.put, nq1, nq2, nq3, nq4, nq5, nq6])) | (refine wl_storeR rfl rfl rfl rfl HS.out (by first | exact rowE | exact rowP | exact rowN | exact rowQ) (by (repeat first | exact .head | apply Upd.tail)) (by (first | exact EA.arr ‹_› | exact NA.arr ‹_› | exact arr_zE | exact arr_zN | exact arr_zP | exact arr_zQ | exact PtN.arr ‹_› | exact PtV.arr ‹_› | exact QtN.arr ‹_› | exact qE ‹_› ‹_› ‹_› ‹_› | exact qN ‹_› ‹_› ‹_› ‹_›)) (by (first | exact EA.arr ‹_› | exact NA.arr ‹_› | exact arr_zE | exact arr_zN | exact arr_zP | exact arr_zQ | exact PtN.arr ‹_› | exact PtV.arr ‹_› | exact QtN.arr ‹_› | exact qE ‹_› ‹_› ‹_› ‹_› | exact qN ‹_› ‹_› ‹_› ‹_›)) ?_; intro wz hS9; have HS := hide hS9; clear hS9; (try simp only [Act.put, nq1, nq2, nq3, nq4, nq5, nq6])) | (refine wl_allocR rfl rfl HS.out (by first | exact newE | exact newP | exact newN | exact newQ) ?_; intro gz wz hS9; have HS := hide hS9; clear hS9; (try simp only [Act.put, nq1, nq2, nq3, nq4, nq5, nq6])) | (refine wl_boxR rfl rfl rfl HS.out ?_; intro gz wz hS9; have HS := hide hS9; clear hS9; (try simp only [Act.put, nq1, nq2, nq3, nq4, nq5, nq6])))
  go_ret
  refine resB_of HS.out 0 rfl ?_
  rw [HPK.out, if_neg hodd]
end Go.Proofs.YtnohmgpmmhlloaaGreatDoor

namespace Go.Proofs.YtnohmgpmmhlloaaGreatDoor
open Go.RowKit
set_option linter.unusedSimpArgs false

theorem bytesP32 {v : Array Value} {P : Ed} (w : World) (hv : PtV v P) : Calls Tryz.prog 37 #[.agg v] w fun e w' => ∃ A c, e = .returned (.slice A 32 c) ∧ Below w.heap.size w w' ∧ w'.ownsRow w.heap.size 5 1 (.slice A 32 c) 32 (bvs (packL P)) :=
 (bytesP w hv).mono fun e w' h => by
  unfold ResB at h
  rw [packL_len] at h
  exact h
end Go.Proofs.YtnohmgpmmhlloaaGreatDoor

namespace Go.Proofs.YtnohmgpmmhlloaaGreatDoor
open Go.RowKit
set_option linter.unusedSimpArgs false

theorem tyB8 : RowTy Tryz.prog 22 5 1 1 := tyB
def ResF (w : World) (o : Option Ed) (e : Ending) (w' : World) : Prop := ∃ v, PtV v (o.getD .zero) ∧ e = .returned (.tuple #[.agg v, .bool o.isSome]) ∧ Below w.heap.size w w'
end Go.Proofs.YtnohmgpmmhlloaaGreatDoor

namespace Go.Proofs.YtnohmgpmmhlloaaGreatDoor.S3
open Go.RowKit

theorem sub64_run0 (x y : Nat) (w : World) : (callFunc 129 #[.int .u64 (x : Int), .int .u64 (y : Int), .int .u64 ((0 : Nat) : Int)]).run Tryz.prog w =
  .ok (.value (.tuple #[.int .u64 (((x + 18446744073709551616 - y - 0) % 18446744073709551616 : Nat) : Int), .int .u64 ((if x < y + 0 then 1 else 0 : Nat) : Int)])) w := by kernel_rfl
theorem sub64_run1 (x y : Nat) (w : World) : (callFunc 129 #[.int .u64 (x : Int), .int .u64 (y : Int), .int .u64 ((1 : Nat) : Int)]).run Tryz.prog w =
  .ok (.value (.tuple #[.int .u64 (((x + 18446744073709551616 - y - 1) % 18446744073709551616 : Nat) : Int), .int .u64 ((if x < y + 1 then 1 else 0 : Nat) : Int)])) w := by kernel_rfl
theorem sub64_run (x y b : Nat) (hb : b ≤ 1) (w : World) : (callFunc 129 #[.int .u64 (x : Int), .int .u64 (y : Int), .int .u64 (b : Int)]).run Tryz.prog w =
  .ok (.value (.tuple #[.int .u64 (((x + 18446744073709551616 - y - b) % 18446744073709551616 : Nat) : Int), .int .u64 ((if x < y + b then 1 else 0 : Nat) : Int)])) w := by
 have : b = 0 ∨ b = 1 := by omega
 rcases this with h | h
 ·rw [h]; exact sub64_run0 x y w
 ·rw [h]; exact sub64_run1 x y w
theorem sub_any (x y b : Nat) (hb : b ≤ 1) : ∀ w, (callFunc 129 #[.int .u64 (x : Int), .int .u64 (y : Int), .int .u64 (b : Int)]).run Tryz.prog w = .ok (.value (.tuple #[.int .u64 (sbD x y b : Int), .int .u64 (sbB x y b : Int)])) w := fun w => by
 have := sub64_run x y b hb w
 unfold sbD sbB
 exact this
def numA (xs : List Nat) : Value := .agg (uvs xs).toArray

def LessRel (w : World) (g2 g3 : Nat) (H : List Chunk) (xs ys : List Nat) (bo i : Value) (wr : World) : Prop :=
 ∃ (k b : Nat) (cur : List Nat), k ≤ 4 ∧ i = .int .i64 (k : Int) ∧ bo = .int .u64 (b : Int) ∧ b ≤ 1 ∧ cur.length = 4 ∧ Words cur ∧ cur.drop k = xs.drop k ∧
  lv (cur.take k) + lv (ys.take k) + 0 = lv (xs.take k) + b * 18446744073709551616 ^ k ∧ St w NoB wr (.cells g2 (uvs cur).toArray 120 :: .cells g3 (uvs ys).toArray 120 :: H)
theorem less_step (xs ys cur : List Nat) (k b x y : Nat) (hk : k < 4) (hl : cur.length = 4) (hx : xs[k]? = some x) (hy : ys[k]? = some y) (hx2 : x < 18446744073709551616) (hy2 : y < 18446744073709551616) (hb : b ≤ 1)
  (h : lv (cur.take k) + lv (ys.take k) + 0 = lv (xs.take k) + b * 18446744073709551616 ^ k) :
  lv ((cur.set k (sbD x y b)).take (k + 1)) + lv (ys.take (k + 1)) + 0 = lv (xs.take (k + 1)) + sbB x y b * 18446744073709551616 ^ (k + 1) := by
 obtain ⟨h1, _, _⟩ := sb_spec x y b hx2 hy2 hb
 rw [lv_take_set cur k _ (by omega), lv_take hx, lv_take hy, Nat.pow_succ]
 have h2 := congrArg (· * 18446744073709551616 ^ k) h1
 simp only [Nat.add_mul] at h2
 rw [show sbB x y b * (18446744073709551616 ^ k * 18446744073709551616) = sbB x y b * 18446744073709551616 * 18446744073709551616 ^ k from by rw [Nat.mul_comm (18446744073709551616 ^ k), Nat.mul_assoc]]
 omega
theorem less_walk (xs ys : List Nat) (w : World) (hxl : xs.length = 4) (hyl : ys.length = 4) (hxw : Words xs) (hyw : Words ys) :
  Calls Tryz.prog 93 #[numA xs, numA ys] w fun e w' => ∃ rs : List Nat, rs.length = 4 ∧ Words rs ∧ ∃ b : Nat, b ≤ 1 ∧ lv rs + lv ys = lv xs + b * 18446744073709551616 ^ 4 ∧
   e = .returned (.tuple #[numA rs, .bool (decide (0 < b))]) ∧ Below w.heap.size w w' := by
 unfold numA
 have hS0 := (((St.init w NoB).alloc (uvs xs).toArray 120).alloc (uvs ys).toArray 120).alloc #[.int .u64 0, .int .u64 0, .int .u64 0, .int .u64 0] 120
 have HS0 := hide hS0
 have HXL := hide hxl
 have HYL := hide hyl
 have HXW := hide hxw
 have HYW := hide hyw
 clear hS0 hxl hyl hxw hyw
 go_enter Tryz.func93, Tryz.ntmps93
 go_wp2_with fail
 go_loopw [6, 8] (fun b i wr => LessRel w w.heap.size (w.heap.size + 1) [.cells (w.heap.size + 1 + 1) #[.int .u64 0, .int .u64 0, .int .u64 0, .int .u64 0] 120] xs ys b i wr) (fun _ i _ => 4 - (intOf i).toNat)
 case atStart =>
  have hS := HS0.out
  simp only [size_alloc1] at hS
  exact ⟨0, 0, xs, by omega, rfl, rfl, by omega, HXL.out, HXW.out, rfl, rfl, hS.rot3⟩
 case round =>
  obtain ⟨k, b, cur, hk, rfl, rfl, hb, hcl, hcw, hcd, hval, hS⟩ := hrel
  by_cases hlt : k < 4
  ·obtain ⟨x, hx⟩ := lim_get xs HXL.out k hlt
   obtain ⟨y, hy⟩ := lim_get ys HYL.out k hlt
   have hcx : cur[k]? = some x := by
    have := congrArg (·[0]?) hcd
    simpa [List.getElem?_drop, hx] using this
   have hx2 := words_get HXW.out hx
   have hy2 := words_get HYW.out hy
   have hstep := hide (less_step xs ys cur k b x y hlt hcl hx hy hx2 hy2 hb hval)
   obtain ⟨_, hd1, hd2⟩ := sb_spec x y b hx2 hy2 hb
   have hS' := hS.drew
   have hHS := hide hS'
   have cn : ∀ z, From wr.drew z → z.cell? ⟨w.heap.size, k, none⟩ = some (.int .u64 (x : Int)) := fun z hz => by
    rw [hz.cell (p := ⟨w.heap.size, k, none⟩) (Chunk.lt (hHS.out.sat 0 _ rfl) rfl), hHS.out.cell 0 rfl k]
    exact uvs_get hcx
   have cm : ∀ z, From wr.drew z → z.cell? ⟨w.heap.size + 1, k, none⟩ = some (.int .u64 (y : Int)) := fun z hz => by
    rw [hz.cell (p := ⟨w.heap.size + 1, k, none⟩) (Chunk.lt (hHS.out.sat 1 _ rfl) rfl), hHS.out.cell 1 rfl k]
    exact uvs_get hy
   have hsub := sub_any x y b hb
   have D1 := hide hd1
   have HCD := hide hcd
   have HCW := hide hcw
   have HCL := hide hcl
   clear hS hS' hx hy hcx hx2 hy2 hval hd1 hcd hcw hcl
   go_wp2_with fail
   refine wp_region_M (fun i => i == 13) (From wr.drew) (by kernel_rfl) ?_
   (refine wpM_take (i := 0) (v := ?_) rfl (by kernel_rfl) (by kernel_rfl) (by kernel_rfl) (fun _ _ _ h => h) (From.refl _) rfl (by kernel_rfl) (Or.inl ⟨by first | kernel_rfl | rfl, ?_⟩) ?_; rotate_left; (intro wx hx; go_simp) <;> (with_reducible rfl); (try simp only [Act.put, nq1, nq2, nq3, nq4, nq5, nq6])); (refine wpM_take (i := 1) (v := ?_) rfl (by kernel_rfl) (by kernel_rfl) (by kernel_rfl) (fun _ _ _ h => h) (From.refl _) rfl (by kernel_rfl) (Or.inl ⟨by first | kernel_rfl | rfl, ?_⟩) ?_; rotate_left; (intro wx hx; go_simp) <;> (with_reducible rfl); (try simp only [Act.put, nq1, nq2, nq3, nq4, nq5, nq6])); (refine wpM_take (i := 2) (v := ?_) rfl (by kernel_rfl) (by kernel_rfl) (by kernel_rfl) (fun _ _ _ h => h) (From.refl _) rfl (by kernel_rfl) (Or.inl ⟨by first | kernel_rfl | rfl, ?_⟩) ?_; rotate_left; (intro wx hx; go_simp) <;> (with_reducible rfl); (try simp only [Act.put, nq1, nq2, nq3, nq4, nq5, nq6])); (refine wpM_take (i := 3) (v := ?_) rfl (by kernel_rfl) (by kernel_rfl) (by kernel_rfl) (fun _ _ _ h => h) (From.refl _) rfl (by kernel_rfl) (Or.inl ⟨by first | kernel_rfl | rfl, ?_⟩) ?_; rotate_left; (intro wx hx; go_simp) <;> (with_reducible rfl); (try simp only [Act.put, nq1, nq2, nq3, nq4, nq5, nq6])); (refine wpM_take (i := 4) (v := ?_) rfl (by kernel_rfl) (by kernel_rfl) (by kernel_rfl) (fun _ _ _ h => h) (From.refl _) rfl (by kernel_rfl) (Or.inl ⟨by first | kernel_rfl | rfl, ?_⟩) ?_; rotate_left; (intro wx hx; go_simp) <;> (with_reducible rfl); (try simp only [Act.put, nq1, nq2, nq3, nq4, nq5, nq6])); (refine wpM_take (i := 5) (v := ?_) rfl (by kernel_rfl) (by kernel_rfl) (by kernel_rfl) (fun _ _ _ h => h) (From.refl _) rfl (by kernel_rfl) (Or.inl ⟨by first | kernel_rfl | rfl, ?_⟩) ?_; rotate_left; (intro wx hx; go_simp) <;> (with_reducible rfl); (try simp only [Act.put, nq1, nq2, nq3, nq4, nq5, nq6])); (refine wpM_take (i := 6) (v := ?_) rfl (by kernel_rfl) (by kernel_rfl) (by kernel_rfl) (fun _ _ _ h => h) (From.refl _) rfl (by kernel_rfl) (Or.inl ⟨by first | kernel_rfl | rfl, ?_⟩) ?_; rotate_left; (intro wx hx; go_simp) <;> (with_reducible rfl); (try simp only [Act.put, nq1, nq2, nq3, nq4, nq5, nq6])); (refine wpM_take (i := 7) (v := ?_) rfl (by kernel_rfl) (by kernel_rfl) (by kernel_rfl) (fun _ _ _ h => h) (From.refl _) rfl (by kernel_rfl) (Or.inl ⟨by first | kernel_rfl | rfl, ?_⟩) ?_; rotate_left; (intro wx hx; go_simp) <;> (with_reducible rfl); (try simp only [Act.put, nq1, nq2, nq3, nq4, nq5, nq6])); (refine wpM_take (i := 8) (v := ?_) rfl (by kernel_rfl) (by kernel_rfl) (by kernel_rfl) (fun _ _ _ h => h) (From.refl _) rfl (by kernel_rfl) (Or.inl ⟨by first | kernel_rfl | rfl, ?_⟩) ?_; rotate_left; (intro wx hx; go_simp) <;> (with_reducible rfl); (try simp only [Act.put, nq1, nq2, nq3, nq4, nq5, nq6])); (refine wpM_take (i := 9) (v := ?_) rfl (by kernel_rfl) (by kernel_rfl) (by kernel_rfl) (fun _ _ _ h => h) (From.refl _) rfl (by kernel_rfl) (Or.inl ⟨by first | kernel_rfl | rfl, ?_⟩) ?_; rotate_left; (intro wx hx; go_simp) <;> (with_reducible rfl); (try simp only [Act.put, nq1, nq2, nq3, nq4, nq5, nq6])); (refine wpM_take (i := 10) (v := ?_) rfl (by kernel_rfl) (by kernel_rfl) (by kernel_rfl) (fun _ _ _ h => h) (From.refl _) rfl (by kernel_rfl) (Or.inl ⟨by first | kernel_rfl | rfl, ?_⟩) ?_; rotate_left; (intro wx hx; go_simp) <;> (with_reducible rfl); (try simp only [Act.put, nq1, nq2, nq3, nq4, nq5, nq6]))
   (refine wpM_takeU (i := 11) (v := ?_) rfl (by kernel_rfl) (by kernel_rfl) (by kernel_rfl) (fun _ _ _ h => h) (From.refl _) rfl (Or.inl ⟨by first | kernel_rfl | rfl, ?_⟩) ?_; rotate_left; (intro wx; go_simp) <;> (with_reducible rfl); (try simp only [Act.put, nq1, nq2, nq3, nq4, nq5, nq6])); (refine wpM_takeU (i := 12) (v := ?_) rfl (by kernel_rfl) (by kernel_rfl) (by kernel_rfl) (fun _ _ _ h => h) (From.refl _) rfl (Or.inl ⟨by first | kernel_rfl | rfl, ?_⟩) ?_; rotate_left; (intro wx; go_simp) <;> (with_reducible rfl); (try simp only [Act.put, nq1, nq2, nq3, nq4, nq5, nq6]))
   (refine wpM_late (i := 13) (by kernel_rfl) rfl rfl ?_; intro K hK; (try simp only [Act.put, nq1, nq2, nq3, nq4, nq5, nq6]))
   refine step_store rfl rfl tyU64 hHS.out 0 rfl k (by rw [List.size_toArray, uvs_len, HCL.out]; exact hlt) rfl (v := .int .u64 (sbD x y b : Nat)) rfl rfl ?_
   intro w2 hS2
   refine hK _ _ ?_
   clear hK K
   (try simp only [Act.put, nq1, nq2, nq3, nq4, nq5, nq6])
   (refine wpAny_take (i := 14) (v := ?_) rfl (by kernel_rfl) (by kernel_rfl) (by kernel_rfl) (fun _ _ _ h => h) (Or.inl ⟨by first | kernel_rfl | rfl, ?_⟩) ?_; rotate_left; (intro wx; go_simp) <;> (with_reducible rfl); (try simp only [Act.put, nq1, nq2, nq3, nq4, nq5, nq6]))
   refine wpAny_done (by kernel_rfl) ?_ _
   go_wp2_with fail
   go_roundw
   case rel =>
    rw [uvs_set] at hS2
    refine ⟨k + 1, sbB x y b, cur.set k (sbD x y b), by omega, by go_num, rfl, hd2, by rw [List.length_set]; exact HCL.out, words_set HCW.out k _ D1.out, ?_, hstep.out, hS2⟩
    rw [drop_set_succ, ← List.drop_drop, HCD.out, List.drop_drop]
   case measure => simp [intOf]; omega
  ·obtain rfl : k = 4 := by omega
   match cur, hcl with
   | [a0, a1, a2, a3], _ =>
    have hS' : St w NoB wr [.cells w.heap.size #[.int .u64 (a0 : Int), .int .u64 (a1 : Int), .int .u64 (a2 : Int), .int .u64 (a3 : Int)] 120, .cells (w.heap.size + 1) (uvs ys).toArray 120, .cells (w.heap.size + 1 + 1) #[.int .u64 0, .int .u64 0, .int .u64 0, .int .u64 0] 120] := hS
    have n0 : wr.cell? ⟨w.heap.size, 0, none⟩ = some (.int .u64 (a0 : Int)) := hS'.cell 0 rfl 0
    have n1 : wr.cell? ⟨w.heap.size, 1, none⟩ = some (.int .u64 (a1 : Int)) := hS'.cell 0 rfl 1
    have n2 : wr.cell? ⟨w.heap.size, 2, none⟩ = some (.int .u64 (a2 : Int)) := hS'.cell 0 rfl 2
    have n3 : wr.cell? ⟨w.heap.size, 3, none⟩ = some (.int .u64 (a3 : Int)) := hS'.cell 0 rfl 3
    have r0 : wr.cell? ⟨w.heap.size + 1 + 1, 0, none⟩ = some (.int .u64 0) := hS'.cell 2 rfl 0
    have r1 : wr.cell? ⟨w.heap.size + 1 + 1, 1, none⟩ = some (.int .u64 0) := hS'.cell 2 rfl 1
    have r2 : wr.cell? ⟨w.heap.size + 1 + 1, 2, none⟩ = some (.int .u64 0) := hS'.cell 2 rfl 2
    have r3 : wr.cell? ⟨w.heap.size + 1 + 1, 3, none⟩ = some (.int .u64 0) := hS'.cell 2 rfl 3
    have f0 := hS'.free 2 rfl 0
    have f1 := hS'.free 2 rfl 1
    have f2 := hS'.free 2 rfl 2
    have f3 := hS'.free 2 rfl 3
    have HS := hide ((((hS'.setCell 2 rfl 0 (.int .u64 (a0 : Int))).setCell 2 rfl 1 (.int .u64 (a1 : Int))).setCell 2 rfl 2 (.int .u64 (a2 : Int))).setCell 2 rfl 3 (.int .u64 (a3 : Int)))
    have HV := hide hval
    have HW := hide hcw
    clear hS hS' hval hcd hcw
    go_wp2_with fail
    refine bodyPost_ret (results_cell_tmp_row rfl _ _ (w.heap.size + 1 + 1) _ _ _ _ rfl (HS.out.heap 2 rfl) Tryz.underlying120 rfl (by kernel_rfl)) rfl ?_
    refine ⟨[a0, a1, a2, a3], rfl, HW.out, b, hb, ?_, ?_, HS.out.below⟩
    ·have := HV.out
     rw [List.take_of_length_le (by simp), List.take_of_length_le (by rw [HYL.out]; omega), List.take_of_length_le (by rw [HXL.out]; omega)] at this
     omega
    ·rfl
end Go.Proofs.YtnohmgpmmhlloaaGreatDoor.S3

namespace Go.Proofs.YtnohmgpmmhlloaaGreatDoor.S3
open Go.RowKit

@[irreducible] def o0 : Nat := 6346243789798364141
@[irreducible] def o1 : Nat := 1503914060200516822
@[irreducible] def o2 : Nat := 0
@[irreducible] def o3 : Nat := 1152921504606846976
@[irreducible] def Lq : Nat := 7237005577332262213973186563042994240857116359379907606001950938285454250989
theorem ord_words : Words [o0, o1, o2, o3] := by unfold o0 o1 o2 o3 Words; decide
theorem lv_ord : lv [o0, o1, o2, o3] = Lq := by unfold o0 o1 o2 o3 Lq; decide
theorem Lq_lt : 2 * Lq < 18446744073709551616 ^ 4 ∧ 0 < Lq := by unfold Lq; decide
theorem enOrder (args : Array Value) (w : World) : (callFunc 94 args).run Tryz.prog w = .ok (.enter 94 args) w := by kernel_rfl
theorem enLess (args : Array Value) (w : World) : (callFunc 93 args).run Tryz.prog w = .ok (.enter 93 args) w := by kernel_rfl
theorem order_any (w : World) : Calls Tryz.prog 94 #[] w fun e w' => e = .returned (.agg #[.int .u64 (o0 : Int), .int .u64 (o1 : Int), .int .u64 (o2 : Int), .int .u64 (o3 : Int)]) ∧ Below w.heap.size w w' := by
 have hS := (St.init w NoB).alloc #[.int .u64 6346243789798364141, .int .u64 1503914060200516822, .int .u64 0, .int .u64 1152921504606846976] 120
 have HS := hide hS
 clear hS
 go_enter Tryz.func94, Tryz.ntmps94
 go_wp2_with fail
 refine bodyPost_ret (results_cell_row rfl _ _ w.heap.size _ _ _ _ rfl (HS.out.heap 0 rfl) Tryz.underlying120 rfl (by kernel_rfl)) rfl ?_
 exact ⟨by unfold o0 o1 o2 o3; rfl, HS.out.below⟩
theorem less_any (a0 a1 a2 a3 b0 b1 b2 b3 : Nat) (w : World) (ha : Words [a0, a1, a2, a3]) (hb : Words [b0, b1, b2, b3]) :
  Calls Tryz.prog 93 #[.agg #[.int .u64 (a0 : Int), .int .u64 (a1 : Int), .int .u64 (a2 : Int), .int .u64 (a3 : Int)], .agg #[.int .u64 (b0 : Int), .int .u64 (b1 : Int), .int .u64 (b2 : Int), .int .u64 (b3 : Int)]] w fun e w' =>
   ∃ r0 r1 r2 r3 b : Nat, Words [r0, r1, r2, r3] ∧ b ≤ 1 ∧ lv [r0, r1, r2, r3] + lv [b0, b1, b2, b3] = lv [a0, a1, a2, a3] + b * 18446744073709551616 ^ 4 ∧
    e = .returned (.tuple #[.agg #[.int .u64 (r0 : Int), .int .u64 (r1 : Int), .int .u64 (r2 : Int), .int .u64 (r3 : Int)], .bool (decide (0 < b))]) ∧ Below w.heap.size w w' := by
 refine (less_walk [a0, a1, a2, a3] [b0, b1, b2, b3] w rfl rfl ha hb).mono ?_
 rintro e w' ⟨rs, hrl, hrw, b, hb1, hv, rfl, hbl⟩
 match rs, hrl with
 | [r0, r1, r2, r3], _ => exact ⟨r0, r1, r2, r3, b, hrw, hb1, hv, rfl, hbl⟩

@[irreducible] def dbW (x b : Nat) : Nat := 2 * x % 18446744073709551616 + b
@[irreducible] def dbH (x : Nat) : Nat := x / 9223372036854775808
theorem db_spec (x b : Nat) (hx : x < 18446744073709551616) (hb : b ≤ 1) : dbW x b + dbH x * 18446744073709551616 = 2 * x + b ∧ dbW x b < 18446744073709551616 ∧ dbH x ≤ 1 := by
 unfold dbW dbH
 omega
theorem or_db (x b : Nat) (hx : x < 18446744073709551616) (hb : b ≤ 1) : bits .or .u64 (IntKind.u64.wrap ((x : Int) * 2)) (b : Int) = ((dbW x b : Nat) : Int) := by
 have e : IntKind.u64.wrap ((x : Int) * 2) = ((2 * x % 18446744073709551616 : Nat) : Int) := by rw [IntKind.wrap_u64]; omega
 rw [e, u64_or_nat _ _ (by omega) (by omega)]
 unfold dbW
 congr 1
 have h1 : 2 * x % 18446744073709551616 % 2 = 0 := by omega
 have := nat_join 1 (2 * x % 18446744073709551616) b h1 (by omega)
 exact this
def NextRel (w : World) (g : Nat) (H : List Chunk) (xs : List Nat) (bit : Nat) (bv i : Value) (wr : World) : Prop :=
 ∃ (k b : Nat) (cur : List Nat), k ≤ 4 ∧ i = .int .i64 (k : Int) ∧ bv = .int .u64 (b : Int) ∧ b ≤ 1 ∧ cur.length = 4 ∧ Words cur ∧ cur.drop k = xs.drop k ∧
  lv (cur.take k) + b * 18446744073709551616 ^ k = 2 * lv (xs.take k) + bit ∧ St w NoB wr (.cells g (uvs cur).toArray 120 :: H)
theorem next_step (xs cur : List Nat) (k b bit x : Nat) (hk : k < 4) (hl : cur.length = 4) (hx : xs[k]? = some x) (hx2 : x < 18446744073709551616) (hb : b ≤ 1)
  (h : lv (cur.take k) + b * 18446744073709551616 ^ k = 2 * lv (xs.take k) + bit) :
  lv ((cur.set k (dbW x b)).take (k + 1)) + dbH x * 18446744073709551616 ^ (k + 1) = 2 * lv (xs.take (k + 1)) + bit := by
 obtain ⟨h1, _, _⟩ := db_spec x b hx2 hb
 rw [lv_take_set cur k _ (by omega), lv_take hx, Nat.pow_succ]
 have h2 := congrArg (· * 18446744073709551616 ^ k) h1
 simp only [Nat.add_mul] at h2
 rw [show dbH x * (18446744073709551616 ^ k * 18446744073709551616) = dbH x * 18446744073709551616 * 18446744073709551616 ^ k from by rw [Nat.mul_comm (18446744073709551616 ^ k), Nat.mul_assoc]]
 rw [Nat.mul_assoc 2 x] at h2
 omega
def ResNum (w : World) (v : Nat) (e : Ending) (w' : World) : Prop := ∃ rs : List Nat, rs.length = 4 ∧ Words rs ∧ lv rs = v ∧ e = .returned (numA rs) ∧ Below w.heap.size w w'
theorem next_end (xs cur rs : List Nat) (b bo bit : Nat) (hx : lv xs < Lq) (hbit : bit ≤ 1) (hc : Words cur) (hcl : cur.length = 4) (hr : Words rs) (hrl : rs.length = 4)
  (h : lv cur + b * 18446744073709551616 ^ 4 = 2 * lv xs + bit) (h2 : lv rs + Lq = lv cur + bo * 18446744073709551616 ^ 4) (hbo : bo ≤ 1) :
  (0 < bo → lv cur = (2 * lv xs + bit) % Lq) ∧ (bo = 0 → lv rs = (2 * lv xs + bit) % Lq) := by
 have hL := Lq_lt
 have h3 := lv_lt cur hc
 have h4 := lv_lt rs hr
 rw [hcl] at h3
 rw [hrl] at h4
 generalize hB : 18446744073709551616 ^ 4 = B at *
 have hb0 : b = 0 := by
  rcases Nat.eq_zero_or_pos b with h | h
  ·exact h
  ·have : B ≤ b * B := Nat.le_mul_of_pos_left B h
   omega
 subst hb0
 refine ⟨fun hp => ?_, fun hp => ?_⟩
 ·have : bo = 1 := by omega
  subst this
  rw [Nat.mod_eq_of_lt (by omega)]
  omega
 ·subst hp
  have e : 2 * lv xs + bit = lv rs + Lq := by omega
  rw [e, Nat.add_mod_right, Nat.mod_eq_of_lt (by omega)]
theorem next_walk (xs : List Nat) (bit : Nat) (w : World) (hxl : xs.length = 4) (hxw : Words xs) (hx : lv xs < Lq) (hbit : bit ≤ 1) :
  Calls Tryz.prog 132 #[numA xs, .int .u64 (bit : Int)] w (ResNum w ((2 * lv xs + bit) % Lq)) := by
 have EN := next_end xs
 unfold numA
 have hS0 := ((St.init w NoB).alloc (uvs xs).toArray 120).alloc #[.int .u64 0, .int .u64 0, .int .u64 0, .int .u64 0] 120
 have HS0 := hide hS0
 have HXL := hide hxl
 have HXW := hide hxw
 have HEN := hide EN
 have HX := hide hx
 clear hS0 hxl hxw EN hx
 go_enter Tryz.func132, Tryz.ntmps132
 go_wp2_with fail
 go_loopw [1, 8] (fun b i wr => NextRel w w.heap.size [.cells (w.heap.size + 1) #[.int .u64 0, .int .u64 0, .int .u64 0, .int .u64 0] 120] xs bit b i wr) (fun _ i _ => 4 - (intOf i).toNat)
 case atStart =>
  have hS := HS0.out
  simp only [size_alloc1] at hS
  exact ⟨0, bit, xs, by omega, rfl, rfl, hbit, HXL.out, HXW.out, rfl, by simp [lv], hS.swap⟩
 case round =>
  obtain ⟨k, b, cur, hk, rfl, rfl, hb, hcl, hcw, hcd, hval, hS⟩ := hrel
  by_cases hlt : k < 4
  ·obtain ⟨x, hx⟩ := lim_get xs HXL.out k hlt
   have hcx : cur[k]? = some x := by
    have := congrArg (·[0]?) hcd
    simpa [List.getElem?_drop, hx] using this
   have hx2 := words_get HXW.out hx
   have hstep := hide (next_step xs cur k b bit x hlt hcl hx hx2 hb hval)
   obtain ⟨_, hd1, hd2⟩ := db_spec x b hx2 hb
   have hS' := hS.drew
   have hHS := hide hS'
   have cn : ∀ z, From wr.drew z → z.cell? ⟨w.heap.size, k, none⟩ = some (.int .u64 (x : Int)) := fun z hz => by
    rw [hz.cell (p := ⟨w.heap.size, k, none⟩) (Chunk.lt (hHS.out.sat 0 _ rfl) rfl), hHS.out.cell 0 rfl k]
    exact uvs_get hcx
   have hor := or_db x b hx2 hb
   have hsh : (x : Int) / 9223372036854775808 = ((dbH x : Nat) : Int) := by unfold dbH; omega
   have D1 := hide hd1
   have HCD := hide hcd
   have HCW := hide hcw
   have HCL := hide hcl
   clear hS hS' hx hcx hx2 hval hd1 hcd hcw hcl
   go_wp2_with fail
   refine wp_region_M (fun i => i == 12) (From wr.drew) (by kernel_rfl) ?_
   (refine wpM_take (i := 0) (v := ?_) rfl (by kernel_rfl) (by kernel_rfl) (by kernel_rfl) (fun _ _ _ h => h) (From.refl _) rfl (by kernel_rfl) (Or.inl ⟨by first | kernel_rfl | rfl, ?_⟩) ?_; rotate_left; (intro wx hx; go_simp) <;> (with_reducible rfl); (try simp only [Act.put, nq1, nq2, nq3, nq4, nq5, nq6])); (refine wpM_take (i := 1) (v := ?_) rfl (by kernel_rfl) (by kernel_rfl) (by kernel_rfl) (fun _ _ _ h => h) (From.refl _) rfl (by kernel_rfl) (Or.inl ⟨by first | kernel_rfl | rfl, ?_⟩) ?_; rotate_left; (intro wx hx; go_simp) <;> (with_reducible rfl); (try simp only [Act.put, nq1, nq2, nq3, nq4, nq5, nq6])); (refine wpM_take (i := 2) (v := ?_) rfl (by kernel_rfl) (by kernel_rfl) (by kernel_rfl) (fun _ _ _ h => h) (From.refl _) rfl (by kernel_rfl) (Or.inl ⟨by first | kernel_rfl | rfl, ?_⟩) ?_; rotate_left; (intro wx hx; go_simp) <;> (with_reducible rfl); (try simp only [Act.put, nq1, nq2, nq3, nq4, nq5, nq6])); (refine wpM_take (i := 3) (v := ?_) rfl (by kernel_rfl) (by kernel_rfl) (by kernel_rfl) (fun _ _ _ h => h) (From.refl _) rfl (by kernel_rfl) (Or.inl ⟨by first | kernel_rfl | rfl, ?_⟩) ?_; rotate_left; (intro wx hx; go_simp) <;> (with_reducible rfl); (try simp only [Act.put, nq1, nq2, nq3, nq4, nq5, nq6])); (refine wpM_take (i := 4) (v := ?_) rfl (by kernel_rfl) (by kernel_rfl) (by kernel_rfl) (fun _ _ _ h => h) (From.refl _) rfl (by kernel_rfl) (Or.inl ⟨by first | kernel_rfl | rfl, ?_⟩) ?_; rotate_left; (intro wx hx; go_simp) <;> (with_reducible rfl); (try simp only [Act.put, nq1, nq2, nq3, nq4, nq5, nq6])); (refine wpM_take (i := 5) (v := ?_) rfl (by kernel_rfl) (by kernel_rfl) (by kernel_rfl) (fun _ _ _ h => h) (From.refl _) rfl (by kernel_rfl) (Or.inl ⟨by first | kernel_rfl | rfl, ?_⟩) ?_; rotate_left; (intro wx hx; go_simp) <;> (with_reducible rfl); (try simp only [Act.put, nq1, nq2, nq3, nq4, nq5, nq6])); (refine wpM_take (i := 6) (v := ?_) rfl (by kernel_rfl) (by kernel_rfl) (by kernel_rfl) (fun _ _ _ h => h) (From.refl _) rfl (by kernel_rfl) (Or.inl ⟨by first | kernel_rfl | rfl, ?_⟩) ?_; rotate_left; (intro wx hx; go_simp) <;> (with_reducible rfl); (try simp only [Act.put, nq1, nq2, nq3, nq4, nq5, nq6]))
   (refine wpM_takeU (i := 7) (v := ?_) rfl (by kernel_rfl) (by kernel_rfl) (by kernel_rfl) (fun _ _ _ h => h) (From.refl _) rfl (Or.inl ⟨by first | kernel_rfl | rfl, ?_⟩) ?_; rotate_left; (intro wx; go_simp) <;> (with_reducible rfl); (try simp only [Act.put, nq1, nq2, nq3, nq4, nq5, nq6]))
   (refine wpM_take (i := 8) (v := ?_) rfl (by kernel_rfl) (by kernel_rfl) (by kernel_rfl) (fun _ _ _ h => h) (From.refl _) rfl (by kernel_rfl) (Or.inl ⟨by first | kernel_rfl | rfl, ?_⟩) ?_; rotate_left; (intro wx hx; go_simp) <;> (with_reducible rfl); (try simp only [Act.put, nq1, nq2, nq3, nq4, nq5, nq6])); (refine wpM_take (i := 9) (v := ?_) rfl (by kernel_rfl) (by kernel_rfl) (by kernel_rfl) (fun _ _ _ h => h) (From.refl _) rfl (by kernel_rfl) (Or.inl ⟨by first | kernel_rfl | rfl, ?_⟩) ?_; rotate_left; (intro wx hx; go_simp) <;> (with_reducible rfl); (try simp only [Act.put, nq1, nq2, nq3, nq4, nq5, nq6]))
   (refine wpM_takeU (i := 10) (v := ?_) rfl (by kernel_rfl) (by kernel_rfl) (by kernel_rfl) (fun _ _ _ h => h) (From.refl _) rfl (Or.inl ⟨by first | kernel_rfl | rfl, ?_⟩) ?_; rotate_left; (intro wx; go_simp) <;> (with_reducible rfl); (try simp only [Act.put, nq1, nq2, nq3, nq4, nq5, nq6])); (refine wpM_takeU (i := 11) (v := ?_) rfl (by kernel_rfl) (by kernel_rfl) (by kernel_rfl) (fun _ _ _ h => h) (From.refl _) rfl (Or.inl ⟨by first | kernel_rfl | rfl, ?_⟩) ?_; rotate_left; (intro wx; go_simp) <;> (with_reducible rfl); (try simp only [Act.put, nq1, nq2, nq3, nq4, nq5, nq6]))
   (refine wpM_late (i := 12) (by kernel_rfl) rfl rfl ?_; intro K hK; (try simp only [Act.put, nq1, nq2, nq3, nq4, nq5, nq6]))
   refine step_store rfl rfl tyU64 hHS.out 0 rfl k (by rw [List.size_toArray, uvs_len, HCL.out]; exact hlt) rfl (v := .int .u64 (dbW x b : Nat)) rfl rfl ?_
   intro w2 hS2
   refine hK _ _ ?_
   clear hK K
   (try simp only [Act.put, nq1, nq2, nq3, nq4, nq5, nq6])
   (refine wpAny_take (i := 13) (v := ?_) rfl (by kernel_rfl) (by kernel_rfl) (by kernel_rfl) (fun _ _ _ h => h) (Or.inl ⟨by first | kernel_rfl | rfl, ?_⟩) ?_; rotate_left; (intro wx; go_simp) <;> (with_reducible rfl); (try simp only [Act.put, nq1, nq2, nq3, nq4, nq5, nq6]))
   refine wpAny_done (by kernel_rfl) ?_ _
   go_wp2_with fail
   go_roundw
   case rel =>
    rw [uvs_set] at hS2
    refine ⟨k + 1, dbH x, cur.set k (dbW x b), by omega, by go_num, rfl, hd2, by rw [List.length_set]; exact HCL.out, words_set HCW.out k _ D1.out, ?_, hstep.out, hS2⟩
    rw [drop_set_succ, ← List.drop_drop, HCD.out, List.drop_drop]
   case measure => simp [intOf]; omega
  ·obtain rfl : k = 4 := by omega
   match cur, hcl with
   | [a0, a1, a2, a3], hcl =>
    have hS' : St w NoB wr [.cells w.heap.size #[.int .u64 (a0 : Int), .int .u64 (a1 : Int), .int .u64 (a2 : Int), .int .u64 (a3 : Int)] 120, .cells (w.heap.size + 1) #[.int .u64 0, .int .u64 0, .int .u64 0, .int .u64 0] 120] := hS
    have HV := hide hval
    have HW := hide hcw
    have HCL := hide hcl
    have hz0 : w.heap.size < wr.heap.size := Chunk.lt (hS'.sat 0 _ rfl) rfl
    have hz1 : w.heap.size + 1 < wr.heap.size := Chunk.lt (hS'.sat 1 _ rfl) rfl
    have hz0a : w.heap.size ≤ wr.heap.size := by omega
    have hz0b : w.heap.size < wr.heap.size + 1 := by omega
    clear hS hval hcd hcw hcl
    go_upto_region 6 with fail
    go_cut [6, 7] (fun p q wx => ∃ g6 r0 r1 r2 r3 bo : Nat, p = .pointer (some ⟨g6, 0, none⟩) ∧ q = .bool (decide (0 < bo)) ∧ Words [r0, r1, r2, r3] ∧ bo ≤ 1 ∧ lv [r0, r1, r2, r3] + lv [o0, o1, o2, o3] = lv [a0, a1, a2, a3] + bo * 18446744073709551616 ^ 4 ∧
     St w NoB wx [.cells g6 #[.int .u64 (r0 : Int), .int .u64 (r1 : Int), .int .u64 (r2 : Int), .int .u64 (r3 : Int)] 120, .cells w.heap.size #[.int .u64 (a0 : Int), .int .u64 (a1 : Int), .int .u64 (a2 : Int), .int .u64 (a3 : Int)] 120, .cells (w.heap.size + 1) #[.int .u64 0, .int .u64 0, .int .u64 0, .int .u64 0] 120])
    case first =>
     have hS1 := hS'.drew
     have hSd := hide hS1
     have n0 : ∀ z, From wr.drew z → z.cell? ⟨w.heap.size, 0, none⟩ = some (.int .u64 (a0 : Int)) := fun z hz => by
      rw [hz.cell (p := ⟨w.heap.size, 0, none⟩) (Chunk.lt (hSd.out.sat 0 _ rfl) rfl)]; exact hSd.out.cell 0 rfl 0
     have n1 : ∀ z, From wr.drew z → z.cell? ⟨w.heap.size, 1, none⟩ = some (.int .u64 (a1 : Int)) := fun z hz => by
      rw [hz.cell (p := ⟨w.heap.size, 1, none⟩) (Chunk.lt (hSd.out.sat 0 _ rfl) rfl)]; exact hSd.out.cell 0 rfl 1
     have n2 : ∀ z, From wr.drew z → z.cell? ⟨w.heap.size, 2, none⟩ = some (.int .u64 (a2 : Int)) := fun z hz => by
      rw [hz.cell (p := ⟨w.heap.size, 2, none⟩) (Chunk.lt (hSd.out.sat 0 _ rfl) rfl)]; exact hSd.out.cell 0 rfl 2
     have n3 : ∀ z, From wr.drew z → z.cell? ⟨w.heap.size, 3, none⟩ = some (.int .u64 (a3 : Int)) := fun z hz => by
      rw [hz.cell (p := ⟨w.heap.size, 3, none⟩) (Chunk.lt (hSd.out.sat 0 _ rfl) rfl)]; exact hSd.out.cell 0 rfl 3
     refine wp_region_M (fun i => i == 7) (From wr.drew) (by kernel_rfl) ?_
     (refine wpM_take (i := 0) (v := ?_) rfl (by kernel_rfl) (by kernel_rfl) (by kernel_rfl) (fun _ _ _ h => h) (From.refl _) rfl (by kernel_rfl) (Or.inl ⟨by first | kernel_rfl | rfl, ?_⟩) ?_; rotate_left; (intro wx hx; go_simp) <;> (with_reducible rfl); (try simp only [Act.put, nq1, nq2, nq3, nq4, nq5, nq6]))
     refine wpM_two (i := 1) (j := 6) (by kernel_rfl) rfl rfl rfl rfl ?_ ?_ <;> intro K hK <;> (try simp only [Act.put, nq1, nq2, nq3, nq4, nq5, nq6])
     ·refine step_call rfl rfl enOrder rfl (order_any _) ?_
      rintro e w2 ⟨rfl, hb2⟩
      have hS1 := hS1.call hb2
      refine ⟨_, rfl, hK (From w2) _ _ (From.next hb2) (From.refl _) ?_⟩
      clear hK K
      (try simp only [Act.put, nq1, nq2, nq3, nq4, nq5, nq6])
      refine wpM_two (i := 2) (j := 6) (by kernel_rfl) rfl rfl rfl rfl ?_ ?_ <;> intro K hK <;> (try simp only [Act.put, nq1, nq2, nq3, nq4, nq5, nq6])
      ·refine step_call rfl rfl enLess rfl (less_any a0 a1 a2 a3 _ _ _ _ _ HW.out ord_words) ?_
       rintro e w3 ⟨r0, r1, r2, r3, bo, hrw, hbo, hrv, rfl, hb3⟩
       have hS1 := hS1.call hb3
       refine ⟨_, rfl, hK (From w3) _ _ (From.next hb3) (From.refl _) ?_⟩
       clear hK K
       (try simp only [Act.put, nq1, nq2, nq3, nq4, nq5, nq6])
       (refine wpM_takeU (i := 3) (v := ?_) rfl (by kernel_rfl) (by kernel_rfl) (by kernel_rfl) (fun _ _ _ h => h) (From.refl _) rfl (Or.inl ⟨by first | kernel_rfl | rfl, ?_⟩) ?_; rotate_left; (intro wx; go_simp) <;> (with_reducible rfl); (try simp only [Act.put, nq1, nq2, nq3, nq4, nq5, nq6])); (refine wpM_takeU (i := 4) (v := ?_) rfl (by kernel_rfl) (by kernel_rfl) (by kernel_rfl) (fun _ _ _ h => h) (From.refl _) rfl (Or.inl ⟨by first | kernel_rfl | rfl, ?_⟩) ?_; rotate_left; (intro wx; go_simp) <;> (with_reducible rfl); (try simp only [Act.put, nq1, nq2, nq3, nq4, nq5, nq6])); (refine wpM_takeU (i := 5) (v := ?_) rfl (by kernel_rfl) (by kernel_rfl) (by kernel_rfl) (fun _ _ _ h => h) (From.refl _) rfl (Or.inl ⟨by first | kernel_rfl | rfl, ?_⟩) ?_; rotate_left; (intro wx; go_simp) <;> (with_reducible rfl); (try simp only [Act.put, nq1, nq2, nq3, nq4, nq5, nq6]))
       (refine wpM_one (i := 6) (by kernel_rfl) rfl rfl ?_; intro K hK; (try simp only [Act.put, nq1, nq2, nq3, nq4, nq5, nq6]))
       refine step_alloc (zs := #[.int .u64 0, .int .u64 0, .int .u64 0, .int .u64 0]) (e := 120) rfl (fun _ => by go_simp) hS1 ?_
       intro g6 wa hS1 hba
       refine hK (From wa) _ _ (From.next hba) (From.refl _) ?_
       clear hK K
       (try simp only [Act.put, nq1, nq2, nq3, nq4, nq5, nq6])
       (refine wpM_late (i := 7) (by kernel_rfl) rfl rfl ?_; intro K hK; (try simp only [Act.put, nq1, nq2, nq3, nq4, nq5, nq6]))
       refine step_storeRow rfl rfl hS1 0 rfl rfl (cs := #[.int .u64 (r0 : Int), .int .u64 (r1 : Int), .int .u64 (r2 : Int), .int .u64 (r3 : Int)]) rfl (by kernel_rfl) rfl (by kernel_rfl) ?_
       intro w5 hS5
       refine hK _ _ ?_
       clear hK K
       (try simp only [Act.put, nq1, nq2, nq3, nq4, nq5, nq6])
       (refine wpAny_take (i := 8) (v := ?_) rfl (by kernel_rfl) (by kernel_rfl) (by kernel_rfl) (fun _ _ _ h => h) (Or.inl ⟨by first | kernel_rfl | rfl, ?_⟩) ?_; rotate_left; (intro wx; go_simp) <;> (with_reducible rfl); (try simp only [Act.put, nq1, nq2, nq3, nq4, nq5, nq6]))
       refine wpAny_done (by kernel_rfl) ?_ _
       go_wp2_with fail
       go_meet
       exact ⟨g6, r0, r1, r2, r3, bo, rfl, rfl, hrw, hbo, hrv, hS5⟩
      ·refine step_alloc (zs := #[.int .u64 0, .int .u64 0, .int .u64 0, .int .u64 0]) (e := 120) rfl (fun _ => by go_simp) hS1 ?_
       intro g6 wa hS1 hba
       refine hK (From wa) _ _ (From.next hba) (From.refl _) ?_
       clear hK K
       (try simp only [Act.put, nq1, nq2, nq3, nq4, nq5, nq6])
       (refine wpM_one (i := 2) (by kernel_rfl) rfl rfl ?_; intro K hK; (try simp only [Act.put, nq1, nq2, nq3, nq4, nq5, nq6]))
       refine step_call rfl rfl enLess rfl (less_any a0 a1 a2 a3 _ _ _ _ _ HW.out ord_words) ?_
       rintro e w3 ⟨r0, r1, r2, r3, bo, hrw, hbo, hrv, rfl, hb3⟩
       have hS1 := hS1.call hb3
       refine ⟨_, rfl, hK (From w3) _ _ (From.next hb3) (From.refl _) ?_⟩
       clear hK K
       (try simp only [Act.put, nq1, nq2, nq3, nq4, nq5, nq6])
       (refine wpM_takeU (i := 3) (v := ?_) rfl (by kernel_rfl) (by kernel_rfl) (by kernel_rfl) (fun _ _ _ h => h) (From.refl _) rfl (Or.inl ⟨by first | kernel_rfl | rfl, ?_⟩) ?_; rotate_left; (intro wx; go_simp) <;> (with_reducible rfl); (try simp only [Act.put, nq1, nq2, nq3, nq4, nq5, nq6])); (refine wpM_takeU (i := 4) (v := ?_) rfl (by kernel_rfl) (by kernel_rfl) (by kernel_rfl) (fun _ _ _ h => h) (From.refl _) rfl (Or.inl ⟨by first | kernel_rfl | rfl, ?_⟩) ?_; rotate_left; (intro wx; go_simp) <;> (with_reducible rfl); (try simp only [Act.put, nq1, nq2, nq3, nq4, nq5, nq6])); (refine wpM_takeU (i := 5) (v := ?_) rfl (by kernel_rfl) (by kernel_rfl) (by kernel_rfl) (fun _ _ _ h => h) (From.refl _) rfl (Or.inl ⟨by first | kernel_rfl | rfl, ?_⟩) ?_; rotate_left; (intro wx; go_simp) <;> (with_reducible rfl); (try simp only [Act.put, nq1, nq2, nq3, nq4, nq5, nq6]))
       (refine wpM_late (i := 7) (by kernel_rfl) rfl rfl ?_; intro K hK; (try simp only [Act.put, nq1, nq2, nq3, nq4, nq5, nq6]))
       refine step_storeRow rfl rfl hS1 0 rfl rfl (cs := #[.int .u64 (r0 : Int), .int .u64 (r1 : Int), .int .u64 (r2 : Int), .int .u64 (r3 : Int)]) rfl (by kernel_rfl) rfl (by kernel_rfl) ?_
       intro w5 hS5
       refine hK _ _ ?_
       clear hK K
       (try simp only [Act.put, nq1, nq2, nq3, nq4, nq5, nq6])
       (refine wpAny_take (i := 8) (v := ?_) rfl (by kernel_rfl) (by kernel_rfl) (by kernel_rfl) (fun _ _ _ h => h) (Or.inl ⟨by first | kernel_rfl | rfl, ?_⟩) ?_; rotate_left; (intro wx; go_simp) <;> (with_reducible rfl); (try simp only [Act.put, nq1, nq2, nq3, nq4, nq5, nq6]))
       refine wpAny_done (by kernel_rfl) ?_ _
       go_wp2_with fail
       go_meet
       exact ⟨g6, r0, r1, r2, r3, bo, rfl, rfl, hrw, hbo, hrv, hS5⟩
     ·refine step_alloc (zs := #[.int .u64 0, .int .u64 0, .int .u64 0, .int .u64 0]) (e := 120) rfl (fun _ => by go_simp) hS1 ?_
      intro g6 wa hS1 hba
      refine hK (From wa) _ _ (From.next hba) (From.refl _) ?_
      clear hK K
      (try simp only [Act.put, nq1, nq2, nq3, nq4, nq5, nq6])
      (refine wpM_one (i := 1) (by kernel_rfl) rfl rfl ?_; intro K hK; (try simp only [Act.put, nq1, nq2, nq3, nq4, nq5, nq6]))
      refine step_call rfl rfl enOrder rfl (order_any _) ?_
      rintro e w2 ⟨rfl, hb2⟩
      have hS1 := hS1.call hb2
      refine ⟨_, rfl, hK (From w2) _ _ (From.next hb2) (From.refl _) ?_⟩
      clear hK K
      (try simp only [Act.put, nq1, nq2, nq3, nq4, nq5, nq6])
      (refine wpM_one (i := 2) (by kernel_rfl) rfl rfl ?_; intro K hK; (try simp only [Act.put, nq1, nq2, nq3, nq4, nq5, nq6]))
      refine step_call rfl rfl enLess rfl (less_any a0 a1 a2 a3 _ _ _ _ _ HW.out ord_words) ?_
      rintro e w3 ⟨r0, r1, r2, r3, bo, hrw, hbo, hrv, rfl, hb3⟩
      have hS1 := hS1.call hb3
      refine ⟨_, rfl, hK (From w3) _ _ (From.next hb3) (From.refl _) ?_⟩
      clear hK K
      (try simp only [Act.put, nq1, nq2, nq3, nq4, nq5, nq6])
      (refine wpM_takeU (i := 3) (v := ?_) rfl (by kernel_rfl) (by kernel_rfl) (by kernel_rfl) (fun _ _ _ h => h) (From.refl _) rfl (Or.inl ⟨by first | kernel_rfl | rfl, ?_⟩) ?_; rotate_left; (intro wx; go_simp) <;> (with_reducible rfl); (try simp only [Act.put, nq1, nq2, nq3, nq4, nq5, nq6])); (refine wpM_takeU (i := 4) (v := ?_) rfl (by kernel_rfl) (by kernel_rfl) (by kernel_rfl) (fun _ _ _ h => h) (From.refl _) rfl (Or.inl ⟨by first | kernel_rfl | rfl, ?_⟩) ?_; rotate_left; (intro wx; go_simp) <;> (with_reducible rfl); (try simp only [Act.put, nq1, nq2, nq3, nq4, nq5, nq6])); (refine wpM_takeU (i := 5) (v := ?_) rfl (by kernel_rfl) (by kernel_rfl) (by kernel_rfl) (fun _ _ _ h => h) (From.refl _) rfl (Or.inl ⟨by first | kernel_rfl | rfl, ?_⟩) ?_; rotate_left; (intro wx; go_simp) <;> (with_reducible rfl); (try simp only [Act.put, nq1, nq2, nq3, nq4, nq5, nq6]))
      (refine wpM_late (i := 7) (by kernel_rfl) rfl rfl ?_; intro K hK; (try simp only [Act.put, nq1, nq2, nq3, nq4, nq5, nq6]))
      refine step_storeRow rfl rfl hS1 0 rfl rfl (cs := #[.int .u64 (r0 : Int), .int .u64 (r1 : Int), .int .u64 (r2 : Int), .int .u64 (r3 : Int)]) rfl (by kernel_rfl) rfl (by kernel_rfl) ?_
      intro w5 hS5
      refine hK _ _ ?_
      clear hK K
      (try simp only [Act.put, nq1, nq2, nq3, nq4, nq5, nq6])
      (refine wpAny_take (i := 8) (v := ?_) rfl (by kernel_rfl) (by kernel_rfl) (by kernel_rfl) (fun _ _ _ h => h) (Or.inl ⟨by first | kernel_rfl | rfl, ?_⟩) ?_; rotate_left; (intro wx; go_simp) <;> (with_reducible rfl); (try simp only [Act.put, nq1, nq2, nq3, nq4, nq5, nq6]))
      refine wpAny_done (by kernel_rfl) ?_ _
      go_wp2_with fail
      go_meet
      exact ⟨g6, r0, r1, r2, r3, bo, rfl, rfl, hrw, hbo, hrv, hS5⟩
    case rest =>
     obtain ⟨g6, r0, r1, r2, r3, bo, rfl, rfl, hrw, hbo, hrv, hS6⟩ := hcut
     obtain ⟨hE1, hE2⟩ := HEN.out [a0, a1, a2, a3] [r0, r1, r2, r3] b bo bit HX.out hbit HW.out HCL.out hrw rfl (by
      have := HV.out
      rw [List.take_of_length_le (by simp), List.take_of_length_le (by rw [HXL.out]; omega)] at this
      exact this) (by rw [← lv_ord]; exact hrv) hbo
     have HE1 := hide hE1
     have HE2 := hide hE2
     have HRW := hide hrw
     have hne : g6 ≠ w.heap.size + 1 := fun h => hS6.apart 0 2 _ _ g6 (by omega) rfl rfl rfl (by rw [h]; rfl)
     have hne2 : w.heap.size ≠ w.heap.size + 1 := by omega
     clear hE1 hE2 hrv hrw
     by_cases hbo0 : bo = 0
     ·subst hbo0
      have qr0 : wc.cell? ⟨g6, 0, none⟩ = some (.int .u64 (r0 : Int)) := hS6.cell 0 rfl 0
      have qr1 : wc.cell? ⟨g6, 1, none⟩ = some (.int .u64 (r1 : Int)) := hS6.cell 0 rfl 1
      have qr2 : wc.cell? ⟨g6, 2, none⟩ = some (.int .u64 (r2 : Int)) := hS6.cell 0 rfl 2
      have qr3 : wc.cell? ⟨g6, 3, none⟩ = some (.int .u64 (r3 : Int)) := hS6.cell 0 rfl 3
      have z0 : wc.cell? ⟨w.heap.size + 1, 0, none⟩ = some (.int .u64 0) := hS6.cell 2 rfl 0
      have z1 : wc.cell? ⟨w.heap.size + 1, 1, none⟩ = some (.int .u64 0) := hS6.cell 2 rfl 1
      have z2 : wc.cell? ⟨w.heap.size + 1, 2, none⟩ = some (.int .u64 0) := hS6.cell 2 rfl 2
      have z3 : wc.cell? ⟨w.heap.size + 1, 3, none⟩ = some (.int .u64 0) := hS6.cell 2 rfl 3
      have f0 := hS6.free 2 rfl 0
      have f1 := hS6.free 2 rfl 1
      have f2 := hS6.free 2 rfl 2
      have f3 := hS6.free 2 rfl 3
      have HS := hide ((((hS6.setCell 2 rfl 0 (.int .u64 (r0 : Int))).setCell 2 rfl 1 (.int .u64 (r1 : Int))).setCell 2 rfl 2 (.int .u64 (r2 : Int))).setCell 2 rfl 3 (.int .u64 (r3 : Int)))
      clear hS6
      go_wp2_with fail
      refine bodyPost_ret (results_cell_row rfl _ _ (w.heap.size + 1) _ _ _ _ rfl (HS.out.heap 2 rfl) Tryz.underlying120 rfl (by kernel_rfl)) rfl ?_
      exact ⟨[r0, r1, r2, r3], rfl, HRW.out, HE2.out (by trivial), rfl, HS.out.below⟩
     ·have hdb : decide (0 < bo) = true := by simp; omega
      have qa0 : wc.cell? ⟨w.heap.size, 0, none⟩ = some (.int .u64 (a0 : Int)) := hS6.cell 1 rfl 0
      have qa1 : wc.cell? ⟨w.heap.size, 1, none⟩ = some (.int .u64 (a1 : Int)) := hS6.cell 1 rfl 1
      have qa2 : wc.cell? ⟨w.heap.size, 2, none⟩ = some (.int .u64 (a2 : Int)) := hS6.cell 1 rfl 2
      have qa3 : wc.cell? ⟨w.heap.size, 3, none⟩ = some (.int .u64 (a3 : Int)) := hS6.cell 1 rfl 3
      have z0 : wc.cell? ⟨w.heap.size + 1, 0, none⟩ = some (.int .u64 0) := hS6.cell 2 rfl 0
      have z1 : wc.cell? ⟨w.heap.size + 1, 1, none⟩ = some (.int .u64 0) := hS6.cell 2 rfl 1
      have z2 : wc.cell? ⟨w.heap.size + 1, 2, none⟩ = some (.int .u64 0) := hS6.cell 2 rfl 2
      have z3 : wc.cell? ⟨w.heap.size + 1, 3, none⟩ = some (.int .u64 0) := hS6.cell 2 rfl 3
      have f0 := hS6.free 2 rfl 0
      have f1 := hS6.free 2 rfl 1
      have f2 := hS6.free 2 rfl 2
      have f3 := hS6.free 2 rfl 3
      have HS := hide ((((hS6.setCell 2 rfl 0 (.int .u64 (a0 : Int))).setCell 2 rfl 1 (.int .u64 (a1 : Int))).setCell 2 rfl 2 (.int .u64 (a2 : Int))).setCell 2 rfl 3 (.int .u64 (a3 : Int)))
      clear hS6
      go_wp2_with fail
      refine bodyPost_ret (results_cell_row rfl _ _ (w.heap.size + 1) _ _ _ _ rfl (HS.out.heap 2 rfl) Tryz.underlying120 rfl (by kernel_rfl)) rfl ?_
      exact ⟨[a0, a1, a2, a3], rfl, HW.out, HE1.out (by omega), rfl, HS.out.below⟩
end Go.Proofs.YtnohmgpmmhlloaaGreatDoor.S3
