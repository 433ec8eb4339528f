/-
  Layer 18: a store and the page's store, side by side: what each answers, one step of each.
-/
import Derived.Test.YthpioncehigoaaaYx
import Derived.Test.YthpioncehigoaaaYy
namespace Go.Proofs.Ythpioncehigoaaa
open Go.RowKit
set_option linter.unusedSimpArgs false

/-- A fact's cells. -/
def CsF (x : World) (b o : Nat) (f : Fc) : Prop := x.cell? ⟨b, o, none⟩ = some (.string (strOf f.name)) ∧ x.cell? ⟨b, o + 1, none⟩ = some (.slice f.A f.ts.length f.c) ∧ x.cell? ⟨b, o + 2, none⟩ = some (.int .u32 f.o)
/-- A store that holds the first ks, the page's that holds the first kx. -/
structure PlI (w0 : World) (l : List Fc) (p q ks kx : Nat) (W : World) (A : Option Addr) (c : Nat) (S : List Fc) (B : Option Addr) (d : Nat) (X : List Fc) (T : List Chunk) : Prop where
  st : St w0 NoB W (StoC p A c S ++ (RstC q B d X ++ T))
  i : StoE (OneB q) W p A c S
  sm : S.map shF = made (l.take ks)
  xm : X.map shF = made (l.take kx)
  ls : S.length ≤ ks
  lx : X.length ≤ kx
  xl : ∀ g ∈ X, g ∈ l
  ok : ∀ g ∈ l, FcOK w0 g
  hp : w0.heap.size ≤ p
  hq : w0.heap.size ≤ q
section
variable {w0 W W' : World} {l : List Fc} {p q ks kx : Nat} {A B : Option Addr} {c d : Nat} {S X : List Fc} {T : List Chunk}
theorem PlI.at (h : PlI w0 l p q ks kx W A c S B d X T) (hb : Below W.heap.size W W') : PlI w0 l p q ks kx W' A c S B d X T :=
  ⟨h.st.call hb, h.i.at hb, h.sm, h.xm, h.ls, h.lx, h.xl, h.ok, h.hp, h.hq⟩
theorem PlI.alloc (h : PlI w0 l p q ks kx W A c S B d X []) (cs : Array Value) (e : TypeId) : PlI w0 l p q ks kx (W.alloc (.cells cs e)) A c S B d X [.cells W.heap.size cs e] :=
  ⟨(h.st.alloc cs e).pickL [1, 2, 3, 4, 0] (by decide) rfl, h.i.at ((Below.refl _ _).al _), h.sm, h.xm, h.ls, h.lx, h.xl, h.ok, h.hp, h.hq⟩
theorem PlI.drop {g : Chunk} (h : PlI w0 l p q ks kx W A c S B d X [g]) : PlI w0 l p q ks kx W A c S B d X [] :=
  ⟨h.st.pickL [0, 1, 2, 3] (by decide) rfl, h.i, h.sm, h.xm, h.ls, h.lx, h.xl, h.ok, h.hp, h.hq⟩
theorem PlI.sto (h : PlI w0 l p q ks kx W A c S B d X T) : Sto W p S := sto_of h.st h.i
theorem PlI.fact (h : PlI w0 l p q ks kx W A c S B d X T) {f : Fc} (hf : f ∈ l) : FcOK W f := (h.ok f hf).on h.st.below
theorem PlI.row (h : PlI w0 l p q ks kx W A c S B d X T) : FcsAt W (.slice B X.length d) X := ⟨h.st.rd 3 rfl, fun g hg => h.fact (h.xl g hg)⟩
theorem PlI.risX (h : PlI w0 l p q ks kx W A c S B d X T) : RisF X := risF_sh (l := made (l.take kx)) (by rw [← h.xm]; exact (sh_self rfl).symm) (made_ris _)
theorem PlI.lenX (h : PlI w0 l p q ks kx W A c S B d X T) : X.length = (made (l.take kx)).length := map_len h.xm
theorem PlI.lenS (h : PlI w0 l p q ks kx W A c S B d X T) : S.length = (made (l.take ks)).length := map_len h.sm
theorem PlI.has (h : PlI w0 l p q ks kx W A c S B d X T) (h6 : ks ≤ 600) {f : Fc} (hf : f ∈ l) : Calls Try.prog 17 #[.pointer (some ⟨p, 0, none⟩), f.val] W fun e w' => e = .returned (.bool (hasX (made (l.take ks)) f)) ∧ Below W.heap.size W w' := by
  rw [← has_sh (f := f) (f' := f) rfl (sh_self h.sm)]
  exact hasS h.sto (by have := h.ls; omega) (h.fact hf)
theorem PlI.hasR (h : PlI w0 l p q ks kx W A c S B d X T) (h6 : kx ≤ 600) {f : Fc} (hf : f ∈ l) : Calls Try.prog 19 #[.pointer (some ⟨q, 0, none⟩), f.val] W fun e w' => e = .returned (.bool (hasX (made (l.take kx)) f)) ∧ Below W.heap.size W w' := by
  rw [← has_sh (f := f) (f' := f) rfl (sh_self h.xm)]
  exact hasR18_any q B d X f W (h.st.cell 2 rfl 0) h.row h.risX (h.fact hf) (by have := h.lx; omega)
theorem PlI.len (h : PlI w0 l p q ks kx W A c S B d X T) : Calls Try.prog 15 #[.pointer (some ⟨p, 0, none⟩)] W fun e w' => e = .returned (.int .i64 ((made (l.take ks)).length : Int)) ∧ W = w' := by
  rw [← h.lenS]
  exact Go.Proofs.Ythpioncehigoaaa.lenS h.sto
theorem PlI.cell (h : PlI w0 l p q ks kx W A c S B d X T) : W.cell? ⟨q, 0, none⟩ = some (.slice B (made (l.take kx)).length d) := by
  rw [← h.lenX]
  exact h.st.cell 2 rfl 0
theorem PlI.all (h : PlI w0 l p q ks kx W A c S B d X T) (h6 : ks ≤ 600) : Calls Try.prog 13 #[.pointer (some ⟨p, 0, none⟩)] W fun e w' => ∃ B' l', e = .returned (.slice B' l'.length l'.length) ∧ l'.map shF = (made (l.take ks)).map shF ∧ l'.length ≤ 600 ∧ FcsAt w' (.slice B' l'.length l'.length) l' ∧ Below W.heap.size W w' :=
  (allS h.sto (by have := h.ls; omega)).mono fun e w' ⟨B', l', e1, e2, e3, e4⟩ => ⟨B', l', e1, e2.trans (sh_self h.sm), by have := congrArg List.length e2; rw [List.length_map, List.length_map] at this; have := h.ls; omega, e3, e4⟩
theorem PlI.named (h : PlI w0 l p q ks kx W A c S B d X T) (h6 : ks ≤ 600) (s : List UInt8) (nn : Int) : Calls Try.prog 23 #[.pointer (some ⟨p, 0, none⟩), .string (strOf s), .int .i64 nn] W fun e w' => ∃ B' l', e = .returned (.slice B' l'.length l'.length) ∧ l'.map shF = (namF s nn (made (l.take ks))).map shF ∧ l'.length ≤ 600 ∧ FcsAt w' (.slice B' l'.length l'.length) l' ∧ Below W.heap.size W w' :=
  (named18_any p S s nn W h.sto (by have := h.ls; omega)).mono fun e w' ⟨B', l', e1, e2, e3, e4⟩ => ⟨B', l', e1, e2.trans (namF_sh s nn (sh_self h.sm)), by
    have := congrArg List.length e2
    rw [List.length_map, List.length_map] at this
    have h3 : (namF s nn S).length ≤ S.length := List.length_filter_le _ _
    have := h.ls
    omega, e3, e4⟩
theorem PlI.namedR (h : PlI w0 l p q ks kx W A c S B d X T) (h6 : kx ≤ 600) (s : List UInt8) (nn : Int) : Calls Try.prog 24 #[.pointer (some ⟨q, 0, none⟩), .string (strOf s), .int .i64 nn] W fun e w' => ∃ B' d' l', e = .returned (.slice B' l'.length d') ∧ l'.map shF = (namF s nn (made (l.take kx))).map shF ∧ l'.length ≤ 600 ∧ FcsAt w' (.slice B' l'.length d') l' ∧ Below W.heap.size W w' :=
  (namedR18_any q B d X s nn W (h.st.cell 2 rfl 0) h.row (by have := h.lx; omega)).mono fun e w' ⟨B', d', e1, e3, e4⟩ => ⟨B', d', _, e1, namF_sh s nn (sh_self h.xm), by
    have h3 : (namF s nn X).length ≤ X.length := List.length_filter_le _ _
    have := h.lx
    omega, e3, e4⟩
/-- One step of the store. -/
theorem PlI.add {k : Nat} (h : PlI w0 l p q k kx W A c S B d X T) (h6 : k ≤ 600) {f : Fc} (hf : l[k]? = some f) :
    Calls Try.prog 20 #[.pointer (some ⟨p, 0, none⟩), f.val] W fun e w' => ∃ A' c' S', e = .returned (.bool (addB (made (l.take k)) f)) ∧ PlI w0 l p q (k + 1) kx w' A' c' S' B d X T := by
  have hown : ∀ j, StoB p A S.length c j ∨ OneB q j → w0.heap.size ≤ j := fun j hj => by
    rcases hj with (hj | hj) | hj
    · rw [hj]; exact h.hp
    · rcases h.st.own 1 _ j rfl hj with h' | h'
      · exact h'
      · exact h'.elim
    · rw [show j = q from hj]; exact h.hq
  have hEl : ∀ j, OneB q j → j < W.heap.size := fun j hj => by
    rw [show j = q from hj]
    exact Chunk.lt (h.st.sat 2 _ rfl) rfl
  refine (addE_step (OneB q) p A c S f h.st h.i hEl (by have := h.ls; omega) ((h.ok f (List.mem_of_getElem? hf)).csub (mask_old h.st.below hown))).mono fun e w' ⟨A', c', S', e1, hx, hl, hst, hi, hE⟩ => ?_
  refine ⟨A', c', S', by rw [e1, addB_sh h.sm], hst _ _ _ h.st, hi, ?_, h.xm, by have := h.ls; omega, h.lx, h.xl, h.ok, h.hp, h.hq⟩
  rw [hx, h.sm]
  exact (foldl_take addX [] l k f hf).symm
/-- One step of the page's. -/
theorem PlI.radd {k : Nat} (h : PlI w0 l p q ks k W A c S B d X T) (h6 : k ≤ 600) {f : Fc} (hf : l[k]? = some f) (hT : T.length = 1) :
    Calls Try.prog 21 #[.pointer (some ⟨q, 0, none⟩), f.val] W fun e w' => ∃ B' d' X', e = .returned (.bool (addB (made (l.take k)) f)) ∧ PlI w0 l p q ks (k + 1) w' A c S B' d' X' T := by
  obtain ⟨g, rfl⟩ : ∃ g, T = [g] := by
    match T, hT with
    | [g], _ => exact ⟨g, rfl⟩
  have hmem := List.mem_of_getElem? hf
  refine (radd_step (w0 := w0) (M0 := NoB) (H := StoC p A c S ++ [g]) q B d X f (h.st.pickL [2, 3, 0, 1, 4] (by decide) rfl) (fun g hg => h.fact (h.xl g hg)) h.risX (by have := h.lx; omega) (h.fact hmem)).mono fun e w' ⟨B', d', X', e1, hx, hl, hm, hst, hE⟩ => ?_
  refine ⟨B', d', X', by rw [e1, addB_sh h.xm], (hst w0 NoB (StoC p A c S ++ [g]) (h.st.pickL [2, 3, 0, 1, 4] (by decide) rfl)).pickL [2, 3, 0, 1, 4] (by decide) rfl, ⟨fun g hg => (h.i.ok g hg).csub (mask_ext fun j hj hmm => ⟨hmm, hE.block j hj fun e => hmm (.inr e)⟩), h.i.ris, h.i.may⟩, h.sm, ?_, h.ls, by have := h.lx; omega, fun g hg => ?_, h.ok, h.hp, h.hq⟩
  · rw [hx, h.xm]
    exact (foldl_take addX [] l k f hf).symm
  · rcases hm g hg with e | e
    · rw [e]; exact hmem
    · exact h.xl g e
end
theorem sameF_self : ∀ l : List Fc, sameF l l = true
  | [] => rfl
  | x :: l => by rw [sameF, cmpF_ord.self, sameF_self l]; rfl
theorem sameF_map {a b l : List Fc} (ha : a.map shF = l.map shF) (hb : b.map shF = l.map shF) : sameF a b = true := by
  rw [sameF_sh ha hb]
  exact sameF_self l
/-- What the law reads of the facts in a round. -/
def PlS (g b o j : Nat) (f l0 lp : Fc) (x : World) : Prop :=
  x.cell? ⟨g, 0, none⟩ = some (.string (strOf f.name)) ∧ x.cell? ⟨g, 1, none⟩ = some (.slice f.A f.ts.length f.c) ∧ x.cell? ⟨g, 2, none⟩ = some (.int .u32 f.o) ∧
  x.cell? ⟨b, o, none⟩ = some (.string (strOf l0.name)) ∧ x.cell? ⟨b, o + 1, none⟩ = some (.slice l0.A l0.ts.length l0.c) ∧ x.cell? ⟨b, o + 2, none⟩ = some (.int .u32 l0.o) ∧
  x.cell? ⟨b, o + j * 3, none⟩ = some (.string (strOf lp.name)) ∧ x.cell? ⟨b, o + j * 3 + 1, none⟩ = some (.slice lp.A lp.ts.length lp.c) ∧ x.cell? ⟨b, o + j * 3 + 2, none⟩ = some (.int .u32 lp.o)
theorem PlI.pls {w0 W : World} {l : List Fc} {p q ks kx : Nat} {A B : Option Addr} {c d : Nat} {S X : List Fc} {g b o j : Nat} {f l0 lp : Fc} (h : PlI w0 l p q ks kx W A c S B d X [.cells g #[.string (strOf f.name), .slice f.A f.ts.length f.c, .int .u32 f.o] 27]) (hb : b < w0.heap.size) (h0 : CsF w0 b o l0) (h1 : CsF w0 b (o + j * 3) lp) : PlS g b o j f l0 lp W := by
  have key : ∀ (o : Nat) (x : Fc), CsF w0 b o x → CsF W b o x := fun o x hx => ⟨(h.st.below.cell (p := ⟨b, o, none⟩) hb).trans hx.1, (h.st.below.cell (p := ⟨b, o + 1, none⟩) hb).trans hx.2.1, (h.st.below.cell (p := ⟨b, o + 2, none⟩) hb).trans hx.2.2⟩
  obtain ⟨a1, a2, a3⟩ := key _ _ h0
  obtain ⟨b1, b2, b3⟩ := key _ _ h1
  exact ⟨h.st.cell 4 rfl 0, h.st.cell 4 rfl 1, h.st.cell 4 rfl 2, a1, a2, a3, b1, b2, b3⟩
end Go.Proofs.Ythpioncehigoaaa
