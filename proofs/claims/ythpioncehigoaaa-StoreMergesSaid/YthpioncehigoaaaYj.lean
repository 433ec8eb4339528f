/-
  Layer 18: a fact added to a store.
-/
import Derived.Test.YthpioncehigoaaaYi
set_option linter.unusedVariables false
namespace Go.Proofs.Ythpioncehigoaaa
open Go.RowKit
set_option linter.unusedSimpArgs false

/-- What a store holds. -/
def StoC (p : Nat) (A : Option Addr) (c : Nat) (S : List Fc) : List Chunk := [.cells p #[.slice A S.length c] 67, .row (.slice A S.length c) 27 3 S.length (fcCells S)]
def StoM (p : Nat) (A : Option Addr) (n c : Nat) : Nat → Prop := fun k => k = p ∨ (Value.slice A n c).ownBlock = some k
/-- Some of what is held, by itself. -/
theorem St.soloL {w0 w : World} {M : Nat → Prop} {B : List Chunk} : ∀ (D : List Chunk), St w0 M w (D ++ B) → St w (fun k => ∃ c ∈ D, c.block = some k) w D := fun D h => by
  have key : ∀ (i : Nat) (c : Chunk), D[i]? = some c → (D ++ B)[i]? = some c := fun i c hc => by
    rw [List.getElem?_append_left (List.getElem?_eq_some_iff.1 hc).1]
    exact hc
  exact ⟨Ext.refl _ _, fun i c hc => h.sat i c (key i c hc), fun i c k hc hk => .inr ⟨c, List.mem_of_getElem? hc, hk⟩, fun i j c d k hij hc hd => h.apart i j c d k hij (key i c hc) (key j d hd)⟩
theorem St.backL {w0 w w' : World} {M : Nat → Prop} {D D' B : List Chunk} (h : St w0 M w (D ++ B)) (h' : St w (fun k => ∃ c ∈ D, c.block = some k) w' D') : St w0 M w' (D' ++ B) := by
  have hD : ∀ (c : Chunk), c ∈ D → ∃ i, (D ++ B)[i]? = some c ∧ i < D.length := fun c hc => by
    obtain ⟨i, hi⟩ := List.getElem?_of_mem hc
    have hlt := (List.getElem?_eq_some_iff.1 hi).1
    exact ⟨i, by rw [List.getElem?_append_left hlt]; exact hi, hlt⟩
  have hB : ∀ (i : Nat) (c : Chunk), B[i]? = some c → (D ++ B)[D.length + i]? = some c := fun i c hc => by
    rw [List.getElem?_append_right (by omega), Nat.add_sub_cancel_left]
    exact hc
  have hnot : ∀ (i : Nat) (c : Chunk) (k : Nat), B[i]? = some c → c.block = some k → ¬ ∃ d ∈ D, d.block = some k := fun i c k hc hk => by
    rintro ⟨d, hd, hdk⟩
    obtain ⟨j, hj, hjl⟩ := hD d hd
    exact h.apart j (D.length + i) d c k (by omega) hj (hB i c hc) hdk hk
  have key : ∀ (i : Nat) (c : Chunk), (D' ++ B)[i]? = some c → (i < D'.length ∧ D'[i]? = some c) ∨ (D'.length ≤ i ∧ B[i - D'.length]? = some c) := fun i c hc => by
    rw [List.getElem?_append] at hc
    split at hc
    · rename_i hlt; exact .inl ⟨hlt, hc⟩
    · rename_i hlt; exact .inr ⟨by omega, hc⟩
  have hnew : ∀ (i : Nat) (c : Chunk) (k : Nat), D'[i]? = some c → c.block = some k → (∃ d ∈ D, d.block = some k) ∨ w.heap.size ≤ k := fun i c k hc hk => by
    rcases h'.own i c k hc hk with h1 | h1
    · exact .inr h1
    · exact .inl h1
  refine ⟨⟨h'.ext.os.trans h.ext.os, h'.ext.tape.trans h.ext.tape, h'.ext.output.trans h.ext.output, Nat.le_trans h.ext.size h'.ext.size, fun k hk hm => ?_⟩, fun i c hc => ?_, fun i c k hc hb => ?_, fun i j c d k hij hc hd hb hb' => ?_⟩
  · refine (h'.ext.block k (Nat.lt_of_lt_of_le hk h.ext.size) ?_).trans (h.ext.block k hk hm)
    rintro ⟨d, hd, hdk⟩
    obtain ⟨j, hj, _⟩ := hD d hd
    rcases h.own j d k hj hdk with h1 | h1
    · omega
    · exact hm h1
  · rcases key i c hc with ⟨_, h1⟩ | ⟨_, h1⟩
    · exact h'.sat i c h1
    · exact Chunk.keep (h.sat _ c (hB _ c h1)) fun k hk => h'.ext.block k (Chunk.lt (h.sat _ c (hB _ c h1)) hk) (hnot _ c k h1 hk)
  · rcases key i c hc with ⟨_, h1⟩ | ⟨_, h1⟩
    · rcases hnew i c k h1 hb with ⟨d, hd, hdk⟩ | h2
      · obtain ⟨j, hj, _⟩ := hD d hd
        exact h.own j d k hj hdk
      · exact .inl (Nat.le_trans h.ext.size h2)
    · exact h.own _ c k (hB _ c h1) hb
  · rcases key i c hc with ⟨l1, h1⟩ | ⟨l1, h1⟩ <;> rcases key j d hd with ⟨l2, h2⟩ | ⟨l2, h2⟩
    · exact h'.apart i j c d k hij h1 h2 hb hb'
    · rcases hnew i c k h1 hb with h3 | h3
      · exact hnot _ d k h2 hb' h3
      · have := Chunk.lt (h.sat _ d (hB _ d h2)) hb'
        omega
    · rcases hnew j d k h2 hb' with h3 | h3
      · exact hnot _ c k h1 hb h3
      · have := Chunk.lt (h.sat _ c (hB _ c h1)) hb
        omega
    · exact h.apart _ _ c d k (by omega) (hB _ c h1) (hB _ d h2) hb hb'
theorem ok_sm {f : Fc} (h : okF f = true) : FcSm f := by
  unfold okF at h
  simp only [Bool.and_eq_true, decide_eq_true_eq, List.all_eq_true] at h
  obtain ⟨_, _, h3, h4⟩ := h
  refine ⟨by omega, fun t ht => ?_⟩
  have hx := h4 t ht
  by_cases h7 : t.k = 7
  · unfold fixT mayT at hx
    rw [if_pos h7] at hx
    simp only [Bool.and_eq_true] at hx
    have := ((risT_iff _).1 hx.2.2.2).len
    omega
  · by_cases h1 : t.k = 1
    · rw [fixT_1 h1] at hx; cases hx
    · rw [fixT_e h1 h7] at hx
      have key : t.l.length = 0 := by
        unfold mayE at hx
        repeat' split at hx
        all_goals first
          | exact absurd hx Bool.false_ne_true
          | (simp only [Bool.and_eq_true, decide_eq_true_eq] at hx
             first
              | exact hx.2.2
              | exact hx.2
              | exact hx.2.2.2)
      omega
theorem enAdd1 (args : Array Value) (w : World) : (callFunc 40 args).run Try.prog w = .ok (.enter 40 args) w := by kernel_rfl
theorem add1_any (t : Tm) (w : World) (ht : TmOK w t) : Calls Try.prog 40 #[t.val] w fun e w' => e = .returned (.bool (!fixT t)) ∧ Below w.heap.size w w' := by
  have HW := hide (((Below.refl w.heap.size w).al (.cells #[.int .i64 t.k, .int .i64 t.n, .string (strOf t.s), .slice t.A t.l.length t.c] 62)))
  have HF := hide (fixed_any ht _ HW.out)
  unfold Tm.val Tm.row at *
  generalize fixT t = b at *
  go_enter Try.func40, Try.ntmps40
  go_wp2_with (go_at_call 41; (with_reducible refine HF.out.mono ?_); rintro e w' ⟨rfl, hb⟩; have HB := hide (HW.out.trans (hb.mono HW.out.size)))
  go_ret
  exact ⟨rfl, HB.out⟩
/-- What Add answers. -/
def AddR (Mk : Nat → Prop) (p : Nat) (A : Option Addr) (c : Nat) (S : List Fc) (f : Fc) (w : World) (e : Ending) (w' : World) : Prop :=
  (addB S f = false ∧ e = .returned (.bool false) ∧ Below w.heap.size w w') ∨
  (addB S f = true ∧ ∃ A' c' f', e = .returned (.bool true) ∧ shF f' = shF f ∧ St w (fun k => ∃ d ∈ StoC p A c S, d.block = some k) w' (StoC p A' c' (S.take (plc (fun x => cmpF x f) S) ++ f' :: S.drop (plc (fun x => cmpF x f) S))) ∧
    ∀ g ∈ S.take (plc (fun x => cmpF x f) S) ++ f' :: S.drop (plc (fun x => cmpF x f) S), FcOK (mask (fun k => Mk k ∨ (Value.slice A' (S.length + 1) c').ownBlock = some k) w') g)
theorem nilS (p : Nat) (W : World) : (binOp .eql 34 (.pointer (some ⟨p, 0, none⟩)) (.pointer none)).run Try.prog W = .ok (.bool false) W := by kernel_rfl
set_option maxRecDepth 100000 in
set_option maxHeartbeats 1600000 in
theorem add_no {w : World} (p : Nat) (f : Fc) (hf : FcOK w f) (h : okF f = false) :
    Calls Try.prog 20 #[.pointer (some ⟨p, 0, none⟩), f.val] w fun e w' => e = .returned (.bool false) ∧ Below w.heap.size w w' := by
  have HS := hide ((St.init w NoB).alloc #[.string (strOf f.name), .slice f.A f.ts.length f.c, .int .u32 f.o] 27)
  have hnil := fun W => nilS p W
  have HN := hide (fun W => name_any f.name hf.bd.1 W)
  have HC := hide (fun W (h : Below w.heap.size w W) => contF_any 40 enAdd1 #[] (fun t => !fixT t) f.row f.ts W (hf.ts.1.below h) hf.bd.2.1 (fun W2 hW2 x hx => add1_any x W2 ((hf.ts.2 x hx).on (h.trans (hW2.mono h.size)))))
  have eany : f.ts.any (fun t => !fixT t) = !(f.ts.all fixT) := by rw [List.any_eq_not_all_not]; simp
  have hb := hf.bd.2.1
  rw [eany] at HC
  unfold okF at h
  unfold Fc.val Fc.row at *
  generalize f.ts.all fixT = b4 at *
  generalize nameT f.name = b2 at *
  generalize f.ts.length = n at *
  clear hf eany
  obtain ⟨b1, h1⟩ : ∃ b, decide (f.o ≠ 0) = b := ⟨_, rfl⟩
  have q1 : (f.o == 0) = !b1 := by rw [← h1, Bool.eq_iff_iff]; simp
  obtain ⟨b3, h3⟩ : ∃ b, decide (n ≤ 8) = b := ⟨_, rfl⟩
  have q3 : decide ((8 : Int) < (n : Int)) = !b3 := by rw [← h3, Bool.eq_iff_iff]; simp; omega
  have q3' : decide (8 < n) = !b3 := by rw [← h3, Bool.eq_iff_iff]; simp
  rw [h1, h3] at h
  clear h1 h3
  have a0 := HS.out.cell 0 rfl 0
  have a1 := HS.out.cell 0 rfl 1
  have a2 := HS.out.cell 0 rfl 2
  cases b1 <;> cases b2 <;> cases b3 <;> cases b4
  all_goals first
    | (exact absurd h (by decide))
    | (clear h
       simp only [Bool.not_true, Bool.not_false] at q1 q3 q3' HC
       go_enter Try.func20, Try.ntmps20
       go_wp2_with (first
         | (go_at_call 38; (with_reducible refine (HN.out _).mono ?_); rintro e w' ⟨rfl, rfl⟩)
         | (go_at_call 39; (with_reducible refine (HC.out _ HS.out.below).mono ?_); rintro e w' ⟨rfl, hb⟩; have HS := hide (HS.out.call hb)))
       go_ret
       exact ⟨rfl, HS.out.below⟩)
end Go.Proofs.Ythpioncehigoaaa
