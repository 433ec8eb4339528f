/-
  Joined of texts of mine: Xa,Xb.
-/
import Derived.Test.YthpioncehigoaaaYv
set_option linter.unusedSimpArgs false
set_option linter.unusedVariables false
/-
  Layer 18: plain: rows of facts, the one with the least first fact on top.
-/
namespace Go.Proofs.Ythpioncehigoaaa
open Go.RowKit
set_option linter.unusedSimpArgs false
set_option linter.unusedVariables false
/-- A row of facts, with its place. -/
structure Rw where
  A : Option Addr
  c : Nat
  l : List Fc
def zRow : Rw := ⟨none, 0, []⟩
def hdR (r : Rw) : Fc := r.l.headD zF
def cmpW (x y : Rw) : Int := cmpF (hdR x) (hdR y)
theorem cmpW_ord : IsOrd cmpW := cmpF_ord.via hdR
def ltW (l : List Rw) (a b : Nat) : Bool := match l[a]?, l[b]? with
  | some x, some y => decide (cmpW x y < 0)
  | _, _ => false
def swp (l : List Rw) (a b : Nat) : List Rw := match l[a]?, l[b]? with
  | some x, some y => (l.set a y).set b x
  | _, _ => l
theorem swp_length (l : List Rw) (a b : Nat) : (swp l a b).length = l.length := by
  unfold swp
  split
  · simp
  · rfl
theorem swp_mem {l : List Rw} {a b : Nat} {x : Rw} (h : x ∈ swp l a b) : x ∈ l := by
  unfold swp at h
  split at h
  · rename_i u v hu hv
    rcases List.mem_or_eq_of_mem_set h with h | h
    · rcases List.mem_or_eq_of_mem_set h with h | h
      · exact h
      · rw [h]; exact List.mem_of_getElem? hv
    · rw [h]; exact List.mem_of_getElem? hu
  · exact h
/-- What down makes of a row: so many rounds at most, from place i, of the first n. -/
def dn : Nat → List Rw → Nat → Nat → List Rw
  | 0, l, _, _ => l
  | f + 1, l, i, n =>
    if n ≤ 2 * i + 1 then l
    else if ltW l (if 2 * i + 2 < n ∧ ltW l (2 * i + 2) (2 * i + 1) = true then 2 * i + 2 else 2 * i + 1) i = true then
      dn f (swp l i (if 2 * i + 2 < n ∧ ltW l (2 * i + 2) (2 * i + 1) = true then 2 * i + 2 else 2 * i + 1)) (if 2 * i + 2 < n ∧ ltW l (2 * i + 2) (2 * i + 1) = true then 2 * i + 2 else 2 * i + 1) n
    else l
theorem dn_length : ∀ (f : Nat) (l : List Rw) (i n : Nat), (dn f l i n).length = l.length
  | 0, _, _, _ => rfl
  | f + 1, l, i, n => by
    rw [dn]
    by_cases h : n ≤ 2 * i + 1
    · rw [if_pos h]
    · rw [if_neg h]
      generalize (if 2 * i + 2 < n ∧ ltW l (2 * i + 2) (2 * i + 1) = true then 2 * i + 2 else 2 * i + 1) = j
      split
      · rw [dn_length f, swp_length]
      · rfl
theorem dn_mem : ∀ (f : Nat) (l : List Rw) (i n : Nat) {x : Rw}, x ∈ dn f l i n → x ∈ l
  | 0, _, _, _, _, h => h
  | f + 1, l, i, n, x, h => by
    rw [dn] at h
    by_cases h0 : n ≤ 2 * i + 1
    · rw [if_pos h0] at h
      exact h
    · rw [if_neg h0] at h
      revert h
      generalize (if 2 * i + 2 < n ∧ ltW l (2 * i + 2) (2 * i + 1) = true then 2 * i + 2 else 2 * i + 1) = j
      intro h
      split at h
      · exact swp_mem (dn_mem f _ _ _ h)
      · exact h
/-- What Init makes: from place k - 1 down to the first. -/
def hpI : Nat → List Rw → Nat → List Rw
  | 0, l, _ => l
  | k + 1, l, n => hpI k (dn n l k n) n
theorem hpI_length : ∀ (k : Nat) (l : List Rw) (n : Nat), (hpI k l n).length = l.length
  | 0, _, _ => rfl
  | k + 1, l, n => by rw [hpI, hpI_length k, dn_length]
theorem hpI_mem : ∀ (k : Nat) (l : List Rw) (n : Nat) {x : Rw}, x ∈ hpI k l n → x ∈ l
  | 0, _, _, _, h => h
  | k + 1, l, n, x, h => by
    rw [hpI] at h
    exact dn_mem _ _ _ _ (hpI_mem k _ _ h)
def popL (n : Nat) (l : List Rw) : List Rw := dn n (swp l 0 n) 0 n
theorem popL_length (n : Nat) (l : List Rw) : (popL n l).length = l.length := by unfold popL; rw [dn_length, swp_length]
theorem popL_mem {n : Nat} {l : List Rw} {x : Rw} (h : x ∈ popL n l) : x ∈ l := swp_mem (dn_mem _ _ _ _ h)
/-- What stands at a place. -/
def gR (l : List Rw) (i : Nat) : Rw := l.getD i zRow
theorem G_some {l : List Rw} {i : Nat} (h : i < l.length) : l[i]? = some (gR l i) := by
  unfold gR
  rw [List.getD_eq_getElem?_getD, List.getElem?_eq_getElem h]
  rfl
theorem ltA_G {l : List Rw} {a b : Nat} (ha : a < l.length) (hb : b < l.length) : ltW l a b = decide (cmpW (gR l a) (gR l b) < 0) := by
  unfold ltW
  rw [G_some ha, G_some hb]
theorem swp_G {l : List Rw} {a b : Nat} (ha : a < l.length) (hb : b < l.length) (k : Nat) : gR (swp l a b) k = if k = b then gR l a else if k = a then gR l b else gR l k := by
  unfold swp
  rw [G_some ha, G_some hb]
  show ((l.set a (gR l b)).set b (gR l a)).getD k zRow = _
  rw [List.getD_eq_getElem?_getD, List.getElem?_set]
  by_cases h : b = k
  · rw [if_pos h, if_pos (by rw [List.length_set]; exact hb), if_pos h.symm]
    rfl
  · rw [if_neg h, if_neg (fun e => h e.symm), List.getElem?_set]
    by_cases h' : a = k
    · rw [if_pos h', if_pos ha, if_pos h'.symm]
      rfl
    · rw [if_neg h', if_neg (fun e => h' e.symm), ← List.getD_eq_getElem?_getD]
      rfl
/-- A heap from place lo on. -/
def HP (l : List Rw) (lo n : Nat) : Prop := ∀ c, 1 ≤ c → c < n → lo ≤ (c - 1) / 2 → cmpW (gR l ((c - 1) / 2)) (gR l c) ≤ 0
theorem dn_hp : ∀ (f : Nat) (l : List Rw) (i n lo : Nat), n ≤ l.length → n ≤ f + i → lo ≤ i →
    (∀ c, 1 ≤ c → c < n → lo ≤ (c - 1) / 2 → (c - 1) / 2 ≠ i → cmpW (gR l ((c - 1) / 2)) (gR l c) ≤ 0) →
    (1 ≤ i → lo ≤ (i - 1) / 2 → ∀ c, 1 ≤ c → c < n → (c - 1) / 2 = i → cmpW (gR l ((i - 1) / 2)) (gR l c) ≤ 0) →
    HP (dn f l i n) lo n
  | 0, l, i, n, lo, hn, hf, hlo, h1, h2 => fun c hc1 hc hp => by
    rw [dn]
    exact h1 c hc1 hc hp (by omega)
  | f + 1, l, i, n, lo, hn, hf, hlo, h1, h2 => by
    rw [dn]
    split
    · rename_i hb
      exact fun c hc1 hc hp => h1 c hc1 hc hp (by omega)
    · rename_i hb
      -- the smaller child
      obtain ⟨j, hj⟩ : ∃ j, j = (if 2 * i + 2 < n ∧ ltW l (2 * i + 2) (2 * i + 1) = true then 2 * i + 2 else 2 * i + 1) := ⟨_, rfl⟩
      rw [← hj]
      have hjb : j < n ∧ (j = 2 * i + 1 ∨ j = 2 * i + 2) := by
        rw [hj]
        split
        · rename_i h; exact ⟨h.1, .inr rfl⟩
        · exact ⟨by omega, .inl rfl⟩
      have hmin : ∀ c, 1 ≤ c → c < n → (c - 1) / 2 = i → cmpW (gR l j) (gR l c) ≤ 0 := by
        intro c hc1 hc hp
        rw [hj]
        split
        · rename_i h
          have hl := h.2
          rw [ltA_G (by omega) (by omega)] at hl
          have hl := of_decide_eq_true hl
          rcases (show c = 2 * i + 1 ∨ c = 2 * i + 2 by omega) with e | e
          · rw [e]; omega
          · rw [e, cmpW_ord.self]; omega
        · rename_i h
          rcases (show c = 2 * i + 1 ∨ c = 2 * i + 2 by omega) with e | e
          · rw [e, cmpW_ord.self]; omega
          · rw [e]
            have hl : ¬ ltW l (2 * i + 2) (2 * i + 1) = true := fun q => h ⟨by omega, q⟩
            rw [ltA_G (by omega) (by omega)] at hl
            have hl : ¬ cmpW (gR l (2 * i + 2)) (gR l (2 * i + 1)) < 0 := fun q => hl (decide_eq_true q)
            have := cmpW_ord.anti (gR l (2 * i + 1)) (gR l (2 * i + 2))
            omega
      clear hj
      have hil : i < l.length := by omega
      have hjl : j < l.length := by omega
      split
      · rename_i hlt
        rw [ltA_G hjl hil] at hlt
        have hlt := of_decide_eq_true hlt
        refine dn_hp f (swp l i j) j n lo (by rw [swp_length]; exact hn) (by omega) (by omega) ?_ ?_
        · intro c hc1 hc hp hpj
          rw [swp_G hil hjl, swp_G hil hjl, if_neg hpj]
          by_cases hpi : (c - 1) / 2 = i
          · rw [if_pos hpi]
            by_cases hcj : c = j
            · rw [if_pos hcj]; omega
            · rw [if_neg hcj, if_neg (by omega)]
              exact hmin c hc1 hc hpi
          · rw [if_neg hpi, if_neg (show c ≠ j by omega)]
            by_cases hci : c = i
            · rw [if_pos hci]
              have := h2 (by omega) (by rw [← hci]; exact hp) j (by omega) (by omega) (by omega)
              rw [hci]
              exact this
            · rw [if_neg hci]
              exact h1 c hc1 hc hp hpi
        · intro hj1 hjp c hc1 hc hp
          have e : (j - 1) / 2 = i := by omega
          rw [e, swp_G hil hjl, swp_G hil hjl, if_neg (show i ≠ j by omega), if_pos rfl, if_neg (show c ≠ j by omega), if_neg (show c ≠ i by omega)]
          have := h1 c hc1 hc (by omega) (by omega)
          rw [hp] at this
          exact this
      · rename_i hlt
        rw [ltA_G hjl hil] at hlt
        have hlt : ¬ cmpW (gR l j) (gR l i) < 0 := fun q => hlt (decide_eq_true q)
        have hij : cmpW (gR l i) (gR l j) ≤ 0 := by have := cmpW_ord.anti (gR l i) (gR l j); omega
        intro c hc1 hc hp
        by_cases hpi : (c - 1) / 2 = i
        · rw [hpi]
          exact cmpW_ord.lt _ _ _ hij (hmin c hc1 hc hpi)
        · exact h1 c hc1 hc hp hpi
theorem hpI_hp : ∀ (k : Nat) (l : List Rw) (n : Nat), n ≤ l.length → HP l k n → HP (hpI k l n) 0 n
  | 0, _, _, _, h => h
  | k + 1, l, n, hn, h => by
    rw [hpI]
    refine hpI_hp k _ n (by rw [dn_length]; exact hn) (dn_hp n l k n k hn (by omega) (Nat.le_refl _) ?_ ?_)
    · intro c hc1 hc hp hne
      exact h c hc1 hc (by omega)
    · intro hk hk' c _ _ _
      omega
/-- What dn does touches no place from n on, and what stands ahead of it stays there. -/
theorem dn_far : ∀ (f : Nat) (l : List Rw) (i n k : Nat), n ≤ l.length → n ≤ k → gR (dn f l i n) k = gR l k
  | 0, _, _, _, _, _, _ => rfl
  | f + 1, l, i, n, k, hn, hk => by
    rw [dn]
    split
    · rfl
    · rename_i hb
      obtain ⟨j, hj⟩ : ∃ j, j = (if 2 * i + 2 < n ∧ ltW l (2 * i + 2) (2 * i + 1) = true then 2 * i + 2 else 2 * i + 1) := ⟨_, rfl⟩
      rw [← hj]
      have hjb : j < n ∧ (j = 2 * i + 1 ∨ j = 2 * i + 2) := by
        rw [hj]
        split
        · rename_i h; exact ⟨h.1, .inr rfl⟩
        · exact ⟨by omega, .inl rfl⟩
      clear hj
      split
      · rw [dn_far f _ j n k (by rw [swp_length]; exact hn) hk, swp_G (by omega) (by omega), if_neg (by omega), if_neg (by omega)]
      · rfl
/-- One of the first n. -/
def Am (l : List Rw) (n : Nat) (x : Rw) : Prop := ∃ i, i < n ∧ gR l i = x
theorem swp_am {l : List Rw} {a b n : Nat} (ha : a < n) (hb : b < n) (hn : n ≤ l.length) (x : Rw) : Am (swp l a b) n x ↔ Am l n x := by
  constructor
  · rintro ⟨i, hi, e⟩
    rw [swp_G (by omega) (by omega)] at e
    split at e
    · exact ⟨a, ha, e⟩
    · split at e
      · exact ⟨b, hb, e⟩
      · exact ⟨i, hi, e⟩
  · rintro ⟨i, hi, e⟩
    by_cases h1 : i = a
    · exact ⟨b, hb, by rw [swp_G (by omega) (by omega), if_pos rfl, ← h1]; exact e⟩
    · by_cases h2 : i = b
      · refine ⟨a, ha, ?_⟩
        rw [swp_G (by omega) (by omega)]
        split
        · rename_i q; rw [q, ← h2]; exact e
        · rw [if_pos rfl, ← h2]; exact e
      · exact ⟨i, hi, by rw [swp_G (by omega) (by omega), if_neg h2, if_neg h1]; exact e⟩
theorem dn_am : ∀ (f : Nat) (l : List Rw) (i n : Nat) (x : Rw), n ≤ l.length → (Am (dn f l i n) n x ↔ Am l n x)
  | 0, _, _, _, _, _ => Iff.rfl
  | f + 1, l, i, n, x, hn => by
    rw [dn]
    split
    · exact Iff.rfl
    · rename_i hb
      obtain ⟨j, hj⟩ : ∃ j, j = (if 2 * i + 2 < n ∧ ltW l (2 * i + 2) (2 * i + 1) = true then 2 * i + 2 else 2 * i + 1) := ⟨_, rfl⟩
      rw [← hj]
      have hjb : j < n ∧ (j = 2 * i + 1 ∨ j = 2 * i + 2) := by
        rw [hj]
        split
        · rename_i h; exact ⟨h.1, .inr rfl⟩
        · exact ⟨by omega, .inl rfl⟩
      clear hj
      split
      · exact (dn_am f _ j n x (by rw [swp_length]; exact hn)).trans (swp_am (by omega) (by omega) hn x)
      · exact Iff.rfl
theorem hpI_am : ∀ (k : Nat) (l : List Rw) (n : Nat) (x : Rw), n ≤ l.length → (Am (hpI k l n) n x ↔ Am l n x)
  | 0, _, _, _, _ => Iff.rfl
  | k + 1, l, n, x, hn => by
    rw [hpI]
    exact (hpI_am k _ n x (by rw [dn_length]; exact hn)).trans (dn_am _ _ _ _ _ hn)
/-- The first of a heap is the least. -/
theorem hp_root {l : List Rw} {n : Nat} (h : HP l 0 n) : ∀ (c : Nat), c < n → cmpW (gR l 0) (gR l c) ≤ 0 := by
  intro c
  induction c using Nat.strongRecOn with
  | _ c ih =>
    intro hc
    by_cases h0 : c = 0
    · rw [h0, cmpW_ord.self]; omega
    · exact cmpW_ord.lt _ _ _ (ih ((c - 1) / 2) (by omega) (by omega)) (h c (by omega) hc (by omega))
theorem popL_last {n : Nat} {l : List Rw} (h : n < l.length) : gR (popL n l) n = gR l 0 := by
  unfold popL
  rw [dn_far _ _ _ _ _ (by rw [swp_length]; omega) (Nat.le_refl _), swp_G (by omega) h, if_pos rfl]
theorem popL_hp {n : Nat} {l : List Rw} (h : n < l.length) (hp : HP l 0 (n + 1)) : HP (popL n l) 0 n := by
  unfold popL
  refine dn_hp n _ 0 n 0 (by rw [swp_length]; omega) (by omega) (Nat.le_refl _) ?_ ?_
  · intro c hc1 hc _ hne
    rw [swp_G (by omega) h, swp_G (by omega) h, if_neg (by omega), if_neg hne, if_neg (by omega), if_neg (by omega)]
    exact hp c hc1 (by omega) (by omega)
  · intro h1
    omega
theorem popL_am {n : Nat} {l : List Rw} (h : n < l.length) (x : Rw) : (gR l 0 = x ∨ Am (popL n l) n x) ↔ Am l (n + 1) x := by
  have e := fun y => dn_am n (swp l 0 n) 0 n y (by rw [swp_length]; omega)
  have e2 := swp_am (a := 0) (b := n) (n := n + 1) (by omega) (by omega) (l := l) (by omega) x
  have e3 : gR (swp l 0 n) n = gR l 0 := by rw [swp_G (by omega) h, if_pos rfl]
  unfold popL
  rw [e x, ← e2]
  constructor
  · rintro (q | ⟨i, hi, q⟩)
    · exact ⟨n, by omega, by rw [e3]; exact q⟩
    · exact ⟨i, by omega, q⟩
  · rintro ⟨i, hi, q⟩
    by_cases hin : i = n
    · rw [hin, e3] at q
      exact .inl q
    · exact .inr ⟨i, by omega, q⟩
end Go.Proofs.Ythpioncehigoaaa
/-
  Layer 18: the heap of rows: Len, Less, Swap, down.
-/
set_option linter.unusedVariables false
namespace Go.Proofs.Ythpioncehigoaaa
open Go.RowKit
set_option linter.unusedSimpArgs false
def Rw.val (r : Rw) : Value := .slice r.A r.l.length r.c
def rwCells (l : List Rw) : List Value := l.map Rw.val
theorem rwCells_length (l : List Rw) : (rwCells l).length = l.length := by unfold rwCells; exact List.length_map ..
def RwOK (W : World) (r : Rw) : Prop := FcsAt W r.val r.l
theorem RwOK.on {W W' : World} {r : Rw} (h : RwOK W r) (hb : Below W.heap.size W W') : RwOK W' r := FcsAt.on h hb
/-- Rows that read well; the first n of them hold something. -/
def OKn (W : World) (n : Nat) (l : List Rw) : Prop := (∀ x ∈ l, RwOK W x) ∧ n ≤ l.length ∧ ∀ i, i < n → (gR l i).l ≠ []
theorem okn_swp {W : World} {n : Nat} {l : List Rw} {a b : Nat} (h : OKn W n l) (ha : a < n) (hb : b < n) : OKn W n (swp l a b) := by
  obtain ⟨h1, h2, h3⟩ := h
  refine ⟨fun x hx => h1 x (swp_mem hx), by rw [swp_length]; exact h2, fun i hi => ?_⟩
  rw [swp_G (by omega) (by omega)]
  split
  · exact h3 a ha
  · split
    · exact h3 b hb
    · exact h3 i hi
/-- The rows in their block, their heap in its own. -/
def WC (g b n c : Nat) (l : List Rw) (rest : List Value) (H : List Chunk) : List Chunk := .cells g #[.slice (some ⟨b, 0, none⟩) n c] 82 :: .cells b (rwCells l ++ rest).toArray 29 :: H
def wvV (g : Nat) : Value := .iface 81 (.pointer (some ⟨g, 0, none⟩))
theorem method_run {P : Program} {t : TypeId} {name : String} {f : FuncId} (h : ((P.info? t).map (fun i => (i.methods.find? (·.name == name)).map (fun m => (m.func, m.path.size)))) = some (some (some (f, false), 0))) (k : Nat) (v : Value) (w : World) :
    (method (k + 1) t v name).run P w = ((receiverAt t (.val v) false (some ((name.splitOn ".").getLastD name))).run P w).andThen fun r w' => .ok (f, r) w' := by
  cases hi : P.info? t with
  | none => rw [hi] at h; cases h
  | some i =>
    rw [hi] at h
    simp only [Option.map_some, Option.some.injEq] at h
    cases hm : i.methods.find? (·.name == name) with
    | none => rw [hm] at h; cases h
    | some m =>
      rw [hm] at h
      simp only [Option.map_some, Option.some.injEq, Prod.mk.injEq] at h
      obtain ⟨hf, hp⟩ := h
      have hp' : m.path = #[] := Array.eq_empty_of_size_eq_zero hp
      unfold method
      simp [typeInfo, hi, hm, hf, hp', follow]
theorem m_Len (g k : Nat) (w : World) : (method (k + 1) 81 (.pointer (some ⟨g, 0, none⟩)) "Len").run Try.prog w = ((receiverAt 81 (.val (.pointer (some ⟨g, 0, none⟩))) false (some (("Len".splitOn ".").getLastD "Len"))).run Try.prog w).andThen fun v w' => .ok (49, v) w' := method_run (by kernel_rfl) k _ w
theorem m_Less (g k : Nat) (w : World) : (method (k + 1) 81 (.pointer (some ⟨g, 0, none⟩)) "Less").run Try.prog w = ((receiverAt 81 (.val (.pointer (some ⟨g, 0, none⟩))) false (some (("Less".splitOn ".").getLastD "Less"))).run Try.prog w).andThen fun v w' => .ok (97, v) w' := method_run (by kernel_rfl) k _ w
theorem m_Swap (g k : Nat) (w : World) : (method (k + 1) 81 (.pointer (some ⟨g, 0, none⟩)) "Swap").run Try.prog w = ((receiverAt 81 (.val (.pointer (some ⟨g, 0, none⟩))) false (some (("Swap".splitOn ".").getLastD "Swap"))).run Try.prog w).andThen fun v w' => .ok (99, v) w' := method_run (by kernel_rfl) k _ w
theorem m_Pop (g k : Nat) (w : World) : (method (k + 1) 81 (.pointer (some ⟨g, 0, none⟩)) "Pop").run Try.prog w = .ok (98, .pointer (some ⟨g, 0, none⟩)) w := by kernel_rfl
theorem m_recv (g : Nat) (s : String) (w : World) : (receiverAt 81 (.val (.pointer (some ⟨g, 0, none⟩))) false (some s)).run Try.prog w = (loadVar 82 ⟨g, 0, none⟩).run Try.prog w := by kernel_rfl
theorem ld_rows {w0 w : World} {M : Nat → Prop} {H : List Chunk} {g b n c : Nat} {l : List Rw} {rest : List Value} (hS : St w0 M w (WC g b n c l rest H)) : (loadVar 82 ⟨g, 0, none⟩).run Try.prog w = .ok (.slice (some ⟨b, 0, none⟩) n c) w := by
  have hc : w.cell? ⟨g, 0, none⟩ = some (.slice (some ⟨b, 0, none⟩) n c) := hS.cell 0 rfl 0
  have e : (loadVar 82 ⟨g, 0, none⟩).run Try.prog w = (load ⟨g, 0, none⟩).run Try.prog w := by kernel_rfl
  rw [e, run_load, hc]
theorem m_run {w0 w : World} {M : Nat → Prop} {H : List Chunk} {g b n c : Nat} {l : List Rw} {rest : List Value} (hS : St w0 M w (WC g b n c l rest H)) :
    (method 231 81 (.pointer (some ⟨g, 0, none⟩)) "Len").run Try.prog w = .ok (49, .slice (some ⟨b, 0, none⟩) n c) w ∧
    (method 231 81 (.pointer (some ⟨g, 0, none⟩)) "Less").run Try.prog w = .ok (97, .slice (some ⟨b, 0, none⟩) n c) w ∧
    (method 231 81 (.pointer (some ⟨g, 0, none⟩)) "Swap").run Try.prog w = .ok (99, .slice (some ⟨b, 0, none⟩) n c) w ∧
    (method 231 81 (.pointer (some ⟨g, 0, none⟩)) "Pop").run Try.prog w = .ok (98, .pointer (some ⟨g, 0, none⟩)) w := by
  rw [m_Len g 230, m_Less g 230, m_Swap g 230, m_Pop g 230, m_recv, m_recv, m_recv, ld_rows hS]
  exact ⟨rfl, rfl, rfl, rfl⟩
/-- The pile's row, as far as it goes. -/
theorem rd_rows {w0 w : World} {M : Nat → Prop} {H : List Chunk} {g b n c : Nat} {l : List Rw} {rest : List Value} (hS : St w0 M w (WC g b n c l rest H)) (hn : n ≤ l.length) (hc : n ≤ c) (hm : c ≤ maxLen) : Rd w (.slice (some ⟨b, 0, none⟩) n c) 1 n (rwCells (l.take n)) := by
  refine ⟨some ⟨b, 0, none⟩, c, rfl, by rw [rwCells_length, List.length_take, Nat.min_eq_left hn, Nat.mul_one], hc, hm, (fun h => by cases h), fun b' o sp hA => ?_⟩
  injection hA with hA
  injection hA with hb ho hsp
  subst hb ho hsp
  refine ⟨fun _ => rfl, fun j u hu => ?_⟩
  have hg := hS.cell 1 rfl j
  rw [Nat.zero_add, hg, List.getElem?_toArray]
  have e : rwCells l ++ rest = rwCells (l.take n) ++ (rwCells (l.drop n) ++ rest) := by
    rw [← List.append_assoc]
    congr 1
    unfold rwCells
    rw [← List.map_append, List.take_append_drop]
  rw [e, List.getElem?_append_left (List.getElem?_eq_some_iff.1 hu).1]
  exact hu
theorem wLen_any (A : Option Addr) (n c : Nat) (w : World) : Calls Try.prog 49 #[.slice A n c] w fun e w' => e = .returned (.int .i64 (n : Int)) ∧ w = w' := by
  go_enter Try.func49, Try.ntmps49
  go_wp2_with fail
  go_ret
  exact ⟨rfl, rfl⟩
theorem rw_at {w : World} {x : Rw} (h : RwOK w x) (hne : x.l ≠ []) : ∃ b o f, x.A = some ⟨b, o, none⟩ ∧ hdR x = f ∧ FcOK w f ∧ ∀ w', Below w.heap.size w w' → w'.cell? ⟨b, o, none⟩ = some (.string (strOf f.name)) ∧ w'.cell? ⟨b, o + 1, none⟩ = some (.slice f.A f.ts.length f.c) ∧ w'.cell? ⟨b, o + 2, none⟩ = some (.int .u32 f.o) := by
  obtain ⟨A, c, l⟩ := x
  cases l with
  | nil => exact absurd rfl hne
  | cons f fs =>
    obtain ⟨h1, h2⟩ := h
    obtain ⟨b, o, hA, hb, c0, c1, c2⟩ := fc_at (k := 0) (f := f) (show Rd w (.slice A (f :: fs).length c) 3 (f :: fs).length (fcCells (f :: fs)) from h1) rfl
    rw [Nat.zero_mul, Nat.add_zero] at c0 c1 c2
    have k1 : ∀ w', Below w.heap.size w w' → ∀ j, w'.cell? ⟨b, j, none⟩ = w.cell? ⟨b, j, none⟩ := fun w' hw j => hw.cell (p := ⟨b, j, none⟩) hb
    exact ⟨b, o, f, hA, rfl, h2 f (List.mem_cons_self ..), fun w' hw => ⟨(k1 w' hw _).trans c0, (k1 w' hw _).trans c1, (k1 w' hw _).trans c2⟩⟩
set_option maxRecDepth 100000 in
set_option maxHeartbeats 800000 in
theorem less_w {w0 w : World} {H : List Chunk} {g b n c nn : Nat} {l : List Rw} {rest : List Value} (hok : OKn w0 nn l) (hS : St w0 NoB w (WC g b n c l rest H)) (hn : n ≤ l.length) (hc : n ≤ c) (hm : c ≤ maxLen) (hN : n ≤ 1000000) (i j : Nat) (hi : i < n) (hj : j < n) (hi' : i < nn) (hj' : j < nn) :
    Calls Try.prog 97 #[.slice (some ⟨b, 0, none⟩) n c, .int .i64 (i : Int), .int .i64 (j : Int)] w fun e w' => e = .returned (.bool (ltW l i j)) ∧ St w0 NoB w' (WC g b n c l rest H) := by
  obtain ⟨h1, h2, h3⟩ := hok
  have ei := G_some (l := l) (i := i) (by omega)
  have ej := G_some (l := l) (i := j) (by omega)
  have hl : ltW l i j = decide (cmpF (hdR (gR l i)) (hdR (gR l j)) < 0) := ltA_G (by omega) (by omega)
  rw [hl]
  obtain ⟨b1, o1, f1, a1, q1, r1, s1⟩ := rw_at (h1 _ (List.mem_of_getElem? ei)) (h3 i hi')
  obtain ⟨b2, o2, f2, a2, q2, r2, s2⟩ := rw_at (h1 _ (List.mem_of_getElem? ej)) (h3 j hj')
  rw [q1, q2]
  have HSD := hide hS.drew
  have kx : ∀ k x, l[k]? = some x → w.drew.cell? ⟨b, k, none⟩ = some x.val := fun k x hx => by
    have hg := HSD.out.cell 1 rfl k
    rw [hg, List.getElem?_toArray, List.getElem?_append_left (by rw [rwCells_length]; exact (List.getElem?_eq_some_iff.1 hx).1)]
    unfold rwCells
    rw [List.getElem?_map, hx]
    rfl
  have ki := kx i _ ei
  have kj := kx j _ ej
  have ni := List.length_pos_iff.2 (h3 i hi')
  have nj := List.length_pos_iff.2 (h3 j hj')
  generalize gR l i = x at a1 q1 s1 ki ni
  generalize gR l j = y at a2 q2 s2 kj nj
  obtain ⟨Ai, ci, li⟩ := x
  obtain ⟨Aj, cj, lj⟩ := y
  replace a1 : Ai = some ⟨b1, o1, none⟩ := a1
  replace a2 : Aj = some ⟨b2, o2, none⟩ := a2
  subst a1 a2
  replace ki : w.drew.cell? ⟨b, i, none⟩ = some (.slice (some ⟨b1, o1, none⟩) li.length ci) := ki
  replace kj : w.drew.cell? ⟨b, j, none⟩ = some (.slice (some ⟨b2, o2, none⟩) lj.length cj) := kj
  replace ni : 0 < li.length := ni
  replace nj : 0 < lj.length := nj
  generalize li.length = mi at ki ni
  generalize lj.length = mj at kj nj
  obtain ⟨x0, x1, x2⟩ := s1 _ HSD.out.below
  obtain ⟨y0, y1, y2⟩ := s2 _ HSD.out.below
  have HC := hide (fun W (hW : Below w0.heap.size w0 W) => cmpFc_any f1 f2 W (r1.on hW) (r2.on hW))
  generalize cmpF f1 f2 = z at HC ⊢
  have ii : (i : Int) < (n : Int) := by omega
  have jj : (j : Int) < (n : Int) := by omega
  have di : decide ((0 : Int) < (mi : Int)) = true := by simp; omega
  have dj : decide ((0 : Int) < (mj : Int)) = true := by simp; omega
  have mi0 : (0 : Int) < (mi : Int) := by omega
  have mj0 : (0 : Int) < (mj : Int) := by omega
  clear q1 q2 s1 s2 kx ei ej hl h1 h2 h3 hS r1 r2
  unfold Fc.val Fc.row at HC
  go_enter Try.func97, Try.ntmps97
  go_wp2_with fail
  refine wp_region_T [(0, 1), (1, 1), (2, 1), (3, 0), (4, 1), (5, 0), (6, 1), (7, 1), (8, 1), (9, 0), (10, 1), (11, 0), (12, 2), (13, 1), (14, 1)] (by kernel_rfl) (by kernel_rfl) (fun _ _ _ _ h => h) ?_
  go_wp2_with (first
    | (refine wpT_nil ?_)   | ((with_reducible refine fromT_refl ?_); (try simp only [Act.put, nq1, nq2, nq3, nq4, nq5, nq6]))   | ((with_reducible refine fromT_mk (by assumption) ?_); (try simp only [Act.put, nq1, nq2, nq3, nq4, nq5, nq6]))   | (refine wpT_pure (v := ?_) rfl rfl ?_ ?_; rotate_left; (intro wx; go_simp; try go_bits) <;> (with_reducible rfl); (try simp only [Act.put, nq1, nq2, nq3, nq4, nq5, nq6]))   | (refine wpT_load (v := ?_) rfl rfl rfl ?_ ?_; rotate_left; (go_simp; try go_bits) <;> (with_reducible rfl); (try simp only [Act.put, nq1, nq2, nq3, nq4, nq5, nq6]))   | (refine wpT_read (v := ?_) rfl rfl ?_ ?_; rotate_left; (intro wx hx; go_simp; try go_bits) <;> (with_reducible rfl); (try simp only [Act.put, nq1, nq2, nq3, nq4, nq5, nq6]))   | (refine wpT_call rfl rfl ?_; intro K hK)   | (refine wpT_late rfl rfl ?_; intro K hK)   | (refine wpT_any rfl rfl ?_; intro K hK)   | (refine wpT_skip rfl rfl ?_; (try simp only [Act.put, nq1, nq2, nq3, nq4, nq5, nq6]))
    | (go_at_call 11; (with_reducible refine (HC.out _ HSD.out.below).mono ?_); rintro e w' ⟨rfl, hb⟩; have HB := hide (HSD.out.call hb)))
  go_ret
  exact ⟨rfl, HB.out⟩
theorem put_rw {l : List Rw} {i : Nat} (y : Rw) (rest : List Value) (hi : i < l.length) : (rwCells l ++ rest).toArray.setIfInBounds i y.val = (rwCells (l.set i y) ++ rest).toArray := by
  rw [List.setIfInBounds_toArray, List.set_append_left _ _ (by rw [rwCells_length]; exact hi)]
  unfold rwCells
  rw [List.map_set]
theorem szFacts : (Try.prog.info? 29).map (·.size) = some 1 := by kernel_rfl
/-- A slice stored into a row. -/
theorem wp_storeSl {P : Program} {w0 w : World} {M : Nat → Prop} {H : List Chunk} {o : Oper} {a : Act} {K : Act → World → Prop} {Q : Exit → Act → World → Prop} {t : TypeId} {x y : Operand} (ho : o.op = .store t x y) (hS : St w0 M w H) (j : Nat) {g k : Nat} {c : Array Value} {e : TypeId} (hj : H[j]? = some (.cells g c e))
    {A : Option Addr} {m d : Nat} (ht : (P.info? t).map (·.size) = some 1) (hk : k < c.size) (hp : a.eval x = .pointer (some ⟨g, k, none⟩)) (hy : a.eval y = .slice A m d)
    (h : ∀ w', St w0 M w' (H.set j (.cells g (c.setIfInBounds k (.slice A m d)) e)) → K (a.put o.dst undef) w') : o.wp P a w K Q := by
  obtain ⟨W', hW, hS'⟩ := run_storeCells (P := P) g k e [.slice A m d] 0 H j c w (by intro v hv; rw [List.mem_singleton.1 hv]; rfl) hS hj (by show k + 0 + 1 ≤ _; omega)
  have hrun : (storeVar t ⟨g, k, none⟩ (.slice A m d)).run P w = .ok () W' := by
    cases hq : P.info? t with
    | none => rw [hq] at ht; cases ht
    | some q =>
      rw [hq] at ht
      simp only [Option.map_some, Option.some.injEq] at ht
      simp [storeVar, sizeOf, typeInfo, hq, Value.cells, ht, hW]
  unfold Oper.wp execOp
  simp only [ho, hp, hy, Instr.storeAt, Instr.sureAddr, Sem.run_bind, Sem.run_pure, Result.andThen_ok, hrun]
  exact h _ hS'
set_option maxRecDepth 100000 in
set_option maxHeartbeats 800000 in
theorem swap_w {w0 w : World} {H : List Chunk} {g b n c : Nat} {l : List Rw} {rest : List Value} (hS : St w0 NoB w (WC g b n c l rest H)) (hn : n ≤ l.length) (hm : n ≤ 1000000) (i j : Nat) (hi : i < n) (hj : j < n) :
    Calls Try.prog 99 #[.slice (some ⟨b, 0, none⟩) n c, .int .i64 (i : Int), .int .i64 (j : Int)] w fun e w' => e = .returned (.tuple #[]) ∧ St w0 NoB w' (WC g b n c (swp l i j) rest H) := by
  have ei := G_some (l := l) (i := i) (by omega)
  have ej := G_some (l := l) (i := j) (by omega)
  have hs : swp l i j = (l.set i (gR l j)).set j (gR l i) := by unfold swp; rw [ei, ej]
  rw [hs]
  have HSD := hide hS.drew
  have kx : ∀ k x, l[k]? = some x → w.drew.cell? ⟨b, k, none⟩ = some x.val := fun k x hx => by
    have hg := HSD.out.cell 1 rfl k
    rw [hg, List.getElem?_toArray, List.getElem?_append_left (by rw [rwCells_length]; exact (List.getElem?_eq_some_iff.1 hx).1)]
    unfold rwCells
    rw [List.getElem?_map, hx]
    rfl
  have ki : w.drew.cell? ⟨b, i, none⟩ = some (.slice (gR l i).A (gR l i).l.length (gR l i).c) := kx i _ ei
  have kj : w.drew.cell? ⟨b, j, none⟩ = some (.slice (gR l j).A (gR l j).l.length (gR l j).c) := kx j _ ej
  have ii : (i : Int) < (n : Int) := by omega
  have jj : (j : Int) < (n : Int) := by omega
  have z1 : i < (rwCells l ++ rest).toArray.size := by rw [List.size_toArray, List.length_append, rwCells_length]; omega
  have z2 : ∀ v, j < ((rwCells l ++ rest).toArray.setIfInBounds i v).size := fun v => by rw [Array.size_setIfInBounds, List.size_toArray, List.length_append, rwCells_length]; omega
  have HE := hide (show ((rwCells l ++ rest).toArray.setIfInBounds i (gR l j).val).setIfInBounds j (gR l i).val = (rwCells ((l.set i (gR l j)).set j (gR l i)) ++ rest).toArray by rw [put_rw _ _ (by omega), put_rw _ _ (by rw [List.length_set]; omega)])
  have M0 := True.intro
  clear hs kx ei ej hS
  go_enter Try.func99, Try.ntmps99
  go_wp2_with fail
  refine wp_region_T [(0, 1), (1, 1), (2, 1), (3, 1), (4, 1), (5, 1), (6, 1), (7, 0), (8, 1), (9, 1), (10, 1), (11, 0), (12, 1), (13, 3), (14, 1), (15, 4)] (by kernel_rfl) (by kernel_rfl) (fun _ _ _ _ h => h) ?_
  go_wp2_with (first
    | (clear M0; refine wpT_late rfl rfl ?_; intro K hK; refine wp_storeSl rfl HSD.out 1 rfl szFacts z1 rfl rfl ?_; intro w1 hS1; have HS1 := hide hS1; clear hS1; have M1 := True.intro)
    | (clear M1; refine wpT_any rfl rfl ?_; intro K hK; refine wp_storeSl rfl HS1.out 1 rfl szFacts (z2 _) rfl rfl ?_; intro w2 hS2; have HS2 := hide hS2; clear hS2; have M2 := True.intro)
    | (refine wpT_nil ?_)   | ((with_reducible refine fromT_refl ?_); (try simp only [Act.put, nq1, nq2, nq3, nq4, nq5, nq6]))   | ((with_reducible refine fromT_mk (by assumption) ?_); (try simp only [Act.put, nq1, nq2, nq3, nq4, nq5, nq6]))   | (refine wpT_pure (v := ?_) rfl rfl ?_ ?_; rotate_left; (intro wx; go_simp; try go_bits) <;> (with_reducible rfl); (try simp only [Act.put, nq1, nq2, nq3, nq4, nq5, nq6]))   | (refine wpT_load (v := ?_) rfl rfl rfl ?_ ?_; rotate_left; (go_simp; try go_bits) <;> (with_reducible rfl); (try simp only [Act.put, nq1, nq2, nq3, nq4, nq5, nq6]))   | (refine wpT_read (v := ?_) rfl rfl ?_ ?_; rotate_left; (intro wx hx; go_simp; try go_bits) <;> (with_reducible rfl); (try simp only [Act.put, nq1, nq2, nq3, nq4, nq5, nq6]))   | (refine wpT_call rfl rfl ?_; intro K hK)   | (refine wpT_late rfl rfl ?_; intro K hK)   | (refine wpT_any rfl rfl ?_; intro K hK)   | (refine wpT_skip rfl rfl ?_; (try simp only [Act.put, nq1, nq2, nq3, nq4, nq5, nq6])))
  go_end0
  refine ⟨rfl, ?_⟩
  have h2 : St w0 NoB _ (.cells g _ _ :: .cells b (((rwCells l ++ rest).toArray.setIfInBounds i (gR l j).val).setIfInBounds j (gR l i).val) 29 :: H) := HS2.out
  rw [HE.out] at h2
  exact h2
set_option maxRecDepth 100000 in
set_option maxHeartbeats 1600000 in
theorem downW_any {w0 w : World} {H : List Chunk} (g b n' c : Nat) (l : List Rw) (rest : List Value) (i n : Nat) (hok : OKn w0 n l) (hn : n ≤ n') (hn' : n' ≤ l.length) (hc : n' ≤ c) (hm : c ≤ maxLen) (hN : n' ≤ 1000000) (hi : i ≤ n) (hS : St w0 NoB w (WC g b n' c l rest H)) :
    Calls Try.prog 68 #[wvV g, .int .i64 (i : Int), .int .i64 (n : Int)] w fun e w' => (∃ bb, e = .returned (.bool bb)) ∧ St w0 NoB w' (WC g b n' c (dn n l i n) rest H) := by
  have HS0 := hide hS
  have HOK := hide hok
  clear hS hok
  unfold wvV
  go_enter Try.func68, Try.ntmps68
  go_wp2_with fail
  go_loopw [7] (fun s wr => ∃ (k f : Nat) (l' : List Rw), k ≤ n ∧ s = .int .i64 (k : Int) ∧ Hid (dn f l' k n = dn n l i n ∧ n ≤ k + f ∧ l'.length = l.length ∧ OKn w0 n l' ∧ St w0 NoB wr (WC g b n' c l' rest H))) (fun s _ => (n - intOf s).toNat)
  case atStart => exact ⟨i, n, l, hi, rfl, hide ⟨rfl, by omega, rfl, HOK.out, HS0.out⟩⟩
  case round =>
    obtain ⟨k, f, l', hk, rfl, HX⟩ := hrel
    have em : ∃ j1 : Nat, (2 : Int) * (k : Int) + 1 = (j1 : Int) ∧ j1 = 2 * k + 1 := ⟨2 * k + 1, by omega, rfl⟩
    obtain ⟨j1, ej, hj1⟩ := em
    have kb : k ≤ 1000000 := by omega
    have j1b : j1 ≤ 2000001 := by omega
    by_cases h1 : n ≤ j1
    · have d1 : decide ((n : Int) ≤ (j1 : Int)) = true := by simp; omega
      have d1' : decide (n ≤ j1) = true := by simp; omega
      have HE : Hid (l' = dn n l i n) := by
        refine hide ?_
        rw [← HX.out.1]
        cases f with
        | zero => rfl
        | succ f => rw [dn, if_pos (by omega)]
      clear h1 hj1
      go_wp2_with fail
      go_ret
      refine ⟨⟨_, rfl⟩, ?_⟩
      rw [← HE.out]
      exact HX.out.2.2.2.2
    · have d1 : decide ((n : Int) ≤ (j1 : Int)) = false := by simp; omega
      have d1' : decide (n ≤ j1) = false := by simp; omega
      have d0 : decide ((j1 : Int) < 0) = false := by simp
      obtain ⟨f, rfl⟩ : ∃ f', f = f' + 1 := ⟨f - 1, by have := HX.out.2.1; omega⟩
      have hdn := HX.out.1
      rw [dn, if_neg (by omega)] at hdn
      have HJ1 := hide hj1
      have j1n : j1 < n := by omega
      obtain ⟨_, _, hlen, hok, hS⟩ := HX.out
      obtain ⟨_, m1, m2, _⟩ := m_run hS
      have HLS := hide (fun W (h : St w0 NoB W (WC g b n' c l' rest H)) a b' (ha : a < n) (hb : b' < n) => less_w hok h (by omega) hc hm hN a b' (by omega) (by omega) ha hb)
      have HSWA := hide (fun W (h : St w0 NoB W (WC g b n' c l' rest H)) a b' (ha : a < n) (hb : b' < n) => swap_w h (by omega) (by omega) a b' (by omega) (by omega))
      have HS := hide hS
      have HL := hide hlen
      have HOKr := hide hok
      have hkn : k < n := by omega
      obtain ⟨j2, ej2, hj2⟩ : ∃ j2 : Nat, (j1 : Int) + 1 = (j2 : Int) ∧ j2 = j1 + 1 := ⟨j1 + 1, by omega, rfl⟩
      have HDJ : Hid (2 * k + 1 = j1 ∧ 2 * k + 2 = j2) := hide ⟨by omega, by omega⟩
      rw [HDJ.out.1, HDJ.out.2] at hdn
      have HDN := hide hdn
      have HJ2 := hide hj2
      clear hdn h1 hlen hok hS hj2 hj1
      by_cases h2 : j2 < n
      · have d2 : decide ((j2 : Int) < (n : Int)) = true := by simp; omega
        have d2' : decide (j2 < n) = true := by simp; omega
        have H2 := hide (fun W h => HLS.out W h j2 j1 h2 j1n)
        have j2n := h2
        obtain ⟨t2, ht2⟩ : ∃ t, ltW l' j2 j1 = t := ⟨_, rfl⟩
        rw [ht2] at H2
        have HT2 := hide ht2
        have HH2 := hide h2
        have jj : j1 ≤ j2 := by have := HJ2.out; omega
        clear ht2 h2
        cases t2
        ·
          have HD2 : Hid ((if ltW l' j1 k = true then dn f (swp l' k j1) j1 n else l') = dn n l i n) := by
            have := HDN.out
            have hJ : (if j2 < n ∧ ltW l' j2 j1 = true then j2 else j1) = j1 := if_neg (fun h => by have := h.2; rw [HT2.out] at this; exact Bool.false_ne_true this)
            rw [hJ] at this
            exact this
          have H3 := hide (fun W h => HLS.out W h j1 k j1n hkn)
          have HSW := hide (fun W h => HSWA.out W h k j1 hkn j1n)
          generalize ltW l' j1 k = t3 at HD2 H3
          cases t3
          · have HE : Hid (l' = dn n l i n) := hide (by have := HD2.out; rw [if_neg Bool.false_ne_true] at this; exact this)
            go_wp2_with (first
              | (go_at_call 97; (with_reducible refine (H2.out _ HS.out).mono ?_); rintro e w1 ⟨rfl, hS1⟩; obtain ⟨_, m1, m2, _⟩ := m_run hS1; have HS := hide hS1; clear hS1)
              | (go_at_call 97; (with_reducible refine (H3.out _ HS.out).mono ?_); rintro e w1 ⟨rfl, hS1⟩; obtain ⟨_, m1, m2, _⟩ := m_run hS1; have HS := hide hS1; clear hS1))
            go_ret
            refine ⟨⟨_, rfl⟩, ?_⟩
            rw [← HE.out]
            exact HS.out
          · have HE : Hid (dn f (swp l' k j1) j1 n = dn n l i n) := hide (by have := HD2.out; rw [if_pos rfl] at this; exact this)
            go_wp2_with (first
              | (go_at_call 97; (with_reducible refine (H2.out _ HS.out).mono ?_); rintro e w1 ⟨rfl, hS1⟩; obtain ⟨_, m1, m2, _⟩ := m_run hS1; have HS := hide hS1; clear hS1)
              | (go_at_call 97; (with_reducible refine (H3.out _ HS.out).mono ?_); rintro e w1 ⟨rfl, hS1⟩; obtain ⟨_, m1, m2, _⟩ := m_run hS1; have HS := hide hS1; clear hS1)
              | (go_at_call 99; (with_reducible refine (HSW.out _ HS.out).mono ?_); rintro e w1 ⟨rfl, hS1⟩; have HSN := hide hS1; clear hS1))
            go_roundw
            case rel => exact ⟨j1, f, swp l' k j1, by omega, by go_num, hide ⟨HE.out, by (have := HJ1.out); (have := HX.out.2.1); omega, by rw [swp_length]; exact HL.out, okn_swp HOKr.out hkn j1n, HSN.out⟩⟩
            case measure => (have := HJ1.out); (simp [intOf]) <;> omega
        ·
          have HD2 : Hid ((if ltW l' j2 k = true then dn f (swp l' k j2) j2 n else l') = dn n l i n) := by
            have := HDN.out
            have hJ : (if j2 < n ∧ ltW l' j2 j1 = true then j2 else j1) = j2 := if_pos ⟨HH2.out, HT2.out⟩
            rw [hJ] at this
            exact this
          have H3 := hide (fun W h => HLS.out W h j2 k j2n hkn)
          have HSW := hide (fun W h => HSWA.out W h k j2 hkn j2n)
          generalize ltW l' j2 k = t3 at HD2 H3
          cases t3
          · have HE : Hid (l' = dn n l i n) := hide (by have := HD2.out; rw [if_neg Bool.false_ne_true] at this; exact this)
            go_wp2_with (first
              | (go_at_call 97; (with_reducible refine (H2.out _ HS.out).mono ?_); rintro e w1 ⟨rfl, hS1⟩; obtain ⟨_, m1, m2, _⟩ := m_run hS1; have HS := hide hS1; clear hS1)
              | (go_at_call 97; (with_reducible refine (H3.out _ HS.out).mono ?_); rintro e w1 ⟨rfl, hS1⟩; obtain ⟨_, m1, m2, _⟩ := m_run hS1; have HS := hide hS1; clear hS1))
            go_ret
            refine ⟨⟨_, rfl⟩, ?_⟩
            rw [← HE.out]
            exact HS.out
          · have HE : Hid (dn f (swp l' k j2) j2 n = dn n l i n) := hide (by have := HD2.out; rw [if_pos rfl] at this; exact this)
            go_wp2_with (first
              | (go_at_call 97; (with_reducible refine (H2.out _ HS.out).mono ?_); rintro e w1 ⟨rfl, hS1⟩; obtain ⟨_, m1, m2, _⟩ := m_run hS1; have HS := hide hS1; clear hS1)
              | (go_at_call 97; (with_reducible refine (H3.out _ HS.out).mono ?_); rintro e w1 ⟨rfl, hS1⟩; obtain ⟨_, m1, m2, _⟩ := m_run hS1; have HS := hide hS1; clear hS1)
              | (go_at_call 99; (with_reducible refine (HSW.out _ HS.out).mono ?_); rintro e w1 ⟨rfl, hS1⟩; have HSN := hide hS1; clear hS1))
            go_roundw
            case rel => exact ⟨j2, f, swp l' k j2, by omega, by go_num, hide ⟨HE.out, by (have := HJ1.out); (have := HJ2.out); (have := HX.out.2.1); omega, by rw [swp_length]; exact HL.out, okn_swp HOKr.out hkn j2n, HSN.out⟩⟩
            case measure => (have := HJ1.out); (have := HJ2.out); (simp [intOf]) <;> omega
      · have d2 : decide ((j2 : Int) < (n : Int)) = false := by simp; omega
        have d2' : decide (j2 < n) = false := by simp; omega
        have HH2 := hide h2
        clear h2
        have HD2 : Hid ((if ltW l' j1 k = true then dn f (swp l' k j1) j1 n else l') = dn n l i n) := by
          have := HDN.out
          have hJ : (if j2 < n ∧ ltW l' j2 j1 = true then j2 else j1) = j1 := if_neg (fun h => HH2.out h.1)
          rw [hJ] at this
          exact this
        have H3 := hide (fun W h => HLS.out W h j1 k j1n hkn)
        have HSW := hide (fun W h => HSWA.out W h k j1 hkn j1n)
        generalize ltW l' j1 k = t3 at HD2 H3
        cases t3
        · have HE : Hid (l' = dn n l i n) := hide (by have := HD2.out; rw [if_neg Bool.false_ne_true] at this; exact this)
          go_wp2_with (first
            | (go_at_call 97; (with_reducible refine (H3.out _ HS.out).mono ?_); rintro e w1 ⟨rfl, hS1⟩; obtain ⟨_, m1, m2, _⟩ := m_run hS1; have HS := hide hS1; clear hS1))
          go_ret
          refine ⟨⟨_, rfl⟩, ?_⟩
          rw [← HE.out]
          exact HS.out
        · have HE : Hid (dn f (swp l' k j1) j1 n = dn n l i n) := hide (by have := HD2.out; rw [if_pos rfl] at this; exact this)
          go_wp2_with (first
            | (go_at_call 97; (with_reducible refine (H3.out _ HS.out).mono ?_); rintro e w1 ⟨rfl, hS1⟩; obtain ⟨_, m1, m2, _⟩ := m_run hS1; have HS := hide hS1; clear hS1)
            | (go_at_call 99; (with_reducible refine (HSW.out _ HS.out).mono ?_); rintro e w1 ⟨rfl, hS1⟩; have HSN := hide hS1; clear hS1))
          go_roundw
          case rel => exact ⟨j1, f, swp l' k j1, by omega, by go_num, hide ⟨HE.out, by (have := HJ1.out); (have := HX.out.2.1); omega, by rw [swp_length]; exact HL.out, okn_swp HOKr.out hkn j1n, HSN.out⟩⟩
          case measure => (have := HJ1.out); (simp [intOf]) <;> omega
end Go.Proofs.Ythpioncehigoaaa
