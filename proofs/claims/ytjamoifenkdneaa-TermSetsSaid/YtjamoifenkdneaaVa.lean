/-
  Layer 7: plain law of the heap: what comes off it rises, and is what was put on it.
-/
import Derived.Test.YtjamoifenkdneaaTu
namespace Go.Proofs.Ytjamoifenkdneaa
open Go.RowKit
set_option linter.unusedSimpArgs false
set_option linter.unusedVariables false

/-- What stands at a place. -/
def gT (l : List Tm) (i : Nat) : Tm := l.getD i d0T
theorem G_some {l : List Tm} {i : Nat} (h : i < l.length) : l[i]? = some (gT l i) := by
  unfold gT
  rw [List.getD_eq_getElem?_getD, List.getElem?_eq_getElem h]
  rfl
theorem ltA_G {l : List Tm} {a b : Nat} (ha : a < l.length) (hb : b < l.length) : ltA l a b = decide (cmpA (gT l a) (gT l b) < 0) := by
  unfold ltA
  rw [G_some ha, G_some hb]
theorem swp_G {l : List Tm} {a b : Nat} (ha : a < l.length) (hb : b < l.length) (k : Nat) : gT (swp l a b) k = if k = b then gT l a else if k = a then gT l b else gT l k := by
  unfold swp
  rw [G_some ha, G_some hb]
  show ((l.set a (gT l b)).set b (gT l a)).getD k d0T = _
  rw [List.getD_eq_getElem?_getD, List.getElem?_set]
  by_cases h : b = k
  · rw [if_pos h, if_pos (by rw [List.length_set]; exact hb), if_pos h.symm]
    rfl
  · rw [if_neg h, if_neg (fun e => h e.symm), List.getElem?_set]
    by_cases h' : a = k
    · rw [if_pos h', if_pos ha, if_pos h'.symm]
      rfl
    · rw [if_neg h', if_neg (fun e => h' e.symm), ← List.getD_eq_getElem?_getD]
      rfl
/-- A heap from place lo on. -/
def HP (l : List Tm) (lo n : Nat) : Prop := ∀ c, 1 ≤ c → c < n → lo ≤ (c - 1) / 2 → cmpA (gT l ((c - 1) / 2)) (gT l c) ≤ 0
theorem dn_hp : ∀ (f : Nat) (l : List Tm) (i n lo : Nat), n ≤ l.length → n ≤ f + i → lo ≤ i →
    (∀ c, 1 ≤ c → c < n → lo ≤ (c - 1) / 2 → (c - 1) / 2 ≠ i → cmpA (gT l ((c - 1) / 2)) (gT l c) ≤ 0) →
    (1 ≤ i → lo ≤ (i - 1) / 2 → ∀ c, 1 ≤ c → c < n → (c - 1) / 2 = i → cmpA (gT l ((i - 1) / 2)) (gT l c) ≤ 0) →
    HP (dn f l i n) lo n
  | 0, l, i, n, lo, hn, hf, hlo, h1, h2 => fun c hc1 hc hp => by
    rw [dn]
    exact h1 c hc1 hc hp (by omega)
  | f + 1, l, i, n, lo, hn, hf, hlo, h1, h2 => by
    rw [dn]
    split
    · rename_i hb
      exact fun c hc1 hc hp => h1 c hc1 hc hp (by omega)
    · rename_i hb
      -- the smaller child
      obtain ⟨j, hj⟩ : ∃ j, j = (if 2 * i + 2 < n ∧ ltA l (2 * i + 2) (2 * i + 1) = true then 2 * i + 2 else 2 * i + 1) := ⟨_, rfl⟩
      rw [← hj]
      have hjb : j < n ∧ (j = 2 * i + 1 ∨ j = 2 * i + 2) := by
        rw [hj]
        split
        · rename_i h; exact ⟨h.1, .inr rfl⟩
        · exact ⟨by omega, .inl rfl⟩
      have hmin : ∀ c, 1 ≤ c → c < n → (c - 1) / 2 = i → cmpA (gT l j) (gT l c) ≤ 0 := by
        intro c hc1 hc hp
        rw [hj]
        split
        · rename_i h
          have hl := h.2
          rw [ltA_G (by omega) (by omega)] at hl
          have hl := of_decide_eq_true hl
          rcases (show c = 2 * i + 1 ∨ c = 2 * i + 2 by omega) with e | e
          · rw [e]; omega
          · rw [e, cmpA_ord.self]; omega
        · rename_i h
          rcases (show c = 2 * i + 1 ∨ c = 2 * i + 2 by omega) with e | e
          · rw [e, cmpA_ord.self]; omega
          · rw [e]
            have hl : ¬ ltA l (2 * i + 2) (2 * i + 1) = true := fun q => h ⟨by omega, q⟩
            rw [ltA_G (by omega) (by omega)] at hl
            have hl : ¬ cmpA (gT l (2 * i + 2)) (gT l (2 * i + 1)) < 0 := fun q => hl (decide_eq_true q)
            have := cmpA_ord.anti (gT l (2 * i + 1)) (gT l (2 * i + 2))
            omega
      clear hj
      have hil : i < l.length := by omega
      have hjl : j < l.length := by omega
      split
      · rename_i hlt
        rw [ltA_G hjl hil] at hlt
        have hlt := of_decide_eq_true hlt
        refine dn_hp f (swp l i j) j n lo (by rw [swp_length]; exact hn) (by omega) (by omega) ?_ ?_
        · intro c hc1 hc hp hpj
          rw [swp_G hil hjl, swp_G hil hjl, if_neg hpj]
          by_cases hpi : (c - 1) / 2 = i
          · rw [if_pos hpi]
            by_cases hcj : c = j
            · rw [if_pos hcj]; omega
            · rw [if_neg hcj, if_neg (by omega)]
              exact hmin c hc1 hc hpi
          · rw [if_neg hpi, if_neg (show c ≠ j by omega)]
            by_cases hci : c = i
            · rw [if_pos hci]
              have := h2 (by omega) (by rw [← hci]; exact hp) j (by omega) (by omega) (by omega)
              rw [hci]
              exact this
            · rw [if_neg hci]
              exact h1 c hc1 hc hp hpi
        · intro hj1 hjp c hc1 hc hp
          have e : (j - 1) / 2 = i := by omega
          rw [e, swp_G hil hjl, swp_G hil hjl, if_neg (show i ≠ j by omega), if_pos rfl, if_neg (show c ≠ j by omega), if_neg (show c ≠ i by omega)]
          have := h1 c hc1 hc (by omega) (by omega)
          rw [hp] at this
          exact this
      · rename_i hlt
        rw [ltA_G hjl hil] at hlt
        have hlt : ¬ cmpA (gT l j) (gT l i) < 0 := fun q => hlt (decide_eq_true q)
        have hij : cmpA (gT l i) (gT l j) ≤ 0 := by have := cmpA_ord.anti (gT l i) (gT l j); omega
        intro c hc1 hc hp
        by_cases hpi : (c - 1) / 2 = i
        · rw [hpi]
          exact cmpA_ord.lt _ _ _ hij (hmin c hc1 hc hpi)
        · exact h1 c hc1 hc hp hpi
theorem hpI_hp : ∀ (k : Nat) (l : List Tm) (n : Nat), n ≤ l.length → HP l k n → HP (hpI k l n) 0 n
  | 0, _, _, _, h => h
  | k + 1, l, n, hn, h => by
    rw [hpI]
    refine hpI_hp k _ n (by rw [dn_length]; exact hn) (dn_hp n l k n k hn (by omega) (Nat.le_refl _) ?_ ?_)
    · intro c hc1 hc hp hne
      exact h c hc1 hc (by omega)
    · intro hk hk' c _ _ _
      omega
/-- What dn does touches no place from n on, and what stands ahead of it stays there. -/
theorem dn_far : ∀ (f : Nat) (l : List Tm) (i n k : Nat), n ≤ l.length → n ≤ k → gT (dn f l i n) k = gT l k
  | 0, _, _, _, _, _, _ => rfl
  | f + 1, l, i, n, k, hn, hk => by
    rw [dn]
    split
    · rfl
    · rename_i hb
      obtain ⟨j, hj⟩ : ∃ j, j = (if 2 * i + 2 < n ∧ ltA l (2 * i + 2) (2 * i + 1) = true then 2 * i + 2 else 2 * i + 1) := ⟨_, rfl⟩
      rw [← hj]
      have hjb : j < n ∧ (j = 2 * i + 1 ∨ j = 2 * i + 2) := by
        rw [hj]
        split
        · rename_i h; exact ⟨h.1, .inr rfl⟩
        · exact ⟨by omega, .inl rfl⟩
      clear hj
      split
      · rw [dn_far f _ j n k (by rw [swp_length]; exact hn) hk, swp_G (by omega) (by omega), if_neg (by omega), if_neg (by omega)]
      · rfl
/-- One of the first n. -/
def Am (l : List Tm) (n : Nat) (x : Tm) : Prop := ∃ i, i < n ∧ gT l i = x
theorem swp_am {l : List Tm} {a b n : Nat} (ha : a < n) (hb : b < n) (hn : n ≤ l.length) (x : Tm) : Am (swp l a b) n x ↔ Am l n x := by
  constructor
  · rintro ⟨i, hi, e⟩
    rw [swp_G (by omega) (by omega)] at e
    split at e
    · exact ⟨a, ha, e⟩
    · split at e
      · exact ⟨b, hb, e⟩
      · exact ⟨i, hi, e⟩
  · rintro ⟨i, hi, e⟩
    by_cases h1 : i = a
    · exact ⟨b, hb, by rw [swp_G (by omega) (by omega), if_pos rfl, ← h1]; exact e⟩
    · by_cases h2 : i = b
      · refine ⟨a, ha, ?_⟩
        rw [swp_G (by omega) (by omega)]
        split
        · rename_i q; rw [q, ← h2]; exact e
        · rw [if_pos rfl, ← h2]; exact e
      · exact ⟨i, hi, by rw [swp_G (by omega) (by omega), if_neg h2, if_neg h1]; exact e⟩
theorem dn_am : ∀ (f : Nat) (l : List Tm) (i n : Nat) (x : Tm), n ≤ l.length → (Am (dn f l i n) n x ↔ Am l n x)
  | 0, _, _, _, _, _ => Iff.rfl
  | f + 1, l, i, n, x, hn => by
    rw [dn]
    split
    · exact Iff.rfl
    · rename_i hb
      obtain ⟨j, hj⟩ : ∃ j, j = (if 2 * i + 2 < n ∧ ltA l (2 * i + 2) (2 * i + 1) = true then 2 * i + 2 else 2 * i + 1) := ⟨_, rfl⟩
      rw [← hj]
      have hjb : j < n ∧ (j = 2 * i + 1 ∨ j = 2 * i + 2) := by
        rw [hj]
        split
        · rename_i h; exact ⟨h.1, .inr rfl⟩
        · exact ⟨by omega, .inl rfl⟩
      clear hj
      split
      · exact (dn_am f _ j n x (by rw [swp_length]; exact hn)).trans (swp_am (by omega) (by omega) hn x)
      · exact Iff.rfl
theorem hpI_am : ∀ (k : Nat) (l : List Tm) (n : Nat) (x : Tm), n ≤ l.length → (Am (hpI k l n) n x ↔ Am l n x)
  | 0, _, _, _, _ => Iff.rfl
  | k + 1, l, n, x, hn => by
    rw [hpI]
    exact (hpI_am k _ n x (by rw [dn_length]; exact hn)).trans (dn_am _ _ _ _ _ hn)
/-- The first of a heap is the least. -/
theorem hp_root {l : List Tm} {n : Nat} (h : HP l 0 n) : ∀ (c : Nat), c < n → cmpA (gT l 0) (gT l c) ≤ 0 := by
  intro c
  induction c using Nat.strongRecOn with
  | _ c ih =>
    intro hc
    by_cases h0 : c = 0
    · rw [h0, cmpA_ord.self]; omega
    · exact cmpA_ord.lt _ _ _ (ih ((c - 1) / 2) (by omega) (by omega)) (h c (by omega) hc (by omega))
theorem popL_last {n : Nat} {l : List Tm} (h : n < l.length) : gT (popL n l) n = gT l 0 := by
  unfold popL
  rw [dn_far _ _ _ _ _ (by rw [swp_length]; omega) (Nat.le_refl _), swp_G (by omega) h, if_pos rfl]
theorem popL_hp {n : Nat} {l : List Tm} (h : n < l.length) (hp : HP l 0 (n + 1)) : HP (popL n l) 0 n := by
  unfold popL
  refine dn_hp n _ 0 n 0 (by rw [swp_length]; omega) (by omega) (Nat.le_refl _) ?_ ?_
  · intro c hc1 hc _ hne
    rw [swp_G (by omega) h, swp_G (by omega) h, if_neg (by omega), if_neg hne, if_neg (by omega), if_neg (by omega)]
    exact hp c hc1 (by omega) (by omega)
  · intro h1
    omega
theorem popL_am {n : Nat} {l : List Tm} (h : n < l.length) (x : Tm) : (gT l 0 = x ∨ Am (popL n l) n x) ↔ Am l (n + 1) x := by
  have e := fun y => dn_am n (swp l 0 n) 0 n y (by rw [swp_length]; omega)
  have e2 := swp_am (a := 0) (b := n) (n := n + 1) (by omega) (by omega) (l := l) (by omega) x
  have e3 : gT (swp l 0 n) n = gT l 0 := by rw [swp_G (by omega) h, if_pos rfl]
  unfold popL
  rw [e x, ← e2]
  constructor
  · rintro (q | ⟨i, hi, q⟩)
    · exact ⟨n, by omega, by rw [e3]; exact q⟩
    · exact ⟨i, by omega, q⟩
  · rintro ⟨i, hi, q⟩
    by_cases hin : i = n
    · rw [hin, e3] at q
      exact .inl q
    · exact .inr ⟨i, by omega, q⟩
theorem popA_mem : ∀ (n : Nat) (l : List Tm) (x : Tm), n ≤ l.length → (x ∈ popA n l ↔ Am l n x)
  | 0, l, x, _ => by
    rw [popA]
    constructor
    · intro h; cases h
    · rintro ⟨i, hi, _⟩; omega
  | n + 1, l, x, hn => by
    have e : (popL n l).getD n d0T = gT l 0 := popL_last (by omega)
    rw [popA, e, List.mem_cons, popA_mem n _ x (by rw [popL_length]; omega), ← popL_am (by omega) x]
    constructor
    · rintro (q | q)
      · exact .inl q.symm
      · exact .inr q
    · rintro (q | q)
      · exact .inl q.symm
      · exact .inr q
/-- Each at most what stands behind it. -/
def Srt : List Tm → Prop
  | [] => True
  | x :: r => (∀ y ∈ r, cmpA x y ≤ 0) ∧ Srt r
theorem popA_srt : ∀ (n : Nat) (l : List Tm), n ≤ l.length → HP l 0 n → Srt (popA n l)
  | 0, _, _, _ => by rw [popA]; exact trivial
  | n + 1, l, hn, h => by
    have e : (popL n l).getD n d0T = gT l 0 := popL_last (by omega)
    rw [popA, e]
    refine ⟨?_, popA_srt n _ (by rw [popL_length]; omega) (popL_hp (by omega) h)⟩
    intro y hy
    rw [popA_mem n _ y (by rw [popL_length]; omega)] at hy
    obtain ⟨i, hi, q⟩ := (popL_am (l := l) (n := n) (by omega) y).1 (.inr hy)
    rw [← q]
    exact hp_root h i hi
/-- A set: each ahead of all behind it. -/
def Ris : List Tm → Prop
  | [] => True
  | x :: r => (∀ y ∈ r, cmpA x y < 0) ∧ Ris r
theorem ris_snoc : ∀ (o : List Tm) (x : Tm), Ris o → (∀ y ∈ o, cmpA y x < 0) → Ris (o ++ [x])
  | [], x, _, _ => ⟨fun _ h => (by cases h), trivial⟩
  | a :: o, x, h, hx => by
    refine ⟨?_, ris_snoc o x h.2 (fun y hy => hx y (List.mem_cons_of_mem _ hy))⟩
    intro y hy
    have hy : y ∈ o ++ [x] := hy
    rw [List.mem_append] at hy
    rcases hy with q | q
    · exact h.1 y q
    · rw [List.mem_singleton.1 q]; exact hx a (List.mem_cons_self ..)
theorem ris_last : ∀ (o : List Tm) (z : Tm), Ris o → o.getLast? = some z → ∀ y ∈ o, y = z ∨ cmpA y z < 0
  | [], _, _, h, _, _ => by cases h
  | [a], z, _, h, y, hy => by
    rw [List.mem_singleton.1 hy]
    exact .inl (by simpa using h)
  | a :: b :: o, z, hr, h, y, hy => by
    have hl : (b :: o).getLast? = some z := by rw [List.getLast?_cons_cons] at h; exact h
    rcases List.mem_cons.1 hy with q | q
    · exact .inr (by rw [q]; exact hr.1 z (List.mem_of_getLast? hl))
    · exact ris_last (b :: o) z hr.2 hl y q
theorem cmpA_lt_le {a b c : Tm} (h1 : cmpA a b < 0) (h2 : cmpA b c ≤ 0) : cmpA a c < 0 := by
  have h3 := cmpA_ord.lt a b c (by omega) h2
  by_cases h : cmpA a c = 0
  · have := (cmpA_ord.lt' a b c (by omega) h2 h).1
    omega
  · omega
theorem ddL_law : ∀ (r out : List Tm), Srt r → Ris out → (∀ y ∈ out, ∀ x ∈ r, cmpA y x ≤ 0) →
    Ris (ddL out r) ∧ (∀ x ∈ ddL out r, x ∈ out ∨ x ∈ r) ∧ (∀ x, x ∈ out ∨ x ∈ r → ∃ y ∈ ddL out r, cmpA y x = 0)
  | [], out, _, ho, _ => by
    rw [ddL]
    exact ⟨ho, fun x h => .inl h, fun x h => by
      rcases h with q | q
      · exact ⟨x, q, cmpA_ord.self x⟩
      · cases q⟩
  | x :: r, out, hs, ho, hle => by
    rw [ddL]
    cases hl : out.getLast? with
    | none =>
      have e : out = [] := List.getLast?_eq_none_iff.1 hl
      obtain ⟨p1, p2, p3⟩ := ddL_law r [x] hs.2 ⟨fun _ h => (by cases h), trivial⟩ (fun y hy z hz => by rw [List.mem_singleton.1 hy]; exact hs.1 z hz)
      refine ⟨p1, fun z hz => ?_, fun z hz => p3 z ?_⟩
      · rcases p2 z hz with q | q
        · exact .inr (by rw [List.mem_singleton.1 q]; exact List.mem_cons_self ..)
        · exact .inr (List.mem_cons_of_mem _ q)
      · rcases hz with q | q
        · rw [e] at q; cases q
        · rcases List.mem_cons.1 q with q | q
          · exact .inl (List.mem_singleton.2 q)
          · exact .inr q
    | some y =>
      have hyo : y ∈ out := List.mem_of_getLast? hl
      have hyx := hle y hyo x (List.mem_cons_self ..)
      show Ris (if samT y x = true then ddL out r else ddL (out ++ [x]) r) ∧ _
      by_cases hsm : cmpA y x = 0
      · have e : samT y x = true := decide_eq_true hsm
        obtain ⟨p1, p2, p3⟩ := ddL_law r out hs.2 ho (fun a ha z hz => hle a ha z (List.mem_cons_of_mem _ hz))
        simp only [e, if_true]
        refine ⟨p1, fun z hz => ?_, fun z hz => ?_⟩
        · rcases p2 z hz with q | q
          · exact .inl q
          · exact .inr (List.mem_cons_of_mem _ q)
        · rcases hz with q | q
          · exact p3 z (.inl q)
          · rcases List.mem_cons.1 q with q | q
            · obtain ⟨u, hu, e2⟩ := p3 y (.inl hyo)
              refine ⟨u, hu, ?_⟩
              rw [q]
              have h1 := cmpA_ord.lt u y x (by omega) (by omega)
              have h2 := cmpA_ord.lt x y u (by have := cmpA_ord.anti x y; omega) (by have := cmpA_ord.anti y u; omega)
              have := cmpA_ord.anti u x
              omega
            · exact p3 z (.inr q)
      · have e : samT y x = false := decide_eq_false hsm
        have hlt : ∀ a ∈ out, cmpA a x < 0 := fun a ha => by
          rcases ris_last out y ho hl a ha with q | q
          · rw [q]; omega
          · exact cmpA_lt_le q hyx
        obtain ⟨p1, p2, p3⟩ := ddL_law r (out ++ [x]) hs.2 (ris_snoc out x ho hlt) (fun a ha z hz => by
          rcases List.mem_append.1 ha with q | q
          · exact hle a q z (List.mem_cons_of_mem _ hz)
          · rw [List.mem_singleton.1 q]; exact hs.1 z hz)
        simp only [e]
        refine ⟨p1, fun z hz => ?_, fun z hz => p3 z ?_⟩
        · rcases p2 z hz with q | q
          · rcases List.mem_append.1 q with q | q
            · exact .inl q
            · exact .inr (by rw [List.mem_singleton.1 q]; exact List.mem_cons_self ..)
          · exact .inr (List.mem_cons_of_mem _ q)
        · rcases hz with q | q
          · exact .inl (List.mem_append.2 (.inl q))
          · rcases List.mem_cons.1 q with q | q
            · exact .inl (List.mem_append.2 (.inr (List.mem_singleton.2 q)))
            · exact .inr q
theorem am_mem (l : List Tm) (x : Tm) : Am l l.length x ↔ x ∈ l := by
  constructor
  · rintro ⟨i, hi, e⟩
    exact List.mem_of_getElem? (by rw [G_some hi, e])
  · intro h
    obtain ⟨i, hi⟩ := List.getElem?_of_mem h
    have hlt := (List.getElem?_eq_some_iff.1 hi).1
    rw [G_some hlt] at hi
    exact ⟨i, hlt, Option.some.inj hi⟩
/-- What setL answers: rising; of the row; each of the row has its like. -/
theorem setL_law (l : List Tm) : Ris (setL l) ∧ (∀ x ∈ setL l, x ∈ l) ∧ (∀ x ∈ l, ∃ y ∈ setL l, cmpA y x = 0) := by
  have hh : HP (hpI (l.length / 2) l l.length) 0 l.length := hpI_hp _ l _ (Nat.le_refl _) (fun c _ hc hp => by omega)
  have hm : ∀ x, x ∈ popA l.length (hpI (l.length / 2) l l.length) ↔ x ∈ l := fun x => by
    rw [popA_mem _ _ _ (by rw [hpI_length]; omega), hpI_am _ _ _ _ (Nat.le_refl _), am_mem]
  obtain ⟨p1, p2, p3⟩ := ddL_law _ [] (popA_srt _ _ (by rw [hpI_length]; omega) hh) trivial (fun y hy => by cases hy)
  unfold setL
  refine ⟨p1, fun x hx => ?_, fun x hx => p3 x (.inr ((hm x).2 hx))⟩
  rcases p2 x hx with q | q
  · cases q
  · exact (hm x).1 q
/-- The same, one by one. -/
def EqT : List Tm → List Tm → Prop
  | [], [] => True
  | x :: a, y :: b => cmpA x y = 0 ∧ EqT a b
  | _, _ => False
theorem cmpA_flip {x y : Tm} (h : cmpA x y = 0) : cmpA y x = 0 := by have := cmpA_ord.anti x y; omega
theorem cmpA_tr {x y z : Tm} (h : cmpA x y = 0) (h' : cmpA y z = 0) : cmpA x z = 0 := by
  have h1 := cmpA_ord.lt x y z (by omega) (by omega)
  have h2 := cmpA_ord.lt z y x (by have := cmpA_flip h'; omega) (by have := cmpA_flip h; omega)
  have := cmpA_ord.anti x z
  omega
theorem cmpA_eq_lt {x y z : Tm} (h : cmpA x y = 0) (h' : cmpA y z < 0) : cmpA x z < 0 := by
  have h1 := cmpA_ord.lt x y z (by omega) (by omega)
  by_cases e : cmpA x z = 0
  · have := cmpA_tr (cmpA_flip h) e
    omega
  · omega
theorem ris_eq : ∀ (a b : List Tm), Ris a → Ris b → (∀ x ∈ a, ∃ y ∈ b, cmpA x y = 0) → (∀ y ∈ b, ∃ x ∈ a, cmpA x y = 0) → EqT a b
  | [], [], _, _, _, _ => trivial
  | [], y :: b, _, _, _, h => by
    obtain ⟨x, hx, _⟩ := h y (List.mem_cons_self ..)
    cases hx
  | x :: a, [], _, _, h, _ => by
    obtain ⟨y, hy, _⟩ := h x (List.mem_cons_self ..)
    cases hy
  | x :: a, y :: b, ha, hb, h1, h2 => by
    have hxy : cmpA x y = 0 := by
      obtain ⟨y', hy', e⟩ := h1 x (List.mem_cons_self ..)
      obtain ⟨x', hx', e'⟩ := h2 y (List.mem_cons_self ..)
      rcases List.mem_cons.1 hy' with q | q
      · rw [← q]; exact e
      · rcases List.mem_cons.1 hx' with r | r
        · rw [← r]; exact e'
        · have k1 := hb.1 y' q
          have k2 := ha.1 x' r
          have k3 := cmpA_eq_lt e' k1
          have k4 := cmpA_ord.lt' x x' y' (by omega) (by omega) e
          omega
    refine ⟨hxy, ris_eq a b ha.2 hb.2 (fun z hz => ?_) (fun z hz => ?_)⟩
    · obtain ⟨u, hu, e⟩ := h1 z (List.mem_cons_of_mem _ hz)
      rcases List.mem_cons.1 hu with q | q
      · have k := ha.1 z hz
        rw [q] at e
        have := cmpA_tr hxy (cmpA_flip e)
        omega
      · exact ⟨u, q, e⟩
    · obtain ⟨u, hu, e⟩ := h2 z (List.mem_cons_of_mem _ hz)
      rcases List.mem_cons.1 hu with q | q
      · have k := hb.1 z hz
        rw [q] at e
        have := cmpA_tr (cmpA_flip hxy) e
        omega
      · exact ⟨u, q, e⟩
/-- Two rows with the same members have the same set. -/
theorem setL_same {a b : List Tm} (h : ∀ x, x ∈ a ↔ x ∈ b) : EqT (setL a) (setL b) := by
  obtain ⟨p1, p2, p3⟩ := setL_law a
  obtain ⟨q1, q2, q3⟩ := setL_law b
  refine ris_eq _ _ p1 q1 (fun x hx => ?_) (fun y hy => ?_)
  · obtain ⟨y, hy, e⟩ := q3 x ((h x).1 (p2 x hx))
    exact ⟨y, hy, cmpA_flip e⟩
  · obtain ⟨x, hx, e⟩ := p3 y ((h y).2 (q2 y hy))
    exact ⟨x, hx, e⟩
/-- Put where it belongs, if it isn't there. -/
def insL : List Tm → Tm → List Tm
  | [], x => [x]
  | y :: r, x => if cmpA y x < 0 then y :: insL r x else if samT y x = true then y :: r else x :: y :: r
theorem insL_mem : ∀ (l : List Tm) (x z : Tm), z ∈ insL l x → z = x ∨ z ∈ l
  | [], x, z, h => .inl (List.mem_singleton.1 h)
  | y :: r, x, z, h => by
    rw [insL] at h
    split at h
    · rcases List.mem_cons.1 h with q | q
      · exact .inr (by rw [q]; exact List.mem_cons_self ..)
      · rcases insL_mem r x z q with p | p
        · exact .inl p
        · exact .inr (List.mem_cons_of_mem _ p)
    · split at h
      · exact .inr h
      · rcases List.mem_cons.1 h with q | q
        · exact .inl q
        · exact .inr q
theorem insL_keep : ∀ (l : List Tm) (x z : Tm), z ∈ l → z ∈ insL l x
  | [], _, _, h => by cases h
  | y :: r, x, z, h => by
    rw [insL]
    split
    · rcases List.mem_cons.1 h with q | q
      · rw [q]; exact List.mem_cons_self ..
      · exact List.mem_cons_of_mem _ (insL_keep r x z q)
    · split
      · exact h
      · exact List.mem_cons_of_mem _ h
theorem insL_new : ∀ (l : List Tm) (x : Tm), ∃ y ∈ insL l x, cmpA y x = 0
  | [], x => ⟨x, List.mem_singleton.2 rfl, cmpA_ord.self x⟩
  | y :: r, x => by
    rw [insL]
    split
    · obtain ⟨z, hz, e⟩ := insL_new r x
      exact ⟨z, List.mem_cons_of_mem _ hz, e⟩
    · split
      · rename_i h
        exact ⟨y, List.mem_cons_self .., of_decide_eq_true h⟩
      · exact ⟨x, List.mem_cons_self .., cmpA_ord.self x⟩
theorem insL_ris : ∀ (l : List Tm) (x : Tm), Ris l → Ris (insL l x)
  | [], _, _ => ⟨fun _ h => (by cases h), trivial⟩
  | y :: r, x, h => by
    rw [insL]
    split
    · rename_i hlt
      refine ⟨fun z hz => ?_, insL_ris r x h.2⟩
      rcases insL_mem r x z hz with q | q
      · rw [q]; exact hlt
      · exact h.1 z q
    · rename_i hlt
      split
      · exact h
      · rename_i hs
        have hne : cmpA y x ≠ 0 := fun e => hs (decide_eq_true e)
        have hxy : cmpA x y < 0 := by have := cmpA_ord.anti x y; omega
        refine ⟨fun z hz => ?_, h⟩
        rcases List.mem_cons.1 hz with q | q
        · rw [q]; exact hxy
        · exact cmpA_lt_le hxy (by have := h.1 z q; omega)
/-- The page's set. -/
def insA (l : List Tm) : List Tm := l.foldl insL []
theorem insF_law : ∀ (l out : List Tm), Ris out → Ris (l.foldl insL out) ∧ (∀ x ∈ l.foldl insL out, x ∈ out ∨ x ∈ l) ∧ (∀ x, x ∈ out ∨ x ∈ l → ∃ y ∈ l.foldl insL out, cmpA y x = 0) ∧ (∀ x ∈ out, x ∈ l.foldl insL out)
  | [], out, h => by
    refine ⟨h, fun x hx => .inl hx, fun x hx => ?_, fun x hx => hx⟩
    rcases hx with q | q
    · exact ⟨x, q, cmpA_ord.self x⟩
    · cases q
  | a :: l, out, h => by
    obtain ⟨p1, p2, p3, p4⟩ := insF_law l (insL out a) (insL_ris out a h)
    rw [List.foldl_cons]
    refine ⟨p1, fun x hx => ?_, fun x hx => ?_, fun x hx => p4 x (insL_keep out a x hx)⟩
    · rcases p2 x hx with q | q
      · rcases insL_mem out a x q with r | r
        · exact .inr (by rw [r]; exact List.mem_cons_self ..)
        · exact .inl r
      · exact .inr (List.mem_cons_of_mem _ q)
    · rcases hx with q | q
      · exact p3 x (.inl (insL_keep out a x q))
      · rcases List.mem_cons.1 q with r | r
        · obtain ⟨y, hy, e⟩ := insL_new out a
          exact ⟨y, p4 y hy, by rw [r]; exact e⟩
        · exact p3 x (.inr r)
/-- The program's set and the page's are the same, one by one. -/
theorem setL_ins (l : List Tm) : EqT (setL l) (insA l) := by
  obtain ⟨p1, p2, p3⟩ := setL_law l
  obtain ⟨q1, q2, q3, _⟩ := insF_law l [] trivial
  refine ris_eq _ _ p1 q1 (fun x hx => ?_) (fun y hy => ?_)
  · obtain ⟨y, hy, e⟩ := q3 x (.inr (p2 x hx))
    exact ⟨y, hy, cmpA_flip e⟩
  · rcases q2 y hy with r | r
    · cases r
    · obtain ⟨x, hx, e⟩ := p3 y r
      exact ⟨x, hx, e⟩
/-- Where it goes. -/
theorem insL_at : ∀ (l : List Tm) (x : Tm) (j : Nat), j ≤ l.length → (∀ i, i < j → ∃ y, l[i]? = some y ∧ cmpA y x < 0) → (∀ y, l[j]? = some y → ¬ cmpA y x < 0) →
    insL l x = if (∃ y, l[j]? = some y ∧ samT y x = true) then l else l.take j ++ x :: l.drop j
  | [], x, j, hj, _, _ => by
    have : j = 0 := by simpa using hj
    subst this
    rw [insL, if_neg (by rintro ⟨y, h, _⟩; cases h)]
    rfl
  | a :: l, x, 0, _, _, h2 => by
    have ha := h2 a rfl
    rw [insL, if_neg ha]
    by_cases hs : samT a x = true
    · rw [if_pos hs, if_pos ⟨a, rfl, hs⟩]
    · rw [if_neg hs, if_neg (by rintro ⟨y, h, h'⟩; exact hs (by rw [Option.some.inj h]; exact h'))]
      rfl
  | a :: l, x, j + 1, hj, h1, h2 => by
    obtain ⟨y, e, hy⟩ := h1 0 (by omega)
    have e : a = y := Option.some.inj e
    rw [insL, e, if_pos hy, insL_at l x j (by simpa using hj) (fun i hi => by have := h1 (i + 1) (by omega); simpa using this) (fun z hz => h2 z (by simpa using hz))]
    by_cases hs : ∃ z, l[j]? = some z ∧ samT z x = true
    · rw [if_pos hs, if_pos (by simpa using hs)]
    · rw [if_neg hs, if_neg (by simpa using hs)]
      rfl
end Go.Proofs.Ytjamoifenkdneaa
