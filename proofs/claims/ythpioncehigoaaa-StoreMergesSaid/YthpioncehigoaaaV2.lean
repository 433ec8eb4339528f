/-
  Joined of texts of mine: Xc,Xd,Xe.
-/
import Derived.Test.YthpioncehigoaaaV1
set_option linter.unusedSimpArgs false
set_option linter.unusedVariables false
/-
  Layer 18: the heap of rows: Init, Pop, Fix.
-/
set_option linter.unusedVariables false
namespace Go.Proofs.Ythpioncehigoaaa
open Go.RowKit
set_option linter.unusedSimpArgs false
theorem okn_dn {W : World} {n : Nat} : ∀ (f : Nat) (l : List Rw) (i : Nat), OKn W n l → OKn W n (dn f l i n)
  | 0, _, _, h => h
  | f + 1, l, i, h => by
    rw [dn]
    split
    · exact h
    · rename_i hb
      obtain ⟨j, hj⟩ : ∃ j, j = (if 2 * i + 2 < n ∧ ltW l (2 * i + 2) (2 * i + 1) = true then 2 * i + 2 else 2 * i + 1) := ⟨_, rfl⟩
      rw [← hj]
      have hjb : j < n := by
        rw [hj]
        split
        · rename_i h; exact h.1
        · omega
      split
      · exact okn_dn f _ j (okn_swp h (by omega) hjb)
      · exact h
set_option maxRecDepth 100000 in
set_option maxHeartbeats 1600000 in
theorem initW_any {w0 w : World} {H : List Chunk} (g b n c : Nat) (l : List Rw) (rest : List Value) (hok : OKn w0 n l) (hn : n ≤ l.length) (hc : n ≤ c) (hm : c ≤ maxLen) (hN : n ≤ 1000000) (hS : St w0 NoB w (WC g b n c l rest H)) :
    Calls Try.prog 48 #[wvV g] w fun e w' => e = .returned (.tuple #[]) ∧ St w0 NoB w' (WC g b n c (hpI (n / 2) l n) rest H) := by
  have HS0 := hide hS
  have HOK := hide hok
  obtain ⟨m0, _, _, _⟩ := m_run hS
  have HL := hide (fun W => wLen_any (some ⟨b, 0, none⟩) n c W)
  clear hS hok
  unfold wvV
  obtain ⟨h, hh⟩ : ∃ h : Nat, h = n / 2 := ⟨_, rfl⟩
  have e2 : (n : Int) / 2 = (h : Int) := by omega
  have hb : h ≤ 1000000 := by omega
  have hhn : h ≤ n := by omega
  rw [← hh]
  clear hh
  go_enter Try.func48, Try.ntmps48
  go_wp2_with (go_at_call 49; (with_reducible refine (HL.out _).mono ?_); rintro e w1 ⟨rfl, rfl⟩)
  go_loopw [3] (fun s wr => ∃ (k : Nat) (l' : List Rw), k ≤ h ∧ s = .int .i64 ((k : Int) - 1) ∧ Hid (hpI k l' n = hpI h l n ∧ l'.length = l.length ∧ OKn w0 n l' ∧ St w0 NoB wr (WC g b n c l' rest H))) (fun s _ => (intOf s + 1).toNat)
  case atStart => exact ⟨h, l, Nat.le_refl _, rfl, hide ⟨rfl, rfl, HOK.out, HS0.out⟩⟩
  case round =>
    obtain ⟨k, l', hk, rfl, HX⟩ := hrel
    cases k with
    | zero =>
      have d : decide ((0 : Int) ≤ ((0 : Nat) : Int) - 1) = false := rfl
      have HE : Hid (l' = hpI h l n) := hide HX.out.1
      go_wp2_with fail
      go_end0
      refine ⟨rfl, ?_⟩
      rw [← HE.out]
      exact HX.out.2.2.2
    | succ k =>
      have e1 : ((k + 1 : Nat) : Int) - 1 = (k : Int) := by omega
      rw [e1]
      have d : decide ((0 : Int) ≤ (k : Int)) = true := by simp
      have HD := hide (downW_any g b n c l' rest k n HX.out.2.2.1 (Nat.le_refl n) (by have := HX.out.2.1; omega) hc hm hN (by omega) HX.out.2.2.2)
      have HK := hide hk
      have kb : k ≤ 1000000 := by omega
      clear e1 hk
      unfold wvV at HD
      go_wp2_with (go_at_call 68; (with_reducible refine HD.out.mono ?_); rintro e w1 ⟨⟨bb, rfl⟩, hS1⟩; have HS1 := hide hS1; clear hS1)
      go_roundw
      case rel => exact ⟨k, dn n l' k n, by have := HK.out; omega, rfl, hide ⟨HX.out.1, by rw [dn_length]; exact HX.out.2.1, okn_dn _ _ _ HX.out.2.2.1, HS1.out⟩⟩
      case measure => (simp [intOf]) <;> omega
set_option maxRecDepth 100000 in
set_option maxHeartbeats 1600000 in
theorem wPop_any {w0 w : World} {H : List Chunk} (g b n c : Nat) (l : List Rw) (rest : List Value) (x : Rw) (hx : l[n]? = some x) (hN : n ≤ 1000000) (hS : St w0 NoB w (WC g b (n + 1) c l rest H)) (hc : n + 1 ≤ c) (hm : c ≤ maxLen) :
    Calls Try.prog 98 #[.pointer (some ⟨g, 0, none⟩)] w fun e w' => e = .returned (.iface 29 x.val) ∧ St w0 NoB w' (WC g b n c l rest H) := by
  have hln : n + 1 ≤ l.length := (List.getElem?_eq_some_iff.1 hx).1
  have c0 : w.cell? ⟨b, n, none⟩ = some (.slice x.A x.l.length x.c) := by
    have hg := hS.cell 1 rfl n
    rw [hg, List.getElem?_toArray, List.getElem?_append_left (by rw [rwCells_length]; omega)]
    unfold rwCells
    rw [List.getElem?_map, hx]
    rfl
  have g0 : w.cell? ⟨g, 0, none⟩ = some (.slice (some ⟨b, 0, none⟩) (n + 1) c) := hS.cell 0 rfl 0
  have fr := hS.free 0 rfl 0
  have HS0 := hide hS
  have ek : ((n + 1 : Nat) : Int) - 1 = (n : Int) := by omega
  have ek2 : (n : Int) + 1 - 1 = (n : Int) := by omega
  unfold maxLen at hm
  have hcb : (c : Int) ≤ 9223372036854775807 := by omega
  have hnc : (n : Int) ≤ (c : Int) := by omega
  have nn : (n : Int) < (n : Int) + 1 := by omega
  have nn3 : decide ((n : Int) < (n : Int) + 1) = true := by simp; omega
  clear hS hx hln
  unfold Rw.val
  go_enter Try.func98, Try.ntmps98
  go_wp2_with fail
  go_ret
  exact ⟨rfl, HS0.out.setCell 0 rfl 0 (.slice (some ⟨b, 0, none⟩) n c)⟩
set_option maxRecDepth 100000 in
set_option maxHeartbeats 1600000 in
theorem hPopW_any {w0 w : World} {H : List Chunk} (g b n c : Nat) (l : List Rw) (rest : List Value) (x : Rw) (hx : (popL n l)[n]? = some x) (hok : OKn w0 n (swp l 0 n)) (hN : n + 1 ≤ 1000000) (hS : St w0 NoB w (WC g b (n + 1) c l rest H)) (hc : n + 1 ≤ c) (hm : c ≤ maxLen) :
    Calls Try.prog 51 #[wvV g] w fun e w' => e = .returned (.iface 29 x.val) ∧ St w0 NoB w' (WC g b n c (popL n l) rest H) := by
  have hln : n + 1 ≤ l.length := by have := (List.getElem?_eq_some_iff.1 hx).1; rw [popL_length] at this; exact this
  obtain ⟨m0, _, m2, m3⟩ := m_run hS
  have HL := hide (fun W => wLen_any (some ⟨b, 0, none⟩) (n + 1) c W)
  have HSW := hide (swap_w hS hln hN 0 n (by omega) (by omega))
  have HDN := hide (fun W (h : St w0 NoB W (WC g b (n + 1) c (swp l 0 n) rest H)) => downW_any g b (n + 1) c (swp l 0 n) rest 0 n hok (Nat.le_succ n) (by rw [swp_length]; exact hln) hc hm hN (Nat.zero_le n) h)
  have HPP := hide (fun W (h : St w0 NoB W (WC g b (n + 1) c (popL n l) rest H)) => wPop_any g b n c (popL n l) rest x hx (by omega) h hc hm)
  have HMR := hide (fun W l' (h : St w0 NoB W (WC g b (n + 1) c l' rest H)) => m_run h)
  have ek : ((n + 1 : Nat) : Int) - 1 = (n : Int) := by omega
  rw [show ((0 : Nat) : Int) = 0 from rfl] at HSW HDN
  unfold Rw.val at *
  clear hS hx hok hln hc
  unfold wvV at *
  go_enter Try.func51, Try.ntmps51
  go_wp2_with (first
    | (go_at_call 49; (with_reducible refine (HL.out _).mono ?_); rintro e w1 ⟨rfl, rfl⟩)
    | (go_at_call 99; (with_reducible refine HSW.out.mono ?_); rintro e w1 ⟨rfl, hS1⟩; have HS1 := hide hS1; obtain ⟨_, _, _, m3⟩ := HMR.out _ _ hS1; clear hS1)
    | (go_at_call 68; (with_reducible refine (HDN.out _ HS1.out).mono ?_); rintro e w2 ⟨⟨bb, rfl⟩, hS2⟩; have HS2 := hide hS2; obtain ⟨_, _, _, m3⟩ := HMR.out _ _ hS2; clear hS2)
    | (go_at_call 98; (with_reducible refine (HPP.out _ HS2.out).mono ?_); rintro e w3 ⟨rfl, hS3⟩))
  go_ret
  exact ⟨rfl, hS3⟩
set_option maxRecDepth 100000 in
set_option maxHeartbeats 800000 in
theorem up0_any (g : Nat) (w : World) : Calls Try.prog 69 #[wvV g, .int .i64 0] w fun e w' => e = .returned (.tuple #[]) ∧ w = w' := by
  unfold wvV
  go_enter Try.func69, Try.ntmps69
  go_wp2_with fail
  go_loopw [1] (fun s wr => s = .int .i64 0 ∧ wr = w) (fun _ _ => 0)
  case atStart => exact ⟨rfl, rfl⟩
  case round =>
    obtain ⟨rfl, rfl⟩ := hrel
    go_wp2_with fail
    go_end0
    exact ⟨rfl, rfl⟩
set_option maxRecDepth 100000 in
set_option maxHeartbeats 1600000 in
theorem fixW_any {w0 w : World} {H : List Chunk} (g b n c : Nat) (l : List Rw) (rest : List Value) (hok : OKn w0 n l) (hn : n ≤ l.length) (hc : n ≤ c) (hm : c ≤ maxLen) (hN : n ≤ 1000000) (hS : St w0 NoB w (WC g b n c l rest H)) :
    Calls Try.prog 50 #[wvV g, .int .i64 0] w fun e w' => e = .returned (.tuple #[]) ∧ St w0 NoB w' (WC g b n c (dn n l 0 n) rest H) := by
  obtain ⟨m0, _, _, _⟩ := m_run hS
  have HL := hide (fun W => wLen_any (some ⟨b, 0, none⟩) n c W)
  have HD := hide (downW_any g b n c l rest 0 n hok (Nat.le_refl n) hn hc hm hN (Nat.zero_le n) hS)
  have HU := hide (fun W => up0_any g W)
  rw [show ((0 : Nat) : Int) = 0 from rfl] at HD
  clear hS hok
  unfold wvV at *
  go_enter Try.func50, Try.ntmps50
  go_upto_region 1 with (first
    | (go_at_call 49; (with_reducible refine (HL.out _).mono ?_); rintro e w1 ⟨rfl, rfl⟩)
    | (go_at_call 68; (with_reducible refine HD.out.mono ?_); rintro e w2 ⟨⟨bb, rfl⟩, hS2⟩; have HS2 := hide hS2; clear hS2))
  · go_wp2_with (go_at_call 69; (with_reducible refine (HU.out _).mono ?_); rintro e w3 ⟨rfl, rfl⟩)
    go_end0
    exact ⟨rfl, HS2.out⟩
  · go_end0
    exact ⟨rfl, HS2.out⟩
end Go.Proofs.Ythpioncehigoaaa
/-
  Layer 18: plain: rising rows of facts, merged by a heap of rows.
-/
namespace Go.Proofs.Ythpioncehigoaaa
open Go.RowKit
set_option linter.unusedSimpArgs false
set_option linter.unusedVariables false
/-- Rows of facts merged: what is out so far, and what the heap holds. -/
structure MInv (R : List Fc) (n : Nat) (l : List Rw) (out : List Fc) : Prop where
  len : n ≤ l.length
  hp : HP l 0 n
  row : ∀ r, Am l n r → r.l ≠ [] ∧ RisF r.l
  ris : RisF out
  le : ∀ x ∈ out, ∀ r, Am l n r → ∀ y ∈ r.l, cmpF x y ≤ 0
  all : ∀ z ∈ R, (∃ x ∈ out, cmpF x z = 0) ∨ ∃ r, Am l n r ∧ ∃ y ∈ r.l, cmpF y z = 0
  only : ∀ x ∈ out, ∃ z ∈ R, cmpF x z = 0
  fro : ∀ r, Am l n r → ∀ y ∈ r.l, ∃ z ∈ R, cmpF y z = 0
theorem am_mem {l : List Rw} {n : Nat} (hn : n ≤ l.length) {x : Rw} (h : Am l n x) : x ∈ l := by
  obtain ⟨i, hi, rfl⟩ := h
  exact List.mem_of_getElem? (G_some (by omega))
theorem mem_am {l : List Rw} {x : Rw} (h : x ∈ l) : Am l l.length x := by
  obtain ⟨i, hi⟩ := List.getElem?_of_mem h
  have hl := (List.getElem?_eq_some_iff.1 hi).1
  refine ⟨i, hl, ?_⟩
  have e := G_some hl
  rw [hi] at e
  exact (Option.some.inj e).symm
theorem minv_init (l : List Rw) (h : ∀ r ∈ l, r.l ≠ [] ∧ RisF r.l) : MInv (l.flatMap Rw.l) l.length (hpI (l.length / 2) l l.length) [] := by
  have am : ∀ r, Am (hpI (l.length / 2) l l.length) l.length r ↔ Am l l.length r := fun r => hpI_am _ _ _ _ (Nat.le_refl _)
  refine ⟨by rw [hpI_length]; exact Nat.le_refl _, hpI_hp _ _ _ (Nat.le_refl _) (fun c hc1 hc hp => by omega), fun r hr => h r (am_mem (Nat.le_refl _) ((am r).1 hr)), trivial, fun x hx => (by cases hx), fun z hz => ?_, fun x hx => (by cases hx), fun r hr y hy => ?_⟩
  · obtain ⟨r, hr, hy⟩ := List.mem_flatMap.1 hz
    exact .inr ⟨r, (am r).2 (mem_am hr), z, hy, cmpF_ord.self _⟩
  · exact ⟨y, List.mem_flatMap.2 ⟨r, am_mem (Nat.le_refl _) ((am r).1 hr), hy⟩, cmpF_ord.self _⟩
theorem hd_mem {r : Rw} (h : r.l ≠ []) : hdR r ∈ r.l := by
  unfold hdR
  cases e : r.l with
  | nil => exact absurd e h
  | cons f fs => exact List.mem_cons_self ..
theorem hd_le {r : Rw} (h : RisF r.l) : ∀ y ∈ r.l, cmpF (hdR r) y ≤ 0 := by
  intro y hy
  unfold hdR
  cases e : r.l with
  | nil => rw [e] at hy; cases hy
  | cons f fs =>
    rw [e] at hy h
    rcases List.mem_cons.1 hy with q | q
    · rw [q]; show cmpF f f ≤ 0; rw [cmpF_ord.self]; omega
    · have := h.1 y q; show cmpF f y ≤ 0; omega
/-- The head of the first row is the least of all that is there. -/
theorem minv_least {R : List Fc} {n : Nat} {l : List Rw} {out : List Fc} (h : MInv R n l out) : ∀ r, Am l n r → ∀ y ∈ r.l, cmpF (hdR (gR l 0)) y ≤ 0 := by
  rintro r ⟨i, hi, rfl⟩ y hy
  exact cmpF_ord.lt _ _ _ (hp_root h.hp i hi) (hd_le (h.row _ ⟨i, hi, rfl⟩).2 y hy)
theorem ris_last : ∀ {o : List Fc} {y : Fc}, RisF (o ++ [y]) → ∀ x ∈ o, cmpF x y < 0
  | [], _, _, x, hx => by cases hx
  | a :: o, y, h, x, hx => by
    have h : (∀ z ∈ o ++ [y], cmpF a z < 0) ∧ RisF (o ++ [y]) := h
    rcases List.mem_cons.1 hx with q | q
    · rw [q]; exact h.1 y (List.mem_append_right _ (List.mem_singleton.2 rfl))
    · exact ris_last h.2 x q
theorem minv_push {R : List Fc} {k : Nat} {l : List Rw} {out : List Fc} {f : Fc} (h : MInv R (k + 1) l out) (hl : ∀ y, out.getLast? = some y → cmpF y (hdR (gR l 0)) ≠ 0) (hf : shF f = shF (hdR (gR l 0))) : MInv R (k + 1) l (out ++ [f]) := by
  have h0 : Am l (k + 1) (gR l 0) := ⟨0, by omega, rfl⟩
  have hm := hd_mem (h.row _ h0).1
  have lk : ∀ y, cmpF y f = cmpF y (hdR (gR l 0)) := fun y => cmpF_like rfl hf
  have lk2 : ∀ y, cmpF f y = cmpF (hdR (gR l 0)) y := fun y => cmpF_like hf rfl
  refine ⟨h.len, h.hp, h.row, risF_snoc out f h.ris fun y hy => ?_, fun x hx r hr y hy => ?_, fun z hz => ?_, fun x hx => ?_, h.fro⟩
  · rw [lk]
    have hne : out ≠ [] := fun e => by rw [e] at hy; cases hy
    obtain ⟨o, z, rfl⟩ : ∃ o z, out = o ++ [z] := ⟨out.dropLast, out.getLast hne, (List.dropLast_concat_getLast hne).symm⟩
    have hz := hl z (by simp)
    have hz2 := h.le z (by simp) _ h0 _ hm
    rcases List.mem_append.1 hy with q | q
    · exact cmpF_lt_le (ris_last h.ris y q) hz2
    · rw [List.mem_singleton.1 q]; omega
  · rcases List.mem_append.1 hx with q | q
    · exact h.le x q r hr y hy
    · rw [List.mem_singleton.1 q, lk2]; exact minv_least h r hr y hy
  · rcases h.all z hz with ⟨x, hx, e⟩ | q
    · exact .inl ⟨x, List.mem_append_left _ hx, e⟩
    · exact .inr q
  · rcases List.mem_append.1 hx with q | q
    · exact h.only x q
    · obtain ⟨z, hz, e⟩ := h.fro _ h0 _ hm
      exact ⟨z, hz, by rw [List.mem_singleton.1 q, lk2]; exact e⟩
/-- The last is the head already, or has just been made so. -/
def Out (out : List Fc) (f : Fc) : Prop := ∃ x ∈ out, cmpF x f = 0
theorem out_push {out : List Fc} {f g : Fc} (hf : shF f = shF g) : Out (out ++ [f]) g := ⟨f, List.mem_append_right _ (List.mem_singleton.2 rfl), by rw [cmpF_like hf rfl]; exact cmpF_ord.self _⟩
theorem out_last {out : List Fc} {y g : Fc} (h : out.getLast? = some y) (e : cmpF y g = 0) : Out out g := ⟨y, List.mem_of_getLast? h, e⟩
theorem G_set {l : List Rw} {i : Nat} (y : Rw) (hi : i < l.length) (k : Nat) : gR (l.set i y) k = if k = i then y else gR l k := by
  unfold gR
  rw [List.getD_eq_getElem?_getD, List.getElem?_set]
  by_cases h : i = k
  · rw [if_pos h, if_pos h.symm, if_pos hi]; rfl
  · rw [if_neg h, if_neg (fun e => h e.symm), List.getD_eq_getElem?_getD]
theorem tl_cons {r : Rw} (h : r.l ≠ []) : r.l = hdR r :: r.l.tail := by
  unfold hdR
  cases e : r.l with
  | nil => exact absurd e h
  | cons f fs => rfl
theorem minv_rest {R : List Fc} {k n' : Nat} {l l' : List Rw} {out : List Fc} {y : Rw} (h : MInv R (k + 1) l out) (ho : Out out (hdR (gR l 0))) (hy : y.l = (gR l 0).l.tail) (hn : n' ≤ l'.length) (hp : HP l' 0 n')
    (am : ∀ r, Am l' n' r → (r = y ∧ y.l ≠ []) ∨ Am l (k + 1) r) (am2 : ∀ i, 1 ≤ i → i < k + 1 → Am l' n' (gR l i)) (am3 : y.l ≠ [] → Am l' n' y) : MInv R n' l' out := by
  have h0 : Am l (k + 1) (gR l 0) := ⟨0, by omega, rfl⟩
  have hc := tl_cons (h.row _ h0).1
  have sub : ∀ z ∈ y.l, z ∈ (gR l 0).l := fun z hz => by rw [hc, ← hy]; exact List.mem_cons_of_mem _ hz
  have ry : RisF y.l := by
    have := (h.row _ h0).2
    rw [hc, ← hy] at this
    exact this.2
  refine ⟨hn, hp, fun r hr => ?_, h.ris, fun x hx r hr z hz => ?_, fun z hz => ?_, h.only, fun r hr z hz => ?_⟩
  · rcases am r hr with ⟨rfl, q⟩ | q
    · exact ⟨q, ry⟩
    · exact h.row r q
  · rcases am r hr with ⟨rfl, _⟩ | q
    · exact h.le x hx _ h0 z (sub z hz)
    · exact h.le x hx r q z hz
  · rcases h.all z hz with q | ⟨r, ⟨i, hi, rfl⟩, u, hu, e⟩
    · exact .inl q
    · by_cases hi0 : i = 0
      · subst hi0
        rw [hc] at hu
        rcases List.mem_cons.1 hu with q | q
        · obtain ⟨x, hx, ex⟩ := ho
          exact .inl ⟨x, hx, cmpF_tr ex (by rw [← q]; exact e)⟩
        · rw [← hy] at q
          exact .inr ⟨y, am3 (fun e => by rw [e] at q; cases q), u, q, e⟩
      · exact .inr ⟨_, am2 i (by omega) hi, u, hu, e⟩
  · rcases am r hr with ⟨rfl, _⟩ | q
    · exact h.fro _ h0 z (sub z hz)
    · exact h.fro r q z hz
theorem minv_fix {R : List Fc} {k : Nat} {l : List Rw} {out : List Fc} {y : Rw} (h : MInv R (k + 1) l out) (ho : Out out (hdR (gR l 0))) (hy : y.l = (gR l 0).l.tail) (hne : y.l ≠ []) : MInv R (k + 1) (dn (k + 1) (l.set 0 y) 0 (k + 1)) out := by
  have hl := h.len
  have hs : k + 1 ≤ (l.set 0 y).length := by rw [List.length_set]; exact hl
  have am := fun r => dn_am (k + 1) (l.set 0 y) 0 (k + 1) r hs
  refine minv_rest h ho hy (by rw [dn_length]; exact hs) (dn_hp _ _ _ _ _ hs (by omega) (Nat.le_refl _) (fun c hc1 hc _ hne => ?_) (fun h1 => by omega)) (fun r hr => ?_) (fun i hi1 hi => (am _).2 ⟨i, hi, by rw [G_set y (by omega), if_neg (by omega)]⟩) (fun _ => (am _).2 ⟨0, by omega, by rw [G_set y (by omega), if_pos rfl]⟩)
  · rw [G_set y (by omega), G_set y (by omega), if_neg hne, if_neg (by omega)]
    exact h.hp c hc1 hc (by omega)
  · obtain ⟨i, hi, e⟩ := (am r).1 hr
    rw [G_set y (by omega)] at e
    split at e
    · exact .inl ⟨e.symm, hne⟩
    · exact .inr ⟨i, hi, e⟩
theorem minv_pop {R : List Fc} {k : Nat} {l : List Rw} {out : List Fc} {y : Rw} (h : MInv R (k + 1) l out) (ho : Out out (hdR (gR l 0))) (hy : y.l = (gR l 0).l.tail) (hne : y.l = []) : MInv R k (popL k (l.set 0 y)) out := by
  have hl := h.len
  have hs : k < (l.set 0 y).length := by rw [List.length_set]; omega
  have hsw : ∀ j, j < k → gR (swp (l.set 0 y) 0 k) j = if j = 0 then gR (l.set 0 y) k else gR l j := fun j hj => by
    rw [swp_G (by omega) hs, if_neg (by omega)]
    split
    · rfl
    · rename_i h; rw [G_set y (by omega), if_neg h]
  have hlast : 0 < k → gR (l.set 0 y) k = gR l k := fun hk => by rw [G_set y (by omega), if_neg (by omega)]
  have am := fun r => dn_am k (swp (l.set 0 y) 0 k) 0 k r (by rw [swp_length]; omega)
  refine minv_rest h ho hy (by rw [popL_length]; omega) ?_ (fun r hr => ?_) (fun i hi1 hi => ?_) (fun e => absurd hne e)
  · unfold popL
    refine dn_hp k _ 0 k 0 (by rw [swp_length]; omega) (by omega) (Nat.le_refl _) (fun c hc1 hc _ hne => ?_) (fun h1 => by omega)
    rw [hsw _ (by omega), hsw _ hc, if_neg hne, if_neg (by omega)]
    exact h.hp c hc1 (by omega) (by omega)
  · unfold popL at hr
    obtain ⟨i, hi, e⟩ := (am r).1 hr
    rw [hsw i hi] at e
    split at e
    · rw [hlast (by omega)] at e
      exact .inr ⟨k, by omega, e⟩
    · exact .inr ⟨i, by omega, e⟩
  · unfold popL
    refine (am _).2 ?_
    by_cases hik : i = k
    · exact ⟨0, by omega, by rw [hsw 0 (by omega), if_pos rfl, hlast (by omega), hik]⟩
    · exact ⟨i, by omega, by rw [hsw i (by omega), if_neg (by omega)]⟩
/-- What is out in the end: rising, and the same as what was there. -/
theorem minv_end {R : List Fc} {l : List Rw} {out : List Fc} (h : MInv R 0 l out) : RisF out ∧ (∀ x ∈ out, ∃ z ∈ R, cmpF x z = 0) ∧ ∀ z ∈ R, ∃ x ∈ out, cmpF x z = 0 :=
  ⟨h.ris, h.only, fun z hz => by
    rcases h.all z hz with q | ⟨r, ⟨i, hi, _⟩, _⟩
    · exact q
    · omega⟩
/-- How much is left. -/
def left (l : List Rw) : Nat := (l.map (fun r => r.l.length)).sum
theorem left_set : ∀ {l : List Rw} {i : Nat} {x : Rw} (y : Rw), l[i]? = some x → left (l.set i y) + x.l.length = left l + y.l.length
  | [], _, _, _, h => by simp at h
  | a :: l, 0, x, y, h => by
    simp only [List.getElem?_cons_zero, Option.some.injEq] at h
    subst h
    unfold left
    simp only [List.set_cons_zero, List.map_cons, List.sum_cons]
    omega
  | a :: l, i + 1, x, y, h => by
    have ih := left_set (l := l) (i := i) y (by simpa using h)
    unfold left at ih ⊢
    simp only [List.set_cons_succ, List.map_cons, List.sum_cons]
    omega
theorem left_swp {l : List Rw} {a b : Nat} : left (swp l a b) = left l := by
  unfold swp
  split
  · rename_i x y ha hb
    have h1 := left_set y ha
    have hb2 : ∃ z, (l.set a y)[b]? = some z ∧ z.l.length = y.l.length := by
      rw [List.getElem?_set]
      by_cases e : a = b
      · subst e
        rw [if_pos rfl, if_pos (List.getElem?_eq_some_iff.1 ha).1]
        exact ⟨y, rfl, rfl⟩
      · rw [if_neg e]
        exact ⟨y, hb, rfl⟩
    obtain ⟨z, hz, e⟩ := hb2
    have h2 := left_set x hz
    omega
  · rfl
theorem left_dn : ∀ (f : Nat) (l : List Rw) (i n : Nat), left (dn f l i n) = left l
  | 0, _, _, _ => rfl
  | f + 1, l, i, n => by
    rw [dn]
    split
    · rfl
    · obtain ⟨j, hj⟩ : ∃ j, j = (if 2 * i + 2 < n ∧ ltW l (2 * i + 2) (2 * i + 1) = true then 2 * i + 2 else 2 * i + 1) := ⟨_, rfl⟩
      rw [← hj]
      split
      · rw [left_dn f, left_swp]
      · rfl
theorem left_hpI : ∀ (k : Nat) (l : List Rw) (n : Nat), left (hpI k l n) = left l
  | 0, _, _ => rfl
  | k + 1, l, n => by rw [hpI, left_hpI k, left_dn]
theorem left_popL (n : Nat) (l : List Rw) : left (popL n l) = left l := by unfold popL; rw [left_dn, left_swp]
/-- A head is taken off. -/
theorem left_tl {l : List Rw} {y : Rw} (h : 0 < l.length) (hne : (gR l 0).l ≠ []) (hy : y.l = (gR l 0).l.tail) : left (l.set 0 y) + 1 = left l := by
  have h1 := left_set y (G_some h)
  have h2 : (gR l 0).l.length = y.l.length + 1 := by
    have := congrArg List.length (tl_cons hne)
    rw [hy]
    exact this
  omega
end Go.Proofs.Ythpioncehigoaaa
/-
  Layer 18: what stands beside the chunks, frozen while they are written.
-/
namespace Go.Proofs.Ythpioncehigoaaa
open Go.RowKit
set_option linter.unusedSimpArgs false
set_option linter.unusedVariables false
/-- The blocks of these chunks. -/
def Hm (H : List Chunk) (k : Nat) : Prop := ∃ c ∈ H, c.block = some k
section
variable {w0 w w' : World} {M : Nat → Prop} {H : List Chunk}
theorem St.pre {F : List Chunk} (h : St w0 M w (H ++ F)) : St w0 M w H := by
  have key : ∀ (i : Nat) (c : Chunk), H[i]? = some c → (H ++ F)[i]? = some c := fun i c hc => by
    rw [List.getElem?_append_left (List.getElem?_eq_some_iff.1 hc).1]
    exact hc
  exact ⟨h.ext, fun i c hc => h.sat i c (key i c hc), fun i c k hc hk => h.own i c k (key i c hc) hk, fun i j c d k hij hc hd => h.apart i j c d k hij (key i c hc) (key j d hd)⟩
theorem snoc_at {α : Type} {l : List α} {c d : α} {i : Nat} (h : (l ++ [c])[i]? = some d) : l[i]? = some d ∧ i < l.length ∨ i = l.length ∧ d = c := by
  by_cases hi : i < l.length
  · rw [List.getElem?_append_left hi] at h
    exact .inl ⟨h, hi⟩
  · have h2 := (List.getElem?_eq_some_iff.1 h).1
    rw [List.length_append, List.length_singleton] at h2
    have e : i = l.length := by omega
    subst e
    rw [List.getElem?_append_right (Nat.le_refl _), Nat.sub_self] at h
    simp only [List.getElem?_cons_zero, Option.some.injEq] at h
    exact .inr ⟨rfl, h.symm⟩
/-- One block more is held. -/
theorem St.snoc (h : St w0 M w H) {k : Nat} {o : Obj} (hk : w0.heap.size ≤ k) (ho : w.heap[k]? = some o) (hn : ¬ Hm H k) : St w0 M w (H ++ [.obj k o]) := by
  refine ⟨h.ext, fun i c hc => ?_, fun i c j hc hj => ?_, fun i j c d x hij hc hd hx hx' => ?_⟩
  · rcases snoc_at hc with ⟨q, _⟩ | ⟨_, rfl⟩
    · exact h.sat i c q
    · exact ho
  · rcases snoc_at hc with ⟨q, _⟩ | ⟨_, rfl⟩
    · exact h.own i c j q hj
    · simp only [Chunk.block, Option.some.injEq] at hj
      exact .inl (by omega)
  · rcases snoc_at hc with ⟨q, _⟩ | ⟨e, rfl⟩
    · rcases snoc_at hd with ⟨q', _⟩ | ⟨_, rfl⟩
      · exact h.apart i j c d x hij q q' hx hx'
      · simp only [Chunk.block, Option.some.injEq] at hx'
        exact hn ⟨c, List.mem_of_getElem? q, by rw [hx']; exact hx⟩
    · rcases snoc_at hd with ⟨q', _⟩ | ⟨e', rfl⟩
      · simp only [Chunk.block, Option.some.injEq] at hx
        exact hn ⟨d, List.mem_of_getElem? q', by rw [hx]; exact hx'⟩
      · omega
theorem freeze_to (h : St w0 NoB w H) : ∀ m, m ≤ w.heap.size → ∃ F, St w0 NoB w (H ++ F) ∧ (∀ k, Hm F k → k < m) ∧ ∀ k, w0.heap.size ≤ k → k < m → ¬ Hm H k → ∃ o, w.heap[k]? = some o ∧ Chunk.obj k o ∈ F
  | 0, _ => ⟨[], by rw [List.append_nil]; exact h, fun k ⟨c, hc, _⟩ => (by cases hc), fun k _ hk _ => by omega⟩
  | m + 1, hm => by
    obtain ⟨F, h1, h2, h3⟩ := freeze_to h m (by omega)
    by_cases q : w0.heap.size ≤ m ∧ ¬ Hm H m
    · obtain ⟨o, ho⟩ : ∃ o, w.heap[m]? = some o := ⟨w.heap[m], Array.getElem?_eq_getElem (by omega)⟩
      have hn : ¬ Hm (H ++ F) m := fun ⟨c, hc, hk⟩ => by
        rcases List.mem_append.1 hc with hc | hc
        · exact q.2 ⟨c, hc, hk⟩
        · have := h2 m ⟨c, hc, hk⟩
          omega
      refine ⟨F ++ [.obj m o], by rw [← List.append_assoc]; exact h1.snoc q.1 ho hn, fun k ⟨c, hc, hk⟩ => ?_, fun k hk1 hk2 hk3 => ?_⟩
      · rcases List.mem_append.1 hc with hc | hc
        · have := h2 k ⟨c, hc, hk⟩
          omega
        · rw [List.mem_singleton.1 hc] at hk
          simp only [Chunk.block, Option.some.injEq] at hk
          omega
      · by_cases e : k = m
        · subst e
          exact ⟨o, ho, List.mem_append_right _ (List.mem_singleton.2 rfl)⟩
        · obtain ⟨o', ho', hF⟩ := h3 k hk1 (by omega) hk3
          exact ⟨o', ho', List.mem_append_left _ hF⟩
    · refine ⟨F, h1, fun k hk => by have := h2 k hk; omega, fun k hk1 hk2 hk3 => h3 k hk1 ?_ hk3⟩
      by_cases e : k = m
      · subst e
        exact absurd ⟨hk1, hk3⟩ q
      · omega
/-- All that stands beside the chunks is frozen: whatever is then done to them leaves it as it is. -/
theorem freeze (h : St w0 NoB w H) : ∃ F, St w0 NoB w (H ++ F) ∧ ∀ (W : World) (H' : List Chunk), St w0 NoB W (H' ++ F) → CSub (mask (Hm H) w) (mask (Hm H') W) := by
  obtain ⟨F, h1, _, h3⟩ := freeze_to h w.heap.size (Nat.le_refl _)
  refine ⟨F, h1, fun W H' hW => mask_ext fun k hk hm => ?_⟩
  by_cases hk0 : w0.heap.size ≤ k
  · obtain ⟨o, ho, hF⟩ := h3 k hk0 hk hm
    obtain ⟨i, hi⟩ := List.getElem?_of_mem hF
    have hi2 : (H' ++ F)[H'.length + i]? = some (.obj k o) := by rw [List.getElem?_append_right (by omega), Nat.add_sub_cancel_left]; exact hi
    refine ⟨fun ⟨c, hc, hb⟩ => ?_, ?_⟩
    · obtain ⟨j, hj⟩ := List.getElem?_of_mem hc
      have hlt := (List.getElem?_eq_some_iff.1 hj).1
      exact hW.apart j (H'.length + i) c (.obj k o) k (by omega) (by rw [List.getElem?_append_left hlt]; exact hj) hi2 hb rfl
    · have hs : W.heap[k]? = some o := hW.sat _ _ hi2
      rw [hs, ho]
  · refine ⟨fun ⟨c, hc, hb⟩ => ?_, ?_⟩
    · obtain ⟨j, hj⟩ := List.getElem?_of_mem hc
      rcases hW.pre.own j c k hj hb with q | q
      · omega
      · exact q
    · rw [hW.below.block k (by omega), h.below.block k (by omega)]
theorem mask_less {H H' : List Chunk} (h : ∀ c ∈ H', c ∈ H) : CSub (mask (Hm H) w) (mask (Hm H') w) := mask_ext fun k _ hm => ⟨fun ⟨c, hc, hb⟩ => hm ⟨c, h c hc, hb⟩, rfl⟩
theorem St.hm (h : St w0 NoB w H) : ∀ k, Hm H k → w0.heap.size ≤ k ∧ k < w.heap.size := fun k ⟨c, hc, hb⟩ => by
  obtain ⟨j, hj⟩ := List.getElem?_of_mem hc
  refine ⟨?_, Chunk.lt (h.sat j c hj) hb⟩
  rcases h.own j c k hj hb with q | q
  · exact q
  · exact q.elim
/-- What stood before the call is not among the chunks. -/
theorem St.oldM (h : St w0 NoB w H) : CSub w0 (mask (Hm H) w) := mask_old h.below fun k hk => (h.hm k hk).1
/-- A row with an address lies in a block, even if it is empty. -/
theorem St.cells_ofS {A : Option Addr} {n c size : Nat} {e : TypeId} {xs : List Value} (hS : St w0 M w (.row (.slice A n c) e size n xs :: H)) (hn : A ≠ none) :
    ∃ b rest, A = some ⟨b, 0, none⟩ ∧ n ≤ c ∧ c ≤ maxLen ∧ xs.length = n * size ∧ (xs ++ rest).length = c * size ∧ St w0 M w (.cells b (xs ++ rest).toArray e :: H) := by
  have ho : w.ownsRow 0 e size (.slice A n c) n xs := hS.sat 0 _ rfl
  obtain ⟨h1, h2⟩ := ho
  rcases h2 with ⟨h0, _⟩ | ⟨g, cap, cur, hv, _, hh, h3, h4, h5, h6⟩
  · injection h0 with h0
    exact absurd h0 hn
  · injection hv with hv1 hv2 hv3
    subst hv1 hv3
    have hcur : cur = (xs ++ cur.toList.drop (n * size)).toArray := by
      rw [← h6, List.take_append_drop]
    refine ⟨g, cur.toList.drop (n * size), rfl, h3, h4, h1, ?_, ?_⟩
    · have h7 : cur.toList.length = c * size := by rw [Array.length_toList]; exact h5
      rw [← h6, List.take_append_drop]
      exact h7
    · rw [← hcur]
      have key := hS.turn (i := 0) (c := .row (.slice (some ⟨g, 0, none⟩) n c) e size n xs) (d := .cells g cur e) rfl (Ext.refl _ _) hh
      exact key (fun k hk => .inl hk)
theorem row_some {A : Option Addr} {n c size : Nat} {e : TypeId} {xs : List Value} (h : w.ownsRow 0 e size (.slice A n c) n xs) (hn : 0 < n) : A ≠ none := by
  rcases h.2 with ⟨_, h0⟩ | ⟨g, cap, cur, hv, _⟩
  · omega
  · injection hv with hv1
    rw [hv1]
    exact fun h => by cases h
end
/-- The rows that hold something. -/
def full (l : List Rw) : List Rw := l.filter fun r => decide (0 < r.l.length)
theorem full_fm : ∀ (l : List Rw), (full l).flatMap Rw.l = l.flatMap Rw.l
  | [] => rfl
  | r :: l => by
    have ih := full_fm l
    unfold full at ih ⊢
    rw [List.filter_cons]
    by_cases h : 0 < r.l.length
    · rw [if_pos (decide_eq_true h), List.flatMap_cons, List.flatMap_cons, ih]
    · rw [if_neg (by simp; exact List.eq_nil_of_length_eq_zero (by omega)), List.flatMap_cons, ih, List.eq_nil_of_length_eq_zero (show r.l.length = 0 by omega)]
      rfl
theorem full_left : ∀ (l : List Rw), left (full l) = left l
  | [] => rfl
  | r :: l => by
    have ih := full_left l
    unfold full left at ih ⊢
    rw [List.filter_cons]
    by_cases h : 0 < r.l.length
    · rw [if_pos (decide_eq_true h), List.map_cons, List.map_cons, List.sum_cons, List.sum_cons, ih]
    · rw [if_neg (by simp; exact List.eq_nil_of_length_eq_zero (by omega)), List.map_cons, List.sum_cons, ih]
      omega
theorem full_mem {l : List Rw} {r : Rw} (h : r ∈ full l) : r ∈ l ∧ r.l ≠ [] := by
  unfold full at h
  rw [List.mem_filter] at h
  exact ⟨h.1, fun e => by rw [e] at h; simp at h⟩
theorem full_snoc {l : List Rw} {k : Nat} {r : Rw} (h : l[k]? = some r) : full (l.take (k + 1)) = full (l.take k) ++ (if 0 < r.l.length then [r] else []) := by
  unfold full
  rw [List.take_add_one, h, List.filter_append]
  congr 1
  by_cases q : 0 < r.l.length
  · rw [if_pos q]; simp [q]
  · rw [if_neg q]; simp; exact List.eq_nil_of_length_eq_zero (by omega)
theorem rowRw : RowTy Try.prog 82 29 1 24 := rowTy_of (z := .slice none 0 0) (by kernel_rfl) (by kernel_rfl) rfl (by decide)
end Go.Proofs.Ythpioncehigoaaa
