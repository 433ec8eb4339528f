/-
  Layer 7: the heap: down.
-/
import Derived.Test.YtjamoifenkdneaaTo
namespace Go.Proofs.Ytjamoifenkdneaa
open Go.RowKit
set_option linter.unusedSimpArgs false

/-- The pile in its block, its row in its own. -/
def PC (g b n c : Nat) (l : List Tm) (rest : List Value) (H : List Chunk) : List Chunk := .cells g #[.slice (some ⟨b, 0, none⟩) n c] 47 :: .cells b (tmCells l ++ rest).toArray 24 :: H
def hpV (g : Nat) : Value := .iface 50 (.pointer (some ⟨g, 0, none⟩))
theorem method_run {P : Program} {t : TypeId} {name : String} {f : FuncId} (h : ((P.info? t).map (fun i => (i.methods.find? (·.name == name)).map (fun m => (m.func, m.path.size)))) = some (some (some (f, false), 0))) (k : Nat) (v : Value) (w : World) :
    (method (k + 1) t v name).run P w = ((receiverAt t (.val v) false (some ((name.splitOn ".").getLastD name))).run P w).andThen fun r w' => .ok (f, r) w' := by
  cases hi : P.info? t with
  | none => rw [hi] at h; cases h
  | some i =>
    rw [hi] at h
    simp only [Option.map_some, Option.some.injEq] at h
    cases hm : i.methods.find? (·.name == name) with
    | none => rw [hm] at h; cases h
    | some m =>
      rw [hm] at h
      simp only [Option.map_some, Option.some.injEq, Prod.mk.injEq] at h
      obtain ⟨hf, hp⟩ := h
      have hp' : m.path = #[] := Array.eq_empty_of_size_eq_zero hp
      unfold method
      simp [typeInfo, hi, hm, hf, hp', follow]
theorem m_Len (g k : Nat) (w : World) : (method (k + 1) 50 (.pointer (some ⟨g, 0, none⟩)) "Len").run Try.prog w = ((receiverAt 50 (.val (.pointer (some ⟨g, 0, none⟩))) false (some (("Len".splitOn ".").getLastD "Len"))).run Try.prog w).andThen fun v w' => .ok (39, v) w' := method_run (by kernel_rfl) k _ w
theorem m_Less (g k : Nat) (w : World) : (method (k + 1) 50 (.pointer (some ⟨g, 0, none⟩)) "Less").run Try.prog w = ((receiverAt 50 (.val (.pointer (some ⟨g, 0, none⟩))) false (some (("Less".splitOn ".").getLastD "Less"))).run Try.prog w).andThen fun v w' => .ok (70, v) w' := method_run (by kernel_rfl) k _ w
theorem m_Swap (g k : Nat) (w : World) : (method (k + 1) 50 (.pointer (some ⟨g, 0, none⟩)) "Swap").run Try.prog w = ((receiverAt 50 (.val (.pointer (some ⟨g, 0, none⟩))) false (some (("Swap".splitOn ".").getLastD "Swap"))).run Try.prog w).andThen fun v w' => .ok (71, v) w' := method_run (by kernel_rfl) k _ w
theorem m_Pop (g k : Nat) (w : World) : (method (k + 1) 50 (.pointer (some ⟨g, 0, none⟩)) "Pop").run Try.prog w = .ok (72, .pointer (some ⟨g, 0, none⟩)) w := by kernel_rfl
theorem m_recv (g : Nat) (s : String) (w : World) : (receiverAt 50 (.val (.pointer (some ⟨g, 0, none⟩))) false (some s)).run Try.prog w = (loadVar 47 ⟨g, 0, none⟩).run Try.prog w := by kernel_rfl
theorem ld_pile {w0 w : World} {M : Nat → Prop} {H : List Chunk} {g b n c : Nat} {l : List Tm} {rest : List Value} (hS : St w0 M w (PC g b n c l rest H)) : (loadVar 47 ⟨g, 0, none⟩).run Try.prog w = .ok (.slice (some ⟨b, 0, none⟩) n c) w := by
  have hc : w.cell? ⟨g, 0, none⟩ = some (.slice (some ⟨b, 0, none⟩) n c) := hS.cell 0 rfl 0
  have e : (loadVar 47 ⟨g, 0, none⟩).run Try.prog w = (load ⟨g, 0, none⟩).run Try.prog w := by kernel_rfl
  rw [e, run_load, hc]
theorem m_run {w0 w : World} {M : Nat → Prop} {H : List Chunk} {g b n c : Nat} {l : List Tm} {rest : List Value} (hS : St w0 M w (PC g b n c l rest H)) :
    (method 187 50 (.pointer (some ⟨g, 0, none⟩)) "Len").run Try.prog w = .ok (39, .slice (some ⟨b, 0, none⟩) n c) w ∧
    (method 187 50 (.pointer (some ⟨g, 0, none⟩)) "Less").run Try.prog w = .ok (70, .slice (some ⟨b, 0, none⟩) n c) w ∧
    (method 187 50 (.pointer (some ⟨g, 0, none⟩)) "Swap").run Try.prog w = .ok (71, .slice (some ⟨b, 0, none⟩) n c) w ∧
    (method 187 50 (.pointer (some ⟨g, 0, none⟩)) "Pop").run Try.prog w = .ok (72, .pointer (some ⟨g, 0, none⟩)) w := by
  rw [m_Len g 186, m_Less g 186, m_Swap g 186, m_Pop g 186, m_recv, m_recv, m_recv, ld_pile hS]
  exact ⟨rfl, rfl, rfl, rfl⟩
/-- The pile's row, as far as it goes. -/
theorem rd_pile {w0 w : World} {M : Nat → Prop} {H : List Chunk} {g b n c : Nat} {l : List Tm} {rest : List Value} (hS : St w0 M w (PC g b n c l rest H)) (hn : n ≤ l.length) (hc : n ≤ c) (hm : c ≤ maxLen) : Rd w (.slice (some ⟨b, 0, none⟩) n c) 4 n (tmCells (l.take n)) := by
  refine ⟨some ⟨b, 0, none⟩, c, rfl, by rw [tmCells_length, List.length_take, Nat.min_eq_left hn], hc, hm, (fun h => by cases h), fun b' o sp hA => ?_⟩
  injection hA with hA
  injection hA with hb ho hsp
  subst hb ho hsp
  refine ⟨fun _ => rfl, fun j u hu => ?_⟩
  have hg := hS.cell 1 rfl j
  rw [Nat.zero_add, hg, List.getElem?_toArray]
  have e : tmCells l ++ rest = tmCells (l.take n) ++ (tmCells (l.drop n) ++ rest) := by
    rw [← List.append_assoc]
    congr 1
    unfold tmCells
    rw [← List.flatMap_append, List.take_append_drop]
  rw [e, List.getElem?_append_left (List.getElem?_eq_some_iff.1 hu).1]
  exact hu
def ltA (l : List Tm) (a b : Nat) : Bool := match l[a]?, l[b]? with
  | some x, some y => decide (cmpA x y < 0)
  | _, _ => false
def swp (l : List Tm) (a b : Nat) : List Tm := match l[a]?, l[b]? with
  | some x, some y => (l.set a y).set b x
  | _, _ => l
theorem swp_length (l : List Tm) (a b : Nat) : (swp l a b).length = l.length := by
  unfold swp
  split
  · simp
  · rfl
theorem swp_mem {l : List Tm} {a b : Nat} {x : Tm} (h : x ∈ swp l a b) : x ∈ l := by
  unfold swp at h
  split at h
  · rename_i u v hu hv
    rcases List.mem_or_eq_of_mem_set h with h | h
    · rcases List.mem_or_eq_of_mem_set h with h | h
      · exact h
      · rw [h]; exact List.mem_of_getElem? hv
    · rw [h]; exact List.mem_of_getElem? hu
  · exact h
/-- What down makes of a row: so many rounds at most, from place i, of the first n. -/
def dn : Nat → List Tm → Nat → Nat → List Tm
  | 0, l, _, _ => l
  | f + 1, l, i, n =>
    if n ≤ 2 * i + 1 then l
    else if ltA l (if 2 * i + 2 < n ∧ ltA l (2 * i + 2) (2 * i + 1) = true then 2 * i + 2 else 2 * i + 1) i = true then
      dn f (swp l i (if 2 * i + 2 < n ∧ ltA l (2 * i + 2) (2 * i + 1) = true then 2 * i + 2 else 2 * i + 1)) (if 2 * i + 2 < n ∧ ltA l (2 * i + 2) (2 * i + 1) = true then 2 * i + 2 else 2 * i + 1) n
    else l
/-- Less and Swap by way of the pile. -/
theorem less_hp {w0 w : World} {H : List Chunk} {g b n c : Nat} {l : List Tm} {rest : List Value} (hok : ∀ x ∈ l, TmOK w0 x) (hS : St w0 NoB w (PC g b n c l rest H)) (hn : n ≤ l.length) (hc : n ≤ c) (hm : c ≤ maxLen) (hN : n ≤ 1000000) (i j : Nat) (hi : i < n) (hj : j < n) :
    Calls Try.prog 70 #[.slice (some ⟨b, 0, none⟩) n c, .int .i64 (i : Int), .int .i64 (j : Int)] w fun e w' => e = .returned (.bool (ltA l i j)) ∧ St w0 NoB w' (PC g b n c l rest H) := by
  have e1 : l[i]? = some l[i] := List.getElem?_eq_getElem (by omega)
  have e2 : l[j]? = some l[j] := List.getElem?_eq_getElem (by omega)
  have hl : ltA l i j = decide (cmpA l[i] l[j] < 0) := by unfold ltA; rw [e1, e2]
  rw [hl]
  refine (pLess_any (some ⟨b, 0, none⟩) n c (l.take n) i j l[i] l[j] w (rd_pile hS hn hc hm) (by rw [List.getElem?_take_of_lt hi]; exact e1) (by rw [List.getElem?_take_of_lt hj]; exact e2) hi hj
    ((hok _ (List.getElem_mem _)).on hS.below) ((hok _ (List.getElem_mem _)).on hS.below) (by omega)).mono ?_
  rintro e w' ⟨rfl, hb⟩
  exact ⟨rfl, hS.call hb⟩
theorem swap_hp {w0 w : World} {H : List Chunk} {g b n c : Nat} {l : List Tm} {rest : List Value} (hS : St w0 NoB w (PC g b n c l rest H)) (hn : n ≤ l.length) (hm : n ≤ 1000000) (i j : Nat) (hi : i < n) (hj : j < n) :
    Calls Try.prog 71 #[.slice (some ⟨b, 0, none⟩) n c, .int .i64 (i : Int), .int .i64 (j : Int)] w fun e w' => e = .returned (.tuple #[]) ∧ St w0 NoB w' (PC g b n c (swp l i j) rest H) := by
  have e1 : l[i]? = some l[i] := List.getElem?_eq_getElem (by omega)
  have e2 : l[j]? = some l[j] := List.getElem?_eq_getElem (by omega)
  have hl : swp l i j = (l.set i l[j]).set j l[i] := by unfold swp; rw [e1, e2]
  rw [hl]
  refine (pSwap_any b n c l rest i j l[i] l[j] w e1 e2 hi hj (by omega) hS.swap).mono ?_
  rintro e w' ⟨rfl, hS'⟩
  exact ⟨rfl, hS'.swap⟩
set_option maxRecDepth 100000 in
set_option maxHeartbeats 1600000 in
theorem down_any {w0 w : World} {H : List Chunk} (g b n' c : Nat) (l : List Tm) (rest : List Value) (i n : Nat) (hok : ∀ x ∈ l, TmOK w0 x) (hn : n ≤ n') (hn' : n' ≤ l.length) (hc : n' ≤ c) (hm : c ≤ maxLen) (hN : n' ≤ 1000000) (hi : i ≤ n) (hS : St w0 NoB w (PC g b n' c l rest H)) :
    Calls Try.prog 50 #[hpV g, .int .i64 (i : Int), .int .i64 (n : Int)] w fun e w' => (∃ bb, e = .returned (.bool bb)) ∧ St w0 NoB w' (PC g b n' c (dn n l i n) rest H) := by
  have HS0 := hide hS
  have HOK := hide hok
  clear hS hok
  unfold hpV
  go_enter Try.func50, Try.ntmps50
  go_wp2_with fail
  go_loopw [7] (fun s wr => ∃ (k f : Nat) (l' : List Tm), k ≤ n ∧ s = .int .i64 (k : Int) ∧ Hid (dn f l' k n = dn n l i n ∧ n ≤ k + f ∧ l'.length = l.length ∧ (∀ x ∈ l', TmOK w0 x) ∧ St w0 NoB wr (PC g b n' c l' rest H))) (fun s _ => (n - intOf s).toNat)
  case atStart => exact ⟨i, n, l, hi, rfl, hide ⟨rfl, by omega, rfl, HOK.out, HS0.out⟩⟩
  case round =>
    obtain ⟨k, f, l', hk, rfl, HX⟩ := hrel
    have em : ∃ j1 : Nat, (2 : Int) * (k : Int) + 1 = (j1 : Int) ∧ j1 = 2 * k + 1 := ⟨2 * k + 1, by omega, rfl⟩
    obtain ⟨j1, ej, hj1⟩ := em
    have kb : k ≤ 1000000 := by omega
    have j1b : j1 ≤ 2000001 := by omega
    by_cases h1 : n ≤ j1
    · have d1 : decide ((n : Int) ≤ (j1 : Int)) = true := by simp; omega
      have d1' : decide (n ≤ j1) = true := by simp; omega
      have HE : Hid (l' = dn n l i n) := by
        refine hide ?_
        rw [← HX.out.1]
        cases f with
        | zero => rfl
        | succ f => rw [dn, if_pos (by omega)]
      clear h1 hj1
      go_wp2_with fail
      go_ret
      refine ⟨⟨_, rfl⟩, ?_⟩
      rw [← HE.out]
      exact HX.out.2.2.2.2
    · have d1 : decide ((n : Int) ≤ (j1 : Int)) = false := by simp; omega
      have d1' : decide (n ≤ j1) = false := by simp; omega
      have d0 : decide ((j1 : Int) < 0) = false := by simp
      obtain ⟨f, rfl⟩ : ∃ f', f = f' + 1 := ⟨f - 1, by have := HX.out.2.1; omega⟩
      have hdn := HX.out.1
      rw [dn, if_neg (by omega)] at hdn
      have HJ1 := hide hj1
      have j1n : j1 < n := by omega
      obtain ⟨_, _, hlen, hok, hS⟩ := HX.out
      obtain ⟨_, m1, m2, _⟩ := m_run hS
      have HLS := hide (fun W (h : St w0 NoB W (PC g b n' c l' rest H)) a b' (ha : a < n) (hb : b' < n) => less_hp hok h (by omega) hc hm hN a b' (by omega) (by omega))
      have HSWA := hide (fun W (h : St w0 NoB W (PC g b n' c l' rest H)) a b' (ha : a < n) (hb : b' < n) => swap_hp h (by omega) (by omega) a b' (by omega) (by omega))
      have HS := hide hS
      have HL := hide hlen
      have HOKr := hide hok
      have hkn : k < n := by omega
      obtain ⟨j2, ej2, hj2⟩ : ∃ j2 : Nat, (j1 : Int) + 1 = (j2 : Int) ∧ j2 = j1 + 1 := ⟨j1 + 1, by omega, rfl⟩
      have HDJ : Hid (2 * k + 1 = j1 ∧ 2 * k + 2 = j2) := hide ⟨by omega, by omega⟩
      rw [HDJ.out.1, HDJ.out.2] at hdn
      have HDN := hide hdn
      have HJ2 := hide hj2
      clear hdn h1 hlen hok hS hj2 hj1
      by_cases h2 : j2 < n
      · have d2 : decide ((j2 : Int) < (n : Int)) = true := by simp; omega
        have d2' : decide (j2 < n) = true := by simp; omega
        have H2 := hide (fun W h => HLS.out W h j2 j1 h2 j1n)
        have j2n := h2
        obtain ⟨t2, ht2⟩ : ∃ t, ltA l' j2 j1 = t := ⟨_, rfl⟩
        rw [ht2] at H2
        have HT2 := hide ht2
        have HH2 := hide h2
        have jj : j1 ≤ j2 := by have := HJ2.out; omega
        clear ht2 h2
        cases t2
        ·
          have HD2 : Hid ((if ltA l' j1 k = true then dn f (swp l' k j1) j1 n else l') = dn n l i n) := by
            have := HDN.out
            have hJ : (if j2 < n ∧ ltA l' j2 j1 = true then j2 else j1) = j1 := if_neg (fun h => by have := h.2; rw [HT2.out] at this; exact Bool.false_ne_true this)
            rw [hJ] at this
            exact this
          have H3 := hide (fun W h => HLS.out W h j1 k j1n hkn)
          have HSW := hide (fun W h => HSWA.out W h k j1 hkn j1n)
          generalize ltA l' j1 k = t3 at HD2 H3
          cases t3
          · have HE : Hid (l' = dn n l i n) := hide (by have := HD2.out; rw [if_neg Bool.false_ne_true] at this; exact this)
            go_wp2_with (first
              | (go_at_call 70; (with_reducible refine (H2.out _ HS.out).mono ?_); rintro e w1 ⟨rfl, hS1⟩; obtain ⟨_, m1, m2, _⟩ := m_run hS1; have HS := hide hS1; clear hS1)
              | (go_at_call 70; (with_reducible refine (H3.out _ HS.out).mono ?_); rintro e w1 ⟨rfl, hS1⟩; obtain ⟨_, m1, m2, _⟩ := m_run hS1; have HS := hide hS1; clear hS1))
            go_ret
            refine ⟨⟨_, rfl⟩, ?_⟩
            rw [← HE.out]
            exact HS.out
          · have HE : Hid (dn f (swp l' k j1) j1 n = dn n l i n) := hide (by have := HD2.out; rw [if_pos rfl] at this; exact this)
            go_wp2_with (first
              | (go_at_call 70; (with_reducible refine (H2.out _ HS.out).mono ?_); rintro e w1 ⟨rfl, hS1⟩; obtain ⟨_, m1, m2, _⟩ := m_run hS1; have HS := hide hS1; clear hS1)
              | (go_at_call 70; (with_reducible refine (H3.out _ HS.out).mono ?_); rintro e w1 ⟨rfl, hS1⟩; obtain ⟨_, m1, m2, _⟩ := m_run hS1; have HS := hide hS1; clear hS1)
              | (go_at_call 71; (with_reducible refine (HSW.out _ HS.out).mono ?_); rintro e w1 ⟨rfl, hS1⟩; have HSN := hide hS1; clear hS1))
            go_roundw
            case rel => exact ⟨j1, f, swp l' k j1, by omega, by go_num, hide ⟨HE.out, by (have := HJ1.out); (have := HX.out.2.1); omega, by rw [swp_length]; exact HL.out, fun x hx => HOKr.out x (swp_mem hx), HSN.out⟩⟩
            case measure => (have := HJ1.out); (simp [intOf]) <;> omega
        ·
          have HD2 : Hid ((if ltA l' j2 k = true then dn f (swp l' k j2) j2 n else l') = dn n l i n) := by
            have := HDN.out
            have hJ : (if j2 < n ∧ ltA l' j2 j1 = true then j2 else j1) = j2 := if_pos ⟨HH2.out, HT2.out⟩
            rw [hJ] at this
            exact this
          have H3 := hide (fun W h => HLS.out W h j2 k j2n hkn)
          have HSW := hide (fun W h => HSWA.out W h k j2 hkn j2n)
          generalize ltA l' j2 k = t3 at HD2 H3
          cases t3
          · have HE : Hid (l' = dn n l i n) := hide (by have := HD2.out; rw [if_neg Bool.false_ne_true] at this; exact this)
            go_wp2_with (first
              | (go_at_call 70; (with_reducible refine (H2.out _ HS.out).mono ?_); rintro e w1 ⟨rfl, hS1⟩; obtain ⟨_, m1, m2, _⟩ := m_run hS1; have HS := hide hS1; clear hS1)
              | (go_at_call 70; (with_reducible refine (H3.out _ HS.out).mono ?_); rintro e w1 ⟨rfl, hS1⟩; obtain ⟨_, m1, m2, _⟩ := m_run hS1; have HS := hide hS1; clear hS1))
            go_ret
            refine ⟨⟨_, rfl⟩, ?_⟩
            rw [← HE.out]
            exact HS.out
          · have HE : Hid (dn f (swp l' k j2) j2 n = dn n l i n) := hide (by have := HD2.out; rw [if_pos rfl] at this; exact this)
            go_wp2_with (first
              | (go_at_call 70; (with_reducible refine (H2.out _ HS.out).mono ?_); rintro e w1 ⟨rfl, hS1⟩; obtain ⟨_, m1, m2, _⟩ := m_run hS1; have HS := hide hS1; clear hS1)
              | (go_at_call 70; (with_reducible refine (H3.out _ HS.out).mono ?_); rintro e w1 ⟨rfl, hS1⟩; obtain ⟨_, m1, m2, _⟩ := m_run hS1; have HS := hide hS1; clear hS1)
              | (go_at_call 71; (with_reducible refine (HSW.out _ HS.out).mono ?_); rintro e w1 ⟨rfl, hS1⟩; have HSN := hide hS1; clear hS1))
            go_roundw
            case rel => exact ⟨j2, f, swp l' k j2, by omega, by go_num, hide ⟨HE.out, by (have := HJ1.out); (have := HJ2.out); (have := HX.out.2.1); omega, by rw [swp_length]; exact HL.out, fun x hx => HOKr.out x (swp_mem hx), HSN.out⟩⟩
            case measure => (have := HJ1.out); (have := HJ2.out); (simp [intOf]) <;> omega
      · have d2 : decide ((j2 : Int) < (n : Int)) = false := by simp; omega
        have d2' : decide (j2 < n) = false := by simp; omega
        have HH2 := hide h2
        clear h2
        have HD2 : Hid ((if ltA l' j1 k = true then dn f (swp l' k j1) j1 n else l') = dn n l i n) := by
          have := HDN.out
          have hJ : (if j2 < n ∧ ltA l' j2 j1 = true then j2 else j1) = j1 := if_neg (fun h => HH2.out h.1)
          rw [hJ] at this
          exact this
        have H3 := hide (fun W h => HLS.out W h j1 k j1n hkn)
        have HSW := hide (fun W h => HSWA.out W h k j1 hkn j1n)
        generalize ltA l' j1 k = t3 at HD2 H3
        cases t3
        · have HE : Hid (l' = dn n l i n) := hide (by have := HD2.out; rw [if_neg Bool.false_ne_true] at this; exact this)
          go_wp2_with (first
            | (go_at_call 70; (with_reducible refine (H3.out _ HS.out).mono ?_); rintro e w1 ⟨rfl, hS1⟩; obtain ⟨_, m1, m2, _⟩ := m_run hS1; have HS := hide hS1; clear hS1))
          go_ret
          refine ⟨⟨_, rfl⟩, ?_⟩
          rw [← HE.out]
          exact HS.out
        · have HE : Hid (dn f (swp l' k j1) j1 n = dn n l i n) := hide (by have := HD2.out; rw [if_pos rfl] at this; exact this)
          go_wp2_with (first
            | (go_at_call 70; (with_reducible refine (H3.out _ HS.out).mono ?_); rintro e w1 ⟨rfl, hS1⟩; obtain ⟨_, m1, m2, _⟩ := m_run hS1; have HS := hide hS1; clear hS1)
            | (go_at_call 71; (with_reducible refine (HSW.out _ HS.out).mono ?_); rintro e w1 ⟨rfl, hS1⟩; have HSN := hide hS1; clear hS1))
          go_roundw
          case rel => exact ⟨j1, f, swp l' k j1, by omega, by go_num, hide ⟨HE.out, by (have := HJ1.out); (have := HX.out.2.1); omega, by rw [swp_length]; exact HL.out, fun x hx => HOKr.out x (swp_mem hx), HSN.out⟩⟩
          case measure => (have := HJ1.out); (simp [intOf]) <;> omega
end Go.Proofs.Ytjamoifenkdneaa
