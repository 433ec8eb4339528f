/-
  Layer 8: the page's small functions on texts: two, shaped, pad.
-/
import Derived.Test.YtbogjebipnmckaaDoorEe
namespace Go.Proofs.YtbogjebipnmckaaDoor
open Go.RowKit
set_option linter.unusedSimpArgs false
set_option linter.unusedVariables false

theorem run_idxAt {P : Program} {t : TypeId} (ht : P.underlying t = some .string) (l : List UInt8) (k : Nat) (c : UInt8) (h : l[k]? = some c) (W : World) :
    (Instr.index t (.string (strOf l)) (.int .i64 (k : Int))).run P W = .ok (.int .u8 (c.toNat : Int)) W := by
  obtain ⟨hk, hx⟩ := List.getElem?_eq_some_iff.1 h
  rw [run_index_string W t _ _ _ ht, dif_pos ⟨by omega, by rw [strOf_size]; omega⟩]
  have : ∀ (h1 : ((k : Int)).toNat < (strOf l).size), (strOf l)[((k : Int)).toNat]'h1 = c := by
    rw [strOf_eq]
    intro h1
    exact hx
  rw [this]
set_option maxRecDepth 100000 in
set_option maxHeartbeats 800000 in
theorem twoR_any (n : Nat) (h : n < 100) (w : World) : Calls Tryd.prog 23 #[.string (strOf (d2 n))] w fun e w' => e = .returned (.int .i64 (n : Int)) ∧ Below w.heap.size w w' := by
  have h0 := fun W => run_idxAt (P := Tryd.prog) (t := 9) (by kernel_rfl) (d2 n) 0 _ rfl W
  have h1 := fun W => run_idxAt (P := Tryd.prog) (t := 9) (by kernel_rfl) (d2 n) 1 _ rfl W
  rw [show ((0 : Nat) : Int) = 0 from rfl] at h0
  rw [show ((1 : Nat) : Int) = 1 from rfl] at h1
  obtain ⟨p, hp⟩ : ∃ p : Nat, p = n / 10 := ⟨_, rfl⟩
  obtain ⟨q, hq⟩ : ∃ q : Nat, q = n % 10 := ⟨_, rfl⟩
  rw [← hp, dig_nat (by omega)] at h0
  rw [← hq, dig_nat (by omega)] at h1
  have hn : (n : Int) = (p : Int) * 10 + (q : Int) := by omega
  rw [hn]
  have hp' : p < 10 := by omega
  have hq' : q < 10 := by omega
  rw [show (((48 + p : Nat)) : Int) = 48 + (p : Int) by omega] at h0
  rw [show (((48 + q : Nat)) : Int) = 48 + (q : Int) by omega] at h1
  have s0 : (48 : Int) + (p : Int) - 48 = (p : Int) := by omega
  have s1 : (48 : Int) + (q : Int) - 48 = (q : Int) := by omega
  clear hn hp hq
  generalize d2 n = l at h0 h1 ⊢
  go_enter Tryd.func23, Tryd.ntmps23
  go_wp2_with fail
  refine wp_region_T [(0, 1), (1, 1), (2, 1), (3, 0), (4, 1), (5, 1), (6, 1), (7, 1), (8, 0), (9, 1), (10, 1)] (by kernel_rfl) (by kernel_rfl) (fun _ _ _ _ h => h) ?_
  go_wp2_with (first | (refine wpT_nil ?_)   | ((with_reducible refine fromT_refl ?_); (try simp only [Act.put, List.setIfInBounds_toArray, List.set_cons_zero, List.set_cons_succ, List.getElem_toArray, List.getElem_cons_succ, List.getElem_cons_zero]))   | ((with_reducible refine fromT_mk (by assumption) ?_); (try simp only [Act.put, List.setIfInBounds_toArray, List.set_cons_zero, List.set_cons_succ, List.getElem_toArray, List.getElem_cons_succ, List.getElem_cons_zero]))   | (refine wpT_pure (v := ?_) rfl rfl ?_ ?_; rotate_left; (intro wx; go_simp; try go_bits) <;> (with_reducible rfl); (try simp only [Act.put, List.setIfInBounds_toArray, List.set_cons_zero, List.set_cons_succ, List.getElem_toArray, List.getElem_cons_succ, List.getElem_cons_zero]))   | (refine wpT_load (v := ?_) rfl rfl rfl ?_ ?_; rotate_left; (go_simp; try go_bits) <;> (with_reducible rfl); (try simp only [Act.put, List.setIfInBounds_toArray, List.set_cons_zero, List.set_cons_succ, List.getElem_toArray, List.getElem_cons_succ, List.getElem_cons_zero]))   | (refine wpT_read (v := ?_) rfl rfl ?_ ?_; rotate_left; (intro wx hx; go_simp; try go_bits) <;> (with_reducible rfl); (try simp only [Act.put, List.setIfInBounds_toArray, List.set_cons_zero, List.set_cons_succ, List.getElem_toArray, List.getElem_cons_succ, List.getElem_cons_zero]))   | (refine wpT_call rfl rfl ?_; intro K hK)   | (refine wpT_late rfl rfl ?_; intro K hK)   | (refine wpT_any rfl rfl ?_; intro K hK)   | (refine wpT_skip rfl rfl ?_; (try simp only [Act.put, List.setIfInBounds_toArray, List.set_cons_zero, List.set_cons_succ, List.getElem_toArray, List.getElem_cons_succ, List.getElem_cons_zero])))
  go_ret
  exact ⟨rfl, (Below.refl _ _).drew⟩
def okB (c p : UInt8) : Bool := if ((p.toNat : Int) == 48) = true then decide (48 ≤ (c.toNat : Int)) && decide ((c.toNat : Int) ≤ 57) else ((p.toNat : Int) == (c.toNat : Int))
def shL : List UInt8 → List UInt8 → Bool
  | [], [] => true
  | c :: l, p :: s => okB c p && shL l s
  | _, _ => false
theorem shL_len : ∀ (l s : List UInt8), shL l s = true → l.length = s.length
  | [], [], _ => rfl
  | c :: l, p :: s, h => by
    rw [shL, Bool.and_eq_true] at h
    rw [List.length_cons, List.length_cons, shL_len l s h.2]
  | [], _ :: _, h => by simp [shL] at h
  | _ :: _, [], h => by simp [shL] at h
set_option maxRecDepth 100000 in
set_option maxHeartbeats 800000 in
theorem shaped_any (l s : List UInt8) (hl : l.length ≤ 9223372036854775807) (hs : s.length ≤ 100) (w : World) : Calls Tryd.prog 22 #[.string (strOf l), .string (strOf s)] w fun e w' => e = .returned (.bool (shL l s)) ∧ Below w.heap.size w w' := by
  have hL := fun W => run_lenS (P := Tryd.prog) (t := 9) (ty := 3) (by kernel_rfl) l W
  have hM := fun W => run_lenS (P := Tryd.prog) (t := 9) (ty := 3) (by kernel_rfl) s W
  by_cases hn : l.length = s.length
  · rw [hn] at hL
    obtain ⟨n, hnn⟩ : ∃ n, n = s.length := ⟨_, rfl⟩
    rw [← hnn] at hL hM hn hs
    have HN := hide hn
    have HNN := hide hnn
    clear hn hnn hl
    go_enter Tryd.func22, Tryd.ntmps22
    go_wp2_with fail
    go_loopw [14] (fun i wr => ∃ k : Nat, k ≤ n ∧ i = .int .i64 (k : Int) ∧ Hid (shL (l.drop k) (s.drop k) = shL l s) ∧ Hid (Below w.heap.size w wr)) (fun i _ => (n - intOf i).toNat)
    case atStart => exact ⟨0, by omega, rfl, rfl, Below.refl _ _⟩
    case round =>
      obtain ⟨k, hk, rfl, HS, HW⟩ := hrel
      by_cases hlt : k < n
      · have hd : decide ((k : Int) < (n : Int)) = true := by simp; omega
        have k1 : k < l.length := by have := HN.out; omega
        have k2 : k < s.length := by have := HNN.out; omega
        have i0 := fun W => run_idxAt (P := Tryd.prog) (t := 9) (by kernel_rfl) l k l[k] (List.getElem?_eq_getElem k1) W
        have j0 := fun W => run_idxAt (P := Tryd.prog) (t := 9) (by kernel_rfl) s k s[k] (List.getElem?_eq_getElem k2) W
        have HD : Hid (shL l s = (okB l[k] s[k] && shL (l.drop (k + 1)) (s.drop (k + 1)))) := by
          refine hide ?_
          rw [← HS.out, List.drop_eq_getElem_cons k1, List.drop_eq_getElem_cons k2, shL]
        have HO : Hid (okB l[k] s[k] = if ((s[k].toNat : Int) == 48) = true then decide (48 ≤ (l[k].toNat : Int)) && decide ((l[k].toNat : Int) ≤ 57) else ((s[k].toNat : Int) == (l[k].toNat : Int))) := rfl
        generalize okB l[k] s[k] = ok at HD HO
        have x1 : (l[k].toNat : Int) < 256 := by have := l[k].toNat_lt; omega
        have y1 : (s[k].toNat : Int) < 256 := by have := s[k].toNat_lt; omega
        have x0 : 0 ≤ (l[k].toNat : Int) := by omega
        have y0 : 0 ≤ (s[k].toNat : Int) := by omega
        generalize (l[k].toNat : Int) = X at i0 HO x0 x1
        generalize (s[k].toNat : Int) = Y at j0 HO y0 y1
        have HK := hide k1
        have HL := hide hlt
        clear k1 k2 hlt
        obtain ⟨b1, e1⟩ : ∃ b, decide (48 ≤ X) = b := ⟨_, rfl⟩
        obtain ⟨b2, e2⟩ : ∃ b, decide (X ≤ 57) = b := ⟨_, rfl⟩
        obtain ⟨b3, e3⟩ : ∃ b, (Y == 48) = b := ⟨_, rfl⟩
        obtain ⟨b4, e4⟩ : ∃ b, (Y == X) = b := ⟨_, rfl⟩
        have e5 : decide (Y = 48) = b3 := by rw [← e3, Bool.eq_iff_iff]; simp
        have e6 : decide (Y = X) = b4 := by rw [← e4, Bool.eq_iff_iff]; simp
        have e7 : (Y != 48) = !b3 := by rw [← e3]; rfl
        have e8 : (Y != X) = !b4 := by rw [← e4]; rfl
        have HB : Hid (ok = if b3 = true then b1 && b2 else b4) := by
          have := HO.out
          rw [e1, e2, e3, e4] at this
          exact this
        clear HO
        cases b1 <;> cases b2 <;> cases b3 <;> cases b4
        all_goals simp only [Bool.not_true, Bool.not_false] at e7 e8
        all_goals
          go_wp2_with fail
          refine wp_region_T [(0, 1), (1, 1), (2, 1), (3, 1), (4, 1), (5, 1), (6, 1), (7, 1), (8, 1), (9, 1), (10, 1), (11, 1), (12, 1), (13, 1), (14, 1), (15, 1), (16, 1), (17, 1), (18, 1), (19, 1), (20, 1), (21, 1), (22, 1)] (by kernel_rfl) (by kernel_rfl) (fun _ _ _ _ h => h) ?_
          go_wp2_with (first | (refine wpT_nil ?_)   | ((with_reducible refine fromT_refl ?_); (try simp only [Act.put, List.setIfInBounds_toArray, List.set_cons_zero, List.set_cons_succ, List.getElem_toArray, List.getElem_cons_succ, List.getElem_cons_zero]))   | ((with_reducible refine fromT_mk (by assumption) ?_); (try simp only [Act.put, List.setIfInBounds_toArray, List.set_cons_zero, List.set_cons_succ, List.getElem_toArray, List.getElem_cons_succ, List.getElem_cons_zero]))   | (refine wpT_pure (v := ?_) rfl rfl ?_ ?_; rotate_left; (intro wx; go_simp; try go_bits) <;> (with_reducible rfl); (try simp only [Act.put, List.setIfInBounds_toArray, List.set_cons_zero, List.set_cons_succ, List.getElem_toArray, List.getElem_cons_succ, List.getElem_cons_zero]))   | (refine wpT_load (v := ?_) rfl rfl rfl ?_ ?_; rotate_left; (go_simp; try go_bits) <;> (with_reducible rfl); (try simp only [Act.put, List.setIfInBounds_toArray, List.set_cons_zero, List.set_cons_succ, List.getElem_toArray, List.getElem_cons_succ, List.getElem_cons_zero]))   | (refine wpT_read (v := ?_) rfl rfl ?_ ?_; rotate_left; (intro wx hx; go_simp; try go_bits) <;> (with_reducible rfl); (try simp only [Act.put, List.setIfInBounds_toArray, List.set_cons_zero, List.set_cons_succ, List.getElem_toArray, List.getElem_cons_succ, List.getElem_cons_zero]))   | (refine wpT_call rfl rfl ?_; intro K hK)   | (refine wpT_late rfl rfl ?_; intro K hK)   | (refine wpT_any rfl rfl ?_; intro K hK)   | (refine wpT_skip rfl rfl ?_; (try simp only [Act.put, List.setIfInBounds_toArray, List.set_cons_zero, List.set_cons_succ, List.getElem_toArray, List.getElem_cons_succ, List.getElem_cons_zero])))
          first
            | (go_ret
               have hf : shL l s = false := by rw [HD.out, HB.out]; rfl
               rw [hf]
               exact ⟨rfl, HW.out.drew⟩)
            | (go_roundw
               case rel => exact ⟨k + 1, by have := HL.out; omega, by go_num, hide (by rw [HD.out, HB.out]; rfl), hide HW.out.drew⟩
               case measure => (have := HL.out); (simp [intOf]) <;> omega)
      · have hd : decide ((k : Int) < (n : Int)) = false := by simp; omega
        have ht : shL l s = true := by
          rw [← HS.out, List.drop_of_length_le (by have := HN.out; omega), List.drop_of_length_le (by have := HNN.out; omega)]
          rfl
        have HTT := hide ht
        clear ht
        go_wp2_with fail
        go_ret
        rw [HTT.out]
        exact ⟨rfl, HW.out⟩
  · have hf : shL l s = false := by
      cases h : shL l s
      · rfl
      · exact absurd (shL_len l s h) hn
    have d : ((l.length : Int) != (s.length : Int)) = true := by simp; omega
    rw [hf]
    clear hf hn
    generalize l.length = a at *
    generalize s.length = b at *
    go_enter Tryd.func22, Tryd.ntmps22
    go_wp2_with fail
    go_ret
    exact ⟨rfl, Below.refl _ _⟩
def padD : Nat → Nat → List UInt8 → List UInt8
  | 0, _, a => a
  | k + 1, n, a => padD k (n / 10) (UInt8.ofNat (48 + n % 10) :: a)
theorem padD_2 (n : Nat) (h : n < 100) : padD 2 n [] = padT 2 n := by
  rw [padT_2 n h]
  unfold d2
  simp only [padD]
  rw [Nat.mod_eq_of_lt (show n / 10 < 10 by omega)]
theorem padD_4 (n : Nat) (h : n < 10000) : padD 4 n [] = padT 4 n := by
  rw [padT_4 n h]
  unfold d4
  simp only [padD]
  rw [show n / 10 / 10 / 10 % 10 = n / 1000 by omega, show n / 10 / 10 % 10 = n / 100 % 10 by omega]
theorem rd_dig (w : World) (q : Nat) (hq : q < 10) : (convert 48 9 (.slice (some ⟨w.heap.size, 0, none⟩) 1 1)).run Tryd.prog (w.alloc (.cells #[.int .u8 (48 + (q : Int))] 5)) = .ok (.string (strOf [UInt8.ofNat (48 + q)])) (w.alloc (.cells #[.int .u8 (48 + (q : Int))] 5)) := by
  have hb : bvs [UInt8.ofNat (48 + q)] = [.int .u8 (48 + (q : Int))] := by
    simp only [bvs, bv, List.map_cons, List.map_nil, dig_nat hq]
    rfl
  have := rd_new w [.int .u8 (48 + (q : Int))] 5 1 1 rfl (by decide)
  rw [← hb] at this
  have := run_str (P := Tryd.prog) Tryd.underlying48 Tryd.underlying5 Tryd.underlying9 this
  rw [hb] at this
  exact this
set_option maxRecDepth 100000 in
set_option maxHeartbeats 800000 in
theorem padR_any (k n : Nat) (hk : k ≤ 4) (hn : n ≤ 9999) (w : World) : Calls Tryd.prog 29 #[.int .i64 (n : Int), .int .i64 (k : Int)] w fun e w' => e = .returned (.string (strOf (padD k n []))) ∧ Below w.heap.size w w' := by
  have e0 : (⟨#[]⟩ : ByteArray) = strOf [] := by rw [strOf_eq]
  go_enter Tryd.func29, Tryd.ntmps29
  go_wp2_with fail
  go_loopw [0, 5, 7] (fun v s i wr => ∃ (j m : Nat) (a : List UInt8), j ≤ k ∧ m ≤ 9999 ∧ i = .int .i64 (j : Int) ∧ v = .int .i64 (m : Int) ∧ s = .string (strOf a) ∧ Hid (a.length = j ∧ padD (k - j) m a = padD k n []) ∧ Hid (Below w.heap.size w wr)) (fun _ _ i _ => (k - intOf i).toNat)
  case atStart => exact ⟨0, n, [], by omega, hn, rfl, rfl, by rw [← e0], hide ⟨rfl, rfl⟩, Below.refl _ _⟩
  case round =>
    obtain ⟨j, m, a, hj, hm, rfl, rfl, rfl, HA, HB⟩ := hrel
    by_cases hlt : j < k
    · have hd : decide ((j : Int) < (k : Int)) = true := by simp; omega
      have hs := HA.out.2
      rw [show k - j = (k - (j + 1)) + 1 by omega, padD] at hs
      obtain ⟨q, hq⟩ : ∃ q : Nat, q = m % 10 := ⟨_, rfl⟩
      obtain ⟨p, hp⟩ : ∃ p : Nat, p = m / 10 := ⟨_, rfl⟩
      rw [← hq, ← hp] at hs
      have e1 : (m : Int) % 10 = (q : Int) := by omega
      have e2 : (m : Int) / 10 = (p : Int) := by omega
      have hq' : q < 10 := by omega
      have hp' : p ≤ 9999 := by omega
      have cv := rd_dig wr q hq'
      have la : a.length ≤ 4 := by have := HA.out.1; omega
      have cc := fun W => run_cat (P := Tryd.prog) [UInt8.ofNat (48 + q)] a (by simp; omega) W
      have HS := hide hs
      have HX := hide (show (UInt8.ofNat (48 + q) :: a).length = j + 1 by rw [List.length_cons, HA.out.1])
      rw [show [UInt8.ofNat (48 + q)] ++ a = UInt8.ofNat (48 + q) :: a from rfl] at cc
      generalize UInt8.ofNat (48 + q) :: a = b at cc HS HX
      generalize [UInt8.ofNat (48 + q)] = z at cv cc
      have HL := hide hlt
      have HBN := hide (HB.out.alloc HB.out.size (.cells #[.int .u8 (48 + (q : Int))] 5))
      clear hs hq hp la hlt
      go_wp2_with fail
      go_round
      case rel => exact ⟨j + 1, p, b, by have := HL.out; omega, hp', by go_num, by go_num, rfl, hide ⟨HX.out, HS.out⟩, HBN⟩
      case measure => (have := HL.out); (simp [intOf]) <;> omega
    · have hd : decide ((j : Int) < (k : Int)) = false := by simp; omega
      have hx := HA.out.2
      rw [show k - j = 0 by omega, padD] at hx
      have HX := hide hx
      clear hx
      go_wp2_with fail
      go_ret
      rw [← HX.out]
      exact ⟨rfl, HB.out⟩
theorem padR_c (k n : Nat) (hk : k = 2 ∧ n < 100 ∨ k = 4 ∧ n < 10000) (w : World) (K N : Int) (eK : K = k) (eN : N = n) :
    Calls Tryd.prog 29 #[.int .i64 N, .int .i64 K] w fun e w' => e = .returned (.string (strOf (padT k n))) ∧ Below w.heap.size w w' := by
  subst eK eN
  have h := padR_any k n (by omega) (by omega) w
  rcases hk with ⟨rfl, hn⟩ | ⟨rfl, hn⟩
  · rw [padD_2 n hn] at h
    exact h
  · rw [padD_4 n hn] at h
    exact h
end Go.Proofs.YtbogjebipnmckaaDoor
