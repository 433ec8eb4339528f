/-
  Layer 8: plain law on texts: which are of a moment's shape.
-/
import Derived.Test.YtbogjebipnmckaaDoorFb
namespace Go.Proofs.YtbogjebipnmckaaDoor
open Go.RowKit
set_option linter.unusedSimpArgs false
set_option linter.unusedVariables false

theorem dig_of {c : UInt8} (h : 48 ≤ c.toNat ∧ c.toNat ≤ 57) : c = UInt8.ofNat (48 + (c.toNat - 48)) := by
  apply UInt8.toNat_inj.1
  rw [dig_nat (by omega)]
  omega
theorem d2_of {a b : UInt8} (ha : 48 ≤ a.toNat ∧ a.toNat ≤ 57) (hb : 48 ≤ b.toNat ∧ b.toNat ≤ 57) : ∃ v, v < 100 ∧ [a, b] = d2 v := by
  refine ⟨10 * (a.toNat - 48) + (b.toNat - 48), by omega, ?_⟩
  unfold d2
  rw [show (10 * (a.toNat - 48) + (b.toNat - 48)) / 10 = a.toNat - 48 by omega, show (10 * (a.toNat - 48) + (b.toNat - 48)) % 10 = b.toNat - 48 by omega, ← dig_of ha, ← dig_of hb]
theorem d4_of {a b c e : UInt8} (ha : 48 ≤ a.toNat ∧ a.toNat ≤ 57) (hb : 48 ≤ b.toNat ∧ b.toNat ≤ 57) (hc : 48 ≤ c.toNat ∧ c.toNat ≤ 57) (he : 48 ≤ e.toNat ∧ e.toNat ≤ 57) : ∃ v, v < 10000 ∧ [a, b, c, e] = d4 v := by
  obtain ⟨v, hv, h1⟩ := d2_of ha hb
  obtain ⟨u, hu, h2⟩ := d2_of hc he
  refine ⟨100 * v + u, by omega, ?_⟩
  have e1 : d4 (100 * v + u) = d2 v ++ d2 u := by
    unfold d4 d2
    rw [show (100 * v + u) / 1000 = v / 10 by omega, show (100 * v + u) / 100 % 10 = v % 10 by omega, show (100 * v + u) / 10 % 10 = u / 10 by omega, show (100 * v + u) % 10 = u % 10 by omega]
    rfl
  rw [e1, ← h1, ← h2]
  rfl
theorem d4_two (y : Nat) (h : y < 10000) : d4 y = d2 (y / 100) ++ d2 (y % 100) := by
  unfold d4 d2
  rw [show y / 100 / 10 = y / 1000 by omega, show y % 100 / 10 = y / 10 % 10 by omega, show y % 100 % 10 = y % 10 by omega]
  rfl
theorem num2_of {l : List UInt8} {most : Nat} (h : numB 2 l most = true) : ∃ v t, v < 100 ∧ l = d2 v ++ t := by
  unfold numB at h
  have h1 := (Bool.and_eq_true_iff.1 h).1
  match l with
  | [] => simp [numF] at h1
  | [a] =>
    rw [numF] at h1
    split at h1
    · simp [numF] at h1
    · exact absurd h1 Bool.false_ne_true
  | a :: b :: t =>
    rw [numF] at h1
    split at h1
    · rename_i ha
      rw [numF] at h1
      split at h1
      · rename_i hb
        obtain ⟨v, hv, e⟩ := d2_of ha hb
        exact ⟨v, t, hv, by rw [← e]; rfl⟩
      · exact absurd h1 Bool.false_ne_true
    · exact absurd h1 Bool.false_ne_true
theorem num4_of {l : List UInt8} {most : Nat} (h : numB 4 l most = true) : ∃ v t, v < 10000 ∧ l = d4 v ++ t := by
  unfold numB at h
  have h1 := (Bool.and_eq_true_iff.1 h).1
  have hlen := numF_len 4 l 0 h1
  match l, hlen with
  | a :: b :: c :: e :: t, _ =>
    rw [numF] at h1
    split at h1
    · rename_i ha
      rw [numF] at h1
      split at h1
      · rename_i hb
        rw [numF] at h1
        split at h1
        · rename_i hc
          rw [numF] at h1
          split at h1
          · rename_i he
            obtain ⟨v, hv, e⟩ := d4_of ha hb hc he
            exact ⟨v, t, hv, by rw [← e]; rfl⟩
          · exact absurd h1 Bool.false_ne_true
        · exact absurd h1 Bool.false_ne_true
      · exact absurd h1 Bool.false_ne_true
    · exact absurd h1 Bool.false_ne_true
  | [], h => simp at h; omega
  | [_], h => simp at h; omega
  | [_, _], h => simp at h; omega
  | [_, _, _], h => simp at h; omega
theorem sg_of {c : UInt8} {l : List UInt8} (h : sgB [c] l = true) : ∃ t, l = c :: t := by
  match l with
  | [] => simp [sgB] at h
  | a :: t =>
    simp only [sgB] at h
    have : a = c := by simpa using h
    exact ⟨t, by rw [this]⟩
/-- Of a moment's shape. -/
def DtF (l : List UInt8) : Prop := ∃ (y m d h i s : Nat) (z : List UInt8), y < 10000 ∧ m < 100 ∧ d < 100 ∧ h < 100 ∧ i < 100 ∧ s < 100 ∧ l = dtx y m d h i s z
theorem dtF_of_ok {l : List UInt8} (hok : parOk l = true) : DtF l := by
  unfold parOk at hok
  simp only [Bool.and_eq_true, Bool.not_eq_true', decide_eq_true_eq] at hok
  obtain ⟨_, hf, _, _⟩ := hok
  unfold pf12 at hf
  obtain ⟨hf, _⟩ := or_no hf
  unfold pf11 at hf
  obtain ⟨hf, e11⟩ := or_no hf
  unfold pf10 at hf
  obtain ⟨hf, e10⟩ := or_no hf
  unfold pf9 at hf
  obtain ⟨hf, e9⟩ := or_no hf
  unfold pf8 at hf
  obtain ⟨hf, e8⟩ := or_no hf
  unfold pf7 at hf
  obtain ⟨hf, e7⟩ := or_no hf
  unfold pf6 at hf
  obtain ⟨hf, e6⟩ := or_no hf
  unfold pf5 at hf
  obtain ⟨hf, e5⟩ := or_no hf
  unfold pf4 at hf
  obtain ⟨hf, e4⟩ := or_no hf
  unfold pf3 at hf
  obtain ⟨hf, e3⟩ := or_no hf
  unfold pf2 at hf
  obtain ⟨hf, e2⟩ := or_no hf
  unfold pf1 at hf
  obtain ⟨_, e1⟩ := or_no hf
  have h0 : pq0 l = l := by unfold pq0; rfl
  rw [h0] at e1
  obtain ⟨y, t1, by1, rfl⟩ := num4_of e1
  have q1 : pq1 (d4 y ++ t1) = t1 := by unfold pq1; rw [h0]; exact (num4 y by1 t1).2.1
  rw [q1] at e2
  obtain ⟨t2, rfl⟩ := sg_of e2
  have q2 : pq2 (d4 y ++ 45 :: t2) = t2 := by unfold pq2; rw [q1]; exact (sg1 _ _).2
  rw [q2] at e3
  obtain ⟨m, t3, bm, rfl⟩ := num2_of e3
  have q3 : pq3 (d4 y ++ 45 :: (d2 m ++ t3)) = t3 := by unfold pq3; rw [q2]; exact (num2 m bm t3).2.1
  rw [q3] at e4
  obtain ⟨t4, rfl⟩ := sg_of e4
  have q4 : pq4 (d4 y ++ 45 :: (d2 m ++ 45 :: t4)) = t4 := by unfold pq4; rw [q3]; exact (sg1 _ _).2
  rw [q4] at e5
  obtain ⟨d, t5, bd, rfl⟩ := num2_of e5
  have q5 : pq5 (d4 y ++ 45 :: (d2 m ++ 45 :: (d2 d ++ t5))) = t5 := by unfold pq5; rw [q4]; exact (num2 d bd t5).2.1
  rw [q5] at e6
  obtain ⟨t6, rfl⟩ := sg_of e6
  have q6 : pq6 (d4 y ++ 45 :: (d2 m ++ 45 :: (d2 d ++ 84 :: t6))) = t6 := by unfold pq6; rw [q5]; exact (sg1 _ _).2
  rw [q6] at e7
  obtain ⟨h, t7, bh, rfl⟩ := num2_of e7
  have q7 : pq7 (d4 y ++ 45 :: (d2 m ++ 45 :: (d2 d ++ 84 :: (d2 h ++ t7)))) = t7 := by unfold pq7; rw [q6]; exact (num2 h bh t7).2.1
  rw [q7] at e8
  obtain ⟨t8, rfl⟩ := sg_of e8
  have q8 : pq8 (d4 y ++ 45 :: (d2 m ++ 45 :: (d2 d ++ 84 :: (d2 h ++ 58 :: t8)))) = t8 := by unfold pq8; rw [q7]; exact (sg1 _ _).2
  rw [q8] at e9
  obtain ⟨i, t9, bi, rfl⟩ := num2_of e9
  have q9 : pq9 (d4 y ++ 45 :: (d2 m ++ 45 :: (d2 d ++ 84 :: (d2 h ++ 58 :: (d2 i ++ t9))))) = t9 := by unfold pq9; rw [q8]; exact (num2 i bi t9).2.1
  rw [q9] at e10
  obtain ⟨t10, rfl⟩ := sg_of e10
  have q10 : pq10 (d4 y ++ 45 :: (d2 m ++ 45 :: (d2 d ++ 84 :: (d2 h ++ 58 :: (d2 i ++ 58 :: t10))))) = t10 := by unfold pq10; rw [q9]; exact (sg1 _ _).2
  rw [q10] at e11
  obtain ⟨s, z, bs, rfl⟩ := num2_of e11
  exact ⟨y, m, d, h, i, s, z, by1, bm, bd, bh, bi, bs, rfl⟩
def shape19 : List UInt8 := [48, 48, 48, 48, 45, 48, 48, 45, 48, 48, 84, 48, 48, 58, 48, 48, 58, 48, 48]
theorem okB_dig {c : UInt8} (h : okB c 48 = true) : 48 ≤ c.toNat ∧ c.toNat ≤ 57 := by
  unfold okB at h
  rw [if_pos (by rfl)] at h
  simp only [Bool.and_eq_true, decide_eq_true_eq] at h
  omega
theorem okB_lit {c p : UInt8} (hp : p ≠ 48) (h : okB c p = true) : c = p := by
  unfold okB at h
  have hne : ¬ ((p.toNat : Int) == 48) = true := fun h' => by
    have h2 : (p.toNat : Int) = 48 := by simpa using h'
    exact hp (UInt8.toNat_inj.1 (show p.toNat = 48 by omega))
  rw [if_neg hne] at h
  have h2 : (p.toNat : Int) = (c.toNat : Int) := by simpa using h
  exact UInt8.toNat_inj.1 (by omega)
theorem dtF_of_shaped {l : List UInt8} (h : shL (l.take 19) shape19 = true) : DtF l := by
  have hlen := shL_len _ _ h
  rw [List.length_take] at hlen
  have h19 : shape19.length = 19 := rfl
  rw [h19] at hlen
  match l, hlen, h with
  | c0 :: c1 :: c2 :: c3 :: c4 :: c5 :: c6 :: c7 :: c8 :: c9 :: c10 :: c11 :: c12 :: c13 :: c14 :: c15 :: c16 :: c17 :: c18 :: z, _, h =>
    simp only [List.take_succ_cons, List.take_zero, shape19, shL, Bool.and_eq_true] at h
    obtain ⟨h0, h1, h2, h3, h4, h5, h6, h7, h8, h9, h10, h11, h12, h13, h14, h15, h16, h17, h18, _⟩ := h
    obtain ⟨y, by1, ey⟩ := d4_of (okB_dig h0) (okB_dig h1) (okB_dig h2) (okB_dig h3)
    obtain ⟨m, bm, em⟩ := d2_of (okB_dig h5) (okB_dig h6)
    obtain ⟨d, bd, ed⟩ := d2_of (okB_dig h8) (okB_dig h9)
    obtain ⟨hh, bh, eh⟩ := d2_of (okB_dig h11) (okB_dig h12)
    obtain ⟨i, bi, ei⟩ := d2_of (okB_dig h14) (okB_dig h15)
    obtain ⟨s, bs, es⟩ := d2_of (okB_dig h17) (okB_dig h18)
    refine ⟨y, m, d, hh, i, s, z, by1, bm, bd, bh, bi, bs, ?_⟩
    rw [okB_lit (by decide) h4, okB_lit (by decide) h7, okB_lit (by decide) h10, okB_lit (by decide) h13, okB_lit (by decide) h16]
    unfold dtx
    rw [← ey, ← em, ← ed, ← eh, ← ei, ← es]
    rfl
theorem okB_d {k : Nat} (h : k < 10) : okB (UInt8.ofNat (48 + k)) 48 = true := by
  unfold okB
  rw [if_pos (by rfl), dig_nat h, decide_eq_true (by omega), decide_eq_true (by omega)]
  rfl
theorem okB_45 : okB 45 45 = true := by decide
theorem okB_84 : okB 84 84 = true := by decide
theorem okB_58 : okB 58 58 = true := by decide
theorem shaped_dtx (y m d h i s : Nat) (z : List UInt8) (h1 : y < 10000) (h2 : m < 100) (h3 : d < 100) (h4 : h < 100) (h5 : i < 100) (h6 : s < 100) : shL ((dtx y m d h i s z).take 19) shape19 = true := by
  have e : (dtx y m d h i s z).take 19 = [UInt8.ofNat (48 + y / 1000), UInt8.ofNat (48 + y / 100 % 10), UInt8.ofNat (48 + y / 10 % 10), UInt8.ofNat (48 + y % 10), 45, UInt8.ofNat (48 + m / 10), UInt8.ofNat (48 + m % 10), 45, UInt8.ofNat (48 + d / 10), UInt8.ofNat (48 + d % 10), 84, UInt8.ofNat (48 + h / 10), UInt8.ofNat (48 + h % 10), 58, UInt8.ofNat (48 + i / 10), UInt8.ofNat (48 + i % 10), 58, UInt8.ofNat (48 + s / 10), UInt8.ofNat (48 + s % 10)] := rfl
  rw [e]
  simp only [shape19, shL, okB_45, okB_84, okB_58, okB_d (show y / 1000 < 10 by omega), okB_d (show y / 100 % 10 < 10 by omega), okB_d (show y / 10 % 10 < 10 by omega), okB_d (show y % 10 < 10 by omega),
    okB_d (show m / 10 < 10 by omega), okB_d (show m % 10 < 10 by omega), okB_d (show d / 10 < 10 by omega), okB_d (show d % 10 < 10 by omega), okB_d (show h / 10 < 10 by omega), okB_d (show h % 10 < 10 by omega),
    okB_d (show i / 10 < 10 by omega), okB_d (show i % 10 < 10 by omega), okB_d (show s / 10 < 10 by omega), okB_d (show s % 10 < 10 by omega), Bool.and_self]
/-- The ends. -/
def shapeP : List UInt8 := [43, 48, 48, 58, 48, 48]
def shapeM : List UInt8 := [45, 48, 48, 58, 48, 48]
theorem ofs_of_shaped {c : UInt8} (hc : c ≠ 48) {z : List UInt8} (h : shL z [c, 48, 48, 58, 48, 48] = true) : ∃ oh om, oh < 100 ∧ om < 100 ∧ z = ofsT c oh om := by
  have hlen := shL_len _ _ h
  match z, hlen, h with
  | [c0, c1, c2, c3, c4, c5], _, h =>
    simp only [shL, Bool.and_eq_true] at h
    obtain ⟨h0, h1, h2, h3, h4, h5, _⟩ := h
    obtain ⟨a, ba, ea⟩ := d2_of (okB_dig h1) (okB_dig h2)
    obtain ⟨b, bb, eb⟩ := d2_of (okB_dig h4) (okB_dig h5)
    refine ⟨a, b, ba, bb, ?_⟩
    rw [okB_lit hc h0, okB_lit (by decide) h3]
    unfold ofsT
    rw [← ea, ← eb]
    rfl
theorem okB_43 : okB 43 43 = true := by decide
theorem shaped_P (oh om : Nat) (h1 : oh < 100) (h2 : om < 100) : shL (ofsT 43 oh om) shapeP = true ∧ shL (ofsT 43 oh om) shapeM = false ∧ shL (ofsT 45 oh om) shapeP = false ∧ shL (ofsT 45 oh om) shapeM = true := by
  have e : ∀ c, ofsT c oh om = [c, UInt8.ofNat (48 + oh / 10), UInt8.ofNat (48 + oh % 10), 58, UInt8.ofNat (48 + om / 10), UInt8.ofNat (48 + om % 10)] := fun c => rfl
  have x1 : okB 43 45 = false := by decide
  have x2 : okB 45 43 = false := by decide
  rw [e, e]
  simp only [shapeP, shapeM, shL, okB_43, okB_45, okB_58, okB_d (show oh / 10 < 10 by omega), okB_d (show oh % 10 < 10 by omega), okB_d (show om / 10 < 10 by omega), okB_d (show om % 10 < 10 by omega), Bool.and_self, x1, x2, Bool.false_and]
  exact ⟨trivial, trivial, trivial, trivial⟩
/-- An end that is read whole is one of these. -/
theorem off_of {z : List UInt8} (hb : offB z = true) (hr : offR z = []) : z = [90] ∨ ∃ c oh om, (c = 43 ∨ c = 45) ∧ oh < 100 ∧ om < 100 ∧ z = ofsT c oh om := by
  match z with
  | [] =>
    have : offB [] = false := by decide
    rw [this] at hb
    exact absurd hb Bool.false_ne_true
  | c :: t =>
    have hsg : sgB zpm (c :: t) = true := by
      unfold offB at hb
      dsimp only at hb
      split at hb
      · exact hb
      · exact (Bool.and_eq_true_iff.1 hb).1
    have hc : c = 90 ∨ c = 43 ∨ c = 45 := by
      simp only [sgB, zpm] at hsg
      simpa using hsg
    have hR : sgR zpm (c :: t) = t := by unfold sgR; rw [if_pos hsg]; rfl
    have hV : sgV zpm (c :: t) = c.toNat := by unfold sgV; rw [if_pos hsg]; rfl
    rcases hc with rfl | hc
    · have hz : offZ (90 :: t) = true := by unfold offZ; rw [hV]; rfl
      unfold offR at hr
      rw [if_pos hz, hR] at hr
      exact .inl (by rw [hr])
    · have hz : offZ (c :: t) = false := by unfold offZ; rw [hV]; rcases hc with rfl | rfl <;> rfl
      unfold offB at hb
      unfold offR at hr
      dsimp only at hb
      rw [if_neg (by rw [hz]; exact Bool.false_ne_true), hR] at hb hr
      simp only [Bool.and_eq_true] at hb
      obtain ⟨_, h1, h2, h3⟩ := hb
      obtain ⟨oh, t1, bo, rfl⟩ := num2_of h1
      have q1 : numR 2 (d2 oh ++ t1) = t1 := (num2 oh bo t1).2.1
      rw [q1] at h2 h3 hr
      obtain ⟨t2, rfl⟩ := sg_of h2
      rw [(sg1 _ _).2] at h3 hr
      obtain ⟨om, t3, bm, rfl⟩ := num2_of h3
      rw [(num2 om bm t3).2.1] at hr
      subst hr
      refine .inr ⟨c, oh, om, hc, bo, bm, ?_⟩
      unfold ofsT
      rw [List.append_nil]
end Go.Proofs.YtbogjebipnmckaaDoor
