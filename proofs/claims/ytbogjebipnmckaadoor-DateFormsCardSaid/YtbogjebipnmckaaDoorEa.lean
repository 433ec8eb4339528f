/-
  Layer 8: plain law on the texts of moments: what Print writes Parse reads.
-/
import Derived.Test.YtbogjebipnmckaaDoorDh
namespace Go.Proofs.YtbogjebipnmckaaDoor
open Go.RowKit
set_option linter.unusedSimpArgs false

theorem dig_nat {k : Nat} (h : k < 10) : (UInt8.ofNat (48 + k)).toNat = 48 + k := by
  rw [UInt8.toNat_ofNat']
  omega
theorem numF_1 (k n m : Nat) (t : List UInt8) (h : m < 10) : numF (k + 1) (UInt8.ofNat (48 + m) :: t) n = numF k t (10 * n + m) := by
  rw [numF, dig_nat h, if_pos (by omega), show 48 + m - 48 = m by omega]
theorem numF_d2 (n : Nat) (h : n < 100) (t : List UInt8) : numF 2 (d2 n ++ t) 0 = (true, n, t) := by
  unfold d2
  show numF 2 (_ :: _ :: t) 0 = _
  rw [numF_1 1 _ _ _ (by omega), numF_1 0 _ _ _ (by omega), numF, show 10 * (10 * 0 + n / 10) + n % 10 = n by omega]
theorem numF_d4 (n : Nat) (h : n < 10000) (t : List UInt8) : numF 4 (d4 n ++ t) 0 = (true, n, t) := by
  unfold d4
  show numF 4 (_ :: _ :: _ :: _ :: t) 0 = _
  rw [numF_1 3 _ _ _ (by omega), numF_1 2 _ _ _ (by omega), numF_1 1 _ _ _ (by omega), numF_1 0 _ _ _ (by omega), numF, show 10 * (10 * (10 * (10 * 0 + n / 1000) + n / 100 % 10) + n / 10 % 10) + n % 10 = n by omega]
theorem num2 (n : Nat) (h : n < 100) (t : List UInt8) : numV 2 (d2 n ++ t) = n ∧ numR 2 (d2 n ++ t) = t ∧ ∀ most, numB 2 (d2 n ++ t) most = decide (n ≤ most) := by
  unfold numV numR numB
  rw [numF_d2 n h t]
  exact ⟨rfl, rfl, fun _ => by simp⟩
theorem num4 (n : Nat) (h : n < 10000) (t : List UInt8) : numV 4 (d4 n ++ t) = n ∧ numR 4 (d4 n ++ t) = t ∧ ∀ most, numB 4 (d4 n ++ t) most = decide (n ≤ most) := by
  unfold numV numR numB
  rw [numF_d4 n h t]
  exact ⟨rfl, rfl, fun _ => by simp⟩
theorem sg1 (c : UInt8) (t : List UInt8) : sgB [c] (c :: t) = true ∧ sgR [c] (c :: t) = t := by
  have h : sgB [c] (c :: t) = true := by simp [sgB]
  refine ⟨h, ?_⟩
  unfold sgR
  rw [if_pos h]
  rfl
/-- A text of numbers, with some end. -/
def dtx (y m d h i s : Nat) (z : List UInt8) : List UInt8 :=
  d4 y ++ (45 :: (d2 m ++ (45 :: (d2 d ++ (84 :: (d2 h ++ (58 :: (d2 i ++ (58 :: (d2 s ++ z))))))))))
theorem dtx_parts (y m d h i s : Nat) (z : List UInt8) (h1 : y < 10000) (h2 : m < 100) (h3 : d < 100) (h4 : h < 100) (h5 : i < 100) (h6 : s < 100) :
    pY (dtx y m d h i s z) = y ∧ pM (dtx y m d h i s z) = m ∧ pD (dtx y m d h i s z) = d ∧ pH (dtx y m d h i s z) = h ∧ pI (dtx y m d h i s z) = i ∧ pS (dtx y m d h i s z) = s ∧
    pq11 (dtx y m d h i s z) = z ∧ pf11 (dtx y m d h i s z) = !(decide (m ≤ 12) && (decide (d ≤ 31) && (decide (h ≤ 23) && (decide (i ≤ 59) && decide (s ≤ 59))))) := by
  obtain ⟨L, hL⟩ : ∃ L, L = dtx y m d h i s z := ⟨_, rfl⟩
  rw [← hL]
  have q0 : pq0 L = d4 y ++ (45 :: (d2 m ++ (45 :: (d2 d ++ (84 :: (d2 h ++ (58 :: (d2 i ++ (58 :: (d2 s ++ z)))))))))) := by unfold pq0; rw [hL]; rfl
  have q1 : pq1 L = 45 :: (d2 m ++ (45 :: (d2 d ++ (84 :: (d2 h ++ (58 :: (d2 i ++ (58 :: (d2 s ++ z))))))))) := by unfold pq1; rw [q0]; exact (num4 y h1 _).2.1
  have q2 : pq2 L = d2 m ++ (45 :: (d2 d ++ (84 :: (d2 h ++ (58 :: (d2 i ++ (58 :: (d2 s ++ z)))))))) := by unfold pq2; rw [q1]; exact (sg1 _ _).2
  have q3 : pq3 L = 45 :: (d2 d ++ (84 :: (d2 h ++ (58 :: (d2 i ++ (58 :: (d2 s ++ z))))))) := by unfold pq3; rw [q2]; exact (num2 m h2 _).2.1
  have q4 : pq4 L = d2 d ++ (84 :: (d2 h ++ (58 :: (d2 i ++ (58 :: (d2 s ++ z)))))) := by unfold pq4; rw [q3]; exact (sg1 _ _).2
  have q5 : pq5 L = 84 :: (d2 h ++ (58 :: (d2 i ++ (58 :: (d2 s ++ z))))) := by unfold pq5; rw [q4]; exact (num2 d h3 _).2.1
  have q6 : pq6 L = d2 h ++ (58 :: (d2 i ++ (58 :: (d2 s ++ z)))) := by unfold pq6; rw [q5]; exact (sg1 _ _).2
  have q7 : pq7 L = 58 :: (d2 i ++ (58 :: (d2 s ++ z))) := by unfold pq7; rw [q6]; exact (num2 h h4 _).2.1
  have q8 : pq8 L = d2 i ++ (58 :: (d2 s ++ z)) := by unfold pq8; rw [q7]; exact (sg1 _ _).2
  have q9 : pq9 L = 58 :: (d2 s ++ z) := by unfold pq9; rw [q8]; exact (num2 i h5 _).2.1
  have q10 : pq10 L = d2 s ++ z := by unfold pq10; rw [q9]; exact (sg1 _ _).2
  refine ⟨?_, ?_, ?_, ?_, ?_, ?_, ?_, ?_⟩
  · unfold pY; rw [q0]; exact (num4 y h1 _).1
  · unfold pM; rw [q2]; exact (num2 m h2 _).1
  · unfold pD; rw [q4]; exact (num2 d h3 _).1
  · unfold pH; rw [q6]; exact (num2 h h4 _).1
  · unfold pI; rw [q8]; exact (num2 i h5 _).1
  · unfold pS; rw [q10]; exact (num2 s h6 _).1
  · unfold pq11; rw [q10]; exact (num2 s h6 _).2.1
  · have hy : decide (y ≤ 9999) = true := decide_eq_true (by omega)
    unfold pf11 pf10 pf9 pf8 pf7 pf6 pf5 pf4 pf3 pf2 pf1 pf0
    rw [q0, q1, q2, q3, q4, q5, q6, q7, q8, q9, q10, (num4 y h1 _).2.2, (num2 m h2 _).2.2, (num2 d h3 _).2.2, (num2 h h4 _).2.2, (num2 i h5 _).2.2, (num2 s h6 _).2.2,
      (sg1 _ _).1, (sg1 _ _).1, (sg1 _ _).1, (sg1 _ _).1, (sg1 _ _).1, hy]
    cases decide (m ≤ 12) <;> cases decide (d ≤ 31) <;> cases decide (h ≤ 23) <;> cases decide (i ≤ 59) <;> cases decide (s ≤ 59) <;> rfl
/-- The ends that there are. -/
def ofsT (c : UInt8) (oh om : Nat) : List UInt8 := c :: (d2 oh ++ (58 :: d2 om))
theorem off_Z : offV [90] = 0 ∧ offR [90] = [] ∧ offB [90] = true := ⟨by kernel_rfl, by kernel_rfl, by kernel_rfl⟩
theorem off_P (oh om : Nat) (h1 : oh < 100) (h2 : om < 100) : offV (ofsT 43 oh om) = 3600 * oh + 60 * om ∧ offR (ofsT 43 oh om) = [] ∧ offB (ofsT 43 oh om) = (decide (oh ≤ 23) && decide (om ≤ 59)) := by
  have a : sgV zpm (ofsT 43 oh om) = 43 := by simp [sgV, ofsT, sgB, zpm]
  have b : sgR zpm (ofsT 43 oh om) = d2 oh ++ (58 :: (d2 om ++ [])) := by simp [sgR, ofsT, sgB, zpm]
  have c : sgB zpm (ofsT 43 oh om) = true := by simp [ofsT, sgB, zpm]
  have z : offZ (ofsT 43 oh om) = false := by unfold offZ; rw [a]; rfl
  unfold offV offR offB
  dsimp only
  rw [a, b, c, z, (num2 oh h1 _).1, (num2 oh h1 _).2.1, (num2 oh h1 _).2.2, (sg1 _ _).1, (sg1 _ _).2, (num2 om h2 _).1, (num2 om h2 _).2.1, (num2 om h2 _).2.2]
  exact ⟨rfl, rfl, by simp⟩
theorem off_M (oh om : Nat) (h1 : oh < 100) (h2 : om < 100) : offV (ofsT 45 oh om) = -(3600 * oh + 60 * om) ∧ offR (ofsT 45 oh om) = [] ∧ offB (ofsT 45 oh om) = (decide (oh ≤ 23) && decide (om ≤ 59)) := by
  have a : sgV zpm (ofsT 45 oh om) = 45 := by simp [sgV, ofsT, sgB, zpm]
  have b : sgR zpm (ofsT 45 oh om) = d2 oh ++ (58 :: (d2 om ++ [])) := by simp [sgR, ofsT, sgB, zpm]
  have c : sgB zpm (ofsT 45 oh om) = true := by simp [ofsT, sgB, zpm]
  have z : offZ (ofsT 45 oh om) = false := by unfold offZ; rw [a]; rfl
  unfold offV offR offB
  dsimp only
  rw [a, b, c, z, (num2 oh h1 _).1, (num2 oh h1 _).2.1, (num2 oh h1 _).2.2, (sg1 _ _).1, (sg1 _ _).2, (num2 om h2 _).1, (num2 om h2 _).2.1, (num2 om h2 _).2.2]
  exact ⟨rfl, rfl, by simp⟩
/-- A moment's day, year, month, day of the month. -/
theorem yOf_on {D : Int} (h0 : 0 ≤ D) (h1 : D < 3652425) : yOf D ≤ 9999 ∧ yrs (yOf D : Int) ≤ D ∧ D < yrs ((yOf D : Int) + 1) := by
  have : ∀ k : Nat, k ≤ 9999 → D < yrs ((k + 1 : Nat) : Int) → yF k D ≤ k ∧ yrs (yF k D : Int) ≤ D ∧ D < yrs ((yF k D : Int) + 1) := by
    intro k
    induction k with
    | zero =>
      intro _ h
      rw [yF]
      refine ⟨Nat.le_refl _, ?_, h⟩
      rw [show ((0 : Nat) : Int) = 0 from rfl, yrs_0]
      exact h0
    | succ k ih =>
      intro hk h
      rw [yF]
      by_cases hc : yrs ((k + 1 : Nat) : Int) ≤ D
      · rw [if_pos hc]
        exact ⟨Nat.le_refl _, hc, h⟩
      · rw [if_neg hc]
        obtain ⟨a, b, c⟩ := ih (by omega) (by omega)
        exact ⟨by omega, b, c⟩
  unfold yOf
  have e : ((9999 + 1 : Nat) : Int) = 10000 := rfl
  exact this 9999 (by omega) (by rw [e, yrs_10000]; exact h1)
theorem mOf_on {y L : Int} (h0 : 0 ≤ L) (h1 : L < cuM y 12) : mOf y L ≤ 11 ∧ cuM y (mOf y L) ≤ L ∧ L < cuM y (mOf y L + 1) := by
  have : ∀ k : Nat, k ≤ 11 → L < cuM y (k + 1) → mF y k L ≤ k ∧ cuM y (mF y k L) ≤ L ∧ L < cuM y (mF y k L + 1) := by
    intro k
    induction k with
    | zero =>
      intro _ h
      rw [mF]
      exact ⟨Nat.le_refl _, h0, h⟩
    | succ k ih =>
      intro hk h
      rw [mF]
      by_cases hc : cuM y (k + 1) ≤ L
      · rw [if_pos hc]
        exact ⟨Nat.le_refl _, hc, h⟩
      · rw [if_neg hc]
        obtain ⟨a, b, c⟩ := ih (by omega) (by omega)
        exact ⟨by omega, b, c⟩
  unfold mOf
  exact this 11 (by omega) h1
/-- The parts of a moment. -/
structure DtP (N : Nat) (q : Int) : Prop where
  y : dY N ≤ 9999
  m : dM N ≤ 11
  t1 : 1 ≤ dT N
  t31 : dT N ≤ 31
  t : (dT N : Int) ≤ moD (dY N) (dM N)
  day : yrs (dY N) + cuM (dY N) (dM N) + (dT N : Int) = q + 719529
  y1 : yrs (dY N) ≤ q + 719528
  y2 : q + 719528 < yrs ((dY N : Int) + 1)
  L : dL N = q + 719528 - yrs (dY N)
  m1 : cuM (dY N) (dM N) ≤ dL N
  m2 : dL N < cuM (dY N) (dM N + 1)
theorem dtP_num (q D Y1 Y2 L c0 c1 mo T : Int) (hD : D = q + 719528) (b : Y1 ≤ D) (c : D < Y2) (hL : L = D - Y1) (f : c0 ≤ L) (g : L < c1) (hc : c1 = c0 + mo) (ht : T = L - c0 + 1) :
    1 ≤ T ∧ T ≤ mo ∧ Y1 + c0 + T = q + 719529 := by omega
theorem dtP_len (x : Bool) (D Y1 Y2 L : Int) (b : Y1 ≤ D) (c : D < Y2) (hL : L = D - Y1) (h : Y2 = Y1 + 365 + if x = true then 1 else 0) : 0 ≤ L ∧ L < 365 + if x = true then 1 else 0 := by
  by_cases hx : x = true
  · rw [if_pos hx] at h ⊢
    omega
  · rw [if_neg hx] at h ⊢
    omega
theorem dtP_D (N : Int) (h : N < 253402300800) (h0 : 0 ≤ N) : 0 ≤ N / 86400 + 719528 ∧ N / 86400 + 719528 < 3652425 := by omega
theorem dtP_t (L c : Int) (h : c ≤ L) : (((L - c).toNat + 1 : Nat) : Int) = L - c + 1 := by omega
theorem dtP_t1 (T : Nat) (h : 1 ≤ (T : Int)) : 1 ≤ T := by omega
theorem dtP_t31 (T : Nat) (m : Int) (h : (T : Int) ≤ m) (h' : m ≤ 31) : T ≤ 31 := by omega
theorem cuM_next (y : Int) (k : Nat) : cuM y (k + 1) = cuM y k + moD y k := by rw [cuM]
theorem le_9999 (y : Nat) (h : y ≤ 9999) : (y : Int) ≤ 9999 := by omega
theorem lt_end (N : Nat) (h : N < 253402300800) : (N : Int) < 253402300800 := by omega
theorem le_one (N : Nat) (h : 1 ≤ N) : 1 ≤ (N : Int) := by omega
theorem dtP_core (q D : Int) (N : Nat) (d1 : 0 ≤ D) (d2 : D < 3652425) (hD : D = q + 719528) (hy : dY N = yOf D) (hL : dL N = D - yrs (dY N)) (hm : dM N = mOf (dY N) (dL N)) (ht : dT N = (dL N - cuM (dY N) (dM N)).toNat + 1) : DtP N q := by
  obtain ⟨a, b, c⟩ := yOf_on d1 d2
  rw [← hy] at a b c
  have hst := yrs_step (dY N : Int) (Int.natCast_nonneg _) (le_9999 _ a)
  have h12 := cuM_12 (dY N : Int)
  obtain ⟨l0, l1⟩ := dtP_len _ _ _ _ _ b c hL hst
  obtain ⟨e, f, g⟩ := mOf_on (y := (dY N : Int)) (L := dL N) l0 (by rw [h12]; exact l1)
  rw [← hm] at e f g
  have hc := cuM_next (dY N) (dM N)
  have ht' : (dT N : Int) = dL N - cuM (dY N) (dM N) + 1 := by rw [ht]; exact dtP_t _ _ f
  obtain ⟨t1, t2, t3⟩ := dtP_num _ _ _ _ _ _ _ _ _ hD b c hL f g hc ht'
  have hmo := moD_bd (dY N : Int) (dM N) (Nat.lt_succ_of_le e)
  exact ⟨a, e, dtP_t1 _ t1, dtP_t31 _ _ t2 hmo.2, t2, t3, hD ▸ b, hD ▸ c, hD ▸ hL, f, g⟩
theorem dD_int (N : Nat) : (dD N : Int) = ((N / 86400 : Nat) : Int) + 719528 := by
  have h : dD N = N / 86400 + 719528 := by unfold dD; rfl
  rw [h]
  generalize N / 86400 = q
  omega
theorem dtP {N : Nat} (h : N < 253402300800) : DtP N ((N / 86400 : Nat) : Int) := by
  obtain ⟨d1, d2⟩ := dtP_D (N : Int) (lt_end N h) (Int.natCast_nonneg N)
  have eq : ((N / 86400 : Nat) : Int) = (N : Int) / 86400 := Int.natCast_ediv _ _
  rw [← eq] at d1 d2
  refine dtP_core _ (dD N : Int) N ?_ ?_ (dD_int N) (by unfold dY; rfl) (by unfold dL; rfl) (by unfold dM; rfl) (by unfold dT; rfl)
  · rw [dD_int]
    exact d1
  · rw [dD_int]
    exact d2
theorem hms_bd (N : Nat) : N % 86400 / 3600 ≤ 23 ∧ N % 3600 / 60 ≤ 59 ∧ N % 60 ≤ 59 := by omega
theorem prt_dtx {N : Nat} (h : N < 253402300800) : prt N = dtx (dY N) (dM N + 1) (dT N) (N % 86400 / 3600) (N % 3600 / 60) (N % 60) [90] := by
  have p := dtP h
  have hy := p.y
  have hm := p.m
  have ht := p.t31
  obtain ⟨a, b, c⟩ := hms_bd N
  unfold prt
  rw [prtT_eq _ _ _ _ _ _ (Nat.lt_succ_of_le hy) (by clear p h a b c; omega) (Nat.lt_of_le_of_lt ht (by decide)) (Nat.lt_of_le_of_lt a (by decide)) (Nat.lt_of_le_of_lt b (by decide)) (Nat.lt_of_le_of_lt c (by decide))]
  simp only [dtx, List.append_assoc, List.cons_append, List.nil_append]
theorem par_num (N q h i s : Nat) (o : Int) (e1 : q = N / 86400) (e2 : h = N % 86400 / 3600) (e3 : i = N % 3600 / 60) (e4 : s = N % 60) : 86400 * (q : Int) + 3600 * (h : Int) + 60 * (i : Int) + (s : Int) - o = (N : Int) - o := by omega
theorem par_day (q c Y T : Int) (h : Y + c + T = q + 719529) : Y - 719528 + T - 1 + c = q := by omega
theorem toNat_pred (k : Nat) : (((k + 1 : Nat) : Int) - 1).toNat = k := by omega
theorem par_m (m : Nat) (h : m ≤ 11) : 1 ≤ ((m + 1 : Nat) : Int) ∧ ((m + 1 : Nat) : Int) ≤ 12 ∧ m + 1 ≤ 12 ∧ m + 1 < 100 := by omega
/-- What is read of numbers that are a day and a time, with whatever end. -/
theorem par_gen {y m d h i s : Nat} {z : List UInt8} {n o : Int} (h1 : y < 10000) (h2 : m < 100) (h3 : d < 100) (h4 : h < 100) (h5 : i < 100) (h6 : s < 100)
    (hk : dayB (y : Int) (m : Int) (d : Int) = true) (hn : dayN (y : Int) (m : Int) (d : Int) = n) (b2 : m ≤ 12) (b3 : d ≤ 31) (b4 : h ≤ 23) (b5 : i ≤ 59) (b6 : s ≤ 59) (hb : offB z = true) (hr : offR z = []) (ho : offV z = o)
    (r : 0 ≤ 86400 * n + 3600 * (h : Int) + 60 * (i : Int) + (s : Int) - o ∧ 86400 * n + 3600 * (h : Int) + 60 * (i : Int) + (s : Int) - o ≤ 253402300799) :
    parV (dtx y m d h i s z) = .tuple #[.int .i64 (86400 * n + 3600 * (h : Int) + 60 * (i : Int) + (s : Int) - o), .bool true] := by
  obtain ⟨a, b, c, d', e, f, g, j⟩ := dtx_parts y m d h i s z h1 h2 h3 h4 h5 h6
  generalize dtx y m d h i s z = L at a b c d' e f g j ⊢
  have hK : pK L = true := by unfold pK; rw [a, b, c]; exact hk
  have hN : pN L = n := by
    unfold pN
    rw [a, b, c, if_pos hk, hn]
  have hO : pO L = o := by unfold pO; rw [g, ho]
  have hq : pq12 L = [] := by unfold pq12; rw [g]; exact hr
  have hf : pf12 L = false := by
    unfold pf12
    rw [g, hb, j, decide_eq_true b2, decide_eq_true b3, decide_eq_true b4, decide_eq_true b5, decide_eq_true b6]
    rfl
  have hP : parN L = 86400 * n + 3600 * (h : Int) + 60 * (i : Int) + (s : Int) - o := by
    unfold parN
    rw [hN, d', e, f, hO]
  have hok : parOk L = true := by
    unfold parOk
    rw [hK, hf, hq, hP, decide_eq_true r]
    rfl
  unfold parV
  rw [if_pos hok, hP]
theorem par_prt {N : Nat} (h : N < 253402300800) (z : List UInt8) {o : Int} (hb : offB z = true) (hr : offR z = []) (ho : offV z = o) (h0 : 0 ≤ (N : Int) - o ∧ (N : Int) - o ≤ 253402300799) :
    parV (dtx (dY N) (dM N + 1) (dT N) (N % 86400 / 3600) (N % 3600 / 60) (N % 60) z) = .tuple #[.int .i64 ((N : Int) - o), .bool true] := by
  have p := dtP h
  obtain ⟨a, b, c⟩ := hms_bd N
  obtain ⟨m1, m2, m3, m4⟩ := par_m (dM N) p.m
  have hn := par_num N (N / 86400) (N % 86400 / 3600) (N % 3600 / 60) (N % 60) o rfl rfl rfl rfl
  rw [← hn] at h0 ⊢
  refine par_gen (Nat.lt_succ_of_le p.y) m4 (Nat.lt_of_le_of_lt p.t31 (by decide)) (Nat.lt_of_le_of_lt a (by decide)) (Nat.lt_of_le_of_lt b (by decide)) (Nat.lt_of_le_of_lt c (by decide)) ?_ ?_ m3 p.t31 a b c hb hr ho h0
  · exact dayB_yes (Int.natCast_nonneg _) (le_9999 _ p.y) m1 m2 (le_one _ p.t1) (by rw [toNat_pred]; exact p.t)
  · unfold dayN
    rw [toNat_pred]
    exact par_day _ _ _ _ p.day
theorem par_back {N : Nat} (h : N < 253402300800) : parV (prt N) = .tuple #[.int .i64 (N : Int), .bool true] := by
  rw [prt_dtx h, par_prt h [90] off_Z.2.2 off_Z.2.1 off_Z.1 ⟨by clear h; omega, by omega⟩, Int.sub_zero]
theorem dtx_length (y m d h i s : Nat) (z : List UInt8) : (dtx y m d h i s z).length = 19 + z.length := by
  simp only [dtx, d4, d2, List.length_append, List.length_cons, List.length_nil]
  omega
theorem prt_length {N : Nat} (h : N < 253402300800) : (prt N).length = 20 := by rw [prt_dtx h, dtx_length]; rfl
/-- A text that is read has twenty bytes or twenty-five. -/
theorem numF_len : ∀ (k : Nat) (l : List UInt8) (n : Nat), (numF k l n).1 = true → l.length = k + (numF k l n).2.2.length
  | 0, l, n, _ => by simp [numF]
  | k + 1, [], n, h => by simp [numF] at h
  | k + 1, c :: l, n, h => by
    rw [numF] at h ⊢
    split at h
    · rename_i hc
      rw [if_pos hc]
      have := numF_len k l _ h
      rw [List.length_cons]
      omega
    · exact absurd h Bool.false_ne_true
theorem numB_len {k most : Nat} {l : List UInt8} (h : numB k l most = true) : l.length = k + (numR k l).length := by
  unfold numB at h
  unfold numR
  exact numF_len k l 0 (Bool.and_eq_true_iff.1 h).1
theorem sgB_len {ss l : List UInt8} (h : sgB ss l = true) : l.length = 1 + (sgR ss l).length := by
  unfold sgR
  rw [if_pos h]
  match l, h with
  | c :: t, _ => simp; omega
theorem off_len {l : List UInt8} (h : offB l = true) : l.length = 1 + (offR l).length ∨ l.length = 6 + (offR l).length := by
  unfold offB at h
  unfold offR
  dsimp only at h
  by_cases hz : offZ l = true
  · rw [if_pos hz] at h ⊢
    exact .inl (sgB_len h)
  · rw [if_neg hz] at h ⊢
    simp only [Bool.and_eq_true] at h
    obtain ⟨a, b, c, d⟩ := h
    have := sgB_len a
    have := numB_len b
    have := sgB_len c
    have := numB_len d
    right
    omega
theorem or_no {a b : Bool} (h : (a || !b) = false) : a = false ∧ b = true := by cases a <;> cases b <;> simp_all
theorem par_len {l : List UInt8} (h : parOk l = true) : l.length = 20 ∨ l.length = 25 := by
  unfold parOk at h
  simp only [Bool.and_eq_true, Bool.not_eq_true', decide_eq_true_eq] at h
  obtain ⟨_, hf, hq, _⟩ := h
  unfold pf12 at hf
  obtain ⟨hf, o⟩ := or_no hf
  unfold pf11 at hf
  obtain ⟨hf, e11⟩ := or_no hf
  unfold pf10 at hf
  obtain ⟨hf, e10⟩ := or_no hf
  unfold pf9 at hf
  obtain ⟨hf, e9⟩ := or_no hf
  unfold pf8 at hf
  obtain ⟨hf, e8⟩ := or_no hf
  unfold pf7 at hf
  obtain ⟨hf, e7⟩ := or_no hf
  unfold pf6 at hf
  obtain ⟨hf, e6⟩ := or_no hf
  unfold pf5 at hf
  obtain ⟨hf, e5⟩ := or_no hf
  unfold pf4 at hf
  obtain ⟨hf, e4⟩ := or_no hf
  unfold pf3 at hf
  obtain ⟨hf, e3⟩ := or_no hf
  unfold pf2 at hf
  obtain ⟨hf, e2⟩ := or_no hf
  unfold pf1 at hf
  obtain ⟨_, e1⟩ := or_no hf
  have h0 : pq0 l = l := by unfold pq0; rfl
  have l1 := numB_len e1
  have l2 := sgB_len e2
  have l3 := numB_len e3
  have l4 := sgB_len e4
  have l5 := numB_len e5
  have l6 := sgB_len e6
  have l7 := numB_len e7
  have l8 := sgB_len e8
  have l9 := numB_len e9
  have l10 := sgB_len e10
  have l11 := numB_len e11
  have l12 := off_len o
  unfold pq12 at hq
  rw [hq] at l12
  rw [h0] at l1
  have c1 : pq1 l = numR 4 l := by unfold pq1; rw [h0]
  have c2 : pq2 l = sgR [45] (pq1 l) := by unfold pq2; rfl
  have c3 : pq3 l = numR 2 (pq2 l) := by unfold pq3; rfl
  have c4 : pq4 l = sgR [45] (pq3 l) := by unfold pq4; rfl
  have c5 : pq5 l = numR 2 (pq4 l) := by unfold pq5; rfl
  have c6 : pq6 l = sgR [84] (pq5 l) := by unfold pq6; rfl
  have c7 : pq7 l = numR 2 (pq6 l) := by unfold pq7; rfl
  have c8 : pq8 l = sgR [58] (pq7 l) := by unfold pq8; rfl
  have c9 : pq9 l = numR 2 (pq8 l) := by unfold pq9; rfl
  have c10 : pq10 l = sgR [58] (pq9 l) := by unfold pq10; rfl
  have c11 : pq11 l = numR 2 (pq10 l) := by unfold pq11; rfl
  rw [← c1] at l1
  rw [← c2] at l2
  rw [← c3] at l3
  rw [← c4] at l4
  rw [← c5] at l5
  rw [← c6] at l6
  rw [← c7] at l7
  rw [← c8] at l8
  rw [← c9] at l9
  rw [← c10] at l10
  rw [← c11] at l11
  rw [List.length_nil] at l12
  omega
theorem par_no_len {l : List UInt8} (h : l.length ≠ 20) (h' : l.length ≠ 25) : parV l = .tuple #[.int .i64 0, .bool false] := by
  unfold parV
  rw [if_neg (fun q => by have := par_len q; omega)]
theorem par_bd {l : List UInt8} (h : parOk l = true) : 0 ≤ parN l ∧ parN l ≤ 253402300799 := by
  unfold parOk at h
  simp only [Bool.and_eq_true, Bool.not_eq_true', decide_eq_true_eq] at h
  exact h.2.2.2
end Go.Proofs.YtbogjebipnmckaaDoor
