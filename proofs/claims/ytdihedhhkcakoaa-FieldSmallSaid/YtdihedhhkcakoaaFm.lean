/-
  Plain mathematics: Fermat's little theorem; 2^255 - 19 is prime; the field. No program is named here.
-/
import Derived.Test.YtdihedhhkcakoaaKr
namespace Go.Proofs.Ytdihedhhkcakoaa
open Go.RowKit
namespace Fm
/-- A number is prime: at least two, and only one and itself divide it. -/
def Pr (p : Nat) : Prop := 2 ≤ p ∧ ∀ d, d ∣ p → d = 1 ∨ d = p
theorem pr_gcd {p a : Nat} (h : Pr p) (ha : ¬ p ∣ a) : Nat.gcd p a = 1 := by
  rcases h.2 _ (Nat.gcd_dvd_left p a) with e | e
  · exact e
  · exact absurd (e ▸ Nat.gcd_dvd_right p a) ha
theorem pr_mul {p a b : Nat} (h : Pr p) (hd : p ∣ a * b) : p ∣ a ∨ p ∣ b := by
  by_cases ha : p ∣ a
  · exact .inl ha
  · exact .inr (Nat.Coprime.dvd_of_dvd_mul_left (pr_gcd h ha) hd)
/-- Binomials. -/
def bin : Nat → Nat → Nat
  | _, 0 => 1
  | 0, _ + 1 => 0
  | n + 1, k + 1 => bin n k + bin n (k + 1)
theorem bin_gt : ∀ (n k : Nat), n < k → bin n k = 0
  | _, 0, h => by omega
  | 0, k + 1, _ => rfl
  | n + 1, k + 1, h => by rw [bin, bin_gt n k (by omega), bin_gt n (k + 1) (by omega)]
theorem bin_self : ∀ n, bin n n = 1
  | 0 => rfl
  | n + 1 => by rw [bin, bin_self n, bin_gt n (n + 1) (by omega)]
/-- k + 1 times one is n + 1 times the other. -/
theorem bin_mul : ∀ (n k : Nat), (k + 1) * bin (n + 1) (k + 1) = (n + 1) * bin n k
  | 0, 0 => rfl
  | 0, k + 1 => by simp [bin]
  | n + 1, 0 => by
    have := bin_mul n 0
    have e : bin (n + 1 + 1) (0 + 1) = bin (n + 1) 0 + bin (n + 1) (0 + 1) := rfl
    have e2 : bin (n + 1) 0 = 1 := by cases n <;> rfl
    have e3 : bin n 0 = 1 := by cases n <;> rfl
    rw [e, e2]
    rw [e3] at this
    omega
  | n + 1, k + 1 => by
    have h1 := bin_mul n k
    have h2 := bin_mul n (k + 1)
    have e : bin (n + 1 + 1) (k + 1 + 1) = bin (n + 1) (k + 1) + bin (n + 1) (k + 1 + 1) := rfl
    have e2 : bin (n + 1) (k + 1) = bin n k + bin n (k + 1) := rfl
    have e3 : (k + 1 + 1) * bin (n + 1) (k + 1) = (k + 1) * bin (n + 1) (k + 1) + bin (n + 1) (k + 1) := Nat.succ_mul _ _
    have e4 : (n + 1 + 1) * bin (n + 1) (k + 1) = (n + 1) * bin (n + 1) (k + 1) + bin (n + 1) (k + 1) := Nat.succ_mul _ _
    have e5 : (n + 1) * bin (n + 1) (k + 1) = (n + 1) * bin n k + (n + 1) * bin n (k + 1) := by rw [e2, Nat.mul_add]
    rw [e, Nat.mul_add, h2, e3, e4, h1]
    omega
theorem bin_dvd {p k : Nat} (h : Pr p) (h0 : 0 < k) (hk : k < p) : p ∣ bin p k := by
  obtain ⟨k, rfl⟩ : ∃ j, k = j + 1 := ⟨k - 1, by omega⟩
  obtain ⟨n, rfl⟩ : ∃ j, p = j + 1 := ⟨p - 1, by omega⟩
  have e := bin_mul n k
  rcases pr_mul h (show n + 1 ∣ (k + 1) * bin (n + 1) (k + 1) from ⟨_, e⟩) with hd | hd
  · exact absurd (Nat.le_of_dvd (by omega) hd) (by omega)
  · exact hd
/-- The sum of f below n. -/
def sm (f : Nat → Nat) : Nat → Nat
  | 0 => 0
  | n + 1 => sm f n + f n
theorem sm_add (f g : Nat → Nat) : ∀ n, sm (fun i => f i + g i) n = sm f n + sm g n
  | 0 => rfl
  | n + 1 => by simp only [sm, sm_add f g n]; omega
theorem sm_mul (c : Nat) (f : Nat → Nat) : ∀ n, sm (fun i => c * f i) n = c * sm f n
  | 0 => rfl
  | n + 1 => by simp only [sm, sm_mul c f n, Nat.mul_add]
theorem sm_shift (f : Nat → Nat) : ∀ n, sm f (n + 1) = f 0 + sm (fun i => f (i + 1)) n
  | 0 => by simp [sm]
  | n + 1 => by rw [sm, sm_shift f n, sm]; omega
theorem sm_congr {f g : Nat → Nat} : ∀ n, (∀ i, i < n → f i = g i) → sm f n = sm g n
  | 0, _ => rfl
  | n + 1, h => by rw [sm, sm, sm_congr n (fun i hi => h i (by omega)), h n (by omega)]
theorem sm_dvd {f : Nat → Nat} {p : Nat} : ∀ n, (∀ i, i < n → p ∣ f i) → p ∣ sm f n
  | 0, _ => ⟨0, rfl⟩
  | n + 1, h => Nat.dvd_add (sm_dvd n (fun i hi => h i (by omega))) (h n (by omega))
theorem binom (x : Nat) : ∀ n, (x + 1) ^ n = sm (fun i => bin n i * x ^ i) (n + 1)
  | 0 => by simp [sm, bin]
  | n + 1 => by
    rw [Nat.pow_succ, binom x n, Nat.mul_add, Nat.mul_one, Nat.mul_comm _ x, ← sm_mul, sm_shift (fun i => bin (n + 1) i * x ^ i) (n + 1)]
    have e1 : sm (fun i => bin (n + 1) (i + 1) * x ^ (i + 1)) (n + 1) = sm (fun i => x * (bin n i * x ^ i)) (n + 1) + sm (fun i => bin n (i + 1) * x ^ (i + 1)) (n + 1) := by
      rw [← sm_add]
      refine sm_congr _ fun i _ => ?_
      rw [bin, Nat.pow_succ, Nat.add_mul]
      congr 1
      rw [← Nat.mul_assoc, Nat.mul_comm]
    have e2 : sm (fun i => bin n (i + 1) * x ^ (i + 1)) (n + 1) = sm (fun i => bin n (i + 1) * x ^ (i + 1)) n := by
      rw [sm, bin_gt n (n + 1) (by omega)]
      omega
    have e3 := sm_shift (fun i => bin n i * x ^ i) n
    have e4 : bin (n + 1) 0 * x ^ 0 = bin n 0 * x ^ 0 := by cases n <;> rfl
    rw [e1, e2, e3, e4]
    omega
/-- Fermat's little theorem. -/
theorem fermat {p : Nat} (h : Pr p) : ∀ x, x ^ p % p = x % p
  | 0 => by rw [Nat.zero_pow (by have := h.1; omega)]
  | x + 1 => by
    have ih := fermat h x
    obtain ⟨n, rfl⟩ : ∃ j, p = j + 2 := ⟨p - 2, by have := h.1; omega⟩
    have b0 : bin (n + 2) 0 = 1 := rfl
    have b1 : bin (n + 2) (n + 1 + 1) = 1 := bin_self _
    have e : (x + 1) ^ (n + 2) = 1 + sm (fun i => bin (n + 2) (i + 1) * x ^ (i + 1)) (n + 1) + x ^ (n + 2) := by
      rw [binom, sm_shift, sm]
      rw [b0, b1, Nat.pow_zero, Nat.one_mul, Nat.one_mul]
      exact (Nat.add_assoc _ _ _).symm
    obtain ⟨c, hc⟩ : n + 2 ∣ sm (fun i => bin (n + 2) (i + 1) * x ^ (i + 1)) (n + 1) := sm_dvd _ fun i hi => Nat.dvd_trans (bin_dvd h (by omega) (by omega)) (Nat.dvd_mul_right _ _)
    rw [e, hc, Nat.add_assoc, Nat.add_comm, Nat.add_assoc, Nat.mul_add_mod]
    rw [Nat.add_mod, ih, ← Nat.add_mod]
theorem fermat1 {p x : Nat} (h : Pr p) (hx : ¬ p ∣ x) : x ^ (p - 1) % p = 1 := by
  have e := fermat h x
  obtain ⟨n, rfl⟩ : ∃ j, p = j + 2 := ⟨p - 2, by have := h.1; omega⟩
  rw [show n + 2 - 1 = n + 1 from by omega]
  have h1 : 1 ≤ x ^ (n + 1) := Nat.pos_of_ne_zero fun h0 => hx (by
    have : x = 0 := Nat.eq_zero_of_not_pos fun hp => absurd h0 (Nat.ne_of_gt (Nat.pow_pos hp))
    rw [this]; exact ⟨0, rfl⟩)
  have hd : n + 2 ∣ x * (x ^ (n + 1) - 1) := by
    have hle : x ≤ x ^ (n + 2) := by
      rw [Nat.pow_succ]
      exact Nat.le_mul_of_pos_left _ h1
    have := Nat.dvd_of_mod_eq_zero (Nat.sub_mod_eq_zero_of_mod_eq e)
    rwa [Nat.mul_sub, Nat.mul_one, Nat.mul_comm, ← Nat.pow_succ]
  rcases pr_mul h hd with hd | ⟨c, hc⟩
  · exact absurd hd hx
  · rw [show x ^ (n + 1) = 1 + (n + 2) * c from by omega, Nat.add_mul_mod_self_left]
    exact Nat.mod_eq_of_lt (by omega)
/-- A power modulo N, by squares. -/
def pm (N : Nat) : Nat → Nat → Nat → Nat
  | 0, _, _ => 1 % N
  | f + 1, a, e => if e = 0 then 1 % N else if e % 2 = 1 then a * pm N f (a * a % N) (e / 2) % N else pm N f (a * a % N) (e / 2)
theorem pm_eq (N : Nat) : ∀ (f a e : Nat), e < 2 ^ f → pm N f a e = a ^ e % N
  | 0, a, e, h => by
    have : e = 0 := by simp at h; omega
    rw [this]; rfl
  | f + 1, a, e, h => by
    have ih := pm_eq N f (a * a % N) (e / 2) (by rw [Nat.pow_succ] at h; omega)
    have e2 : (a * a % N) ^ (e / 2) % N = a ^ (2 * (e / 2)) % N := by rw [← Nat.pow_mod, ← Nat.pow_two, ← Nat.pow_mul]
    rw [pm, ih, e2]
    split
    · rename_i h0; rw [h0]; rfl
    · split
      · rw [Nat.mul_mod_mod, Nat.mul_comm, ← Nat.pow_succ, show (2 * (e / 2)).succ = e from by omega]
      · rw [show 2 * (e / 2) = e from by omega]
/-- Powers that are one: their exponents' divisor gives one. -/
theorem pow_gcd {r b : Nat} (m n : Nat) (h1 : b ^ m % r = 1 % r) (h2 : b ^ n % r = 1 % r) : b ^ Nat.gcd m n % r = 1 % r := by
  induction m, n using Nat.gcd.induction with
  | H0 n => rw [Nat.gcd_zero_left]; exact h2
  | H1 m n hm ih =>
    rw [Nat.gcd_rec]
    refine ih ?_ h1
    have e := h2
    rw [← Nat.div_add_mod n m, Nat.pow_add, Nat.pow_mul, Nat.mul_mod, Nat.pow_mod, h1, ← Nat.pow_mod, Nat.one_pow, ← Nat.mul_mod, Nat.one_mul] at e
    exact e
theorem pr_dvd : ∀ n, 2 ≤ n → ∃ r, Pr r ∧ r ∣ n := by
  intro n
  induction n using Nat.strongRecOn with
  | ind n ih =>
    intro hn
    by_cases h : Pr n
    · exact ⟨n, h, Nat.dvd_refl n⟩
    · have : ∃ d, d ∣ n ∧ d ≠ 1 ∧ d ≠ n := Classical.byContradiction fun hx => h ⟨hn, fun d hd => Classical.byContradiction fun hy => hx ⟨d, hd, fun e => hy (.inl e), fun e => hy (.inr e)⟩⟩
      obtain ⟨d, h1, h2, h3⟩ := this
      have hle := Nat.le_of_dvd (by omega) h1
      have hd0 : d ≠ 0 := fun e => by rw [e] at h1; have := Nat.eq_zero_of_zero_dvd h1; omega
      obtain ⟨r, hr, hrd⟩ := ih d (by omega) (by omega)
      exact ⟨r, hr, Nat.dvd_trans hrd h1⟩
/-- Pocklington: every prime divisor r of N has Q in r - 1. -/
theorem pock {N Q a : Nat} (hQ : Pr Q) (hQN : Q ∣ N - 1) (h1 : a ^ (N - 1) % N = 1) (h2 : Nat.gcd (a ^ ((N - 1) / Q) % N - 1) N = 1) : ∀ r, Pr r → r ∣ N → Q ∣ r - 1 := by
  intro r hr hrN
  refine Classical.byContradiction fun hn => ?_
  have hg := pr_gcd hQ hn
  have hmod : ∀ z, z % N % r = z % r := fun z => Nat.mod_mod_of_dvd z hrN
  have h1r : (a ^ ((N - 1) / Q)) ^ Q % r = 1 % r := by
    rw [← Nat.pow_mul, Nat.div_mul_cancel hQN, ← hmod, h1]
  have hra : ¬ r ∣ a ^ ((N - 1) / Q) := fun hd => by
    have h3 := Nat.mod_eq_zero_of_dvd hd
    rw [Nat.pow_mod, h3, Nat.zero_pow (by have := hQ.1; omega), Nat.zero_mod, Nat.mod_eq_of_lt (by have := hr.1; omega)] at h1r
    omega
  have h2r := fermat1 hr hra
  have h3 := pow_gcd Q (r - 1) h1r (by rw [h2r]; exact (Nat.mod_eq_of_lt (by have := hr.1; omega)).symm)
  rw [hg, Nat.pow_one, ← hmod] at h3
  have hd : r ∣ a ^ ((N - 1) / Q) % N - 1 := Nat.dvd_of_mod_eq_zero (Nat.sub_mod_eq_zero_of_mod_eq h3)
  have := Nat.dvd_gcd hd hrN
  rw [h2] at this
  have := Nat.le_of_dvd (by omega) this
  have := hr.1
  omega
theorem pr_of {N F : Nat} (hN : 2 ≤ N) (hF : N < F * F) (h : ∀ r, Pr r → r ∣ N → F ∣ r - 1) : Pr N := by
  have big : ∀ r, Pr r → r ∣ N → F < r := fun r hr hd => by
    have := Nat.le_of_dvd (by have := hr.1; omega) (h r hr hd)
    have := hr.1
    omega
  refine ⟨hN, fun d hd => Classical.byContradiction fun hx => ?_⟩
  obtain ⟨e, rfl⟩ := hd
  have hd2 : 2 ≤ d := by
    rcases d with _ | _ | d
    · simp at hN
    · exact absurd (.inl rfl) hx
    · omega
  have he2 : 2 ≤ e := by
    rcases e with _ | _ | e
    · simp at hN
    · exact absurd (.inr (Nat.mul_one d).symm) hx
    · omega
  obtain ⟨r, hr, hrd⟩ := pr_dvd d hd2
  obtain ⟨s, hs, hsd⟩ := pr_dvd e he2
  have b1 := big r hr (Nat.dvd_trans hrd (Nat.dvd_mul_right _ _))
  have b2 := big s hs (Nat.dvd_trans hsd (Nat.dvd_mul_left _ _))
  have l1 := Nat.le_of_dvd (by omega) hrd
  have l2 := Nat.le_of_dvd (by omega) hsd
  have := Nat.mul_le_mul (show F ≤ d by omega) (show F ≤ e by omega)
  omega
theorem two_dvd {Q R m : Nat} (hQ : Pr Q) (hR : Pr R) (hne : Q ≠ R) (h1 : Q ∣ m) (h2 : R ∣ m) : Q * R ∣ m := by
  refine Nat.Coprime.mul_dvd_of_dvd_of_dvd (pr_gcd hQ fun hd => ?_) h1 h2
  rcases hR.2 _ hd with e | e
  · have := hQ.1; omega
  · exact hne e
/-- Small ones, by trial. -/
def nd (n : Nat) : Nat → Bool
  | 0 => true
  | k + 1 => (decide (k < 2) || decide (n % k ≠ 0)) && nd n k
theorem nd_at (n : Nat) : ∀ k, nd n k = true → ∀ d, 2 ≤ d → d < k → n % d ≠ 0
  | 0, _, d, _, h => by omega
  | k + 1, h, d, h2, hd => by
    rw [nd, Bool.and_eq_true, Bool.or_eq_true, decide_eq_true_eq, decide_eq_true_eq] at h
    by_cases e : d = k
    · subst e
      rcases h.1 with h1 | h1
      · omega
      · exact h1
    · exact nd_at n k h.2 d h2 (by omega)
theorem pr_small (n : Nat) (h2 : 2 ≤ n) (h : nd n n = true) : Pr n := ⟨h2, fun d hd => by
  have hle := Nat.le_of_dvd (by omega) hd
  by_cases e : d = n
  · exact .inr e
  · by_cases e1 : d = 1
    · exact .inl e1
    · have h0 : d ≠ 0 := fun e => by rw [e] at hd; have := Nat.eq_zero_of_zero_dvd hd; omega
      exact absurd (Nat.mod_eq_zero_of_dvd hd) (nd_at n n h d (by omega) (by omega))⟩
def step (N Q a f : Nat) : Bool := decide ((N - 1) % Q = 0) && decide (N - 1 < 2 ^ f) && decide (pm N f a (N - 1) = 1) && decide (Nat.gcd (pm N f a ((N - 1) / Q) - 1) N = 1)
theorem step_ok {N Q a : Nat} (f : Nat) (hQ : Pr Q) (h : step N Q a f = true) : ∀ r, Pr r → r ∣ N → Q ∣ r - 1 := by
  unfold step at h
  rw [Bool.and_eq_true, Bool.and_eq_true, Bool.and_eq_true, decide_eq_true_eq, decide_eq_true_eq, decide_eq_true_eq, decide_eq_true_eq] at h
  obtain ⟨⟨⟨h1, h2⟩, h3⟩, h4⟩ := h
  rw [pm_eq N f a _ h2] at h3
  rw [pm_eq N f a _ (Nat.lt_of_le_of_lt (Nat.div_le_self _ _) h2)] at h4
  exact pock hQ (Nat.dvd_of_mod_eq_zero h1) h3 h4
theorem pr_one {N Q a : Nat} (f : Nat) (hQ : Pr Q) (h : step N Q a f = true) (hN : 2 ≤ N) (hF : N < Q * Q) : Pr N := pr_of hN hF (step_ok f hQ h)
theorem pr_two {N Q R a b : Nat} (f : Nat) (hQ : Pr Q) (hR : Pr R) (hne : Q ≠ R) (h : step N Q a f = true) (h' : step N R b f = true) (hN : 2 ≤ N) (hF : N < (Q * R) * (Q * R)) : Pr N :=
  pr_of hN hF fun r hr hd => two_dvd hQ hR hne (step_ok f hQ h r hr hd) (step_ok f hR h' r hr hd)
theorem p991 : Pr 991 := pr_small _ (by decide) (by decide +kernel)
theorem p103 : Pr 103 := pr_small _ (by decide) (by decide +kernel)
theorem p8574133 : Pr 8574133 := pr_two (a := 2) (b := 2) 25 p991 p103 (by decide) (by decide +kernel) (by decide +kernel) (by decide) (by decide +kernel)
theorem p127 : Pr 127 := pr_small _ (by decide) (by decide +kernel)
theorem p1919519569386763 : Pr 1919519569386763 := pr_two (a := 2) (b := 2) 52 p8574133 p127 (by decide) (by decide +kernel) (by decide +kernel) (by decide) (by decide +kernel)
theorem p419 : Pr 419 := pr_small _ (by decide) (by decide +kernel)
theorem p97 : Pr 97 := pr_small _ (by decide) (by decide +kernel)
theorem p569003 : Pr 569003 := pr_two (a := 2) (b := 2) 21 p419 p97 (by decide) (by decide +kernel) (by decide +kernel) (by decide) (by decide +kernel)
theorem p2773320623 : Pr 2773320623 := pr_one (a := 2) 33 p569003 (by decide +kernel) (by decide) (by decide +kernel)
theorem p72106336199 : Pr 72106336199 := pr_one (a := 2) 38 p2773320623 (by decide +kernel) (by decide) (by decide +kernel)
theorem p75445702479781427272750846543864801 : Pr 75445702479781427272750846543864801 := pr_two (a := 2) (b := 2) 117 p1919519569386763 p72106336199 (by decide) (by decide +kernel) (by decide +kernel) (by decide) (by decide +kernel)
theorem p41 : Pr 41 := pr_small _ (by decide) (by decide +kernel)
theorem p7 : Pr 7 := pr_small _ (by decide) (by decide +kernel)
theorem p1723 : Pr 1723 := pr_two (a := 2) (b := 2) 12 p41 p7 (by decide) (by decide +kernel) (by decide +kernel) (by decide) (by decide +kernel)
theorem p430751 : Pr 430751 := pr_one (a := 2) 20 p1723 (by decide +kernel) (by decide) (by decide +kernel)
theorem p173 : Pr 173 := pr_small _ (by decide) (by decide +kernel)
theorem p4153 : Pr 4153 := pr_one (a := 2) 14 p173 (by decide +kernel) (by decide) (by decide +kernel)
theorem p31757755568855353 : Pr 31757755568855353 := pr_two (a := 2) (b := 2) 56 p430751 p4153 (by decide) (by decide +kernel) (by decide +kernel) (by decide) (by decide +kernel)
theorem p74058212732561358302231226437062788676166966415465897661863160754340907 : Pr 74058212732561358302231226437062788676166966415465897661863160754340907 := pr_two (a := 2) (b := 2) 237 p75445702479781427272750846543864801 p31757755568855353 (by decide) (by decide +kernel) (by decide +kernel) (by decide) (by decide +kernel)
theorem p57896044618658097711785492504343953926634992332820282019728792003956564819949 : Pr 57896044618658097711785492504343953926634992332820282019728792003956564819949 := pr_one (a := 2) 256 p74058212732561358302231226437062788676166966415465897661863160754340907 (by decide +kernel) (by decide) (by decide +kernel)

theorem pq_prime : Pr Pq := by unfold Pq; exact p57896044618658097711785492504343953926634992332820282019728792003956564819949
end Fm
theorem fone_val : (1 : FK).val = 1 := by
  show 1 % Pq = 1
  exact Nat.mod_eq_of_lt (by have := Pq_256.2; omega)
theorem fl1 (x y : FK) : x + y = y + x := Fin.ext (by rw [fadd_val, fadd_val, Nat.add_comm])
theorem fl2 (x y : FK) : x * y = y * x := Fin.mul_comm x y
theorem fl3 (x y z : FK) : x + y + z = x + (y + z) := Fin.ext (by simp only [fadd_val, Nat.mod_add_mod, Nat.add_mod_mod, Nat.add_assoc])
theorem fl4 (x y z : FK) : x * y * z = x * (y * z) := Fin.mul_assoc x y z
theorem fl5 (x y z : FK) : x * (y + z) = x * y + x * z := Fin.ext (by rw [fmul_val, fadd_val, fadd_val, fmul_val, fmul_val, Nat.mul_mod_mod, Nat.mul_add, ← Nat.add_mod])
theorem fl7 (x : FK) : x + -x = 0 := Fin.ext (by
  have h : x.val < Pq := x.isLt
  rw [fadd_val, fneg_val, fzero_val, Nat.add_mod_mod, show x.val + (Pq - x.val) = Pq from by omega, Nat.mod_self])
theorem fl0 (x : FK) : x + 0 = x := Fin.ext (by rw [fadd_val, fzero_val, Nat.add_zero]; exact Nat.mod_eq_of_lt x.isLt)
theorem fl8 (x : FK) : x * 1 = x := Fin.mul_one x
theorem fmul0 (x : FK) : x * 0 = 0 := (fl2 _ _).trans (Fin.zero_mul x)
theorem fneg_eq {x y : FK} (h : x + y = 0) : y = -x := by
  have e : -x + (x + y) = y := by rw [← fl3, fl1 (-x) x, fl7, fl1, fl0]
  rw [← e, h, fl0]
theorem fl6 (x y : FK) : x - y + y = x := by rw [Fin.sub_eq_add_neg, fl3, fl1 (-y) y, fl7, fl0]
theorem fl9 (x : FK) : - -x = x := (fneg_eq (show -x + x = 0 by rw [fl1, fl7])).symm
theorem fneg_mul (x y : FK) : x * -y = -(x * y) := fneg_eq (by rw [← fl5, fl7, fmul0])
theorem fl10 (x y : FK) : -x * -y = x * y := by rw [fneg_mul, fl2, fneg_mul, fl9, fl2]
theorem fl11 (x y : FK) : x - y = -(y - x) := fneg_eq (by rw [Fin.sub_eq_add_neg, Fin.sub_eq_add_neg, fl3, ← fl3 (-x), fl1 (-x) x, fl7, fl1 0, fl0, fl7])
theorem fneg_par (x : FK) (h : x ≠ 0) : (-x).val % 2 = 1 ↔ ¬ x.val % 2 = 1 := by
  have h1 : x.val ≠ 0 := fun e => h (Fin.ext (e.trans fzero_val.symm))
  have h2 : x.val < Pq := x.isLt
  have h3 : Pq % 2 = 1 := by unfold Pq; decide
  rw [fneg_val]
  generalize x.val = X at h1 h2 ⊢
  rw [Nat.mod_eq_of_lt (show Pq - X < Pq by omega)]
  omega
theorem small1 (w : World) : Calls Try.prog 14 #[.int .u32 1] w fun r w' => ∃ p q s t u : Nat, ev [p, q, s, t, u] = (1 : FK).val ∧ Red [p, q, s, t, u] ∧ r = .returned (.agg #[.int .u64 (p : Int), .int .u64 (q : Int), .int .u64 (s : Int), .int .u64 (t : Int), .int .u64 (u : Int)]) ∧ Below w.heap.size w w' := by
  rw [fone_val]
  exact smallE 1 w (by decide)
/-- What is not nothing has an inverse. -/
theorem fk_inv (x : FK) (h : x ≠ 0) : x * finv x = 1 := by
  apply Fin.ext
  rw [fmul_val, finv_val, fone_val, Nat.mul_mod_mod, Nat.mul_comm, ← Nat.pow_succ, show (Pq - 2).succ = Pq - 1 from by have := Pq_256.2; omega]
  exact Fm.fermat1 Fm.pq_prime fun hd => h (Fin.ext (by
    rw [fzero_val]
    exact Nat.eq_zero_of_dvd_of_lt hd x.isLt))
theorem finv_zero : finv 0 = 0 := by
  apply Fin.ext
  rw [finv_val, fzero_val, Nat.zero_pow (by have := Pq_256.2; omega), Nat.zero_mod]
/-- No two make nothing. -/
theorem fk_mul0 {x y : FK} (h : x * y = 0) : x = 0 ∨ y = 0 := by
  by_cases hx : x = 0
  · exact .inl hx
  · refine .inr ?_
    have hi := fk_inv x hx
    rw [← fl8 y, ← hi, ← fl4, fl2 y x, h, fl2, fmul0]
/-- The inverse is the only one. -/
theorem finv_eq {x y : FK} (h : x * y = 1) : finv x = y := by
  have hx : x ≠ 0 := fun e => by
    have h1 : (1 : FK).val = 0 := by rw [← h, e, fl2, fmul0, fzero_val]
    rw [fone_val] at h1
    omega
  have hi := fk_inv x hx
  rw [← fl8 (finv x), ← h, ← fl4, fl2 (finv x) x, hi, fl2, fl8]
theorem finv_mul (x y : FK) : finv (x * y) = finv x * finv y := by
  by_cases hx : x = 0
  · subst hx
    rw [fl2 0 y, fmul0, finv_zero, fl2, fmul0]
  · by_cases hy : y = 0
    · subst hy
      rw [fmul0, finv_zero, fmul0]
    · have h1 := fk_inv x hx
      have h2 := fk_inv y hy
      refine finv_eq ?_
      rw [fl4, ← fl4 y, fl2 y (finv x), fl4 (finv x), h2, fl8, h1]
theorem finv_inv (x : FK) : finv (finv x) = x := by
  by_cases hx : x = 0
  · subst hx; rw [finv_zero, finv_zero]
  · refine finv_eq ?_
    rw [fl2]
    exact fk_inv x hx
theorem finv_sq (x : FK) : finv (x * x) * x = finv x := by
  rw [finv_mul]
  by_cases hx : x = 0
  · subst hx; rw [fmul0, finv_zero]
  · rw [fl4, fl2 (finv x) x, fk_inv x hx, fl8]
end Go.Proofs.Ytdihedhhkcakoaa
