/-
  Plain laws of the numbers' and fields' bytes: what is put is read; what is read is what is put; what is cut is short.
-/
import Derived.Test.YtcfonifaijeecaaVf
namespace Go.Proofs.Ytcfonifaijeecaa
open Go.RowKit

theorem pow7 (i : Nat) : 2 ^ (7 * (i + 1)) = 128 * 2 ^ (7 * i) := by
  rw [show 7 * (i + 1) = 7 * i + 7 from by omega, Nat.pow_add, Nat.mul_comm]
theorem split7 (m P : Nat) : m % 128 * P + m / 128 * (128 * P) = m * P := by
  rw [← Nat.mul_assoc, ← Nat.add_mul]
  congr 1
  omega
theorem ofNat_toNat (m : Nat) (h : m < 256) : (UInt8.ofNat m).toNat = m := by
  rw [UInt8.toNat_ofNat', Nat.mod_eq_of_lt (by omega)]

theorem rvF_vbF : ∀ (f i m acc : Nat) (r : List UInt8), f + i = 9 → m < 2 ^ (7 * f + 1) → (0 < i → 0 < m) → rvF (vbF f m ++ r) i acc = .ok (acc + m * 2 ^ (7 * i)) r
  | 0, i, m, acc, r, hi, hm, h0 => by
    have hm2 : m < 2 := hm
    simp only [vbF, List.cons_append, List.nil_append, rvF, ofNat_toNat m (by omega)]
    rw [if_neg (by omega), if_pos (by omega)]
  | f + 1, i, m, acc, r, hi, hm, h0 => by
    simp only [vbF]
    by_cases h : m < 128
    · rw [if_pos h]
      simp only [List.cons_append, List.nil_append, rvF, ofNat_toNat m (by omega)]
      rw [if_neg (by omega), if_pos (by omega)]
    · rw [if_neg h]
      simp only [List.cons_append, rvF, ofNat_toNat (m % 128 + 128) (by omega)]
      rw [if_neg (by omega), if_neg (by omega)]
      have hm' : m / 128 < 2 ^ (7 * f + 1) := by
        rw [show 7 * (f + 1) + 1 = (7 * f + 1) + 7 from by omega, Nat.pow_add] at hm
        omega
      rw [rvF_vbF f (i + 1) (m / 128) _ r (by omega) hm' (by omega), pow7, Nat.add_assoc, show m % 128 + 128 - 128 = m % 128 from by omega, split7]
/-- What is put is read. -/
theorem rv_vb (n : Nat) (r : List UInt8) (h : W64 n) : rv (vb n ++ r) = .ok n r := by
  rw [rv_eq, vb_eq, rvF_vbF 9 0 n 0 r (by omega) h (by omega)]
  simp
/-- With a byte or more gone it is short. -/
theorem rvF_short : ∀ (f i m acc : Nat) (j : Nat), f + i = 9 → m < 2 ^ (7 * f + 1) → (0 < i → 0 < m) → j < (vbF f m).length → rvF ((vbF f m).take j) i acc = .bad 2
  | 0, i, m, acc, j, hi, hm, h0, hj => by
    have : j = 0 := by simp [vbF] at hj; omega
    subst this
    simp [rvF]
  | f + 1, i, m, acc, 0, hi, hm, h0, hj => by simp [rvF]
  | f + 1, i, m, acc, j + 1, hi, hm, h0, hj => by
    simp only [vbF] at hj ⊢
    by_cases h : m < 128
    · rw [if_pos h] at hj
      simp at hj
    · rw [if_neg h] at hj ⊢
      simp only [List.take_succ_cons, rvF, ofNat_toNat (m % 128 + 128) (by omega)]
      rw [if_neg (by omega), if_neg (by omega)]
      have hm' : m / 128 < 2 ^ (7 * f + 1) := by
        rw [show 7 * (f + 1) + 1 = (7 * f + 1) + 7 from by omega, Nat.pow_add] at hm
        omega
      exact rvF_short f (i + 1) (m / 128) _ j (by omega) hm' (by omega) (by simpa using hj)
theorem rv_short (n : Nat) (h : W64 n) : rv (vb n).dropLast = .bad 2 := by
  have := (vb_len n).2
  rw [List.dropLast_eq_take, rv_eq]
  rw [vb_eq] at this ⊢
  exact rvF_short 9 0 n 0 _ (by omega) h (by omega) (by omega)
theorem rv_nil : rv [] = .bad 2 := by rw [rv_eq]; rfl
/-- What is read is what is put. -/
theorem rvF_inv : ∀ (l : List UInt8) (f i acc v : Nat) (r : List UInt8), f + i = 9 → rvF l i acc = .ok v r →
    ∃ m, l = vbF f m ++ r ∧ v = acc + m * 2 ^ (7 * i) ∧ m < 2 ^ (7 * f + 1) ∧ (0 < i → 0 < m)
  | [], f, i, acc, v, r, hi, h => by simp [rvF] at h
  | c :: b, f, i, acc, v, r, hi, h => by
    simp only [rvF] at h
    have hc : c.toNat < 256 := UInt8.toNat_lt c
    by_cases hb : (i = 9 ∧ 1 < c.toNat) ∨ (0 < i ∧ c.toNat = 0)
    · rw [if_pos hb] at h; cases h
    · rw [if_neg hb] at h
      by_cases h1 : c.toNat < 128
      · rw [if_pos h1] at h
        injection h with hv hr
        refine ⟨c.toNat, ?_, hv.symm, ?_, by omega⟩
        · have hcc : UInt8.ofNat c.toNat = c := by simp
          cases f <;> simp [vbF, h1, hr]
        · cases f with
          | zero => simp; omega
          | succ f =>
            have : (2 : Nat) ^ 8 ≤ 2 ^ (7 * (f + 1) + 1) := Nat.pow_le_pow_right (by omega) (by omega)
            omega
      · rw [if_neg h1] at h
        cases f with
        | zero => omega
        | succ f =>
          obtain ⟨m, hl, hv, hm, h0⟩ := rvF_inv b f (i + 1) _ v r (by omega) h
          have hm0 := h0 (by omega)
          refine ⟨m * 128 + (c.toNat - 128), ?_, ?_, ?_, by omega⟩
          · simp only [vbF]
            rw [if_neg (by omega), show (m * 128 + (c.toNat - 128)) % 128 + 128 = c.toNat from by omega, show (m * 128 + (c.toNat - 128)) / 128 = m from by omega, hl]
            simp
          · rw [hv, pow7, Nat.add_assoc]
            congr 1
            have := split7 (m * 128 + (c.toNat - 128)) (2 ^ (7 * i))
            rw [show (m * 128 + (c.toNat - 128)) % 128 = c.toNat - 128 from by omega, show (m * 128 + (c.toNat - 128)) / 128 = m from by omega] at this
            exact this
          · rw [show 7 * (f + 1) + 1 = (7 * f + 1) + 7 from by omega, Nat.pow_add]
            omega
theorem rv_inv (l : List UInt8) (v : Nat) (r : List UInt8) (h : rv l = .ok v r) : W64 v ∧ l = vb v ++ r := by
  rw [rv_eq] at h
  obtain ⟨m, hl, hv, hm, _⟩ := rvF_inv l 9 0 0 v r (by omega) h
  have : v = m := by simpa using hv
  subst this
  exact ⟨hm, by rw [vb_eq]; exact hl⟩

/-! Fields. -/
theorem mayB_iff (num : Int) : mayB num = true ↔ 1 ≤ num ∧ num ≤ 100 := by unfold mayB; simp
theorem numF_tag (num : Int) (w : Nat) (h : mayB num = true) (hw : w < 8) : ((numF (8 * num.toNat + w) : Nat) : Int) = num ∧ numF (8 * num.toNat + w) = num.toNat := by
  have := (mayB_iff num).1 h
  unfold numF
  omega
theorem w64_small (n : Nat) (h : n ≤ 1000000) : W64 n := by unfold W64; omega
theorem fd_putI (num : Int) (n : Nat) (r : List UInt8) (h : mayB num = true) (hn : W64 n) : fd (putI num n ++ r) = .ok ⟨num.toNat, false, n, []⟩ r := by
  have hb := (mayB_iff num).1 h
  obtain ⟨e1, e2⟩ := numF_tag num 0 h (by omega)
  rw [putI_yes num n h, List.append_assoc]
  have := fd_num _ (8 * num.toNat) n (vb n ++ r) r (rv_vb _ _ (w64_small _ (by omega))) (by omega) (by rw [Nat.add_zero] at e1; rw [e1]; exact h) (rv_vb n r hn)
  rw [this]
  rw [Nat.add_zero] at e2
  rw [e2]
theorem rw_put (b r : List UInt8) (h : b.length ≤ 65536) : rw_ (vb b.length ++ (b ++ r)) = .ok b r := by
  rw [rw_ok _ b.length (b ++ r) (rv_vb _ _ (w64_small _ (by omega))) (by simp)]
  simp
theorem fd_putR (num : Int) (b r : List UInt8) (h : mayB num = true) (hb : b.length ≤ 65536) : fd (putR num b ++ r) = .ok ⟨num.toNat, true, 0, b⟩ r := by
  have hm := (mayB_iff num).1 h
  obtain ⟨e1, e2⟩ := numF_tag num 2 h (by omega)
  rw [putR_yes num b h hb, List.append_assoc, List.append_assoc]
  have := fd_raw _ (8 * num.toNat + 2) (vb b.length ++ (b ++ r)) b r (rv_vb _ _ (w64_small _ (by omega))) (by omega) (by rw [e1]; exact h) (rw_put b r hb)
  rw [this, e2]
theorem vb_ne (n : Nat) : vb n ≠ [] := fun h => by have := (vb_len n).2; rw [h] at this; simp at this
theorem putI_ne (num : Int) (n : Nat) (h : mayB num = true) : putI num n ≠ [] := by
  rw [putI_yes num n h]
  simp [vb_ne]
theorem putR_ne (num : Int) (b : List UInt8) (h : mayB num = true) (hb : b.length ≤ 65536) : putR num b ≠ [] := by
  rw [putR_yes num b h hb]
  simp [vb_ne]

/-- The field that a Put is read as, if it may be. -/
def fldP (p : PutV) : List FdV := if mayB p.num then (if p.whole then [⟨p.num.toNat, true, 0, p.b⟩] else [⟨p.num.toNat, false, p.n, []⟩]) else []
def fldsP (ps : List PutV) : List FdV := ps.flatMap fldP
theorem fds_putP (p : PutV) (r : List UInt8) (hn : W64 p.n) (hb : p.b.length ≤ 65536) : fds (putP p ++ r) = (fds r).pre (fldP p) := by
  unfold fldP
  cases h : mayB p.num
  · have : putP p = [] := by
      cases hw : p.whole
      · rw [putP_num p hw, putI_no _ _ h]
      · rw [putP_whole p hw, putR_no _ _ h]
    rw [this, List.nil_append, if_neg (by decide), FsR.pre_nil]
  · rw [if_pos rfl]
    cases hw : p.whole
    · rw [putP_num p hw, if_neg (by decide)]
      exact fds_ok _ _ _ (by simp [putI_ne p.num p.n h]) (fd_putI p.num p.n r h hn)
    · rw [putP_whole p hw, if_pos rfl]
      exact fds_ok _ _ _ (by simp [putR_ne p.num p.b h hb]) (fd_putR p.num p.b r h hb)
theorem fds_putAll (ps : List PutV) (r : List UInt8) (h : ∀ p ∈ ps, W64 p.n ∧ p.b.length ≤ 65536) : fds (putAll ps ++ r) = (fds r).pre (fldsP ps) := by
  induction ps with
  | nil => simp [putAll, fldsP, FsR.pre_nil]
  | cons p ps ih =>
    have h1 := h p (List.mem_cons_self ..)
    rw [show putAll (p :: ps) = putP p ++ putAll ps from by simp [putAll], List.append_assoc, fds_putP p _ h1.1 h1.2, ih (fun q hq => h q (List.mem_cons_of_mem _ hq)), FsR.pre_pre]
    simp [fldsP]
theorem fds_puts (ps : List PutV) (h : ∀ p ∈ ps, W64 p.n ∧ p.b.length ≤ 65536) : fds (putAll ps) = .ok (fldsP ps) := by
  have := fds_putAll ps [] h
  rw [List.append_nil, fds_nil] at this
  rw [this]
  simp [FsR.pre]
theorem putAll_append (ps qs : List PutV) : putAll (ps ++ qs) = putAll ps ++ putAll qs := by simp [putAll]
theorem fldsP_append (ps qs : List PutV) : fldsP (ps ++ qs) = fldsP ps ++ fldsP qs := by simp [fldsP]

/-- A field's bytes. -/
def putF (f : FdV) : List UInt8 := if f.whole then putR f.num f.b else putI f.num f.n
structure FdOK (f : FdV) : Prop where
  may : mayB f.num = true
  n : W64 f.n
theorem fd_inv (l : List UInt8) (f : FdV) (r : List UInt8) (hl : l.length ≤ 65536) (h : fd l = .ok f r) : l = putF f ++ r ∧ FdOK f ∧ f.b.length + r.length ≤ l.length := by
  cases hv : rv l with
  | bad k => rw [fd_bad l k hv] at h; cases h
  | ok tag rest =>
    obtain ⟨hw, hl1⟩ := rv_inv l tag rest hv
    have hlen := rv_len l tag rest hv
    by_cases hc : (tag % 8 = 0 ∨ tag % 8 = 2) ∧ mayB (numF tag) = true
    · obtain ⟨hc, hm⟩ := hc
      have hm' := (mayB_iff _).1 hm
      have ht : numF tag = tag / 8 := by
        have h2 : numF tag ≤ 100 := by omega
        unfold numF at h2 ⊢
        omega
      by_cases h0 : tag % 8 = 0
      · cases h2 : rv rest with
        | bad k => rw [fd_numBad l tag k rest hv h0 hm h2] at h; cases h
        | ok n r' =>
          rw [fd_num l tag n rest r' hv h0 hm h2] at h
          injection h with hf hr
          subst hr
          subst hf
          obtain ⟨hw2, hl2⟩ := rv_inv rest n r' h2
          have := rv_len rest n r' h2
          refine ⟨?_, ⟨hm, hw2⟩, by simp; omega⟩
          unfold putF
          rw [if_neg (by simp), putI_yes _ _ hm, List.append_assoc, ← hl2, show 8 * ((numF tag : Nat) : Int).toNat = tag from by omega]
          exact hl1
      · have h0' : tag % 8 = 2 := by omega
        cases h2 : rw_ rest with
        | bad k => rw [fd_rawBad l tag k rest hv h0' hm h2] at h; cases h
        | ok b r' =>
          rw [fd_raw l tag rest b r' hv h0' hm h2] at h
          injection h with hf hr
          subst hr
          subst hf
          cases h3 : rv rest with
          | bad k => rw [rw_bad rest k h3] at h2; cases h2
          | ok n rest2 =>
            obtain ⟨hw2, hl2⟩ := rv_inv rest n rest2 h3
            have := rv_len rest n rest2 h3
            by_cases hn : n ≤ rest2.length
            · rw [rw_ok rest n rest2 h3 hn] at h2
              injection h2 with hb hr
              have hbl : b.length = n := by rw [← hb, List.length_take]; omega
              have hcat : rest2 = b ++ r' := by rw [← hb, ← hr, List.take_append_drop]
              have hlen2 : rest2.length = b.length + r'.length := by rw [hcat, List.length_append]
              refine ⟨?_, ⟨hm, by unfold W64; dsimp only; omega⟩, by dsimp only; omega⟩
              unfold putF
              rw [if_pos rfl, putR_yes _ _ hm (by dsimp only; omega)]
              dsimp only
              rw [hbl, List.append_assoc, List.append_assoc, ← hcat, ← hl2, show 8 * ((numF tag : Nat) : Int).toNat + 2 = tag from by omega]
              exact hl1
            · rw [rw_short rest n rest2 h3 hn] at h2; cases h2
    · rw [fd_no l tag rest hv hc] at h; cases h
theorem fds_inv : ∀ (n : Nat) (l : List UInt8) (fs : List FdV), l.length ≤ n → l.length ≤ 65536 → fds l = .ok fs → l = fs.flatMap putF ∧ ∀ f ∈ fs, FdOK f ∧ f.b.length ≤ l.length
  | n, [], fs, _, _, h => by
    rw [fds_nil] at h
    injection h with h
    subst h
    exact ⟨rfl, fun f hf => by cases hf⟩
  | 0, c :: l, fs, hn, _, h => by simp at hn
  | n + 1, c :: l, fs, hn, hl, h => by
    cases hf : fd (c :: l) with
    | bad k => rw [fds_bad _ k (by simp) hf] at h; cases h
    | ok f r =>
      rw [fds_ok _ f r (by simp) hf] at h
      obtain ⟨h1, h2, h3⟩ := fd_inv _ f r hl hf
      have hlr := fd_len _ f r hf
      cases hr : fds r with
      | bad k => rw [hr] at h; cases h
      | ok gs =>
        rw [hr] at h
        injection h with h
        obtain ⟨h4, h5⟩ := fds_inv n r gs (by omega) (by omega) hr
        subst h
        refine ⟨by rw [h1]; simp [← h4], fun g hg => ?_⟩
        rcases List.mem_cons.1 (by simpa using hg) with rfl | hg
        · exact ⟨h2, by omega⟩
        · have := h5 g hg
          exact ⟨this.1, by omega⟩

/-! What is cut is short. -/
theorem dropLast_append_of (a b : List UInt8) (h : b ≠ []) : (a ++ b).dropLast = a ++ b.dropLast := List.dropLast_append_of_ne_nil h
theorem fds_cutI (num : Int) (n : Nat) (h : mayB num = true) (hn : W64 n) : fds (putI num n).dropLast = .bad 2 := by
  have hb := (mayB_iff num).1 h
  obtain ⟨e1, e2⟩ := numF_tag num 0 h (by omega)
  rw [Nat.add_zero] at e1
  rw [putI_yes num n h, dropLast_append_of _ _ (vb_ne n)]
  refine fds_bad _ 2 (by simp [vb_ne]) ?_
  exact fd_numBad _ (8 * num.toNat) 2 (vb n).dropLast (rv_vb _ _ (w64_small _ (by omega))) (by omega) (by rw [e1]; exact h) (rv_short n hn)
theorem fds_cutR (num : Int) (b : List UInt8) (h : mayB num = true) (hb : b.length ≤ 65536) : fds (putR num b).dropLast = .bad 2 := by
  have hm := (mayB_iff num).1 h
  obtain ⟨e1, e2⟩ := numF_tag num 2 h (by omega)
  have hne : vb b.length ++ b ≠ [] := by simp [vb_ne]
  rw [putR_yes num b h hb, dropLast_append_of _ _ hne]
  refine fds_bad _ 2 (by simp [vb_ne]) ?_
  refine fd_rawBad _ (8 * num.toNat + 2) 2 _ (rv_vb _ _ (w64_small _ (by omega))) (by omega) (by rw [e1]; exact h) ?_
  by_cases h0 : b = []
  · subst h0
    rw [List.append_nil]
    exact rw_bad _ 2 (rv_short _ (w64_small _ (by simp)))
  · rw [dropLast_append_of _ _ h0]
    refine rw_short _ b.length b.dropLast (rv_vb _ _ (w64_small _ (by omega))) ?_
    have := List.length_pos_iff.2 h0
    rw [List.length_dropLast]
    omega
theorem fds_eight : fds [8] = .bad 2 := by
  refine fds_bad _ 2 (by simp) ?_
  have h8 : vb 8 = [8] := by rw [vb_eq]; rfl
  have h1 : rv [8] = .ok 8 [] := by
    have := rv_vb 8 [] (by unfold W64; omega)
    rwa [h8] at this
  exact fd_numBad _ 8 2 [] h1 rfl (by unfold mayB numF; decide) rv_nil
theorem fds_behindI (num : Int) (n : Nat) (h : mayB num = true) (hn : W64 n) : fds (putI num n ++ [8]) = .bad 2 := by
  rw [fds_ok _ _ _ (by simp) (fd_putI num n [8] h hn), fds_eight]; rfl
theorem fds_behindR (num : Int) (b : List UInt8) (h : mayB num = true) (hb : b.length ≤ 65536) : fds (putR num b ++ [8]) = .bad 2 := by
  rw [fds_ok _ _ _ (by simp) (fd_putR num b [8] h hb), fds_eight]; rfl

/-! Numbers. -/
theorem fds_number (n : Nat) (hn : W64 n) : fds (8 :: vb n) = .ok [⟨1, false, n, []⟩] := by
  have h8 : vb 8 = [8] := by rw [vb_eq]; rfl
  have h1 : putI 1 n = 8 :: vb n := by rw [putI_yes 1 n (by decide), show 8 * (1 : Int).toNat = 8 from rfl, h8]; rfl
  have h2 := fd_putI 1 n [] (by decide) hn
  rw [List.append_nil, h1] at h2
  rw [fds_ok _ _ _ (by simp) h2, fds_nil]
  rfl
theorem vbF_last : ∀ (f m : Nat), m < 2 ^ (7 * f + 1) → ∀ c, (vbF f m).getLast? = some c → c.toNat < 128
  | 0, m, hm, c, h => by
    have : m < 2 := hm
    simp [vbF] at h
    subst h
    rw [ofNat_toNat m (by omega)]; omega
  | f + 1, m, hm, c, h => by
    simp only [vbF] at h
    by_cases h1 : m < 128
    · rw [if_pos h1] at h
      simp at h
      subst h
      rw [ofNat_toNat m (by omega)]; omega
    · rw [if_neg h1, List.getLast?_cons] at h
      have hm' : m / 128 < 2 ^ (7 * f + 1) := by
        rw [show 7 * (f + 1) + 1 = (7 * f + 1) + 7 from by omega, Nat.pow_add] at hm
        omega
      cases hg : (vbF f (m / 128)).getLast? with
      | none =>
        have := (vbF_len f (m / 128)).2
        rw [List.getLast?_eq_none_iff] at hg
        rw [hg] at this
        simp at this
      | some d =>
        rw [hg] at h
        simp at h
        subst h
        exact vbF_last f (m / 128) hm' d hg
theorem zag_zig (m : Int) : zag (zig m) = m := by
  unfold zag zig
  split <;> split <;> omega
theorem zig_zag (n : Nat) : zig (zag n) = n := by
  unfold zag zig
  split <;> split <;> omega
theorem zig_odd (m : Int) : (zig m % 2 = 1) ↔ m < 0 := by
  unfold zig
  split <;> omega
theorem zig_w64 (m : Int) (h : I64 m) : W64 (zig m) := by
  unfold zig W64
  unfold I64 at h
  split <;> omega
theorem zag_i64 (n : Nat) (h : W64 n) : I64 (zag n) := by
  unfold zag I64
  unfold W64 at h
  split <;> omega
end Go.Proofs.Ytcfonifaijeecaa
