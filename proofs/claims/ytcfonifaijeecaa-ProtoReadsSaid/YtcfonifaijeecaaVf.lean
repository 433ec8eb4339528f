/-
  All fields of bytes, as plain functions.
-/
import Derived.Test.YtcfonifaijeecaaPw10
namespace Go.Proofs.Ytcfonifaijeecaa
open Go.RowKit

theorem rw_len (l b r : List UInt8) (h : rw_ l = .ok b r) : r.length < l.length := by
  cases hv : rv l with
  | bad k => rw [rw_bad l k hv] at h; cases h
  | ok n rest =>
    have := rv_len l n rest hv
    by_cases hn : n ≤ rest.length
    · rw [rw_ok l n rest hv hn] at h
      injection h with _ h
      subst h
      rw [List.length_drop]
      omega
    · rw [rw_short l n rest hv hn] at h; cases h
theorem rw_bads (l : List UInt8) (k : Nat) (h : rw_ l = .bad k) : k = 2 ∨ k = 3 := by
  cases hv : rv l with
  | bad j => rw [rw_bad l j hv] at h; injection h with h; subst h; exact rv_bads l _ hv
  | ok n rest =>
    by_cases hn : n ≤ rest.length
    · rw [rw_ok l n rest hv hn] at h; cases h
    · rw [rw_short l n rest hv hn] at h; injection h with h; exact .inl h.symm
theorem fd_len (l : List UInt8) (f : FdV) (r : List UInt8) (h : fd l = .ok f r) : r.length < l.length := by
  cases hv : rv l with
  | bad k => rw [fd_bad l k hv] at h; cases h
  | ok tag rest =>
    have h1 := rv_len l tag rest hv
    by_cases hc : (tag % 8 = 0 ∨ tag % 8 = 2) ∧ mayB (numF tag) = true
    · by_cases h0 : tag % 8 = 0
      · cases h2 : rv rest with
        | bad k => rw [fd_numBad l tag k rest hv h0 hc.2 h2] at h; cases h
        | ok n r' =>
          rw [fd_num l tag n rest r' hv h0 hc.2 h2] at h
          injection h with _ h
          subst h
          have := rv_len rest n r' h2
          omega
      · have h0' : tag % 8 = 2 := by omega
        cases h2 : rw_ rest with
        | bad k => rw [fd_rawBad l tag k rest hv h0' hc.2 h2] at h; cases h
        | ok b r' =>
          rw [fd_raw l tag rest b r' hv h0' hc.2 h2] at h
          injection h with _ h
          subst h
          have := rw_len rest b r' h2
          omega
    · rw [fd_no l tag rest hv hc] at h; cases h
theorem fd_bads (l : List UInt8) (k : Nat) (h : fd l = .bad k) : k = 2 ∨ k = 3 := by
  cases hv : rv l with
  | bad j => rw [fd_bad l j hv] at h; injection h with h; subst h; exact rv_bads l _ hv
  | ok tag rest =>
    by_cases hc : (tag % 8 = 0 ∨ tag % 8 = 2) ∧ mayB (numF tag) = true
    · by_cases h0 : tag % 8 = 0
      · cases h2 : rv rest with
        | bad j => rw [fd_numBad l tag j rest hv h0 hc.2 h2] at h; injection h with h; subst h; exact rv_bads rest _ h2
        | ok n r' => rw [fd_num l tag n rest r' hv h0 hc.2 h2] at h; cases h
      · have h0' : tag % 8 = 2 := by omega
        cases h2 : rw_ rest with
        | bad j => rw [fd_rawBad l tag j rest hv h0' hc.2 h2] at h; injection h with h; subst h; exact rw_bads rest _ h2
        | ok b r' => rw [fd_raw l tag rest b r' hv h0' hc.2 h2] at h; cases h
    · rw [fd_no l tag rest hv hc] at h; injection h with h; exact .inr h.symm

inductive FsR where
  | ok (l : List FdV)
  | bad (e : Nat)
def FsR.pre (fs : List FdV) : FsR → FsR
  | .ok l => .ok (fs ++ l)
  | .bad k => .bad k
theorem FsR.pre_nil (r : FsR) : r.pre [] = r := by cases r <;> rfl
theorem FsR.pre_pre (fs gs : List FdV) (r : FsR) : (r.pre gs).pre fs = r.pre (fs ++ gs) := by cases r <;> simp [FsR.pre]
def fdsF : Nat → List UInt8 → FsR
  | 0, _ => .ok []
  | n + 1, l =>
    if l = [] then .ok [] else
    match fd l with
    | .bad k => .bad k
    | .ok f r => (fdsF n r).pre [f]
theorem fdsF_fuel : ∀ (n m : Nat) (l : List UInt8), l.length ≤ n → l.length ≤ m → fdsF n l = fdsF m l
  | 0, m, l, h, _ => by
    have : l = [] := List.eq_nil_of_length_eq_zero (by omega)
    subst this
    cases m <;> simp [fdsF]
  | n + 1, 0, l, _, h => by
    have : l = [] := List.eq_nil_of_length_eq_zero (by omega)
    subst this
    simp [fdsF]
  | n + 1, m + 1, l, h1, h2 => by
    unfold fdsF
    by_cases hl : l = []
    · rw [if_pos hl, if_pos hl]
    · rw [if_neg hl, if_neg hl]
      cases hf : fd l with
      | bad k => rfl
      | ok f r =>
        have := fd_len l f r hf
        simp only
        rw [fdsF_fuel n m r (by omega) (by omega)]
@[irreducible] def fds (l : List UInt8) : FsR := fdsF l.length l
theorem fds_nil : fds [] = .ok [] := by unfold fds; rfl
theorem fds_bad (l : List UInt8) (k : Nat) (hl : l ≠ []) (h : fd l = .bad k) : fds l = .bad k := by
  unfold fds
  obtain ⟨n, hn⟩ : ∃ n, l.length = n + 1 := ⟨l.length - 1, by have := List.length_pos_iff.2 hl; omega⟩
  rw [hn, fdsF, if_neg hl, h]
theorem fds_ok (l : List UInt8) (f : FdV) (r : List UInt8) (hl : l ≠ []) (h : fd l = .ok f r) : fds l = (fds r).pre [f] := by
  unfold fds
  obtain ⟨n, hn⟩ : ∃ n, l.length = n + 1 := ⟨l.length - 1, by have := List.length_pos_iff.2 hl; omega⟩
  have := fd_len l f r h
  rw [hn, fdsF, if_neg hl, h]
  simp only
  rw [fdsF_fuel n r.length r (by omega) (by omega)]

/-- A field, with its bytes in memory. -/
structure FdL where
  f : FdV
  A : Option Addr
  c : Nat
def FdL.cells (x : FdL) : List Value := [.int .i64 (x.f.num : Int), .bool x.f.whole, .int .u64 (x.f.n : Int), .slice x.A x.f.b.length x.c]
def FdL.chunk (x : FdL) : Chunk := .row (.slice x.A x.f.b.length x.c) 5 1 x.f.b.length (bvs x.f.b)
def cellsF (xs : List FdL) : List Value := xs.flatMap FdL.cells
def chunksF (xs : List FdL) : List Chunk := (xs.map FdL.chunk).reverse
theorem cellsF_snoc (xs : List FdL) (x : FdL) : cellsF (xs ++ [x]) = cellsF xs ++ x.cells := by simp [cellsF]
theorem chunksF_snoc (xs : List FdL) (x : FdL) : chunksF (xs ++ [x]) = x.chunk :: chunksF xs := by simp [chunksF]
/-- A call that hands fields back, or an error's number. -/
def ResF (e : TypeId) (w : World) : FsR → Ending → World → Prop
  | .ok fs, r, w' => ∃ (xs : List FdL) (A : Option Addr) (c : Nat), r = .returned (.tuple #[.slice A xs.length c, .int .i64 0]) ∧ xs.map FdL.f = fs ∧ St w NoB w' (.row (.slice A xs.length c) e 4 xs.length (cellsF xs) :: chunksF xs)
  | .bad k, r, w' => r = .returned (.tuple #[.slice none 0 0, .int .i64 (k : Int)]) ∧ Below w.heap.size w w'
end Go.Proofs.Ytcfonifaijeecaa
