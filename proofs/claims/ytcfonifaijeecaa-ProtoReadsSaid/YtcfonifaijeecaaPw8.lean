/-
  The walk of the program's reader: raw.
-/
import Derived.Test.YtcfonifaijeecaaPw7
namespace Go.Proofs.Ytcfonifaijeecaa
open Go.RowKit

theorem rd_take {w : World} {A : Option Addr} {n c : Nat} {l : List UInt8} (h : Rd w (.slice A n c) 1 n (bvs l)) (k : Nat) (hk : k ≤ n) : Rd w (.slice A k c) 1 k (bvs (l.take k)) := by
  obtain ⟨A', c', e, h1, h2, h3, h4, h5⟩ := h
  injection e with e1 _ e3
  subst e1 e3
  rw [length_bvs] at h1
  refine ⟨_, _, rfl, by rw [length_bvs, List.length_take]; omega, by omega, by omega, h4, fun b o sp hA => ?_⟩
  obtain ⟨k1, k2⟩ := h5 b o sp hA
  refine ⟨fun hn => k1 (by omega), fun j u hu => k2 j u ?_⟩
  rw [← hu]
  have hj : j < k := by
    have := (List.getElem?_eq_some_iff.1 hu).1
    rw [length_bvs, List.length_take] at this
    omega
  simp [bvs, List.getElem?_take, hj]

/-- What is read: bytes and what is left; or the error's number. -/
inductive BR where
  | ok (b rest : List UInt8)
  | bad (e : Nat)
@[irreducible] def rw_ (l : List UInt8) : BR :=
  match rv l with
  | .ok n rest => if n ≤ rest.length then .ok (rest.take n) (rest.drop n) else .bad 2
  | .bad k => .bad k
def RwPost (w0 : World) (M : Nat → Prop) (H : List Chunk) (g : Nat) (A : Option Addr) (c : Nat) (l : List UInt8) : BR → Ending → World → Prop
  | .ok b rest, e, w' => ∃ B d, e = .returned (.slice B b.length d) ∧ ∃ A' c', St w0 M w' (RdrC g A' rest.length c' 0 (.row (.slice B b.length d) 5 1 b.length (bvs b) :: H)) ∧ CutR A c l A' c' rest
  | .bad k, e, w' => e = .returned (.slice none 0 0) ∧ ∃ A' n' c', St w0 M w' (RdrC g A' n' c' k H)
theorem rw_bad (l : List UInt8) (k : Nat) (h : rv l = .bad k) : rw_ l = .bad k := by unfold rw_; rw [h]
theorem rw_short (l : List UInt8) (n : Nat) (r : List UInt8) (h : rv l = .ok n r) (hn : ¬ n ≤ r.length) : rw_ l = .bad 2 := by unfold rw_; rw [h]; simp only [if_neg hn]
theorem rw_ok (l : List UInt8) (n : Nat) (r : List UInt8) (h : rv l = .ok n r) (hn : n ≤ r.length) : rw_ l = .ok (r.take n) (r.drop n) := by unfold rw_; rw [h]; simp only [if_pos hn]
/-- An error is one of these. -/
theorem rvF_bad : ∀ (l : List UInt8) (i n k : Nat), rvF l i n = .bad k → k = 2 ∨ k = 3
  | [], i, n, k, h => by simp [rvF] at h; exact .inl h.symm
  | c :: b, i, n, k, h => by
    unfold rvF at h
    split at h
    · injection h with h; exact .inr h.symm
    · split at h
      · cases h
      · exact rvF_bad b _ _ k h
theorem rv_bads (l : List UInt8) (k : Nat) (h : rv l = .bad k) : k = 2 ∨ k = 3 := by rw [rv_eq] at h; exact rvF_bad l _ _ k h
theorem rvF_len : ∀ (l : List UInt8) (i n v : Nat) (r : List UInt8), rvF l i n = .ok v r → r.length < l.length
  | [], i, n, v, r, h => by simp [rvF] at h
  | c :: b, i, n, v, r, h => by
    unfold rvF at h
    split at h
    · cases h
    · split at h
      · injection h with _ h; subst h; simp
      · have := rvF_len b _ _ v r h
        simp only [List.length_cons]; omega
theorem rv_len (l : List UInt8) (v : Nat) (r : List UInt8) (h : rv l = .ok v r) : r.length < l.length := by rw [rv_eq] at h; exact rvF_len l _ _ v r h

set_option maxRecDepth 100000 in
set_option maxHeartbeats 800000 in
theorem rraw_walk {w0 w : World} {M : Nat → Prop} {H : List Chunk} (g : Nat) (A : Option Addr) (c : Nat) (l : List UInt8) (hl : l.length ≤ 1000000) (hr : RdH w0 M H (.slice A l.length c) 1 l.length (bvs l))
    (hS : St w0 M w (RdrC g A l.length c 0 H)) :
    Calls Try.prog 33 #[.pointer (some ⟨g, 0, none⟩)] w (RwPost w0 M H g A c l (rw_ l)) := by
  have V := rvarint_walk g A c l hl hr hS
  cases hv : rv l with
  | bad k =>
    have hk := rv_bads l k hv
    rw [rw_bad l k hv]
    rw [hv] at V
    have VV := hide V
    have hk1 : ((k : Int) == 0) = false := by rcases hk with rfl | rfl <;> rfl
    have hk2 : ((k : Int) != 0) = true := by rcases hk with rfl | rfl <;> rfl
    clear V hv hk hS hr hl
    go_enter Try.func33, Try.ntmps33
    go_wp2_with (go_at_call 30; refine VV.out.mono ?_; rintro e w1 ⟨rfl, hS1⟩; have c1 : w1.cell? ⟨g, 1, none⟩ = some (.int .i64 (k : Int)) := hS1.cell 0 rfl 1)
    go_ret
    exact ⟨rfl, A, l.length, c, hS1⟩
  | ok n rest =>
    have hlen := rv_len l n rest hv
    rw [hv] at V
    have VV := hide V
    by_cases hn : n ≤ rest.length
    · rw [rw_ok l n rest hv hn]
      have hn' : decide ((rest.length : Int) < (n : Int)) = false := by simp; omega
      have hlr : n ≤ 4294967296 := by omega
      have HR := hide hr
      clear V hv hS hr
      go_enter Try.func33, Try.ntmps33
      go_wp2_with (first
        | (go_at_call 30; refine VV.out.mono ?_; rintro e w1 ⟨rfl, hw, A1, a1, hS1, hr1⟩; have c0 : w1.cell? ⟨g, 0, none⟩ = some (.slice A1 rest.length a1) := hS1.cell 0 rfl 0; have c1 : w1.cell? ⟨g, 1, none⟩ = some (.int .i64 0) := hS1.cell 0 rfl 1; have hq := hr1 w1 (HR.out w1 hS1.tail); have hcap : rest.length ≤ a1 := (by obtain ⟨_, _, e, _, h, _⟩ := hq; injection e with _ _ e; omega); have hct := run_cut Try.underlying27 cellU8 infoU8 .u64 A1 rest.length a1 n hn (P := Try.prog); clear hw)
        | (at_builtin; refine wl_append0 rfl rfl tyB hS1 rfl rfl (rd_take hq n hn) (one_bvs _) hlr (by decide) ?_; intro B d w2 hS2; have d0 : w2.cell? ⟨g, 0, none⟩ = some (.slice A1 rest.length a1) := hS2.cell 1 rfl 0; have g0 := hS2.free 1 rfl 0))
      go_ret
      have e1 : (rest.take n).length = n := by rw [List.length_take]; omega
      have hS3 := (hS2.setCell 1 rfl 0 (.slice (cutA A1 a1 n) (rest.length - n) (a1 - n))).swap
      refine ⟨B, d, by rw [e1]; rfl, cutA A1 a1 n, a1 - n, ?_, ?_⟩
      · rw [e1, List.length_drop]
        exact hS3
      · exact hr1.trans (cutR _ _ rest n hn)
    · rw [rw_short l n rest hv hn]
      have hn' : decide ((rest.length : Int) < (n : Int)) = true := by simp; omega
      clear V hv hS hr
      go_enter Try.func33, Try.ntmps33
      go_wp2_with (go_at_call 30; refine VV.out.mono ?_; rintro e w1 ⟨rfl, hw, A1, a1, hS1, hr1⟩; have c0 : w1.cell? ⟨g, 0, none⟩ = some (.slice A1 rest.length a1) := hS1.cell 0 rfl 0; have c1 : w1.cell? ⟨g, 1, none⟩ = some (.int .i64 0) := hS1.cell 0 rfl 1; have f0 := hS1.free 0 rfl 1; clear hw)
      go_ret
      exact ⟨rfl, A1, rest.length, a1, hS1.setCell 0 rfl 1 (.int .i64 2)⟩
end Go.Proofs.Ytcfonifaijeecaa
