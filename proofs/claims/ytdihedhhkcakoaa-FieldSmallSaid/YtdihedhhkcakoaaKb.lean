/-
  The walk of layer 2's least: the same number, below p.
-/
import Derived.Test.YtdihedhhkcakoaaKa
namespace Go.Proofs.Ytdihedhhkcakoaa
open Go.RowKit

theorem list5 {xs : List Nat} (h : xs.length = 5) : ∃ a b c d e, xs = [a, b, c, d, e] := by
  match xs, h with
  | [a, b, c, d, e], _ => exact ⟨a, b, c, d, e, rfl⟩
def Low (xs : List Nat) : Prop := ∀ (k x : Nat), xs[k]? = some x → x < 4096 * T51
theorem red_low {xs : List Nat} (h : Red xs) : Low xs := fun k x hx => by
  have := h.2 k x hx
  unfold T51 at this ⊢
  split at this <;> omega
theorem carried_any (a b c d e : Nat) (w : World) (hb : Low [a, b, c, d, e]) :
    Calls Try.prog 30 #[(.agg #[.int .u64 (a : Int), .int .u64 (b : Int), .int .u64 (c : Int), .int .u64 (d : Int), .int .u64 (e : Int)])] w fun r w' => ∃ a' b' c' d' e' : Nat, ev [a', b', c', d', e'] = ev [a, b, c, d, e] ∧ Red [a', b', c', d', e'] ∧ r = .returned (.agg #[.int .u64 (a' : Int), .int .u64 (b' : Int), .int .u64 (c' : Int), .int .u64 (d' : Int), .int .u64 (e' : Int)]) ∧ Below w.heap.size w w' := by
  refine (carried_walk [a, b, c, d, e] w rfl hb).mono ?_
  rintro r w' ⟨rs, h1, h2, h3, h4⟩
  obtain ⟨a', b', c', d', e', rfl⟩ := list5 h2.1
  exact ⟨a', b', c', d', e', h1, h2, h3, h4⟩

theorem fv_bound (T : Nat) : ∀ xs : List Nat, (∀ x ∈ xs, x < T) → fv T xs < T ^ xs.length
  | [], _ => by simp [fv]
  | x :: xs, h => by
    have h1 := fv_bound T xs fun y hy => h y (List.mem_cons_of_mem _ hy)
    have h2 := h x (List.mem_cons_self ..)
    simp only [fv, List.length_cons, Nat.pow_succ]
    have := Nat.mul_le_mul_left T (Nat.succ_le_of_lt h1)
    rw [Nat.mul_comm (T ^ xs.length)]
    rw [Nat.succ_eq_add_one, Nat.mul_add, Nat.mul_one] at this
    omega
theorem red_bound {xs : List Nat} (h : Red xs) : fv T51 xs < T51 ^ 5 + 38 := by
  obtain ⟨a, b, c, d, e, rfl⟩ := list5 h.1
  have h0 := h.2 0 a rfl
  have h1 := fv_bound T51 [b, c, d, e] (fun x hx => by
    obtain ⟨j, hj⟩ := List.getElem?_of_mem hx
    have := h.2 (j + 1) x hj
    rwa [if_neg (by omega), Nat.add_zero] at this)
  rw [if_pos rfl] at h0
  rw [show ([b, c, d, e] : List Nat).length = 4 from rfl] at h1
  rw [show fv T51 [a, b, c, d, e] = a + T51 * fv T51 [b, c, d, e] from rfl, show T51 ^ 5 = T51 ^ 4 * T51 from rfl]
  generalize fv T51 [b, c, d, e] = f at *
  have := Nat.mul_le_mul_left T51 (Nat.succ_le_of_lt h1)
  rw [Nat.succ_eq_add_one, Nat.mul_add, Nat.mul_one, Nat.mul_comm T51 (T51 ^ 4)] at this
  generalize T51 * f = u at *
  generalize T51 ^ 4 * T51 = v at *
  omega
/-- What the code has found behind k limbs: how often p is in it. -/
def Over (l : List Nat) (k o : Nat) : Prop := o ≤ 19 ∧ ∃ r, r < T51 ^ k ∧ fv T51 (l.take k) + 19 = r + o * T51 ^ k
theorem over_start (l : List Nat) : Over l 0 19 := ⟨by omega, 0, by simp, by simp [fv]⟩
theorem over_next {l : List Nat} {k o x : Nat} (h : Over l k o) (hx : l[k]? = some x) (hB : x < 2 * T51) : Over l (k + 1) ((x + o) / T51) := by
  obtain ⟨h1, r, h2, h3⟩ := h
  refine ⟨?_, r + (x + o) % T51 * T51 ^ k, ?_, ?_⟩
  · have : (x + o) / T51 < 3 := (Nat.div_lt_iff_lt_mul (by decide)).2 (by unfold T51 at hB ⊢; omega)
    omega
  · have h4 : (x + o) % T51 + 1 ≤ T51 := Nat.mod_lt _ (by decide)
    have := Nat.mul_le_mul_right (T51 ^ k) h4
    rw [Nat.add_mul, Nat.one_mul] at this
    rw [Nat.pow_succ, Nat.mul_comm (T51 ^ k)]
    omega
  · rw [fv_take hx]
    have h4 := Nat.div_add_mod (x + o) T51
    have h5 := congrArg (· * T51 ^ k) h4
    simp only [Nat.add_mul] at h5
    rw [Nat.pow_succ, show (x + o) / T51 * (T51 ^ k * T51) = T51 * ((x + o) / T51) * T51 ^ k from by rw [Nat.mul_comm (T51 ^ k), ← Nat.mul_assoc, Nat.mul_comm ((x + o) / T51)]]
    omega
theorem over_end {l : List Nat} {o : Nat} (h : Over l 5 o) (hr : Red l) : o ≤ 1 := by
  obtain ⟨_, r, h2, h3⟩ := h
  have h4 := red_bound hr
  rw [List.take_of_length_le (by rw [hr.1]; omega)] at h3
  have h5 : 57 < T51 ^ 5 := by unfold T51; decide
  generalize T51 ^ 5 = v at *
  rcases Nat.lt_or_ge o 2 with h | h
  · omega
  · have := Nat.mul_le_mul_right v h
    omega
theorem low_all {xs : List Nat} {o B : Nat} {l : List Nat} (h : Pass B l 5 o xs) : ∀ x ∈ xs, x < T51 := fun x hx => by
  obtain ⟨j, hj⟩ := List.getElem?_of_mem hx
  exact h.2.2.2.1 j x (by have := (List.getElem?_eq_some_iff.1 hj).1; rw [h.1] at this; omega) hj
theorem least_end {a b c d e o c' B : Nat} {xs : List Nat} (ho : Over [a, b, c, d, e] 5 o) (hr : Red [a, b, c, d, e]) (hP : Pass B [a + 19 * o, b, c, d, e] 5 c' xs) : fv T51 xs = ev [a, b, c, d, e] := by
  have h1 := over_end ho hr
  obtain ⟨_, r, h2, h3⟩ := ho
  obtain ⟨hl, _, h4, _, _⟩ := id hP
  have h5 := fv_bound T51 xs (low_all hP)
  have h6 := red_bound hr
  rw [hl] at h5
  rw [List.take_of_length_le (by omega), List.take_of_length_le (by simp)] at h4
  rw [List.take_of_length_le (by simp)] at h3
  have e1 : fv T51 [a + 19 * o, b, c, d, e] = fv T51 [a, b, c, d, e] + 19 * o := by simp only [fv]; omega
  rw [e1] at h4
  have h7 : 57 < T51 ^ 5 := by unfold T51; decide
  have hp := Pq_eq
  have hp2 := Pq_256.2
  unfold ev
  generalize fv T51 [a, b, c, d, e] = f at *
  generalize fv T51 xs = g at *
  generalize T51 ^ 5 = v at *
  have h8 : o = 0 ∨ o = 1 := by omega
  rcases h8 with rfl | rfl
  · have : c' = 0 := by
      rcases Nat.eq_zero_or_pos c' with h | h
      · exact h
      · have := Nat.mul_le_mul_right v h
        omega
    subst this
    rw [Nat.mod_eq_of_lt (by omega)]
    omega
  · have : c' = 1 := by
      rcases Nat.lt_trichotomy c' 1 with h | h | h
      · have : c' = 0 := by omega
        subst this
        omega
      · exact h
      · have := Nat.mul_le_mul_right v h
        omega
    subst this
    rw [show f = (f - Pq) + Pq from by omega, Nat.add_mod_right, Nat.mod_eq_of_lt (by omega)]
    omega
abbrev z5 : Array Value := #[.int .u64 0, .int .u64 0, .int .u64 0, .int .u64 0, .int .u64 0]
theorem fld_run (a b c d e : Nat) (w : World) : (Instr.field 27 (.agg #[.int .u64 (a : Int), .int .u64 (b : Int), .int .u64 (c : Int), .int .u64 (d : Int), .int .u64 (e : Int)]) 0).run Try.prog w = .ok (.agg #[.int .u64 (a : Int), .int .u64 (b : Int), .int .u64 (c : Int), .int .u64 (d : Int), .int .u64 (e : Int)]) w := by kernel_rfl
set_option maxRecDepth 100000 in
set_option maxHeartbeats 800000 in
theorem least_walk (a b c d e : Nat) (w : World) (hb : Low [a, b, c, d, e]) :
    Calls Try.prog 31 #[(.agg #[.int .u64 (a : Int), .int .u64 (b : Int), .int .u64 (c : Int), .int .u64 (d : Int), .int .u64 (e : Int)])] w fun r w' => ∃ a' b' c' d' e' : Nat, fv T51 [a', b', c', d', e'] = ev [a, b, c, d, e] ∧ (∀ x ∈ [a', b', c', d', e'], x < T51) ∧ r = .returned (.agg #[.int .u64 (a' : Int), .int .u64 (b' : Int), .int .u64 (c' : Int), .int .u64 (d' : Int), .int .u64 (e' : Int)]) ∧ Below w.heap.size w w' := by
  have HC := hide (fun W => carried_any a b c d e W hb)
  have hS0 := ((St.init w NoB).alloc #[.int .u64 (a : Int), .int .u64 (b : Int), .int .u64 (c : Int), .int .u64 (d : Int), .int .u64 (e : Int)] 27).alloc #[.int .u64 0, .int .u64 0, .int .u64 0, .int .u64 0, .int .u64 0] 25
  have HS0 := hide hS0
  clear hS0 hb
  go_enter Try.func31, Try.ntmps31
  go_wp2_with (go_at_call 30; refine (HC.out _).mono ?_; rintro r w1 ⟨a1, b1, c1, d1, e1, hev, hred, rfl, hb1⟩; have fl := fld_run a1 b1 c1 d1 e1)
  have hS1 := ((HS0.out.call hb1).alloc #[.int .u64 (a1 : Int), .int .u64 (b1 : Int), .int .u64 (c1 : Int), .int .u64 (d1 : Int), .int .u64 (e1 : Int)] 25)
  simp only [size_alloc1] at hS1
  have HS1 := hide (hS1.pickL (H' := [.cells w1.heap.size (uvs [a1, b1, c1, d1, e1]).toArray 25, .cells (w.heap.size + 1) #[.int .u64 0, .int .u64 0, .int .u64 0, .int .u64 0, .int .u64 0] 25]) [0, 1] (by decide) rfl)
  have HEV := hide hev
  have HRD := hide hred
  clear hS1 HS0 hev hred HC
  go_loopw [4, 12] (fun o i wr => ∃ (k oo : Nat), k ≤ 5 ∧ i = .int .i64 (k : Int) ∧ o = .int .u64 (oo : Int) ∧ Over [a1, b1, c1, d1, e1] k oo ∧
    St w NoB wr [.cells w1.heap.size (uvs [a1, b1, c1, d1, e1]).toArray 25, .cells (w.heap.size + 1) #[.int .u64 0, .int .u64 0, .int .u64 0, .int .u64 0, .int .u64 0] 25]) (fun _ i _ => 5 - (intOf i).toNat)
  case atStart => exact ⟨0, 19, by omega, rfl, rfl, over_start _, HS1.out⟩
  case round =>
    obtain ⟨k, oo, hk, rfl, rfl, hO, hS⟩ := hrel
    by_cases hk5 : k < 5
    · obtain ⟨x, hx⟩ : ∃ x, [a1, b1, c1, d1, e1][k]? = some x := ⟨_, List.getElem?_eq_getElem (by simpa using hk5)⟩
      have hx2 : x < 2 * T51 := by have := HRD.out.2 k x hx; unfold T51 at this ⊢; split at this <;> omega
      have c0 : wr.cell? ⟨w1.heap.size, k, none⟩ = some (.int .u64 (x : Int)) := by rw [hS.cell 0 rfl k]; exact uvs_get hx
      have HN := hide (over_next hO hx hx2)
      have hoo := hO.1
      obtain ⟨s, hs⟩ : ∃ s, s = x + oo := ⟨_, rfl⟩
      have e1 : IntKind.u64.wrap ((x : Int) + (oo : Int)) = (s : Int) := by rw [IntKind.wrap_u64, hs]; unfold T51 at hx2; omega
      rw [← hs] at HN
      have HSK := hide hS
      clear hS hO hx hx2 hoo hs
      go_wp2_with fail
      go_roundw
      case rel => exact ⟨k + 1, s / T51, by omega, by go_num, rfl, HN.out, HSK.out⟩
      case measure => simp [intOf]; omega
    · obtain rfl : k = 5 := by omega
      have c0 : wr.cell? ⟨w1.heap.size, 0, none⟩ = some (.int .u64 (a1 : Int)) := by rw [hS.cell 0 rfl 0]; rfl
      have f0 := hS.free 0 rfl 0
      have hoo := hO.1
      have ha := HRD.out.2 0 a1 rfl
      rw [if_pos rfl] at ha
      obtain ⟨z, hz⟩ : ∃ z, z = a1 + 19 * oo := ⟨_, rfl⟩
      have e3 : IntKind.u64.wrap (19 * (oo : Int)) = 19 * (oo : Int) := by rw [IntKind.wrap_u64]; omega
      have e4 : IntKind.u64.wrap ((a1 : Int) + 19 * (oo : Int)) = (z : Int) := by rw [IntKind.wrap_u64, hz]; unfold T51 at ha; omega
      have hlow : ∀ (k x : Nat), [z, b1, c1, d1, e1][k]? = some x → x < 2 * T51 := fun k x hx => by
        cases k with
        | zero => simp only [List.getElem?_cons_zero, Option.some.injEq] at hx; unfold T51 at ha ⊢; omega
        | succ k => have := HRD.out.2 (k + 1) x hx; rw [if_neg (by omega)] at this; unfold T51 at this ⊢; omega
      have hs' := hS.setCell 0 rfl 0 (.int .u64 (z : Int))
      simp only [List.set_cons_zero, uvs_set] at hs'
      have HS' := hide hs'
      have HO := hide hO
      have HLOW := hide hlow
      have HZ := hide hz
      clear hs' hS hO hoo ha hlow hz
      go_wp2_with fail
      go_loopw [6, 28] (fun o i wr => ∃ (k cc : Nat) (xs : List Nat), k ≤ 5 ∧ i = .int .i64 (k : Int) ∧ o = .int .u64 (cc : Int) ∧ Pass 2 [z, b1, c1, d1, e1] k cc xs ∧
        St w NoB wr [.cells w1.heap.size (uvs xs).toArray 25, .cells (w.heap.size + 1) #[.int .u64 0, .int .u64 0, .int .u64 0, .int .u64 0, .int .u64 0] 25]) (fun _ i _ => 5 - (intOf i).toNat)
      case atStart => exact ⟨0, 0, [z, b1, c1, d1, e1], by omega, rfl, rfl, pass_start _ _ rfl, HS'.out⟩
      case round =>
        obtain ⟨k, cc, xs, hk, rfl, rfl, hP, hS⟩ := hrel
        by_cases hk5 : k < 5
        · obtain ⟨x, hx1, hx2⟩ := pass_get hP hk5 rfl
          have hxB := HLOW.out k x hx1
          have hcc : cc ≤ 2 := hP.2.2.2.2
          have c1' : wr.cell? ⟨w1.heap.size, k, none⟩ = some (.int .u64 (x : Int)) := by rw [hS.cell 0 rfl k]; exact uvs_get hx2
          have f1 := hS.free 0 rfl k
          have HN := hide (pass_next hP hk5 hx1 (by unfold T51; omega) hxB)
          obtain ⟨s, hs⟩ : ∃ s, s = x + cc := ⟨_, rfl⟩
          have e1' : IntKind.u64.wrap ((x : Int) + (cc : Int)) = (s : Int) := by rw [IntKind.wrap_u64, hs]; unfold T51 at hxB; omega
          have e2 := and_mask s (by unfold T51 at hxB; omega)
          rw [← hs] at HN
          have hs' := (hS.setCell 0 rfl k (.int .u64 (s : Int))).setCell 0 rfl k (.int .u64 ((s % T51 : Nat) : Int))
          simp only [List.set_cons_zero, uvs_set, List.set_set] at hs'
          have HS2 := hide hs'
          obtain ⟨m, hm⟩ : ∃ m, m = s % T51 := ⟨_, rfl⟩
          rw [← hm] at HS2 HN e2
          clear hs' hP hx1 hx2 hxB hs hm hS hcc
          go_wp2_with fail
          go_roundw
          case rel => exact ⟨k + 1, s / T51, xs.set k m, by omega, by go_num, rfl, HN.out, HS2.out⟩
          case measure => simp [intOf]; omega
        · obtain rfl : k = 5 := by omega
          obtain ⟨a0, a2, a3, a4, a5, rfl⟩ := list5 hP.1
          rw [HZ.out] at hP
          have HV := hide (least_end HO.out HRD.out hP)
          have HA := hide (low_all hP)
          have hS' : St w NoB wr [.cells w1.heap.size #[.int .u64 (a0 : Int), .int .u64 (a2 : Int), .int .u64 (a3 : Int), .int .u64 (a4 : Int), .int .u64 (a5 : Int)] 25, .cells (w.heap.size + 1) #[.int .u64 0, .int .u64 0, .int .u64 0, .int .u64 0, .int .u64 0] 25] := hS
          have n0 : wr.cell? ⟨w1.heap.size, 0, none⟩ = some (.int .u64 (a0 : Int)) := hS'.cell 0 rfl 0
          have n1 : wr.cell? ⟨w1.heap.size, 1, none⟩ = some (.int .u64 (a2 : Int)) := hS'.cell 0 rfl 1
          have n2 : wr.cell? ⟨w1.heap.size, 2, none⟩ = some (.int .u64 (a3 : Int)) := hS'.cell 0 rfl 2
          have n3 : wr.cell? ⟨w1.heap.size, 3, none⟩ = some (.int .u64 (a4 : Int)) := hS'.cell 0 rfl 3
          have n4 : wr.cell? ⟨w1.heap.size, 4, none⟩ = some (.int .u64 (a5 : Int)) := hS'.cell 0 rfl 4
          have r0 : wr.cell? ⟨w.heap.size + 1, 0, none⟩ = some (.int .u64 0) := hS'.cell 1 rfl 0
          have r1 : wr.cell? ⟨w.heap.size + 1, 1, none⟩ = some (.int .u64 0) := hS'.cell 1 rfl 1
          have r2 : wr.cell? ⟨w.heap.size + 1, 2, none⟩ = some (.int .u64 0) := hS'.cell 1 rfl 2
          have r3 : wr.cell? ⟨w.heap.size + 1, 3, none⟩ = some (.int .u64 0) := hS'.cell 1 rfl 3
          have r4 : wr.cell? ⟨w.heap.size + 1, 4, none⟩ = some (.int .u64 0) := hS'.cell 1 rfl 4
          have f0 := hS'.free 1 rfl 0
          have f1 := hS'.free 1 rfl 1
          have f2 := hS'.free 1 rfl 2
          have f3 := hS'.free 1 rfl 3
          have f4 := hS'.free 1 rfl 4
          have HS := hide (((((hS'.setCell 1 rfl 0 (.int .u64 (a0 : Int))).setCell 1 rfl 1 (.int .u64 (a2 : Int))).setCell 1 rfl 2 (.int .u64 (a3 : Int))).setCell 1 rfl 3 (.int .u64 (a4 : Int))).setCell 1 rfl 4 (.int .u64 (a5 : Int)))
          clear hS' hS hP HS'
          go_wp2_with fail
          refine bodyPost_ret (results_cell_row rfl _ _ (w.heap.size + 1) _ _ _ _ rfl (HS.out.heap 1 rfl) Try.underlying25 rfl (by kernel_rfl)) rfl ?_
          exact ⟨a0, a2, a3, a4, a5, HV.out.trans HEV.out, HA.out, rfl, HS.out.below⟩
end Go.Proofs.Ytdihedhhkcakoaa
