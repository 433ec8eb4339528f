/-
  The walk of layer 2's carried.
-/
import Derived.Test.YtdihedhhkcakoaaRows
import Derived.Test.YtdihedhhkcakoaaKl
import Derived.Test.YtdihedhhkcakoaaMw
import Derived.Laws.Bits64b
namespace Go.Proofs.Ytdihedhhkcakoaa
open Go.RowKit

theorem and_mask (n : Nat) (h : n < 18446744073709551616) : bits .and .u64 (n : Int) 2251799813685247 = ((n % T51 : Nat) : Int) := by
  rw [show bits .and .u64 (n : Int) 2251799813685247 = ((n &&& 2251799813685247 : Nat) : Int) from u64_and_nat n 2251799813685247 h (by omega), show n &&& 2251799813685247 = n % T51 from Nat.and_two_pow_sub_one_eq_mod n 51]
/-- The most that limbs are ahead of pass number i. -/
def capB (i : Nat) : Nat := if i = 0 then 4096 else 2
theorem capB_le (i : Nat) : capB i ≤ 4096 := by unfold capB; split <;> omega
def CarOut (w : World) (g : Nat) (l : List Nat) (i : Nat) (cur : List Nat) (wr : World) : Prop :=
  cur.length = 5 ∧ ev cur = ev l ∧ (i < 2 → ∀ (k x : Nat), cur[k]? = some x → x < capB i * T51) ∧ (i = 2 → Red cur) ∧
    St w NoB wr [.cells g (uvs cur).toArray 25, .cells (g + 1) #[.int .u64 0, .int .u64 0, .int .u64 0, .int .u64 0, .int .u64 0] 27]
theorem car_next (n x z oo : Nat) (rest : List Nat) (h4 : rest.length = 4) (hx : x < T51) (hy : ∀ y ∈ rest, y < T51) (ho : oo ≤ capB n) (hz : z = x + 19 * oo) (hn : n < 2) :
    (z :: rest).length = 5 ∧ (n + 1 < 2 → ∀ (k y : Nat), (z :: rest)[k]? = some y → y < capB (n + 1) * T51) ∧ (n + 1 = 2 → Red (z :: rest)) := by
  refine ⟨by simpa using h4, fun h k y hk => ?_, fun h => ⟨by simpa using h4, fun k y hk => ?_⟩⟩
  · obtain rfl : n = 0 := by omega
    have e1 : capB 0 = 4096 := rfl
    have e2 : capB (0 + 1) = 2 := rfl
    rw [e1] at ho
    rw [e2]
    unfold T51 at hx hy ⊢
    cases k with
    | zero => simp only [List.getElem?_cons_zero, Option.some.injEq] at hk; omega
    | succ k => have := hy y (List.mem_of_getElem? hk); omega
  · obtain rfl : n = 1 := by omega
    have e1 : capB 1 = 2 := rfl
    rw [e1] at ho
    unfold T51 at hx hy ⊢
    cases k with
    | zero => simp only [List.getElem?_cons_zero, Option.some.injEq] at hk; rw [if_pos rfl]; omega
    | succ k => have := hy y (List.mem_of_getElem? hk); rw [if_neg (by omega)]; omega
set_option maxRecDepth 100000 in
set_option maxHeartbeats 800000 in
theorem carried_walk (l : List Nat) (w : World) (hl : l.length = 5) (hb : ∀ (k x : Nat), l[k]? = some x → x < 4096 * T51) :
    Calls Try.prog 30 #[.agg (uvs l).toArray] w fun e w' => ∃ rs : List Nat, ev rs = ev l ∧ Red rs ∧ e = .returned (.agg (uvs rs).toArray) ∧ Below w.heap.size w w' := by
  have hS0 := ((St.init w NoB).alloc (uvs l).toArray 25).alloc #[.int .u64 0, .int .u64 0, .int .u64 0, .int .u64 0, .int .u64 0] 27
  have HS0 := hide hS0.swap
  have HL := hide hl
  have HB := hide hb
  clear hS0 hl hb
  go_enter Try.func30, Try.ntmps30
  go_wp2_with fail
  go_loopw [5] (fun i wr => ∃ (n : Nat) (cur : List Nat), n ≤ 2 ∧ i = .int .i64 (n : Int) ∧ CarOut w w.heap.size l n cur wr) (fun i _ => 2 - (intOf i).toNat)
  case atStart =>
    have hS := HS0.out
    simp only [size_alloc1] at hS
    exact ⟨0, l, by omega, rfl, HL.out, rfl, fun _ => HB.out, fun h => absurd h (by omega), hS⟩
  case round =>
    obtain ⟨n, cur, hn, rfl, hcl, hev, hbd, hred, hS⟩ := hrel
    have HSO := hide hS
    have HCL := hide hcl
    have HEV := hide hev
    have HBD := hide hbd
    have HRED := hide hred
    clear hS hcl hev hbd hred
    by_cases hlt : n < 2
    · go_wp2_with fail
      go_loopw [3, 7] (fun o i wr => ∃ (k oo : Nat) (xs : List Nat), k ≤ 5 ∧ i = .int .i64 (k : Int) ∧ o = .int .u64 (oo : Int) ∧ Pass (capB n) cur k oo xs ∧
        St w NoB wr [.cells w.heap.size (uvs xs).toArray 25, .cells (w.heap.size + 1) #[.int .u64 0, .int .u64 0, .int .u64 0, .int .u64 0, .int .u64 0] 27]) (fun _ i _ => 5 - (intOf i).toNat)
      case atStart => exact ⟨0, 0, cur, by omega, rfl, rfl, pass_start _ _ HCL.out, HSO.out⟩
      case round =>
        obtain ⟨k, oo, xs, hk, rfl, rfl, hP, hS⟩ := hrel
        have hcap := capB_le n
        by_cases hk5 : k < 5
        · obtain ⟨x, hx1, hx2⟩ := pass_get hP hk5 HCL.out
          have hxB := HBD.out hlt k x hx1
          have hx63 : x < 9223372036854775808 := by
            have : capB n * T51 ≤ 4096 * T51 := Nat.mul_le_mul_right _ hcap
            unfold T51 at this hxB
            omega
          have hoo : oo ≤ 4096 := by have := hP.2.2.2.2; omega
          have c0 : wr.cell? ⟨w.heap.size, k, none⟩ = some (.int .u64 (x : Int)) := by rw [hS.cell 0 rfl k]; exact uvs_get hx2
          have f0 := hS.free 0 rfl k
          have HN := hide (pass_next hP hk5 hx1 (by unfold T51; omega) hxB)
          obtain ⟨s, hs⟩ : ∃ s, s = x + oo := ⟨_, rfl⟩
          have e1 : IntKind.u64.wrap ((x : Int) + (oo : Int)) = (s : Int) := by rw [IntKind.wrap_u64, hs]; omega
          have e2 := and_mask s (by omega)
          rw [← hs] at HN
          have hs' := (hS.setCell 0 rfl k (.int .u64 (s : Int))).setCell 0 rfl k (.int .u64 ((s % T51 : Nat) : Int))
          simp only [List.set_cons_zero, uvs_set, List.set_set] at hs'
          have HS' := hide hs'
          obtain ⟨m, hm⟩ : ∃ m, m = s % T51 := ⟨_, rfl⟩
          rw [← hm] at HS' HN e2
          clear hs' hP hx1 hx2 hxB hx63 hs hm hS hcap
          go_wp2_with fail
          go_roundw
          case rel => exact ⟨k + 1, s / T51, xs.set k m, by omega, by go_num, rfl, HN.out, HS'.out⟩
          case measure => simp [intOf]; omega
        · obtain rfl : k = 5 := by omega
          obtain ⟨x, rest, rfl, hr4, hxT, hyT, hev2, ho⟩ := pass_end hP HCL.out
          have c0 : wr.cell? ⟨w.heap.size, 0, none⟩ = some (.int .u64 (x : Int)) := by rw [hS.cell 0 rfl 0]; rfl
          have f0 := hS.free 0 rfl 0
          obtain ⟨z, hz⟩ : ∃ z, z = x + 19 * oo := ⟨_, rfl⟩
          rw [← hz] at hev2
          have hN := hide (car_next n x z oo rest hr4 hxT hyT ho hz hlt)
          have hoo : oo ≤ 4096 := by omega
          have e3 : IntKind.u64.wrap (19 * (oo : Int)) = 19 * (oo : Int) := by rw [IntKind.wrap_u64]; omega
          have e4 : IntKind.u64.wrap ((x : Int) + 19 * (oo : Int)) = (z : Int) := by rw [IntKind.wrap_u64, hz]; unfold T51 at hxT; omega
          have hs' := hS.setCell 0 rfl 0 (.int .u64 (z : Int))
          simp only [List.set_cons_zero, uvs_set] at hs'
          have HS' := hide hs'
          have HE2 := hide hev2
          clear hs' hP hS hcap hxT hyT hev2 ho hz hr4 hoo
          go_wp2_with fail
          go_roundw
          case rel => exact ⟨n + 1, z :: rest, by omega, by go_num, hN.out.1, HE2.out.trans HEV.out, hN.out.2.1, hN.out.2.2, HS'.out⟩
          case measure => simp [intOf]; omega
    · obtain rfl : n = 2 := by omega
      have hred := HRED.out rfl
      have HRD := hide hred
      match cur, hred.1, HSO, HRD, HEV with
      | [a0, a1, a2, a3, a4], _, HSO, HRD, HEV =>
        have hS' : St w NoB wr [.cells w.heap.size #[.int .u64 (a0 : Int), .int .u64 (a1 : Int), .int .u64 (a2 : Int), .int .u64 (a3 : Int), .int .u64 (a4 : Int)] 25, .cells (w.heap.size + 1) #[.int .u64 0, .int .u64 0, .int .u64 0, .int .u64 0, .int .u64 0] 27] := HSO.out
        have n0 : wr.cell? ⟨w.heap.size, 0, none⟩ = some (.int .u64 (a0 : Int)) := hS'.cell 0 rfl 0
        have n1 : wr.cell? ⟨w.heap.size, 1, none⟩ = some (.int .u64 (a1 : Int)) := hS'.cell 0 rfl 1
        have n2 : wr.cell? ⟨w.heap.size, 2, none⟩ = some (.int .u64 (a2 : Int)) := hS'.cell 0 rfl 2
        have n3 : wr.cell? ⟨w.heap.size, 3, none⟩ = some (.int .u64 (a3 : Int)) := hS'.cell 0 rfl 3
        have n4 : wr.cell? ⟨w.heap.size, 4, none⟩ = some (.int .u64 (a4 : Int)) := hS'.cell 0 rfl 4
        have r0 : wr.cell? ⟨w.heap.size + 1, 0, none⟩ = some (.int .u64 0) := hS'.cell 1 rfl 0
        have r1 : wr.cell? ⟨w.heap.size + 1, 1, none⟩ = some (.int .u64 0) := hS'.cell 1 rfl 1
        have r2 : wr.cell? ⟨w.heap.size + 1, 2, none⟩ = some (.int .u64 0) := hS'.cell 1 rfl 2
        have r3 : wr.cell? ⟨w.heap.size + 1, 3, none⟩ = some (.int .u64 0) := hS'.cell 1 rfl 3
        have r4 : wr.cell? ⟨w.heap.size + 1, 4, none⟩ = some (.int .u64 0) := hS'.cell 1 rfl 4
        have f0 := hS'.free 1 rfl 0
        have f1 := hS'.free 1 rfl 1
        have f2 := hS'.free 1 rfl 2
        have f3 := hS'.free 1 rfl 3
        have f4 := hS'.free 1 rfl 4
        have HS := hide (((((hS'.setCell 1 rfl 0 (.int .u64 (a0 : Int))).setCell 1 rfl 1 (.int .u64 (a1 : Int))).setCell 1 rfl 2 (.int .u64 (a2 : Int))).setCell 1 rfl 3 (.int .u64 (a3 : Int))).setCell 1 rfl 4 (.int .u64 (a4 : Int)))
        clear hS' hred HSO HRED HBD hn hlt HCL HB
        go_wp2_with fail
        refine bodyPost_ret (results_cell_row rfl _ _ (w.heap.size + 1) _ _ _ _ rfl (HS.out.heap 1 rfl) Try.underlying27 rfl (by kernel_rfl)) rfl ?_
        exact ⟨[a0, a1, a2, a3, a4], HEV.out, HRD.out, rfl, HS.out.below⟩
end Go.Proofs.Ytdihedhhkcakoaa
