/-
  A slice of 'Put's that came in, as a list; the walk of 'few'.
-/
import Derived.Test.YtcfonifaijeecaaPw5
namespace Go.Proofs.Ytcfonifaijeecaa
open Go.RowKit

/-- One Put, as its cells hold it. -/
structure PutV where
  num : Int
  whole : Bool
  n : Nat
  A : Option Addr
  c : Nat
  b : List UInt8
def PutV.cells (p : PutV) : List Value := [.int .i64 p.num, .bool p.whole, .int .u64 p.n, .slice p.A p.b.length p.c]
def cellsP (ps : List PutV) : List Value := ps.flatMap PutV.cells
structure PutsAt (w : World) (v : Value) (ps : List PutV) : Prop where
  rd : Rd w v 4 ps.length (cellsP ps)
  each : ∀ p ∈ ps, Rd w (.slice p.A p.b.length p.c) 1 p.b.length (bvs p.b) ∧ W64 p.n ∧ I64 p.num ∧ p.b.length ≤ 140737488351232
theorem flat_get {α β : Type} (f : α → List β) (m : Nat) (hm : ∀ a, (f a).length = m) : ∀ (l : List α) (k j : Nat) (a : α), l[k]? = some a → j < m → (l.flatMap f)[k * m + j]? = (f a)[j]?
  | [], k, j, a, h, _ => by simp at h
  | x :: l, 0, j, a, h, hj => by
    simp only [List.getElem?_cons_zero, Option.some.injEq] at h
    subst h
    rw [List.flatMap_cons, Nat.zero_mul, Nat.zero_add, List.getElem?_append_left (by rw [hm]; exact hj)]
  | x :: l, k + 1, j, a, h, hj => by
    rw [List.flatMap_cons, List.getElem?_append_right (by rw [hm]; rw [Nat.succ_mul]; omega), hm, show (k + 1) * m + j - m = k * m + j from by rw [Nat.succ_mul]; omega]
    exact flat_get f m hm l k j a (by simpa using h) hj
theorem cellsP_get (ps : List PutV) (k j : Nat) (p : PutV) (h : ps[k]? = some p) (hj : j < 4) : (cellsP ps)[k * 4 + j]? = p.cells[j]? :=
  flat_get PutV.cells 4 (fun _ => rfl) ps k j p h hj
theorem PutsAt.below {w w' : World} {v : Value} {ps : List PutV} (h : PutsAt w v ps) (hb : Below w.heap.size w w') : PutsAt w' v ps :=
  ⟨h.rd.below hb, fun p hp => ⟨(h.each p hp).1.below hb, (h.each p hp).2⟩⟩

def lens (ps : List PutV) : Nat := (ps.map fun p => p.b.length).sum
@[irreducible] def fewB (ps : List PutV) : Bool := decide (ps.length ≤ 60) && decide (lens ps ≤ 4000)
theorem lens_take (ps : List PutV) (k : Nat) (p : PutV) (h : ps[k]? = some p) : lens (ps.take (k + 1)) = lens (ps.take k) + p.b.length := by
  unfold lens
  rw [List.take_add_one, h]
  simp
theorem lens_le (ps : List PutV) (k : Nat) : lens (ps.take k) ≤ lens ps := by
  conv => rhs; rw [← List.take_append_drop k ps]
  unfold lens
  rw [List.map_append, List.sum_append]
  omega

set_option maxRecDepth 100000 in
set_option maxHeartbeats 800000 in
theorem few_any (v : Value) (ps : List PutV) (w : World) (h : PutsAt w v ps) : Calls Try.prog 9 #[v] w fun e w' => e = .returned (.bool (fewB ps)) ∧ Below w.heap.size w w' := by
  obtain ⟨hr, he⟩ := h
  rcases hr.cases with ⟨rfl, hn, _⟩ | ⟨b, o, sp, c, rfl, hb, hnc, hcm, hl, hsp, hc⟩
  · have hps : ps = [] := List.eq_nil_of_length_eq_zero hn
    subst hps
    go_enter Try.func9, Try.ntmps9
    go_wp2
    refine wp_loop_rounds 1 ?_
    rw [rounds_succ]
    go_wp2
    go_ret
    exact ⟨by unfold fewB; rfl, Below.refl _ _⟩
  · by_cases h0 : ps = []
    · subst h0
      go_enter Try.func9, Try.ntmps9
      go_wp2
      refine wp_loop_rounds 1 ?_
      rw [rounds_succ]
      go_wp2
      go_ret
      exact ⟨by unfold fewB; rfl, Below.refl _ _⟩
    · have hp : 0 < ps.length := List.length_pos_iff.2 h0
      replace hb := hb (by omega)
      have hsp' : sp = none := hsp (by omega)
      subst hsp'
      have HC := hide hc
      have HE := hide he
      clear hc he hl h0 hsp
      unfold maxLen at hcm
      go_enter Try.func9, Try.ntmps9
      go_wp2
      go_loopw [3, 8] (fun n i wr => ∃ k : Nat, k ≤ ps.length ∧ i = .int .i64 k ∧ n = .int .i64 (lens (ps.take k) : Nat) ∧ lens (ps.take k) ≤ 4000 ∧ k ≤ 60 ∧ St w NoB wr []) (fun _ i _ => ps.length - (intOf i).toNat)
      case atStart => exact ⟨0, by omega, rfl, rfl, by simp [lens], by omega, St.init w NoB⟩
      case round =>
        obtain ⟨k, hk, rfl, rfl, hsum, hk60, hS⟩ := hrel
        by_cases hlt : k < ps.length
        · obtain ⟨p, hp⟩ : ∃ p, ps[k]? = some p := ⟨ps[k], List.getElem?_eq_getElem hlt⟩
          have hcell : ∀ j u, j < 4 → p.cells[j]? = some u → wr.cell? ⟨b, o + k * 4 + j, none⟩ = some u := fun j u hj hu => by
            rw [hS.below.cell (p := ⟨b, o + k * 4 + j, none⟩) hb, Nat.add_assoc]
            exact HC.out _ u (by rw [cellsP_get ps k j p hp hj]; exact hu)
          have c0 : wr.cell? ⟨b, o + k * 4, none⟩ = some (.int .i64 p.num) := hcell 0 _ (by omega) rfl
          have c1 : wr.cell? ⟨b, o + k * 4 + 1, none⟩ = some (.bool p.whole) := hcell 1 _ (by omega) rfl
          have c2 : wr.cell? ⟨b, o + k * 4 + 2, none⟩ = some (.int .u64 p.n) := hcell 2 _ (by omega) rfl
          have c3 : wr.cell? ⟨b, o + k * 4 + 3, none⟩ = some (.slice p.A p.b.length p.c) := hcell 3 _ (by omega) rfl
          have hbl := (HE.out p (List.mem_of_getElem? hp)).2.2.2
          have HT := hide (lens_take ps k p hp)
          have HP := hide hp
          have HS := hide hS
          clear hcell hp hS
          go_wp2_with fail
          case roundEnd =>
            go_roundw
            case rel => exact ⟨k + 1, by omega, by go_num, by rw [HT.out]; go_num, by rw [HT.out]; omega, by omega, HS.out.skip _⟩
            case measure => simp [intOf]; omega
          all_goals
            go_ret
            refine ⟨?_, (HS.out.skip _).below⟩
            have hT := HT.out
            have hL := lens_le ps (k + 1)
            have hF : fewB ps = false := by
              unfold fewB
              rw [Bool.and_eq_false_iff, decide_eq_false_iff_not, decide_eq_false_iff_not]
              omega
            rw [hF]
            rfl
        · have hke : k = ps.length := by omega
          subst hke
          have HS := hide hS
          clear hS
          go_wp2_with fail
          go_ret
          refine ⟨?_, HS.out.below⟩
          rw [List.take_length] at hsum
          simp [fewB]
          omega
end Go.Proofs.Ytcfonifaijeecaa
