/-
  The walk of 'same': two rows of fields that are alike.
-/
import Derived.Test.YtcfonifaijeecaaPw13
namespace Go.Proofs.Ytcfonifaijeecaa
open Go.RowKit

/-- A row of fields in memory. -/
structure FAt (w : World) (v : Value) (xs : List FdL) : Prop where
  rd : Rd w v 4 xs.length (cellsF xs)
  each : ∀ x ∈ xs, Rd w (.slice x.A x.f.b.length x.c) 1 x.f.b.length (bvs x.f.b)
theorem FAt.below {w w' : World} {v : Value} {xs : List FdL} (h : FAt w v xs) (hb : Below w.heap.size w w') : FAt w' v xs :=
  ⟨h.rd.below hb, fun p hp => (h.each p hp).below hb⟩
theorem cellsF_get (xs : List FdL) (k j : Nat) (x : FdL) (h : xs[k]? = some x) (hj : j < 4) : (cellsF xs)[k * 4 + j]? = x.cells[j]? :=
  flat_get FdL.cells 4 (fun _ => rfl) xs k j x h hj
/-- The chunks of what Fields handed back are such a row. -/
theorem fat_of {w0 w : World} {M : Nat → Prop} {H : List Chunk} {e : TypeId} {xs : List FdL} {v : Value} (i : Nat) (hS : St w0 M w H) (hi : H[i]? = some (.row v e 4 xs.length (cellsF xs)))
    (hx : ∀ x ∈ xs, ∃ j : Nat, H[j]? = some x.chunk) : FAt w v xs :=
  ⟨hS.rd i hi, fun x h => by obtain ⟨j, hj⟩ := hx x h; exact hS.rd j hj⟩
theorem chunksF_mem (xs : List FdL) (x : FdL) (h : x ∈ xs) : ∃ j : Nat, (chunksF xs)[j]? = some x.chunk := by
  unfold chunksF
  exact List.mem_iff_getElem?.1 (List.mem_reverse.2 (List.mem_map.2 ⟨x, h, rfl⟩))
theorem fat_res {w0 w : World} {M : Nat → Prop} {e : TypeId} {xs : List FdL} {v : Value} (hS : St w0 M w (.row v e 4 xs.length (cellsF xs) :: chunksF xs)) : FAt w v xs :=
  fat_of 0 hS rfl fun x h => by obtain ⟨j, hj⟩ := chunksF_mem xs x h; exact ⟨j + 1, hj⟩

set_option maxRecDepth 100000 in
set_option maxHeartbeats 800000 in
theorem same_yes (va vb : Value) (xs ys : List FdL) (w : World) (ha : FAt w va xs) (hb : FAt w vb ys) (h : xs.map FdL.f = ys.map FdL.f) :
    Calls Try.prog 24 #[va, vb] w fun e w' => e = .returned (.bool true) ∧ Below w.heap.size w w' := by
  have hlen : xs.length = ys.length := by simpa using congrArg List.length h
  obtain ⟨hra, hea⟩ := ha
  obtain ⟨hrb, heb⟩ := hb
  by_cases h0 : ys.length = 0
  · have hx0 : xs.length = 0 := by omega
    obtain ⟨A, c, rfl, _⟩ := hra
    obtain ⟨B, d, rfl, _⟩ := hrb
    rw [hx0, h0]
    clear h h0 hlen hx0
    go_enter Try.func24, Try.ntmps24
    go_wp2
    refine wp_loop_rounds 1 ?_
    rw [rounds_succ]
    go_wp2
    go_ret
    exact ⟨rfl, Below.refl _ _⟩
  · rcases hra.cases with ⟨_, hn, _⟩ | ⟨b, o, sp, c, rfl, hb, hnc, hcm, hl, hsp, hc⟩
    · omega
    rcases hrb.cases with ⟨_, hn, _⟩ | ⟨b', o', sp', c', rfl, hb', hnc', hcm', hl', hsp', hc'⟩
    · omega
    obtain rfl : sp = none := hsp (by omega)
    obtain rfl : sp' = none := hsp' (by omega)
    replace hb := hb (by omega)
    replace hb' := hb' (by omega)
    rw [hlen] at hra hnc ⊢
    have HC := hide hc
    have HC' := hide hc'
    have HEA := hide hea
    have HEB := hide heb
    have HH := hide h
    have HLEN := hide hlen
    clear hc hc' hea heb hl hl' h hlen hsp hsp' hra hrb
    unfold maxLen at hcm hcm'
    go_enter Try.func24, Try.ntmps24
    go_wp2
    go_loopw [15] (fun i wr => ∃ k : Nat, k ≤ ys.length ∧ i = .int .i64 k ∧ St w NoB wr []) (fun i _ => ys.length - (intOf i).toNat)
    case atStart => exact ⟨0, by omega, rfl, St.init w NoB⟩
    case round =>
      obtain ⟨k, hk, rfl, hS⟩ := hrel
      by_cases hlt : k < ys.length
      · obtain ⟨x, hx⟩ : ∃ x, xs[k]? = some x := ⟨xs[k]'(by have := HLEN.out; omega), List.getElem?_eq_getElem _⟩
        obtain ⟨y, hy⟩ : ∃ y, ys[k]? = some y := ⟨ys[k], List.getElem?_eq_getElem _⟩
        have hfy : y.f = x.f := by
          have := congrArg (·[k]?) HH.out
          simp only [List.getElem?_map, hx, hy, Option.map_some, Option.some.injEq] at this
          exact this.symm
        have hcx : ∀ j u, j < 4 → x.cells[j]? = some u → wr.cell? ⟨b, o + k * 4 + j, none⟩ = some u := fun j u hj hu => by
          rw [hS.below.cell (p := ⟨b, o + k * 4 + j, none⟩) hb, Nat.add_assoc]
          exact HC.out _ u (by rw [cellsF_get xs k j x hx hj]; exact hu)
        have hcy : ∀ j u, j < 4 → y.cells[j]? = some u → wr.cell? ⟨b', o' + k * 4 + j, none⟩ = some u := fun j u hj hu => by
          rw [hS.below.cell (p := ⟨b', o' + k * 4 + j, none⟩) hb', Nat.add_assoc]
          exact HC'.out _ u (by rw [cellsF_get ys k j y hy hj]; exact hu)
        have hrx := (HEA.out x (List.mem_of_getElem? hx)).st hS
        have hry := (HEB.out y (List.mem_of_getElem? hy)).st hS
        obtain ⟨⟨num, wh, nn, l⟩, Ax, cx⟩ := x
        obtain ⟨fy, Ay, cy⟩ := y
        dsimp only at hfy
        subst hfy
        dsimp only at hrx hry
        have c0 : wr.cell? ⟨b, o + k * 4, none⟩ = some (.int .i64 (num : Int)) := hcx 0 _ (by omega) rfl
        have c1 : wr.cell? ⟨b, o + k * 4 + 1, none⟩ = some (.bool wh) := hcx 1 _ (by omega) rfl
        have c2 : wr.cell? ⟨b, o + k * 4 + 2, none⟩ = some (.int .u64 (nn : Int)) := hcx 2 _ (by omega) rfl
        have c3 : wr.cell? ⟨b, o + k * 4 + 3, none⟩ = some (.slice Ax l.length cx) := hcx 3 _ (by omega) rfl
        have e0 : wr.cell? ⟨b', o' + k * 4, none⟩ = some (.int .i64 (num : Int)) := hcy 0 _ (by omega) rfl
        have e1 : wr.cell? ⟨b', o' + k * 4 + 1, none⟩ = some (.bool wh) := hcy 1 _ (by omega) rfl
        have e2 : wr.cell? ⟨b', o' + k * 4 + 2, none⟩ = some (.int .u64 (nn : Int)) := hcy 2 _ (by omega) rfl
        have e3 : wr.cell? ⟨b', o' + k * 4 + 3, none⟩ = some (.slice Ay l.length cy) := hcy 3 _ (by omega) rfl
        have s1 : ∀ W, Below wr.heap.size wr W → (convert 27 9 (.slice Ax l.length cx)).run Try.prog W = .ok (.string (strOf l)) W := fun W hW => run_str Try.underlying27 Try.underlying5 Try.underlying9 (hrx.below hW)
        have s2 : ∀ W, Below wr.heap.size wr W → (convert 27 9 (.slice Ay l.length cy)).run Try.prog W = .ok (.string (strOf l)) W := fun W hW => run_str Try.underlying27 Try.underlying5 Try.underlying9 (hry.below hW)
        have HS := hide hS
        have hb1 : b < wr.heap.size := by have := hS.below.size; omega
        have hb2 : b' < wr.heap.size := by have := hS.below.size; omega
        have t1 := s1 ((wr.alloc (.cells #[.int .i64 (num : Int), .bool wh, .int .u64 (nn : Int), .slice Ax l.length cx] 53)).alloc (.cells #[.int .i64 (num : Int), .bool wh, .int .u64 (nn : Int), .slice Ay l.length cy] 55)) (((Below.refl _ _).alloc (Nat.le_refl _) _).alloc (by simp) _)
        have t2 := s2 ((wr.alloc (.cells #[.int .i64 (num : Int), .bool wh, .int .u64 (nn : Int), .slice Ax l.length cx] 53)).alloc (.cells #[.int .i64 (num : Int), .bool wh, .int .u64 (nn : Int), .slice Ay l.length cy] 55)) (((Below.refl _ _).alloc (Nat.le_refl _) _).alloc (by simp) _)
        clear s1 s2 hcx hcy hrx hry hS
        cases wh
        all_goals
          go_wp2_with fail
          go_roundw
          case rel => exact ⟨k + 1, by omega, by go_num, (HS.out.skip _).skip _⟩
          case measure => simp [intOf]; omega
      · have hke : k = ys.length := by omega
        subst hke
        go_wp2_with fail
        go_ret
        exact ⟨rfl, hS.below⟩
end Go.Proofs.Ytcfonifaijeecaa
