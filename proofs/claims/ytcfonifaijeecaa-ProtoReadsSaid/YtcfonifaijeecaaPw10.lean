/-
  The walk of the program's reader: field.
-/
import Derived.Test.YtcfonifaijeecaaPw9
import Derived.Deep.DeepCutAuto
namespace Go.Proofs.Ytcfonifaijeecaa
open Go.RowKit

/-- A field that is read. -/
structure FdV where
  num : Nat
  whole : Bool
  n : Nat
  b : List UInt8
inductive FR where
  | ok (f : FdV) (rest : List UInt8)
  | bad (e : Nat)
/-- The field's number, as it is kept. -/
@[irreducible] def numF (tag : Nat) : Nat := min (tag / 8) 101
@[irreducible] def fd (l : List UInt8) : FR :=
  match rv l with
  | .bad k => .bad k
  | .ok tag rest =>
    if (tag % 8 = 0 ∨ tag % 8 = 2) ∧ mayB (numF tag) = true then
      if tag % 8 = 0 then match rv rest with
        | .ok n r => .ok ⟨numF tag, false, n, []⟩ r
        | .bad k => .bad k
      else match rw_ rest with
        | .ok b r => .ok ⟨numF tag, true, 0, b⟩ r
        | .bad k => .bad k
    else .bad 3
def takeV (k b1 b4 : Nat) : Value := if k = 0 then .func (.func 31) #[] #[P0 b1, P0 b4] else if k = 2 then .func (.func 32) #[] #[P0 b1, P0 b4] else .nilFunc
def FdPost (w0 : World) (M : Nat → Prop) (H : List Chunk) (g : Nat) (A : Option Addr) (c : Nat) (l : List UInt8) : FR → Ending → World → Prop
  | .ok f rest, e, w' => ∃ B d, e = .returned (.agg #[.int .i64 (f.num : Int), .bool f.whole, .int .u64 (f.n : Int), .slice B f.b.length d]) ∧ ∃ A' c', St w0 M w' (RdrC g A' rest.length c' 0 (.row (.slice B f.b.length d) 5 1 f.b.length (bvs f.b) :: H)) ∧ CutR A c l A' c' rest
  | .bad k, e, w' => ∃ x1 x2 x3 B m d, e = .returned (.agg #[.int .i64 x1, .bool x2, .int .u64 x3, .slice B m d]) ∧ ∃ A' n' c', St w0 M w' (RdrC g A' n' c' k H)

theorem St.ne {w0 w : World} {M : Nat → Prop} {H : List Chunk} (h : St w0 M w H) (i j : Nat) (hij : i ≠ j) {g g' : Nat} {c c' : Array Value} {e e' : TypeId} (hi : H[i]? = some (.cells g c e)) (hj : H[j]? = some (.cells g' c' e')) : g ≠ g' :=
  fun x => h.apart i j _ _ g hij hi hj rfl (by rw [x]; rfl)
theorem eq_fn (w : World) (f : Fn) (a b : Array Value) : (binOp .eql 1 (.func f a b) .nilFunc).run Try.prog w = .ok (.bool false) w := by kernel_rfl
theorem eq_nilFn (w : World) : (binOp .eql 1 .nilFunc .nilFunc).run Try.prog w = .ok (.bool true) w := by kernel_rfl
theorem fd_bad (l : List UInt8) (k : Nat) (h : rv l = .bad k) : fd l = .bad k := by unfold fd; rw [h]
theorem fd_no (l : List UInt8) (tag : Nat) (rest : List UInt8) (h : rv l = .ok tag rest) (hn : ¬ ((tag % 8 = 0 ∨ tag % 8 = 2) ∧ mayB (numF tag) = true)) : fd l = .bad 3 := by unfold fd; rw [h]; simp only [if_neg hn]
theorem fd_num (l : List UInt8) (tag n : Nat) (rest r : List UInt8) (h : rv l = .ok tag rest) (h0 : tag % 8 = 0) (hm : mayB (numF tag) = true) (h2 : rv rest = .ok n r) : fd l = .ok ⟨numF tag, false, n, []⟩ r := by
  unfold fd; rw [h]; simp only [if_pos (show (tag % 8 = 0 ∨ tag % 8 = 2) ∧ mayB (numF tag) = true from ⟨.inl h0, hm⟩), if_pos h0, h2]
theorem fd_numBad (l : List UInt8) (tag k : Nat) (rest : List UInt8) (h : rv l = .ok tag rest) (h0 : tag % 8 = 0) (hm : mayB (numF tag) = true) (h2 : rv rest = .bad k) : fd l = .bad k := by
  unfold fd; rw [h]; simp only [if_pos (show (tag % 8 = 0 ∨ tag % 8 = 2) ∧ mayB (numF tag) = true from ⟨.inl h0, hm⟩), if_pos h0, h2]
theorem fd_raw (l : List UInt8) (tag : Nat) (rest b r : List UInt8) (h : rv l = .ok tag rest) (h0 : tag % 8 = 2) (hm : mayB (numF tag) = true) (h2 : rw_ rest = .ok b r) : fd l = .ok ⟨numF tag, true, 0, b⟩ r := by
  unfold fd; rw [h]; simp only [if_pos (show (tag % 8 = 0 ∨ tag % 8 = 2) ∧ mayB (numF tag) = true from ⟨.inr h0, hm⟩), if_neg (show ¬ tag % 8 = 0 from by omega), h2]
theorem fd_rawBad (l : List UInt8) (tag k : Nat) (rest : List UInt8) (h : rv l = .ok tag rest) (h0 : tag % 8 = 2) (hm : mayB (numF tag) = true) (h2 : rw_ rest = .bad k) : fd l = .bad k := by
  unfold fd; rw [h]; simp only [if_pos (show (tag % 8 = 0 ∨ tag % 8 = 2) ∧ mayB (numF tag) = true from ⟨.inr h0, hm⟩), if_neg (show ¬ tag % 8 = 0 from by omega), h2]
theorem rvpost_any {w0 w' : World} {M : Nat → Prop} {H : List Chunk} {g : Nat} {A : Option Addr} {c : Nat} {l : List UInt8} {e : Ending} (h : RvPost w0 M H g A c l (rv l) e w') :
    ∃ (tag ek : Nat) (A1 : Option Addr) (n1 a1 : Nat), e = .returned (.int .u64 (tag : Int)) ∧ W64 tag ∧ St w0 M w' (RdrC g A1 n1 a1 ek H) ∧
      Hid ((∃ rest, rv l = .ok tag rest ∧ ek = 0 ∧ n1 = rest.length ∧ CutR A c l A1 a1 rest) ∨ (rv l = .bad ek ∧ tag = 0)) := by
  cases hv : rv l with
  | ok n rest =>
    rw [hv] at h
    obtain ⟨rfl, hw, A1, a1, hS, hr⟩ := h
    exact ⟨n, 0, A1, _, a1, rfl, hw, hS, .inl ⟨rest, rfl, rfl, rfl, hr⟩⟩
  | bad k =>
    rw [hv] at h
    obtain ⟨rfl, hS⟩ := h
    exact ⟨0, k, A, _, c, rfl, by unfold W64; omega, hS, .inr ⟨rfl, rfl⟩⟩
theorem numF_val (tag : Nat) : (numF tag : Int) = if (tag : Int) / 8 ≤ 101 then (tag : Int) / 8 else 101 := by
  unfold numF
  split <;> omega
theorem run_makeMap0 (P : Program) (t : TypeId) (w : World) : (Instr.makeMap t none).run P w = .ok (.map (some w.heap.size)) (w.alloc (.map #[] 0)) := rfl
theorem size_alloc1 (w : World) (o : Obj) : (w.alloc o).heap.size = w.heap.size + 1 := by
  show (w.heap.push o).size = _
  simp
/-- The map that the literal makes. -/
def mapV (b1 b4 : Nat) : Array MapEntry := #[⟨.int .u64 0, .func (.func 31) #[] #[P0 b1, P0 b4], 0⟩, ⟨.int .u64 2, .func (.func 32) #[] #[P0 b1, P0 b4], 1⟩]
theorem find_take (b1 b4 k : Nat) : ∃ r, Instr.findNow (.int .u64) (.int .u64 (k : Int)) (mapV b1 b4).toList 0 = some r ∧ (r.map (·.2)).getD .nilFunc = takeV k b1 b4 := by
  unfold mapV takeV
  by_cases h0 : k = 0
  · subst h0
    exact ⟨_, rfl, rfl⟩
  · by_cases h2 : k = 2
    · subst h2
      exact ⟨_, rfl, rfl⟩
    · have e0 : ((k : Int) == 0) = false := by simp; omega
      have e2 : ((k : Int) == 2) = false := by simp; omega
      refine ⟨none, ?_, by simp [h0, h2]⟩
      simp [Instr.findNow, Instr.sameNow, e0, e2]
theorem zero_fn (w : World) : (zeroValue 1).run Try.prog w = .ok .nilFunc w := by kernel_rfl
theorem and7 (tag : Nat) (h : W64 tag) : bits .and .u64 (tag : Int) 7 = ((tag % 8 : Nat) : Int) := by
  unfold W64 at h
  have := u64_and_nat tag 7 (by omega) (by omega)
  rw [show ((7 : Nat) : Int) = 7 from rfl] at this
  rw [this]
  congr 1
  exact Nat.and_two_pow_sub_one_eq_mod tag 3
set_option maxRecDepth 100000 in
set_option maxHeartbeats 800000 in
theorem field_walk {w0 w : World} {M : Nat → Prop} {H : List Chunk} (g : Nat) (A : Option Addr) (c : Nat) (l : List UInt8) (hl : l.length ≤ 1000000) (hr : RdH w0 M H (.slice A l.length c) 1 l.length (bvs l))
    (hS : St w0 M w (RdrC g A l.length c 0 H)) :
    Calls Try.prog 28 #[P0 g] w (FdPost w0 M H g A c l (fd l)) := by
  have hSa := ((hS.alloc #[P0 g] 61).alloc #[.int .i64 0, .bool false, .int .u64 0, .slice none 0 0] 53)
  have cb1 : ((w.alloc (.cells #[P0 g] 61)).alloc (.cells #[.int .i64 0, .bool false, .int .u64 0, .slice none 0 0] 53)).cell? ⟨w.heap.size, 0, none⟩ = some (P0 g) := hSa.cell 1 rfl 0
  rw [size_alloc1] at hSa
  have hSb : St w0 M ((w.alloc (.cells #[P0 g] 61)).alloc (.cells #[.int .i64 0, .bool false, .int .u64 0, .slice none 0 0] 53)) (RdrC g A l.length c 0 (.cells w.heap.size #[P0 g] 61 :: .cells (w.heap.size + 1) #[.int .i64 0, .bool false, .int .u64 0, .slice none 0 0] 53 :: H)) := hSa.rot3
  have V := hide (rvarint_walk g A c l hl (fun w h => hr w h.tail.tail) hSb)
  clear hS hSa hSb
  unfold P0 at *
  have hmm := run_makeMap0 Try.prog 68
  go_enter Try.func28, Try.ntmps28
  go_upto_region 2 with (go_at_call 30; refine V.out.mono ?_; rintro e w1 he; obtain ⟨tag, ek, A1, n1, a1, rfl, hw, hS1, hcase⟩ := rvpost_any he; clear he)
  have hv := hide (numF_val tag)
  clear V cb1
  go_cut [4] (fun p wx => ∃ b4, p = P0 b4 ∧ St w0 M wx (RdrC g A1 n1 a1 ek (FldC w.heap.size g b4 #[.int .i64 (numF tag : Int), .bool false, .int .u64 0, .slice none 0 0] (.cells (w.heap.size + 1) #[.int .i64 0, .bool false, .int .u64 0, .slice none 0 0] 53 :: H))))
  case first =>
    go_wp2_with fail
    all_goals (go_meet; refine ⟨_, rfl, ?_⟩; rw [hv.out]; split)
    all_goals first | (exfalso; omega) | exact (hS1.alloc _ _).swap
  case rest =>
    obtain ⟨b4, rfl, hS2⟩ := hcut
    clear hS1
    generalize hN : numF tag = num at *
    have hS3 := hide (hS2.allocObj (.map #[] 0))
    unfold P0 at *
    go_upto_region 3 with fail
    go_cut [5] (fun t wx => t = takeV (tag % 8) w.heap.size b4 ∧ St w0 M wx (RdrC g A1 n1 a1 ek (FldC w.heap.size g b4 #[.int .i64 (num : Int), .bool false, .int .u64 0, .slice none 0 0] (.cells (w.heap.size + 1) #[.int .i64 0, .bool false, .int .u64 0, .slice none 0 0] 53 :: H))))
    case first =>
      obtain ⟨r, hr1, hr2⟩ := find_take w.heap.size b4 (tag % 8)
      have hk := hide (and7 tag hw)
      go_wp2_with (first
        | (refine wl_insert (v := .tmp 14) rfl rfl Try.underlying68 Try.underlying23 hS3.out 0 rfl rfl rfl rfl rfl ?_; intro w4 hS4)
        | (refine wl_insert (v := .tmp 15) rfl rfl Try.underlying68 Try.underlying23 hS4 0 rfl rfl rfl rfl rfl ?_; intro w5 hS5; have hb5 : w5.heap[wc.heap.size]? = some (.map (mapV w.heap.size b4) 2) := hS5.sat 0 _ rfl)
        | (at_lookup; refine wl_lookup rfl rfl Try.underlying68 Try.underlying23 (zero_fn _) hb5 rfl (congrArg (Value.int .u64) hk.out) hr1 ?_; rw [hr2]))
      go_meet
      exact ⟨rfl, hS5.tail⟩
    case rest =>
      obtain ⟨rfl, hS5⟩ := hcut
      clear hS2 hS3
      rw [← hN] at *
      have hc1 : wc.cell? ⟨g, 1, none⟩ = some (.int .i64 (ek : Int)) := hS5.cell 0 rfl 1
      have eF := fun w f a b => eq_fn w f a b
      have eN := fun w => eq_nilFn w
      have hcb : wc.cell? ⟨w.heap.size, 0, none⟩ = some (.pointer (some ⟨g, 0, none⟩)) := hS5.cell 2 rfl 0
      rcases hcase.out with ⟨rest, hrv, rfl, rfl, hrc⟩ | ⟨hrv, rfl⟩
      · have hlr := rv_len l tag rest hrv
        have hr' : RdH w0 M (.cells (w.heap.size + 1) #[.int .i64 0, .bool false, .int .u64 0, .slice none 0 0] 53 :: H) (.slice A1 rest.length a1) 1 rest.length (bvs rest) := fun w h => hrc w (hr w h.tail)
        by_cases h02 : (tag % 8 = 0 ∨ tag % 8 = 2) ∧ mayB (numF tag) = true
        · obtain ⟨h02, hm⟩ := h02
          have he0 : wc.cell? ⟨b4, 0, none⟩ = some (.int .i64 (numF tag : Int)) := hS5.cell 1 rfl 0
          by_cases h0 : tag % 8 = 0
          · rw [show takeV (tag % 8) w.heap.size b4 = .func (.func 31) #[] #[P0 w.heap.size, P0 b4] from by unfold takeV; rw [if_pos h0]]
            have C := hide (clo1_walk g w.heap.size b4 (numF tag) A1 a1 rest (by omega) hr' hS5)
            cases hv2 : rv rest with
            | ok n r =>
              rw [hv2] at C
              have FD := hide (fd_num l tag n rest r hrv h0 hm hv2)
              clear hr hr' hcase hS5 hrv hv2 hv hN h02
              unfold P0 at *
              go_wp2_with (first
                | (go_at_call 25; refine (may_any _ _).mono ?_; rintro e w' ⟨rfl, rfl⟩)
                | (go_at_call 31; refine C.out.mono ?_; rintro e w2 ⟨rfl, hw2, A2, a2, hS6, hr2⟩; have hf0 := hS6.free 3 rfl 0; have hf1 := hS6.free 3 rfl 1; have hf2 := hS6.free 3 rfl 2; have hf3 := hS6.free 3 rfl 3; have hd0 : w2.cell? ⟨w.heap.size + 1, 0, none⟩ = some (.int .i64 0) := hS6.cell 3 rfl 0; have hd1 : w2.cell? ⟨w.heap.size + 1, 1, none⟩ = some (.bool false) := hS6.cell 3 rfl 1; have hd2 : w2.cell? ⟨w.heap.size + 1, 2, none⟩ = some (.int .u64 0) := hS6.cell 3 rfl 2; have hd3 : w2.cell? ⟨w.heap.size + 1, 3, none⟩ = some (.slice none 0 0) := hS6.cell 3 rfl 3; have he0 : w2.cell? ⟨b4, 0, none⟩ = some (.int .i64 (numF tag : Int)) := hS6.cell 1 rfl 0; have he1 : w2.cell? ⟨b4, 1, none⟩ = some (.bool false) := hS6.cell 1 rfl 1; have he2 : w2.cell? ⟨b4, 2, none⟩ = some (.int .u64 (n : Int)) := hS6.cell 1 rfl 2; have he3 : w2.cell? ⟨b4, 3, none⟩ = some (.slice none 0 0) := hS6.cell 1 rfl 3))
              have hS8 := ((((hS6.setCell 3 rfl 0 (.int .i64 (numF tag : Int))).setCell 3 rfl 1 (.bool false)).setCell 3 rfl 2 (.int .u64 (n : Int))).setCell 3 rfl 3 (.slice none 0 0))
              refine bodyPost_ret (results_cell_row rfl _ _ (w.heap.size + 1) _ _ _ _ rfl (hS8.heap 3 rfl) Try.underlying53 rfl (by kernel_rfl)) rfl ?_
              rw [FD.out]
              have hS7 := hS8.swap.tail.swap.tail.swap.tail
              exact ⟨none, 0, rfl, A2, a2, (hS7.row (Below.refl _ _) (World.ownsRow_nil _ _ _ _)).swap, hrc.trans hr2⟩
            | bad k =>
              rw [hv2] at C
              have FD := hide (fd_numBad l tag k rest hrv h0 hm hv2)
              clear hr hr' hcase hS5 hrv hv2 hv hN h02
              unfold P0 at *
              go_wp2_with (first
                | (go_at_call 25; refine (may_any _ _).mono ?_; rintro e w' ⟨rfl, rfl⟩)
                | (go_at_call 31; refine C.out.mono ?_; rintro e w2 ⟨rfl, hS6⟩; have hf0 := hS6.free 3 rfl 0; have hf1 := hS6.free 3 rfl 1; have hf2 := hS6.free 3 rfl 2; have hf3 := hS6.free 3 rfl 3; have hd0 : w2.cell? ⟨w.heap.size + 1, 0, none⟩ = some (.int .i64 0) := hS6.cell 3 rfl 0; have hd1 : w2.cell? ⟨w.heap.size + 1, 1, none⟩ = some (.bool false) := hS6.cell 3 rfl 1; have hd2 : w2.cell? ⟨w.heap.size + 1, 2, none⟩ = some (.int .u64 0) := hS6.cell 3 rfl 2; have hd3 : w2.cell? ⟨w.heap.size + 1, 3, none⟩ = some (.slice none 0 0) := hS6.cell 3 rfl 3; have he0 : w2.cell? ⟨b4, 0, none⟩ = some (.int .i64 (numF tag : Int)) := hS6.cell 1 rfl 0; have he1 : w2.cell? ⟨b4, 1, none⟩ = some (.bool false) := hS6.cell 1 rfl 1; have he2 : w2.cell? ⟨b4, 2, none⟩ = some (.int .u64 0) := hS6.cell 1 rfl 2; have he3 : w2.cell? ⟨b4, 3, none⟩ = some (.slice none 0 0) := hS6.cell 1 rfl 3))
              have hS8 := ((((hS6.setCell 3 rfl 0 (.int .i64 (numF tag : Int))).setCell 3 rfl 1 (.bool false)).setCell 3 rfl 2 (.int .u64 0)).setCell 3 rfl 3 (.slice none 0 0))
              refine bodyPost_ret (results_cell_row rfl _ _ (w.heap.size + 1) _ _ _ _ rfl (hS8.heap 3 rfl) Try.underlying53 rfl (by kernel_rfl)) rfl ?_
              rw [FD.out]
              have hS7 := hS8.swap.tail.swap.tail.swap.tail
              exact ⟨_, _, _, _, _, _, rfl, _, _, _, hS7⟩
          · have h2 : tag % 8 = 2 := by omega
            rw [show takeV (tag % 8) w.heap.size b4 = .func (.func 32) #[] #[P0 w.heap.size, P0 b4] from by unfold takeV; rw [if_neg h0, if_pos h2]]
            have C := hide (clo2_walk g w.heap.size b4 (numF tag) A1 a1 rest (by omega) hr' hS5)
            cases hv2 : rw_ rest with
            | ok b r =>
              rw [hv2] at C
              have FD := hide (fd_raw l tag rest b r hrv h2 hm hv2)
              clear hr hr' hcase hS5 hrv hv2 hv hN h02
              unfold P0 at *
              go_wp2_with (first
                | (go_at_call 25; refine (may_any _ _).mono ?_; rintro e w' ⟨rfl, rfl⟩)
                | (go_at_call 32; refine C.out.mono ?_; rintro e w2 ⟨rfl, B, d, A2, a2, hS6, hr2⟩; have hf0 := hS6.free 4 rfl 0; have hf1 := hS6.free 4 rfl 1; have hf2 := hS6.free 4 rfl 2; have hf3 := hS6.free 4 rfl 3; have hd0 : w2.cell? ⟨w.heap.size + 1, 0, none⟩ = some (.int .i64 0) := hS6.cell 4 rfl 0; have hd1 : w2.cell? ⟨w.heap.size + 1, 1, none⟩ = some (.bool false) := hS6.cell 4 rfl 1; have hd2 : w2.cell? ⟨w.heap.size + 1, 2, none⟩ = some (.int .u64 0) := hS6.cell 4 rfl 2; have hd3 : w2.cell? ⟨w.heap.size + 1, 3, none⟩ = some (.slice none 0 0) := hS6.cell 4 rfl 3; have he0 : w2.cell? ⟨b4, 0, none⟩ = some (.int .i64 (numF tag : Int)) := hS6.cell 2 rfl 0; have he1 : w2.cell? ⟨b4, 1, none⟩ = some (.bool true) := hS6.cell 2 rfl 1; have he2 : w2.cell? ⟨b4, 2, none⟩ = some (.int .u64 0) := hS6.cell 2 rfl 2; have he3 : w2.cell? ⟨b4, 3, none⟩ = some (.slice B b.length d) := hS6.cell 2 rfl 3))
              have hS8 := ((((hS6.setCell 4 rfl 0 (.int .i64 (numF tag : Int))).setCell 4 rfl 1 (.bool true)).setCell 4 rfl 2 (.int .u64 0)).setCell 4 rfl 3 (.slice B b.length d))
              refine bodyPost_ret (results_cell_row rfl _ _ (w.heap.size + 1) _ _ _ _ rfl (hS8.heap 4 rfl) Try.underlying53 rfl (by kernel_rfl)) rfl ?_
              rw [FD.out]
              have hS7 := hS8.mid2.mid2.mid2
              exact ⟨B, d, rfl, A2, a2, hS7, hrc.trans hr2⟩
            | bad k =>
              rw [hv2] at C
              have FD := hide (fd_rawBad l tag k rest hrv h2 hm hv2)
              clear hr hr' hcase hS5 hrv hv2 hv hN h02
              unfold P0 at *
              go_wp2_with (first
                | (go_at_call 25; refine (may_any _ _).mono ?_; rintro e w' ⟨rfl, rfl⟩)
                | (go_at_call 32; refine C.out.mono ?_; rintro e w2 ⟨rfl, A2, n2, a2, hS6⟩; have hf0 := hS6.free 3 rfl 0; have hf1 := hS6.free 3 rfl 1; have hf2 := hS6.free 3 rfl 2; have hf3 := hS6.free 3 rfl 3; have hd0 : w2.cell? ⟨w.heap.size + 1, 0, none⟩ = some (.int .i64 0) := hS6.cell 3 rfl 0; have hd1 : w2.cell? ⟨w.heap.size + 1, 1, none⟩ = some (.bool false) := hS6.cell 3 rfl 1; have hd2 : w2.cell? ⟨w.heap.size + 1, 2, none⟩ = some (.int .u64 0) := hS6.cell 3 rfl 2; have hd3 : w2.cell? ⟨w.heap.size + 1, 3, none⟩ = some (.slice none 0 0) := hS6.cell 3 rfl 3; have he0 : w2.cell? ⟨b4, 0, none⟩ = some (.int .i64 (numF tag : Int)) := hS6.cell 1 rfl 0; have he1 : w2.cell? ⟨b4, 1, none⟩ = some (.bool true) := hS6.cell 1 rfl 1; have he2 : w2.cell? ⟨b4, 2, none⟩ = some (.int .u64 0) := hS6.cell 1 rfl 2; have he3 : w2.cell? ⟨b4, 3, none⟩ = some (.slice none 0 0) := hS6.cell 1 rfl 3))
              have hS8 := ((((hS6.setCell 3 rfl 0 (.int .i64 (numF tag : Int))).setCell 3 rfl 1 (.bool true)).setCell 3 rfl 2 (.int .u64 0)).setCell 3 rfl 3 (.slice none 0 0))
              refine bodyPost_ret (results_cell_row rfl _ _ (w.heap.size + 1) _ _ _ _ rfl (hS8.heap 3 rfl) Try.underlying53 rfl (by kernel_rfl)) rfl ?_
              rw [FD.out]
              have hS7 := hS8.swap.tail.swap.tail.swap.tail
              exact ⟨_, _, _, _, _, _, rfl, _, _, _, hS7⟩
        · have FD := hide (fd_no l tag rest hrv h02)
          have hf0 := hS5.free 3 rfl 0
          have hf1 := hS5.free 3 rfl 1
          have hf2 := hS5.free 3 rfl 2
          have hf3 := hS5.free 3 rfl 3
          have hd0 : wc.cell? ⟨w.heap.size + 1, 0, none⟩ = some (.int .i64 0) := hS5.cell 3 rfl 0
          have hd1 : wc.cell? ⟨w.heap.size + 1, 1, none⟩ = some (.bool false) := hS5.cell 3 rfl 1
          have hd2 : wc.cell? ⟨w.heap.size + 1, 2, none⟩ = some (.int .u64 0) := hS5.cell 3 rfl 2
          have hd3 : wc.cell? ⟨w.heap.size + 1, 3, none⟩ = some (.slice none 0 0) := hS5.cell 3 rfl 3
          have he0 : wc.cell? ⟨b4, 0, none⟩ = some (.int .i64 (numF tag : Int)) := hS5.cell 1 rfl 0
          have he1 : wc.cell? ⟨b4, 1, none⟩ = some (.bool false) := hS5.cell 1 rfl 1
          have he2 : wc.cell? ⟨b4, 2, none⟩ = some (.int .u64 0) := hS5.cell 1 rfl 2
          have he3 : wc.cell? ⟨b4, 3, none⟩ = some (.slice none 0 0) := hS5.cell 1 rfl 3
          have hg1 := hS5.free 0 rfl 1
          have hx1 := hS5.ne 0 1 (by decide) rfl rfl
          have hx2 := hS5.ne 1 0 (by decide) rfl rfl
          have hx3 := hS5.ne 0 3 (by decide) rfl rfl
          have hx4 := hS5.ne 3 0 (by decide) rfl rfl
          clear hr hr' hcase hrv hv hN
          cases hm : mayB (numF tag)
          · by_cases h0 : tag % 8 = 0
            · rw [show takeV (tag % 8) w.heap.size b4 = .func (.func 31) #[] #[P0 w.heap.size, P0 b4] from by unfold takeV; rw [if_pos h0]]
              unfold P0 at *
              go_wp2_with (go_at_call 25; refine (may_any _ _).mono ?_; rintro e w' ⟨rfl, rfl⟩)
              have hS8 := (((((hS5.setCell 0 rfl 1 (.int .i64 3)).setCell 3 rfl 0 (.int .i64 (numF tag : Int))).setCell 3 rfl 1 (.bool false)).setCell 3 rfl 2 (.int .u64 0)).setCell 3 rfl 3 (.slice none 0 0))
              refine bodyPost_ret (results_cell_row rfl _ _ (w.heap.size + 1) _ _ _ _ rfl (hS8.heap 3 rfl) Try.underlying53 rfl (by kernel_rfl)) rfl ?_
              rw [FD.out]
              exact ⟨_, _, _, _, _, _, rfl, _, _, _, hS8.swap.tail.swap.tail.swap.tail⟩
            · by_cases h2 : tag % 8 = 2
              · rw [show takeV (tag % 8) w.heap.size b4 = .func (.func 32) #[] #[P0 w.heap.size, P0 b4] from by unfold takeV; rw [if_neg h0, if_pos h2]]
                unfold P0 at *
                go_wp2_with (go_at_call 25; refine (may_any _ _).mono ?_; rintro e w' ⟨rfl, rfl⟩)
                have hS8 := (((((hS5.setCell 0 rfl 1 (.int .i64 3)).setCell 3 rfl 0 (.int .i64 (numF tag : Int))).setCell 3 rfl 1 (.bool false)).setCell 3 rfl 2 (.int .u64 0)).setCell 3 rfl 3 (.slice none 0 0))
                refine bodyPost_ret (results_cell_row rfl _ _ (w.heap.size + 1) _ _ _ _ rfl (hS8.heap 3 rfl) Try.underlying53 rfl (by kernel_rfl)) rfl ?_
                rw [FD.out]
                exact ⟨_, _, _, _, _, _, rfl, _, _, _, hS8.swap.tail.swap.tail.swap.tail⟩
              · rw [show takeV (tag % 8) w.heap.size b4 = .nilFunc from by unfold takeV; rw [if_neg h0, if_neg h2]]
                go_wp2_with fail
                have hS8 := (((((hS5.setCell 0 rfl 1 (.int .i64 3)).setCell 3 rfl 0 (.int .i64 (numF tag : Int))).setCell 3 rfl 1 (.bool false)).setCell 3 rfl 2 (.int .u64 0)).setCell 3 rfl 3 (.slice none 0 0))
                refine bodyPost_ret (results_cell_row rfl _ _ (w.heap.size + 1) _ _ _ _ rfl (hS8.heap 3 rfl) Try.underlying53 rfl (by kernel_rfl)) rfl ?_
                rw [FD.out]
                exact ⟨_, _, _, _, _, _, rfl, _, _, _, hS8.swap.tail.swap.tail.swap.tail⟩
          · have h0 : ¬ tag % 8 = 0 := fun h => h02 ⟨.inl h, hm⟩
            have h2 : ¬ tag % 8 = 2 := fun h => h02 ⟨.inr h, hm⟩
            rw [show takeV (tag % 8) w.heap.size b4 = .nilFunc from by unfold takeV; rw [if_neg h0, if_neg h2]]
            go_wp2_with fail
            have hS8 := (((((hS5.setCell 0 rfl 1 (.int .i64 3)).setCell 3 rfl 0 (.int .i64 (numF tag : Int))).setCell 3 rfl 1 (.bool false)).setCell 3 rfl 2 (.int .u64 0)).setCell 3 rfl 3 (.slice none 0 0))
            refine bodyPost_ret (results_cell_row rfl _ _ (w.heap.size + 1) _ _ _ _ rfl (hS8.heap 3 rfl) Try.underlying53 rfl (by kernel_rfl)) rfl ?_
            rw [FD.out]
            exact ⟨_, _, _, _, _, _, rfl, _, _, _, hS8.swap.tail.swap.tail.swap.tail⟩
      · have hk := rv_bads l ek hrv
        have hk2 : ((ek : Int) != 0) = true := by rcases hk with rfl | rfl <;> rfl
        have hf0 := hS5.free 3 rfl 0
        have hf1 := hS5.free 3 rfl 1
        have hf2 := hS5.free 3 rfl 2
        have hf3 := hS5.free 3 rfl 3
        have hd0 : wc.cell? ⟨w.heap.size + 1, 0, none⟩ = some (.int .i64 0) := hS5.cell 3 rfl 0
        have hd1 : wc.cell? ⟨w.heap.size + 1, 1, none⟩ = some (.bool false) := hS5.cell 3 rfl 1
        have hd2 : wc.cell? ⟨w.heap.size + 1, 2, none⟩ = some (.int .u64 0) := hS5.cell 3 rfl 2
        have hd3 : wc.cell? ⟨w.heap.size + 1, 3, none⟩ = some (.slice none 0 0) := hS5.cell 3 rfl 3
        have he0 : wc.cell? ⟨b4, 0, none⟩ = some (.int .i64 (numF 0 : Int)) := hS5.cell 1 rfl 0
        have he1 : wc.cell? ⟨b4, 1, none⟩ = some (.bool false) := hS5.cell 1 rfl 1
        have he2 : wc.cell? ⟨b4, 2, none⟩ = some (.int .u64 0) := hS5.cell 1 rfl 2
        have he3 : wc.cell? ⟨b4, 3, none⟩ = some (.slice none 0 0) := hS5.cell 1 rfl 3
        go_wp2_with fail
        have hS8 := ((((hS5.setCell 3 rfl 0 (.int .i64 (numF 0 : Int))).setCell 3 rfl 1 (.bool false)).setCell 3 rfl 2 (.int .u64 0)).setCell 3 rfl 3 (.slice none 0 0))
        refine bodyPost_ret (results_cell_row rfl _ _ (w.heap.size + 1) _ _ _ _ rfl (hS8.heap 3 rfl) Try.underlying53 rfl (by kernel_rfl)) rfl ?_
        rw [fd_bad l ek hrv]
        exact ⟨_, _, _, _, _, _, rfl, _, _, _, hS8.swap.tail.swap.tail.swap.tail⟩
end Go.Proofs.Ytcfonifaijeecaa
