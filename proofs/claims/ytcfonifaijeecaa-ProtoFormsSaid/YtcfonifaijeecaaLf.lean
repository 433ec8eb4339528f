/-
  The walk of 'ProtoForms'.
-/
import Derived.Test.YtcfonifaijeecaaPw6
import Derived.Test.YtcfonifaijeecaaReg
namespace Go.Proofs.Ytcfonifaijeecaa
open Go.RowKit

theorem enBytes (args : Array Value) (w : World) : (callFunc 15 args).run Try.prog w = .ok (.enter 15 args) w := by kernel_rfl
theorem enRvarint (args : Array Value) (w : World) : (callFunc 17 args).run Try.prog w = .ok (.enter 17 args) w := by kernel_rfl
theorem enZig (args : Array Value) (w : World) : (callFunc 18 args).run Try.prog w = .ok (.enter 18 args) w := by kernel_rfl
theorem enRzig (args : Array Value) (w : World) : (callFunc 19 args).run Try.prog w = .ok (.enter 19 args) w := by kernel_rfl
theorem enZag (args : Array Value) (w : World) : (callFunc 20 args).run Try.prog w = .ok (.enter 20 args) w := by kernel_rfl
theorem enRzag (args : Array Value) (w : World) : (callFunc 21 args).run Try.prog w = .ok (.enter 21 args) w := by kernel_rfl
theorem enAwake (args : Array Value) (w : World) : (callFunc 10 args).run Try.prog w = .ok (.enter 10 args) w := by kernel_rfl

/-- What the walk asks of the world behind some rounds. -/
def FormsRel (w : World) (gm : Nat) (l : List UInt8) (v : Value) (wr : World) : Prop := ∃ vm, St w NoB wr (.row v 5 1 l.length (bvs l) :: MsgC gm vm l [])

set_option maxRecDepth 100000 in
set_option maxHeartbeats 1600000 in
theorem forms_walk (v : Value) (ps : List PutV) (n : Nat) (w : World) (hn : W64 n) (h : PutsAt w v ps) : Calls Try.prog 3 #[v, .int .u64 n] w fun e w' => e = .returned (.bool true) ∧ Below w.heap.size w w' := by
  have FEW := few_any v ps w h
  obtain ⟨hr, he⟩ := h
  cases hf : fewB ps
  · rw [hf] at FEW
    have FF := hide FEW
    clear FEW hn hr he hf
    go_enter Try.func3, Try.ntmps3
    go_wp2_with (first
      | (go_at_call 9; refine FF.out.mono ?_; rintro e w1 ⟨rfl, hb1⟩)
      | (go_at_call 10; refine (awake_any _).mono ?_; rintro e w2 ⟨rfl, hb2⟩))
    go_ret
    exact ⟨rfl, hb1.trans (hb2.mono hb1.size)⟩
  · have hlen : ps.length ≤ 60 ∧ lens ps ≤ 4000 := by
      unfold fewB at hf
      simpa using hf
    obtain ⟨hl1, hl2⟩ := hlen
    rw [hf] at FEW
    have FF := hide FEW
    have HN := hide hn
    have HE := hide he
    have HR := hide hr
    clear FEW hn he hf
    obtain ⟨A, c, rfl, h1, h2, h3, h4, h5⟩ := hr
    unfold maxLen at h3
    clear h1 h4 h5
    go_enter Try.func3, Try.ntmps3
    go_wp2_with (go_at_call 9; refine FF.out.mono ?_; rintro e w1 ⟨rfl, hb1⟩)
    have hS0 : St w NoB (w1.alloc (.cells #[.slice none 0 0] 29)) (.row (.slice none 0 0) 5 1 0 [] :: MsgC w1.heap.size (.slice none 0 0) [] []) := by
      have hh := ((((St.init w NoB).call hb1).alloc #[.slice none 0 0] 29).row (Below.refl _ _) (World.ownsRow_nil _ _ 5 1)).row (Below.refl _ _) (World.ownsRow_nil _ _ 5 1)
      exact hh.pickL [0, 2, 1] (by decide) rfl
    go_loopw [6, 17] (fun v i wr => ∃ (k : Nat) (l : List UInt8) (B : Option Addr) (d : Nat), k ≤ ps.length ∧ i = .int .i64 k ∧ v = .slice B l.length d ∧ l = putAll (ps.take k) ∧ FormsRel w w1.heap.size l v wr) (fun _ i _ => ps.length - (intOf i).toNat)
    case atStart => exact ⟨0, [], none, 0, by omega, rfl, rfl, rfl, .slice none 0 0, hS0⟩
    case round =>
      obtain ⟨k, l, B, d, hk, rfl, rfl, hl, vm, hS⟩ := hrel
      clear hS0
      by_cases hlt : k < ps.length
      · obtain ⟨p, hp⟩ : ∃ p, ps[k]? = some p := ⟨ps[k], List.getElem?_eq_getElem hlt⟩
        have hpm := List.mem_of_getElem? hp
        obtain ⟨e1, e2, e3, e4⟩ := HE.out p hpm
        rcases HR.out.cases with ⟨h0, hn0, _⟩ | ⟨b, o, sp, c', hA, hb, _, _, _, hsp, hc⟩
        · omega
        injection hA with hA _ hc'
        subst hA hc'
        obtain rfl : sp = none := hsp (by omega)
        replace hb := hb (by omega)
        have hcell : ∀ j u, j < 4 → p.cells[j]? = some u → wr.cell? ⟨b, o + k * 4 + j, none⟩ = some u := fun j u hj hu => by
          rw [hS.below.cell (p := ⟨b, o + k * 4 + j, none⟩) hb, Nat.add_assoc]
          exact hc _ u (by rw [cellsP_get ps k j p hp hj]; exact hu)
        have c0 : wr.cell? ⟨b, o + k * 4, none⟩ = some (.int .i64 p.num) := hcell 0 _ (by omega) rfl
        have c1 : wr.cell? ⟨b, o + k * 4 + 1, none⟩ = some (.bool p.whole) := hcell 1 _ (by omega) rfl
        have c2 : wr.cell? ⟨b, o + k * 4 + 2, none⟩ = some (.int .u64 p.n) := hcell 2 _ (by omega) rfl
        have c3 : wr.cell? ⟨b, o + k * 4 + 3, none⟩ = some (.slice p.A p.b.length p.c) := hcell 3 _ (by omega) rfl
        have hpl : p.b.length ≤ 4000 := by
          have := lens_take ps k p hp
          have := lens_le ps (k + 1)
          omega
        have hll : l.length ≤ 6000 := by
          have a1 := putAll_len (ps.take k)
          have a2 := lens_le ps k
          rw [List.length_take] at a1
          rw [hl]
          omega
        have HL := hide (show l ++ putP p = putAll (ps.take (k + 1)) by rw [putAll_take ps k p hp, hl])
        have hPP := putP_len p
        have hS1 : St w NoB (wr.alloc (.cells #[.int .i64 p.num, .bool p.whole, .int .u64 p.n, .slice p.A p.b.length p.c] 31)) (MsgC w1.heap.size vm l [.cells wr.heap.size #[.int .i64 p.num, .bool p.whole, .int .u64 p.n, .slice p.A p.b.length p.c] 31, .row (.slice B l.length d) 5 1 l.length (bvs l)]) := by
          have hh := hS.alloc #[.int .i64 p.num, .bool p.whole, .int .u64 p.n, .slice p.A p.b.length p.c] 31
          exact hh.pickL [2, 3, 0, 1] (by decide) rfl
        have HS1 := hide hS1
        have E1 := hide e1
        have E2 := hide e2
        clear hS hS1 hl hp hcell hc e1 e2 e3 e4 hpm hsp
        cases hw : p.whole
        · rw [hw] at c1 HS1
          rw [putP_num p hw] at HL hPP
          clear hw
          go_wp2_with (first
            | (go_at_call 13; refine (int_any _ vm l p.num p.n E2.out (by omega) HS1.out).mono ?_; rintro e w2 ⟨rfl, v2, hS2⟩; have d0 : w2.cell? ⟨wr.heap.size, 0, none⟩ = some (.int .i64 p.num) := hS2.cell 2 rfl 0; have d3 : w2.cell? ⟨wr.heap.size, 2, none⟩ = some (.int .u64 p.n) := hS2.cell 2 rfl 2)
            | (go_at_call 14; refine (rint_any p.num p.n _ E2.out).mono ?_; rintro e w3 ⟨B3, d3', rfl, hb3, ho3⟩; have hS3 := hS2.row hb3 ho3)
            | (at_builtin; refine wl_append rfl rfl tyB hS3 4 rfl rfl rfl (hS3.rd 0 rfl) (one_bvs _) (by omega) (by decide) ?_; intro B4 d4 w4 hS4))
          go_roundw
          case rel =>
            refine ⟨k + 1, l ++ putI p.num p.n, B4, d4, by omega, by go_num, by rw [List.length_append], HL.out, v2, ?_⟩
            unfold MsgC at hS4 ⊢
            simp only [List.length_append, bvs_append] at hS4 ⊢
            exact hS4.pickL [4, 1, 2] (by decide) rfl
          case measure => simp [intOf]; omega
        · rw [hw] at c1 HS1
          rw [putP_whole p hw] at HL hPP
          clear hw
          go_wp2_with (first
            | (go_at_call 11; refine (raw_any _ vm l p.num p.A p.c p.b (by omega) (by omega) E1.out.rdH HS1.out).mono ?_; rintro e w2 ⟨rfl, v2, hS2⟩; have d0 : w2.cell? ⟨wr.heap.size, 0, none⟩ = some (.int .i64 p.num) := hS2.cell 2 rfl 0; have d3 : w2.cell? ⟨wr.heap.size, 3, none⟩ = some (.slice p.A p.b.length p.c) := hS2.cell 2 rfl 3)
            | (go_at_call 12; refine (rraw_any p.num p.A p.c p.b _ (by omega) (E1.out.st hS2)).mono ?_; rintro e w3 ⟨B3, d3', rfl, hb3, ho3⟩; have hS3 := hS2.row hb3 ho3)
            | (at_builtin; refine wl_append rfl rfl tyB hS3 4 rfl rfl rfl (hS3.rd 0 rfl) (one_bvs _) (by omega) (by decide) ?_; intro B4 d4 w4 hS4))
          go_roundw
          case rel =>
            refine ⟨k + 1, l ++ putR p.num p.b, B4, d4, by omega, by go_num, by rw [List.length_append], HL.out, v2, ?_⟩
            unfold MsgC at hS4 ⊢
            simp only [List.length_append, bvs_append] at hS4 ⊢
            exact hS4.pickL [4, 1, 2] (by decide) rfl
          case measure => simp [intOf]; omega
      · have hll : l.length ≤ 6000 := by
          have a1 := putAll_len (ps.take k)
          have a2 := lens_le ps k
          rw [List.length_take] at a1
          rw [hl]
          omega
        clear hl
        have hk' : ¬ ((k : Int) < (ps.length : Int)) := by omega
        go_wp2_with fail
        have hW1 : I64 (IntKind.i64.wrap n) := by rw [IntKind.wrap_i64]; unfold I64; omega
        have hS' := hS.drew
        have HL := hide hll
        have HW := hide hW1
        have hcm : wr.drew.cell? ⟨w1.heap.size, 0, none⟩ = some vm := hS'.cell 1 rfl 0
        have hrm := hide (hS'.rd 2 rfl)
        have hrw := hide (hS'.rd 0 rfl)
        have cvw : ∀ x, From wr.drew x → (convert 27 9 (.slice B l.length d)).run Try.prog x = .ok (.string (strOf l)) x := fun x hx => run_str Try.underlying27 Try.underlying5 Try.underlying9 (hrw.out.below hx)
        clear hll hW1 hS
        refine wp_region_G (From wr.drew) (by kernel_rfl) ?_
        (refine wpG_take (i := 0) (v := ?_) rfl (by kernel_rfl) (by kernel_rfl) (by kernel_rfl) (fun _ _ _ h => h) (From.refl _) (Or.inl ⟨by rfl, ?_⟩) ?_; rotate_left; (intro wx hx; go_simp) <;> (with_reducible rfl); (try simp only [Act.put, List.setIfInBounds_toArray, List.set_cons_zero, List.set_cons_succ, List.getElem_toArray, List.getElem_cons_succ, List.getElem_cons_zero])); (refine wpG_take (i := 3) (v := ?_) rfl (by kernel_rfl) (by kernel_rfl) (by kernel_rfl) (fun _ _ _ h => h) (From.refl _) (Or.inl ⟨by rfl, ?_⟩) ?_; rotate_left; (intro wx hx; go_simp) <;> (with_reducible rfl); (try simp only [Act.put, List.setIfInBounds_toArray, List.set_cons_zero, List.set_cons_succ, List.getElem_toArray, List.getElem_cons_succ, List.getElem_cons_zero])); (refine wpG_take (i := 4) (v := ?_) rfl (by kernel_rfl) (by kernel_rfl) (by kernel_rfl) (fun _ _ _ h => h) (From.refl _) (Or.inl ⟨by rfl, ?_⟩) ?_; rotate_left; (intro wx hx; go_simp) <;> (with_reducible rfl); (try simp only [Act.put, List.setIfInBounds_toArray, List.set_cons_zero, List.set_cons_succ, List.getElem_toArray, List.getElem_cons_succ, List.getElem_cons_zero]))
        (refine wpG_one (i := 1) (by kernel_rfl) rfl ?_; intro K hK; (try simp only [Act.put, List.setIfInBounds_toArray, List.set_cons_zero, List.set_cons_succ, List.getElem_toArray, List.getElem_cons_succ, List.getElem_cons_zero]))
        refine step_call rfl rfl enBytes rfl (bytes_any _ vm l (by have := HL.out; omega) hcm hrm.out) ?_
        rintro e w2 ⟨A2, c2, rfl, hb2, ho2⟩
        refine ⟨_, rfl, hK (From w2) _ _ (From.next hb2) (From.refl _) ?_⟩
        clear hK K
        (try simp only [Act.put, List.setIfInBounds_toArray, List.set_cons_zero, List.set_cons_succ, List.getElem_toArray, List.getElem_cons_succ, List.getElem_cons_zero])
        have cv2 : ∀ x, From w2 x → (convert 27 9 (.slice A2 l.length c2)).run Try.prog x = .ok (.string (strOf l)) x := fun x hx => run_str Try.underlying27 Try.underlying5 Try.underlying9 ((rd_own ho2).below hx)
        (refine wpG_take (i := 2) (v := ?_) rfl (by kernel_rfl) (by kernel_rfl) (by kernel_rfl) (fun _ _ _ h => h) (From.refl _) (Or.inl ⟨by rfl, ?_⟩) ?_; rotate_left; (intro wx hx; go_simp) <;> (with_reducible rfl); (try simp only [Act.put, List.setIfInBounds_toArray, List.set_cons_zero, List.set_cons_succ, List.getElem_toArray, List.getElem_cons_succ, List.getElem_cons_zero])); (refine wpG_take (i := 5) (v := ?_) rfl (by kernel_rfl) (by kernel_rfl) (by kernel_rfl) (fun _ _ _ h => h) (From.refl _) (Or.inl ⟨by rfl, ?_⟩) ?_; rotate_left; (intro wx hx; go_simp) <;> (with_reducible rfl); (try simp only [Act.put, List.setIfInBounds_toArray, List.set_cons_zero, List.set_cons_succ, List.getElem_toArray, List.getElem_cons_succ, List.getElem_cons_zero])); (refine wpG_take (i := 6) (v := ?_) rfl (by kernel_rfl) (by kernel_rfl) (by kernel_rfl) (fun _ _ _ h => h) (From.refl _) (Or.inl ⟨by rfl, ?_⟩) ?_; rotate_left; (intro wx hx; go_simp) <;> (with_reducible rfl); (try simp only [Act.put, List.setIfInBounds_toArray, List.set_cons_zero, List.set_cons_succ, List.getElem_toArray, List.getElem_cons_succ, List.getElem_cons_zero])); (refine wpG_take (i := 7) (v := ?_) rfl (by kernel_rfl) (by kernel_rfl) (by kernel_rfl) (fun _ _ _ h => h) (From.refl _) (Or.inl ⟨by rfl, ?_⟩) ?_; rotate_left; (intro wx hx; go_simp) <;> (with_reducible rfl); (try simp only [Act.put, List.setIfInBounds_toArray, List.set_cons_zero, List.set_cons_succ, List.getElem_toArray, List.getElem_cons_succ, List.getElem_cons_zero])); (refine wpG_take (i := 10) (v := ?_) rfl (by kernel_rfl) (by kernel_rfl) (by kernel_rfl) (fun _ _ _ h => h) (From.refl _) (Or.inl ⟨by rfl, ?_⟩) ?_; rotate_left; (intro wx hx; go_simp) <;> (with_reducible rfl); (try simp only [Act.put, List.setIfInBounds_toArray, List.set_cons_zero, List.set_cons_succ, List.getElem_toArray, List.getElem_cons_succ, List.getElem_cons_zero]))
        (refine wpG_one (i := 8) (by kernel_rfl) rfl ?_; intro K hK; (try simp only [Act.put, List.setIfInBounds_toArray, List.set_cons_zero, List.set_cons_succ, List.getElem_toArray, List.getElem_cons_succ, List.getElem_cons_zero]))
        refine step_call rfl rfl enVarint rfl (varint_any n _ HN.out) ?_
        rintro e w3 ⟨A3, c3, rfl, hb3, ho3⟩
        refine ⟨_, rfl, hK (From w3) _ _ (From.next hb3) (From.refl _) ?_⟩
        clear hK K cv2
        (try simp only [Act.put, List.setIfInBounds_toArray, List.set_cons_zero, List.set_cons_succ, List.getElem_toArray, List.getElem_cons_succ, List.getElem_cons_zero])
        have cv3 : ∀ x, From w3 x → (convert 27 9 (.slice A3 (vb n).length c3)).run Try.prog x = .ok (.string (strOf (vb n))) x := fun x hx => run_str Try.underlying27 Try.underlying5 Try.underlying9 ((rd_own ho3).below hx)
        (refine wpG_take (i := 9) (v := ?_) rfl (by kernel_rfl) (by kernel_rfl) (by kernel_rfl) (fun _ _ _ h => h) (From.refl _) (Or.inl ⟨by rfl, ?_⟩) ?_; rotate_left; (intro wx hx; go_simp) <;> (with_reducible rfl); (try simp only [Act.put, List.setIfInBounds_toArray, List.set_cons_zero, List.set_cons_succ, List.getElem_toArray, List.getElem_cons_succ, List.getElem_cons_zero]))
        (refine wpG_one (i := 11) (by kernel_rfl) rfl ?_; intro K hK; (try simp only [Act.put, List.setIfInBounds_toArray, List.set_cons_zero, List.set_cons_succ, List.getElem_toArray, List.getElem_cons_succ, List.getElem_cons_zero]))
        refine step_call rfl rfl enRvarint rfl (rvarint_any n _ HN.out) ?_
        rintro e w4 ⟨A4, c4, rfl, hb4, ho4⟩
        refine ⟨_, rfl, hK (From w4) _ _ (From.next hb4) (From.refl _) ?_⟩
        clear hK K cv3
        (try simp only [Act.put, List.setIfInBounds_toArray, List.set_cons_zero, List.set_cons_succ, List.getElem_toArray, List.getElem_cons_succ, List.getElem_cons_zero])
        have cv4 : ∀ x, From w4 x → (convert 27 9 (.slice A4 (vb n).length c4)).run Try.prog x = .ok (.string (strOf (vb n))) x := fun x hx => run_str Try.underlying27 Try.underlying5 Try.underlying9 ((rd_own ho4).below hx)
        (refine wpG_take (i := 12) (v := ?_) rfl (by kernel_rfl) (by kernel_rfl) (by kernel_rfl) (fun _ _ _ h => h) (From.refl _) (Or.inl ⟨by rfl, ?_⟩) ?_; rotate_left; (intro wx hx; go_simp) <;> (with_reducible rfl); (try simp only [Act.put, List.setIfInBounds_toArray, List.set_cons_zero, List.set_cons_succ, List.getElem_toArray, List.getElem_cons_succ, List.getElem_cons_zero])); (refine wpG_take (i := 13) (v := ?_) rfl (by kernel_rfl) (by kernel_rfl) (by kernel_rfl) (fun _ _ _ h => h) (From.refl _) (Or.inl ⟨by rfl, ?_⟩) ?_; rotate_left; (intro wx hx; go_simp) <;> (with_reducible rfl); (try simp only [Act.put, List.setIfInBounds_toArray, List.set_cons_zero, List.set_cons_succ, List.getElem_toArray, List.getElem_cons_succ, List.getElem_cons_zero])); (refine wpG_take (i := 14) (v := ?_) rfl (by kernel_rfl) (by kernel_rfl) (by kernel_rfl) (fun _ _ _ h => h) (From.refl _) (Or.inl ⟨by rfl, ?_⟩) ?_; rotate_left; (intro wx hx; go_simp) <;> (with_reducible rfl); (try simp only [Act.put, List.setIfInBounds_toArray, List.set_cons_zero, List.set_cons_succ, List.getElem_toArray, List.getElem_cons_succ, List.getElem_cons_zero])); (refine wpG_take (i := 15) (v := ?_) rfl (by kernel_rfl) (by kernel_rfl) (by kernel_rfl) (fun _ _ _ h => h) (From.refl _) (Or.inl ⟨by rfl, ?_⟩) ?_; rotate_left; (intro wx hx; go_simp) <;> (with_reducible rfl); (try simp only [Act.put, List.setIfInBounds_toArray, List.set_cons_zero, List.set_cons_succ, List.getElem_toArray, List.getElem_cons_succ, List.getElem_cons_zero])); (refine wpG_take (i := 16) (v := ?_) rfl (by kernel_rfl) (by kernel_rfl) (by kernel_rfl) (fun _ _ _ h => h) (From.refl _) (Or.inl ⟨by rfl, ?_⟩) ?_; rotate_left; (intro wx hx; go_simp) <;> (with_reducible rfl); (try simp only [Act.put, List.setIfInBounds_toArray, List.set_cons_zero, List.set_cons_succ, List.getElem_toArray, List.getElem_cons_succ, List.getElem_cons_zero])); (refine wpG_take (i := 17) (v := ?_) rfl (by kernel_rfl) (by kernel_rfl) (by kernel_rfl) (fun _ _ _ h => h) (From.refl _) (Or.inl ⟨by rfl, ?_⟩) ?_; rotate_left; (intro wx hx; go_simp) <;> (with_reducible rfl); (try simp only [Act.put, List.setIfInBounds_toArray, List.set_cons_zero, List.set_cons_succ, List.getElem_toArray, List.getElem_cons_succ, List.getElem_cons_zero])); (refine wpG_take (i := 19) (v := ?_) rfl (by kernel_rfl) (by kernel_rfl) (by kernel_rfl) (fun _ _ _ h => h) (From.refl _) (Or.inl ⟨by rfl, ?_⟩) ?_; rotate_left; (intro wx hx; go_simp) <;> (with_reducible rfl); (try simp only [Act.put, List.setIfInBounds_toArray, List.set_cons_zero, List.set_cons_succ, List.getElem_toArray, List.getElem_cons_succ, List.getElem_cons_zero])); (refine wpG_take (i := 20) (v := ?_) rfl (by kernel_rfl) (by kernel_rfl) (by kernel_rfl) (fun _ _ _ h => h) (From.refl _) (Or.inl ⟨by rfl, ?_⟩) ?_; rotate_left; (intro wx hx; go_simp) <;> (with_reducible rfl); (try simp only [Act.put, List.setIfInBounds_toArray, List.set_cons_zero, List.set_cons_succ, List.getElem_toArray, List.getElem_cons_succ, List.getElem_cons_zero]))
        (refine wpG_one (i := 18) (by kernel_rfl) rfl ?_; intro K hK; (try simp only [Act.put, List.setIfInBounds_toArray, List.set_cons_zero, List.set_cons_succ, List.getElem_toArray, List.getElem_cons_succ, List.getElem_cons_zero]))
        refine step_call rfl rfl enZig rfl (zig_any _ _ HW.out) ?_
        rintro e w5 ⟨rfl, rfl⟩
        refine ⟨_, rfl, hK (From w4) _ _ (fun _ h => h) (From.refl _) ?_⟩
        clear hK K cv4
        (try simp only [Act.put, List.setIfInBounds_toArray, List.set_cons_zero, List.set_cons_succ, List.getElem_toArray, List.getElem_cons_succ, List.getElem_cons_zero])
        (refine wpG_one (i := 21) (by kernel_rfl) rfl ?_; intro K hK; (try simp only [Act.put, List.setIfInBounds_toArray, List.set_cons_zero, List.set_cons_succ, List.getElem_toArray, List.getElem_cons_succ, List.getElem_cons_zero]))
        refine step_call rfl rfl enRzig rfl (rzig_any _ _ HW.out) ?_
        rintro e w5 ⟨rfl, rfl⟩
        refine ⟨_, rfl, hK (From w4) _ _ (fun _ h => h) (From.refl _) ?_⟩
        clear hK K
        (try simp only [Act.put, List.setIfInBounds_toArray, List.set_cons_zero, List.set_cons_succ, List.getElem_toArray, List.getElem_cons_succ, List.getElem_cons_zero])
        (refine wpG_take (i := 22) (v := ?_) rfl (by kernel_rfl) (by kernel_rfl) (by kernel_rfl) (fun _ _ _ h => h) (From.refl _) (Or.inl ⟨by rfl, ?_⟩) ?_; rotate_left; (intro wx hx; go_simp) <;> (with_reducible rfl); (try simp only [Act.put, List.setIfInBounds_toArray, List.set_cons_zero, List.set_cons_succ, List.getElem_toArray, List.getElem_cons_succ, List.getElem_cons_zero])); (refine wpG_take (i := 23) (v := ?_) rfl (by kernel_rfl) (by kernel_rfl) (by kernel_rfl) (fun _ _ _ h => h) (From.refl _) (Or.inl ⟨by rfl, ?_⟩) ?_; rotate_left; (intro wx hx; go_simp) <;> (with_reducible rfl); (try simp only [Act.put, List.setIfInBounds_toArray, List.set_cons_zero, List.set_cons_succ, List.getElem_toArray, List.getElem_cons_succ, List.getElem_cons_zero])); (refine wpG_take (i := 24) (v := ?_) rfl (by kernel_rfl) (by kernel_rfl) (by kernel_rfl) (fun _ _ _ h => h) (From.refl _) (Or.inl ⟨by rfl, ?_⟩) ?_; rotate_left; (intro wx hx; go_simp) <;> (with_reducible rfl); (try simp only [Act.put, List.setIfInBounds_toArray, List.set_cons_zero, List.set_cons_succ, List.getElem_toArray, List.getElem_cons_succ, List.getElem_cons_zero])); (refine wpG_take (i := 25) (v := ?_) rfl (by kernel_rfl) (by kernel_rfl) (by kernel_rfl) (fun _ _ _ h => h) (From.refl _) (Or.inl ⟨by rfl, ?_⟩) ?_; rotate_left; (intro wx hx; go_simp) <;> (with_reducible rfl); (try simp only [Act.put, List.setIfInBounds_toArray, List.set_cons_zero, List.set_cons_succ, List.getElem_toArray, List.getElem_cons_succ, List.getElem_cons_zero])); (refine wpG_take (i := 27) (v := ?_) rfl (by kernel_rfl) (by kernel_rfl) (by kernel_rfl) (fun _ _ _ h => h) (From.refl _) (Or.inl ⟨by rfl, ?_⟩) ?_; rotate_left; (intro wx hx; go_simp) <;> (with_reducible rfl); (try simp only [Act.put, List.setIfInBounds_toArray, List.set_cons_zero, List.set_cons_succ, List.getElem_toArray, List.getElem_cons_succ, List.getElem_cons_zero]))
        (refine wpG_one (i := 26) (by kernel_rfl) rfl ?_; intro K hK; (try simp only [Act.put, List.setIfInBounds_toArray, List.set_cons_zero, List.set_cons_succ, List.getElem_toArray, List.getElem_cons_succ, List.getElem_cons_zero]))
        refine step_call rfl rfl enZag rfl (zag_any n _ HN.out) ?_
        rintro e w5 ⟨rfl, rfl⟩
        refine ⟨_, rfl, hK (From w4) _ _ (fun _ h => h) (From.refl _) ?_⟩
        clear hK K
        (try simp only [Act.put, List.setIfInBounds_toArray, List.set_cons_zero, List.set_cons_succ, List.getElem_toArray, List.getElem_cons_succ, List.getElem_cons_zero])
        (refine wpG_one (i := 28) (by kernel_rfl) rfl ?_; intro K hK; (try simp only [Act.put, List.setIfInBounds_toArray, List.set_cons_zero, List.set_cons_succ, List.getElem_toArray, List.getElem_cons_succ, List.getElem_cons_zero]))
        refine step_call rfl rfl enRzag rfl (rzag_any n _ HN.out) ?_
        rintro e w5 ⟨rfl, rfl⟩
        refine ⟨_, rfl, hK (From w4) _ _ (fun _ h => h) (From.refl _) ?_⟩
        clear hK K
        (try simp only [Act.put, List.setIfInBounds_toArray, List.set_cons_zero, List.set_cons_succ, List.getElem_toArray, List.getElem_cons_succ, List.getElem_cons_zero])
        (refine wpG_take (i := 29) (v := ?_) rfl (by kernel_rfl) (by kernel_rfl) (by kernel_rfl) (fun _ _ _ h => h) (From.refl _) (Or.inl ⟨by rfl, ?_⟩) ?_; rotate_left; (intro wx hx; go_simp) <;> (with_reducible rfl); (try simp only [Act.put, List.setIfInBounds_toArray, List.set_cons_zero, List.set_cons_succ, List.getElem_toArray, List.getElem_cons_succ, List.getElem_cons_zero])); (refine wpG_take (i := 30) (v := ?_) rfl (by kernel_rfl) (by kernel_rfl) (by kernel_rfl) (fun _ _ _ h => h) (From.refl _) (Or.inl ⟨by rfl, ?_⟩) ?_; rotate_left; (intro wx hx; go_simp) <;> (with_reducible rfl); (try simp only [Act.put, List.setIfInBounds_toArray, List.set_cons_zero, List.set_cons_succ, List.getElem_toArray, List.getElem_cons_succ, List.getElem_cons_zero])); (refine wpG_take (i := 31) (v := ?_) rfl (by kernel_rfl) (by kernel_rfl) (by kernel_rfl) (fun _ _ _ h => h) (From.refl _) (Or.inl ⟨by rfl, ?_⟩) ?_; rotate_left; (intro wx hx; go_simp) <;> (with_reducible rfl); (try simp only [Act.put, List.setIfInBounds_toArray, List.set_cons_zero, List.set_cons_succ, List.getElem_toArray, List.getElem_cons_succ, List.getElem_cons_zero]))
        (refine wpG_one (i := 32) (by kernel_rfl) rfl ?_; intro K hK; (try simp only [Act.put, List.setIfInBounds_toArray, List.set_cons_zero, List.set_cons_succ, List.getElem_toArray, List.getElem_cons_succ, List.getElem_cons_zero]))
        refine step_call rfl rfl enAwake rfl (awake_any _) ?_
        rintro e w5 ⟨rfl, hb5⟩
        refine ⟨_, rfl, hK (From w5) _ _ (From.next hb5) (From.refl _) ?_⟩
        clear hK K
        (try simp only [Act.put, List.setIfInBounds_toArray, List.set_cons_zero, List.set_cons_succ, List.getElem_toArray, List.getElem_cons_succ, List.getElem_cons_zero])
        (refine wpG_take (i := 33) (v := ?_) rfl (by kernel_rfl) (by kernel_rfl) (by kernel_rfl) (fun _ _ _ h => h) (From.refl _) (Or.inl ⟨by rfl, ?_⟩) ?_; rotate_left; (intro wx hx; go_simp) <;> (with_reducible rfl); (try simp only [Act.put, List.setIfInBounds_toArray, List.set_cons_zero, List.set_cons_succ, List.getElem_toArray, List.getElem_cons_succ, List.getElem_cons_zero])); (refine wpG_take (i := 34) (v := ?_) rfl (by kernel_rfl) (by kernel_rfl) (by kernel_rfl) (fun _ _ _ h => h) (From.refl _) (Or.inl ⟨by rfl, ?_⟩) ?_; rotate_left; (intro wx hx; go_simp) <;> (with_reducible rfl); (try simp only [Act.put, List.setIfInBounds_toArray, List.set_cons_zero, List.set_cons_succ, List.getElem_toArray, List.getElem_cons_succ, List.getElem_cons_zero]))
        refine wpG_done (by kernel_rfl) ?_ _
        go_wp2_with fail
        go_ret
        exact ⟨rfl, (((hS'.call hb2).call hb3).call hb4 |>.call hb5).below⟩
end Go.Proofs.Ytcfonifaijeecaa
