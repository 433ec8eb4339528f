/-
  The walks of a Message's methods: Int, Raw, Bytes: fields as bytes.
-/
import Derived.Test.YtcfonifaijeecaaPw3
namespace Go.Proofs.Ytcfonifaijeecaa
open Go.RowKit

/-- A field of a number; of bytes. -/
@[irreducible] def putI (num : Int) (n : Nat) : List UInt8 := if mayB num then vb (8 * num.toNat) ++ vb n else []
@[irreducible] def putR (num : Int) (b : List UInt8) : List UInt8 := if mayB num && decide (b.length ≤ 65536) then vb (8 * num.toNat + 2) ++ (vb b.length ++ b) else []
theorem mayB_of (num : Int) (h : mayB num = true) : 1 ≤ num ∧ num ≤ 100 := by
  unfold mayB at h
  simpa using h

theorem enMay (args : Array Value) (w : World) : (callFunc 25 args).run Try.prog w = .ok (.enter 25 args) w := by kernel_rfl
theorem enTagged (args : Array Value) (w : World) : (callFunc 26 args).run Try.prog w = .ok (.enter 26 args) w := by kernel_rfl

/-- A Message: its block and its row. -/
def MsgC (g : Nat) (v : Value) (l : List UInt8) (H : List Chunk) : List Chunk := .cells g #[v] 29 :: .row v 5 1 l.length (bvs l) :: H

set_option maxRecDepth 100000 in
set_option maxHeartbeats 800000 in
theorem int_no {w0 w : World} {M : Nat → Prop} {H : List Chunk} (g : Nat) (num : Int) (n : Nat) (hm : mayB num = false) (hS : St w0 M w H) :
    Calls Try.prog 13 #[.pointer (some ⟨g, 0, none⟩), .int .i64 num, .int .u64 n] w fun e w' => e = .returned (.tuple #[]) ∧ St w0 M w' H := by
  go_enter Try.func13, Try.ntmps13
  go_wp2_with (go_at_call 25; refine (may_any _ _).mono ?_; rintro e w' ⟨rfl, rfl⟩)
  refine bodyPost_ret (results_none rfl _ _ _) rfl ?_
  exact ⟨rfl, hS⟩

set_option maxRecDepth 100000 in
set_option maxHeartbeats 400000 in
theorem int_yes {w0 w : World} {M : Nat → Prop} {H : List Chunk} (g : Nat) (v : Value) (l : List UInt8) (num : Int) (n : Nat) (hn : W64 n) (hm : mayB num = true) (hl : l.length ≤ 999900)
    (hS : St w0 M w (MsgC g v l H)) :
    Calls Try.prog 13 #[.pointer (some ⟨g, 0, none⟩), .int .i64 num, .int .u64 n] w fun e w' => e = .returned (.tuple #[]) ∧
      ∃ v', St w0 M w' (MsgC g v' (l ++ (vb (8 * num.toNat) ++ vb n)) H) := by
  unfold MsgC at hS
  obtain ⟨m1, m2⟩ := mayB_of num hm
  obtain ⟨t, ht⟩ : ∃ t, t = vb (8 * num.toNat) := ⟨_, rfl⟩
  obtain ⟨u, hu⟩ : ∃ u, u = vb n := ⟨_, rfl⟩
  have htl : t.length ≤ 10 := by rw [ht]; exact (vb_len _).1
  have hul : u.length ≤ 10 := by rw [hu]; exact (vb_len _).1
  have T : ∀ W, Calls Try.prog 16 #[.int .u64 n] W (ResB 5 W u) := fun W => by rw [hu]; exact varint_any n W hn
  have G := tagged_any g v l num 0 m1 m2 (.inl rfl) (by omega) hS
  rw [show 8 * num.toNat + (0 : Int).toNat = 8 * num.toNat from rfl, ← ht] at G
  rw [← ht, ← hu]
  have TT := hide T
  have GG := hide G
  have HL := hide (show l.length + t.length ≤ 1000000 by omega)
  clear T G ht hu hn hl htl m1 m2
  go_enter Try.func13, Try.ntmps13
  go_wp2_with (first
    | (go_at_call 25; refine (may_any _ _).mono ?_; rintro e w' ⟨rfl, rfl⟩)
    | (go_at_call 26; refine GG.out.mono ?_; rintro e w1 ⟨rfl, v1, hS1⟩; have hc1 : w1.cell? ⟨g, 0, none⟩ = some v1 := hS1.cell 0 rfl 0))
  go_region_law ((try simp only [Act.put, List.setIfInBounds_toArray, List.set_cons_zero, List.set_cons_succ, List.getElem_toArray, List.getElem_cons_succ, List.getElem_cons_zero]); first
    | (refine step_append rfl rfl tyB hS2 2 rfl rfl rfl (hS2.rd 0 rfl) (one_bvs _) ?_ (by decide) ?_; (have := HL.out; simp only [List.length_append]; omega); intro A2 c2 w3 hS3; have hc3 : w3.cell? ⟨g, 0, none⟩ = some v1 := hS3.cell 1 rfl 0; have hf3 := hS3.free 1 rfl 0)
    | (refine step_call rfl rfl enVarint rfl (TT.out _) ?_; rintro e w2 ⟨A1, c1, rfl, hb, ho⟩; refine ⟨_, rfl, ?_⟩; have hS2 := hS1.drew.row hb ho; have hc2 : w2.cell? ⟨g, 0, none⟩ = some v1 := hS2.cell 1 rfl 0))
  all_goals (
    have hS4 := (hS3.setCell 1 rfl 0 (.slice A2 ((l ++ t).length + u.length) c2)).tail
    go_end0
    refine ⟨rfl, .slice A2 (l.length + t.length + u.length) c2, ?_⟩
    unfold MsgC
    simp only [bvs_append, List.length_append, ← List.append_assoc] at hS4 ⊢
    exact hS4)

set_option maxRecDepth 100000 in
set_option maxHeartbeats 800000 in
theorem raw_no {w0 w : World} {M : Nat → Prop} {H : List Chunk} (g : Nat) (num : Int) (A : Option Addr) (n c : Nat) (hm : mayB num = false) (hS : St w0 M w H) :
    Calls Try.prog 11 #[.pointer (some ⟨g, 0, none⟩), .int .i64 num, .slice A n c] w fun e w' => e = .returned (.tuple #[]) ∧ St w0 M w' H := by
  go_enter Try.func11, Try.ntmps11
  go_wp2_with (go_at_call 25; refine (may_any _ _).mono ?_; rintro e w' ⟨rfl, rfl⟩)
  refine bodyPost_ret (results_none rfl _ _ _) rfl ?_
  exact ⟨rfl, hS⟩
set_option maxRecDepth 100000 in
set_option maxHeartbeats 800000 in
theorem raw_long {w0 w : World} {M : Nat → Prop} {H : List Chunk} (g : Nat) (num : Int) (A : Option Addr) (n c : Nat) (hm : mayB num = true) (hn : 65536 < n) (hS : St w0 M w H) :
    Calls Try.prog 11 #[.pointer (some ⟨g, 0, none⟩), .int .i64 num, .slice A n c] w fun e w' => e = .returned (.tuple #[]) ∧ St w0 M w' H := by
  have hn' : (65536 : Int) < (n : Int) := by omega
  clear hn
  go_enter Try.func11, Try.ntmps11
  go_wp2_with (go_at_call 25; refine (may_any _ _).mono ?_; rintro e w' ⟨rfl, rfl⟩)
  refine bodyPost_ret (results_none rfl _ _ _) rfl ?_
  exact ⟨rfl, hS⟩

set_option maxRecDepth 100000 in
set_option maxHeartbeats 1600000 in
theorem raw_yes {w0 w : World} {M : Nat → Prop} {H : List Chunk} (g : Nat) (v : Value) (l : List UInt8) (num : Int) (A : Option Addr) (c : Nat) (b : List UInt8) (hm : mayB num = true) (hl : l.length ≤ 900000) (hb : b.length ≤ 65536)
    (hr : RdH w0 M H (.slice A b.length c) 1 b.length (bvs b)) (hS : St w0 M w (MsgC g v l H)) :
    Calls Try.prog 11 #[.pointer (some ⟨g, 0, none⟩), .int .i64 num, .slice A b.length c] w fun e w' => e = .returned (.tuple #[]) ∧
      ∃ v', St w0 M w' (MsgC g v' (l ++ (vb (8 * num.toNat + 2) ++ (vb b.length ++ b))) H) := by
  unfold MsgC at hS
  obtain ⟨m1, m2⟩ := mayB_of num hm
  obtain ⟨t, ht⟩ : ∃ t, t = vb (8 * num.toNat + 2) := ⟨_, rfl⟩
  obtain ⟨u, hu⟩ : ∃ u, u = vb b.length := ⟨_, rfl⟩
  have htl : t.length ≤ 10 := by rw [ht]; exact (vb_len _).1
  have hul : u.length ≤ 10 := by rw [hu]; exact (vb_len _).1
  have T : ∀ W, Calls Try.prog 16 #[.int .u64 (b.length : Nat)] W (ResB 5 W u) := fun W => by rw [hu]; exact varint_any b.length W (by unfold W64; omega)
  have G := tagged_any g v l num 2 m1 m2 (.inr rfl) (by omega) hS
  rw [show (2 : Int).toNat = 2 from rfl, ← ht] at G
  rw [← ht, ← hu]
  have hn' : ¬ (65536 : Int) < (b.length : Int) := by omega
  have TT := hide T
  have GG := hide G
  have HL := hide (show l.length + t.length + u.length + b.length ≤ 1000000 by omega)
  have RR := hide hr
  have WW := hide (show IntKind.u64.wrap (b.length : Int) = (b.length : Int) by rw [IntKind.wrap_u64]; omega)
  clear T G ht hu hl htl m1 m2 hr hb
  go_enter Try.func11, Try.ntmps11
  go_wp2_with (first
    | (go_at_call 25; refine (may_any _ _).mono ?_; rintro e w' ⟨rfl, rfl⟩)
    | (go_at_call 26; refine GG.out.mono ?_; rintro e w1 ⟨rfl, v1, hS1⟩; simp only [List.length_append] at hS1; have hc1 : w1.cell? ⟨g, 0, none⟩ = some v1 := hS1.cell 0 rfl 0))
  go_region_law ((try simp only [Act.put, List.setIfInBounds_toArray, List.set_cons_zero, List.set_cons_succ, List.getElem_toArray, List.getElem_cons_succ, List.getElem_cons_zero]); first
    | (refine step_append (s := .tmp 25) (x := .tmp 29) rfl rfl tyB hS2 2 rfl rfl rfl (hS2.rd 0 rfl) (one_bvs _) ?_ (by decide) ?_; (have := HL.out; omega); intro A2 c2 w3 hS3; have hc3 : w3.cell? ⟨g, 0, none⟩ = some v1 := hS3.cell 1 rfl 0; have hf3 := hS3.free 1 rfl 0)
    | (refine step_append (s := .tmp 30) (x := .tmp 31) rfl rfl tyB hS3 2 rfl rfl rfl (RR.out _ hS3.tail.tail.tail) (one_bvs _) ?_ (by decide) ?_; (have := HL.out; omega); intro A3 c3 w4 hS4; have hc4 : w4.cell? ⟨g, 0, none⟩ = some v1 := hS4.cell 1 rfl 0; have hf4 := hS4.free 1 rfl 0)
    | (refine step_call rfl rfl enVarint (congrArg (fun x => [Value.int IntKind.u64 x]) WW.out) (TT.out _) ?_; rintro e w2 ⟨A1, c1, rfl, hb, ho⟩; refine ⟨_, rfl, ?_⟩; have hS2 := hS1.drew.row hb ho; have hc2 : w2.cell? ⟨g, 0, none⟩ = some v1 := hS2.cell 1 rfl 0))
  all_goals (
    have hS5 := (hS4.setCell 1 rfl 0 (.slice A3 (l.length + t.length + u.length + b.length) c3)).tail
    go_end0
    refine ⟨rfl, .slice A3 (l.length + t.length + u.length + b.length) c3, ?_⟩
    unfold MsgC
    simp only [bvs_append, List.length_append, ← Nat.add_assoc, ← List.append_assoc] at hS5 ⊢
    exact hS5)
end Go.Proofs.Ytcfonifaijeecaa
