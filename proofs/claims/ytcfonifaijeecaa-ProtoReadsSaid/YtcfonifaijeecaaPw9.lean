/-
  The walk of the program's reader: field.
-/
import Derived.Test.YtcfonifaijeecaaPw8
import Derived.Maps.OwnOps
namespace Go.Proofs.Ytcfonifaijeecaa
open Go.RowKit

/-- The blocks of a field that is being read: the reader's pointer, the field. -/
def FldC (b1 g b4 : Nat) (cs : Array Value) (H : List Chunk) : List Chunk := .cells b4 cs 53 :: .cells b1 #[.pointer (some ⟨g, 0, none⟩)] 61 :: H
def P0 (b : Nat) : Value := .pointer (some ⟨b, 0, none⟩)

set_option maxRecDepth 100000 in
set_option maxHeartbeats 800000 in
theorem clo1_walk {w0 w : World} {M : Nat → Prop} {H : List Chunk} (g b1 b4 : Nat) (num : Int) (A : Option Addr) (c : Nat) (l : List UInt8) (hl : l.length ≤ 1000000) (hr : RdH w0 M H (.slice A l.length c) 1 l.length (bvs l))
    (hS : St w0 M w (RdrC g A l.length c 0 (FldC b1 g b4 #[.int .i64 num, .bool false, .int .u64 0, .slice none 0 0] H))) :
    Calls Try.prog 31 #[P0 b1, P0 b4] w fun e w' => e = .returned (.tuple #[]) ∧ match rv l with
      | .ok n rest => W64 n ∧ ∃ A' c', St w0 M w' (RdrC g A' rest.length c' 0 (FldC b1 g b4 #[.int .i64 num, .bool false, .int .u64 (n : Int), .slice none 0 0] H)) ∧ CutR A c l A' c' rest
      | .bad k => St w0 M w' (RdrC g A l.length c k (FldC b1 g b4 #[.int .i64 num, .bool false, .int .u64 0, .slice none 0 0] H)) := by
  have V := hide (rvarint_walk g A c l hl (fun w h => hr w h.tail.tail) hS)
  have cb : w.cell? ⟨b1, 0, none⟩ = some (P0 g) := hS.cell 2 rfl 0
  clear hS hr
  unfold P0 at *
  go_enter Try.func31, Try.ntmps31
  cases hv : rv l with
  | ok n rest =>
    rw [hv] at V
    go_wp2_with (go_at_call 30; refine V.out.mono ?_; rintro e w1 ⟨rfl, hw, A1, a1, hS1, hr1⟩; have f2 := hS1.free 1 rfl 2; have c2 : w1.cell? ⟨b4, 2, none⟩ = some (.int .u64 0) := hS1.cell 1 rfl 2)
    go_end0
    exact ⟨rfl, A1, a1, hS1.setCell 1 rfl 2 (.int .u64 (n : Int)), hr1⟩
  | bad k =>
    rw [hv] at V
    go_wp2_with (go_at_call 30; refine V.out.mono ?_; rintro e w1 ⟨rfl, hS1⟩; have f2 := hS1.free 1 rfl 2; have c2 : w1.cell? ⟨b4, 2, none⟩ = some (.int .u64 0) := hS1.cell 1 rfl 2)
    go_end0
    exact ⟨rfl, hS1.setCell 1 rfl 2 (.int .u64 0)⟩
set_option maxRecDepth 100000 in
set_option maxHeartbeats 800000 in
theorem clo2_walk {w0 w : World} {M : Nat → Prop} {H : List Chunk} (g b1 b4 : Nat) (num : Int) (A : Option Addr) (c : Nat) (l : List UInt8) (hl : l.length ≤ 1000000) (hr : RdH w0 M H (.slice A l.length c) 1 l.length (bvs l))
    (hS : St w0 M w (RdrC g A l.length c 0 (FldC b1 g b4 #[.int .i64 num, .bool false, .int .u64 0, .slice none 0 0] H))) :
    Calls Try.prog 32 #[P0 b1, P0 b4] w fun e w' => e = .returned (.tuple #[]) ∧ match rw_ l with
      | .ok b rest => ∃ B d A' c', St w0 M w' (RdrC g A' rest.length c' 0 (.row (.slice B b.length d) 5 1 b.length (bvs b) :: FldC b1 g b4 #[.int .i64 num, .bool true, .int .u64 0, .slice B b.length d] H)) ∧ CutR A c l A' c' rest
      | .bad k => ∃ A' n' c', St w0 M w' (RdrC g A' n' c' k (FldC b1 g b4 #[.int .i64 num, .bool true, .int .u64 0, .slice none 0 0] H)) := by
  have V := hide (rraw_walk g A c l hl (fun w h => hr w h.tail.tail) hS)
  have cb : w.cell? ⟨b1, 0, none⟩ = some (P0 g) := hS.cell 2 rfl 0
  clear hS hr
  unfold P0 at *
  go_enter Try.func32, Try.ntmps32
  cases hv : rw_ l with
  | ok b rest =>
    rw [hv] at V
    go_wp2_with (go_at_call 33; refine V.out.mono ?_; rintro e w1 ⟨B, d, rfl, A1, a1, hS1, hr1⟩; have f1 := hS1.free 2 rfl 1; have f3 := hS1.free 2 rfl 3; have c1 : w1.cell? ⟨b4, 1, none⟩ = some (.bool false) := hS1.cell 2 rfl 1; have c3 : w1.cell? ⟨b4, 3, none⟩ = some (.slice none 0 0) := hS1.cell 2 rfl 3)
    go_end0
    exact ⟨rfl, B, d, A1, a1, (hS1.setCell 2 rfl 1 (.bool true)).setCell 2 rfl 3 (.slice B b.length d), hr1⟩
  | bad k =>
    rw [hv] at V
    go_wp2_with (go_at_call 33; refine V.out.mono ?_; rintro e w1 ⟨rfl, A1, n1, a1, hS1⟩; have f1 := hS1.free 1 rfl 1; have f3 := hS1.free 1 rfl 3; have c1 : w1.cell? ⟨b4, 1, none⟩ = some (.bool false) := hS1.cell 1 rfl 1; have c3 : w1.cell? ⟨b4, 3, none⟩ = some (.slice none 0 0) := hS1.cell 1 rfl 3)
    go_end0
    exact ⟨rfl, A1, n1, a1, (hS1.setCell 1 rfl 1 (.bool true)).setCell 1 rfl 3 (.slice none 0 0)⟩
end Go.Proofs.Ytcfonifaijeecaa
