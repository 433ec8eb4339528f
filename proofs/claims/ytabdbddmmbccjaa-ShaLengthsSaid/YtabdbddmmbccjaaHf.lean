/-
  Layer 1: New; Write as a message grows.
-/
import Derived.Test.YtabdbddmmbccjaaHe
namespace Go.Proofs.Ytabdbddmmbccjaa
open Go.RowKit
set_option linter.unusedSimpArgs false

/-- A hash that has taken the message 'l', and its row. -/
def HCk (g : Nat) (A : Option Addr) (c : Nat) (l : List UInt8) : Chunk := .cells g (hashC (stO l) (.slice A (l.length % 128) c) l.length) 42
def HRk (A : Option Addr) (c : Nat) (l : List UInt8) : Chunk := .row (.slice A (l.length % 128) c) 5 1 (l.length % 128) (bvs (rsO l))
theorem write_msg {w0 : World} {M : Nat → Prop} {H : List Chunk} (g : Nat) (A : Option Addr) (c : Nat) (l : List UInt8) (B : Option Addr) (cb m : Nat) (x : List UInt8) (w : World) (hx : x.length = m) (hn : l.length + m ≤ 1000000)
    (hS : St w0 M w (HCk g A c l :: HRk A c l :: H)) (hr : Rd w (.slice B m cb) 1 m (bvs x)) (hne : 0 < m → (Value.slice B m cb).ownBlock ≠ some g) :
    Calls Try.prog 12 #[.pointer (some ⟨g, 0, none⟩), .slice B m cb] w fun e w' => e = .returned (.tuple #[]) ∧ ∃ A' c', St w0 M w' (HCk g A' c' (l ++ x) :: HRk A' c' (l ++ x) :: H) := by
  have h := write_any (H := H) g (stO l) A c (l.length % 128) l.length (rsO l) B cb m x w (rsO l ++ x) _ _ (stO_ok l).1 (stO_ok l).2 (rsO_len l) hx hn (by omega) rfl rfl rfl hS hr hne
  rw [stO_append, rsO_append] at h
  have e1 : (rsO l ++ x).length % 128 = (l ++ x).length % 128 := by rw [List.length_append, List.length_append, rsO_len]; omega
  have e2 : l.length + m = (l ++ x).length := by rw [List.length_append, hx]
  rw [e1, e2] at h
  exact h
theorem own_some (w : World) (b o : Nat) (n c : Nat) : (Value.slice (some ⟨b, o, none⟩) n c).ownBlock = some b := rfl
theorem stO_nil : stO [] = h0L := rfl
theorem rsO_nil : rsO [] = [] := rfl
set_option maxRecDepth 100000 in
set_option maxHeartbeats 800000 in
theorem new_any {w0 : World} {M : Nat → Prop} {H : List Chunk} (w : World) (hS : St w0 M w H) :
    Calls Try.prog 11 #[] w fun e w' => ∃ g, e = .returned (.pointer (some ⟨g, 0, none⟩)) ∧ St w0 M w' (HCk g none 0 [] :: HRk none 0 [] :: H) ∧ Below w.heap.size w w' := by
  have HS := hide hS
  have HB := hide (begin_any w)
  unfold h0L at HB
  clear hS
  go_enter Try.func11, Try.ntmps11
  go_wp2_with (go_at_call 16; refine HB.out.mono ?_; rintro e w1 ⟨rfl, hb1⟩)
  have h1 := (HS.out.call hb1).row (Below.refl _ _) (World.ownsRow_nil _ _ 5 1)
  have h2 := hide (h1.alloc (hashC (stO []) (.slice none 0 0) 0) 42)
  have hb2 := hide (hb1)
  clear h1
  go_ret
  exact ⟨w1.heap.size, rfl, h2.out, bnx hb2.out ((Below.refl _ _).alloc (Nat.le_refl _) _)⟩
/-- What was there lies in no block that is new. -/
theorem rd_far {w : World} {y : Value} {m g : Nat} {xs : List Value} (h : Rd w y 1 m xs) (hg : w.heap.size ≤ g) : 0 < m → y.ownBlock ≠ some g := fun hm e => by
  rcases h.cases with ⟨_, h0, _⟩ | ⟨b, o, sp, c, rfl, hb, _⟩
  · omega
  · have h2 : b = g := Option.some.inj e
    have := hb (by omega)
    omega
def Sum64 (w : World) (l : List UInt8) (e : Ending) (w' : World) : Prop := ∃ B d, e = .returned (.slice B 64 d) ∧ Below w.heap.size w w' ∧ w'.ownsRow w.heap.size 5 1 (.slice B 64 d) 64 (bvs l)
end Go.Proofs.Ytabdbddmmbccjaa
