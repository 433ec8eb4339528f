/-
  Each field that is put, may it be or not: one contract a function; the walk of 'ProtoForms'.
-/
import Derived.Test.YtcfonifaijeecaaPut
import Derived.Deep.RegionHeld3
namespace Go.Proofs.Ytcfonifaijeecaa
open Go.RowKit

theorem putI_yes (num : Int) (n : Nat) (h : mayB num = true) : putI num n = vb (8 * num.toNat) ++ vb n := by unfold putI; rw [if_pos h]
theorem putI_no (num : Int) (n : Nat) (h : mayB num = false) : putI num n = [] := by unfold putI; rw [if_neg (by rw [h]; decide)]
theorem putR_yes (num : Int) (b : List UInt8) (h : mayB num = true) (hb : b.length ≤ 65536) : putR num b = vb (8 * num.toNat + 2) ++ (vb b.length ++ b) := by unfold putR; rw [if_pos (by rw [h]; simpa using hb)]
theorem putR_no (num : Int) (b : List UInt8) (h : mayB num = false) : putR num b = [] := by unfold putR; rw [if_neg (by rw [h]; simp)]
theorem putI_len (num : Int) (n : Nat) : (putI num n).length ≤ 20 := by
  cases h : mayB num
  · rw [putI_no num n h]; simp
  · rw [putI_yes num n h]
    have := (vb_len (8 * num.toNat)).1
    have := (vb_len n).1
    simp only [List.length_append]; omega
theorem putR_len (num : Int) (b : List UInt8) : (putR num b).length ≤ 20 + b.length := by
  unfold putR
  split
  · have := (vb_len (8 * num.toNat + 2)).1
    have := (vb_len b.length).1
    simp only [List.length_append]; omega
  · simp

theorem int_any {w0 w : World} {M : Nat → Prop} {H : List Chunk} (g : Nat) (v : Value) (l : List UInt8) (num : Int) (n : Nat) (hn : W64 n) (hl : l.length ≤ 999900) (hS : St w0 M w (MsgC g v l H)) :
    Calls Try.prog 13 #[.pointer (some ⟨g, 0, none⟩), .int .i64 num, .int .u64 n] w fun e w' => e = .returned (.tuple #[]) ∧ ∃ v', St w0 M w' (MsgC g v' (l ++ putI num n) H) := by
  cases h : mayB num
  · rw [putI_no num n h, List.append_nil]
    exact (int_no g num n h hS).mono fun e w' ⟨he, hs⟩ => ⟨he, v, hs⟩
  · rw [putI_yes num n h]
    exact int_yes g v l num n hn h hl hS
theorem raw_any {w0 w : World} {M : Nat → Prop} {H : List Chunk} (g : Nat) (v : Value) (l : List UInt8) (num : Int) (A : Option Addr) (c : Nat) (b : List UInt8) (hl : l.length ≤ 900000) (hb : b.length ≤ 65536)
    (hr : RdH w0 M H (.slice A b.length c) 1 b.length (bvs b)) (hS : St w0 M w (MsgC g v l H)) :
    Calls Try.prog 11 #[.pointer (some ⟨g, 0, none⟩), .int .i64 num, .slice A b.length c] w fun e w' => e = .returned (.tuple #[]) ∧ ∃ v', St w0 M w' (MsgC g v' (l ++ putR num b) H) := by
  cases h : mayB num
  · rw [putR_no num b h, List.append_nil]
    exact (raw_no g num A b.length c h hS).mono fun e w' ⟨he, hs⟩ => ⟨he, v, hs⟩
  · rw [putR_yes num b h hb]
    exact raw_yes g v l num A c b h hl hb hr hS
theorem resB_nil (e : TypeId) (w : World) : ResB e w [] (.returned (.slice none 0 0)) w := ⟨none, 0, rfl, Below.refl _ _, World.ownsRow_nil _ _ _ _⟩
theorem rint_any (num : Int) (n : Nat) (w : World) (hn : W64 n) : Calls Try.prog 14 #[.int .i64 num, .int .u64 n] w (ResB 5 w (putI num n)) := by
  cases h : mayB num
  · rw [putI_no num n h]
    refine (rint_no num n w h).mono ?_
    rintro e w' ⟨rfl, rfl⟩
    exact resB_nil _ _
  · rw [putI_yes num n h]
    exact rint_yes num n w hn h
theorem rraw_any (num : Int) (A : Option Addr) (c : Nat) (b : List UInt8) (w : World) (hb : b.length ≤ 65536) (hr : Rd w (.slice A b.length c) 1 b.length (bvs b)) : Calls Try.prog 12 #[.int .i64 num, .slice A b.length c] w (ResB 5 w (putR num b)) := by
  cases h : mayB num
  · rw [putR_no num b h]
    refine (rraw_no num A b.length c w h).mono ?_
    rintro e w' ⟨rfl, rfl⟩
    exact resB_nil _ _
  · rw [putR_yes num b h hb]
    exact rraw_yes num A c b w h hb hr

/-- One Put's bytes; all Puts' bytes. -/
@[irreducible] def putP (p : PutV) : List UInt8 := if p.whole then putR p.num p.b else putI p.num p.n
def putAll (ps : List PutV) : List UInt8 := ps.flatMap putP
theorem putP_len (p : PutV) : (putP p).length ≤ 20 + p.b.length := by
  unfold putP
  split
  · exact putR_len _ _
  · have := putI_len p.num p.n; omega
theorem putAll_take (ps : List PutV) (k : Nat) (p : PutV) (h : ps[k]? = some p) : putAll (ps.take (k + 1)) = putAll (ps.take k) ++ putP p := by
  unfold putAll
  rw [List.take_add_one, h]
  simp
theorem putAll_len (ps : List PutV) : (putAll ps).length ≤ 20 * ps.length + lens ps := by
  induction ps with
  | nil => simp [putAll]
  | cons p ps ih =>
    have := putP_len p
    simp only [putAll, lens, List.flatMap_cons, List.length_append, List.length_cons, List.map_cons, List.sum_cons] at ih ⊢
    omega
theorem putP_whole (p : PutV) (h : p.whole = true) : putP p = putR p.num p.b := by unfold putP; rw [if_pos h]
theorem putP_num (p : PutV) (h : p.whole = false) : putP p = putI p.num p.n := by unfold putP; rw [if_neg (by rw [h]; decide)]
end Go.Proofs.Ytcfonifaijeecaa
