/-
  Layer 7: Compare and Same, the program's and the page's.
-/
import Derived.Test.YthpioncehigoaaaTd
set_option linter.unusedVariables false
namespace Go.Proofs.Ythpioncehigoaaa
open Go.RowKit
set_option linter.unusedSimpArgs false

theorem cmpd_any : ∀ (d : Nat), d ≤ 100 → ∀ (t u : Tm) (w : World), TmOK w t → TmOK w u → Calls Try.prog 55 #[t.val, u.val, .int .i64 (d : Int)] w fun e w' => e = .returned (.int .i64 (cmpT d t u)) ∧ Below w.heap.size w w'
  | 0, _, t, u, w, _, _ => cmpd0_any t u w
  | d + 1, hd, t, u, w, ht, hu => by
    have h := cmpd_step d (by omega) (fun t u w ht hu => cmpd_any d (by omega) t u w ht hu) t u w ht hu
    rw [show ((d + 1 : Nat) : Int) = (d : Int) + 1 by omega]
    exact h
/-- The order of terms. -/
@[irreducible] def cmpA (t u : Tm) : Int := cmpT 3 t u
theorem cmpA_ord : IsOrd cmpA := by
  have h := cmpT_ord 3
  exact ⟨fun a b => by unfold cmpA; exact h.tri a b, fun a b => by unfold cmpA; exact h.anti a b, fun a b c => by unfold cmpA; exact h.lt a b c, fun a b c => by unfold cmpA; exact h.lt' a b c⟩
def samT (t u : Tm) : Bool := decide (cmpA t u = 0)
theorem boxed2 {w : World} {a b : Array Value} {e : TypeId} {x y : Value} (h : ∀ W, Below w.heap.size w W → True) : True := trivial
set_option maxRecDepth 100000 in
set_option maxHeartbeats 800000 in
theorem compare_any (t u : Tm) (w : World) (ht : TmOK w t) (hu : TmOK w u) : Calls Try.prog 31 #[t.val, u.val] w fun e w' => e = .returned (.int .i64 (cmpA t u)) ∧ Below w.heap.size w w' := by
  have h := fun W (hW : Below w.heap.size w W) => cmpd_any 3 (by omega) t u W (ht.on hW) (hu.on hW)
  have H := hide h
  clear h ht hu
  unfold cmpA
  rw [show ((3 : Nat) : Int) = 3 from rfl] at H
  unfold Tm.val Tm.row at *
  generalize cmpT 3 t u = z at H ⊢
  go_enter Try.func31, Try.ntmps31
  go_wp2_with (go_at_call 55; (with_reducible refine (H.out _ (((Below.refl _ _).al _).al _)).mono ?_); rintro e w' ⟨rfl, hb⟩; have HB := hide ((((Below.refl _ _).al _).al _).trans (hb.mono (((Below.refl _ _).al _).al _).size)); clear hb)
  go_ret
  exact ⟨rfl, HB.out⟩
def sgn (b : Bool) : Int := if b = true then -1 else 1
theorem signR_any (b : Bool) (w : World) : Calls Try.prog 80 #[.bool b] w fun e w' => e = .returned (.int .i64 (sgn b)) ∧ w = w' := by
  cases b
  · go_enter Try.func80, Try.ntmps80
    go_wp2_with fail
    go_ret
    exact ⟨rfl, rfl⟩
  · go_enter Try.func80, Try.ntmps80
    go_wp2_with fail
    go_ret
    exact ⟨rfl, rfl⟩
end Go.Proofs.Ythpioncehigoaaa
