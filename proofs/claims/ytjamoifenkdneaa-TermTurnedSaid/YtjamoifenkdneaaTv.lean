/-
  Layer 7: Size; the law's awake.
-/
import Derived.Test.YtjamoifenkdneaaTu
namespace Go.Proofs.Ytjamoifenkdneaa
open Go.RowKit
set_option linter.unusedSimpArgs false

def sizT (t : Tm) : Nat := szT 6 [t] 0
set_option maxRecDepth 100000 in
set_option maxHeartbeats 800000 in
theorem Size_any (t : Tm) (w : World) (ht : TmOK w t) : Calls Try.prog 9 #[t.val] w fun e w' => e = .returned (.int .i64 (sizT t : Int)) ∧ Below w.heap.size w w' := by
  have hW : Below w.heap.size w ((w.alloc (.cells #[.int .i64 t.k, .int .i64 t.n, .string (strOf t.s), .slice t.A t.l.length t.c] 24)).alloc (.cells #[.int .i64 t.k, .int .i64 t.n, .string (strOf t.s), .slice t.A t.l.length t.c] 24)) := ((Below.refl _ _).al _).al _
  have hr := rd_new (w.alloc (.cells #[.int .i64 t.k, .int .i64 t.n, .string (strOf t.s), .slice t.A t.l.length t.c] 24)) t.cells 24 4 1 rfl (by decide)
  rw [size_alloc1] at hr
  have hc : t.cells = tmCells [t] := by unfold tmCells; simp
  rw [hc] at hr
  have H := hide (size_any 6 (by omega) (.slice (some ⟨w.heap.size + 1, 0, none⟩) 1 1) [t] 0 ((w.alloc (.cells #[.int .i64 t.k, .int .i64 t.n, .string (strOf t.s), .slice t.A t.l.length t.c] 24)).alloc (.cells #[.int .i64 t.k, .int .i64 t.n, .string (strOf t.s), .slice t.A t.l.length t.c] 24)) (by decide) ⟨by have h := hr; rw [← hc] at h ⊢; exact h, fun x hx => by rw [List.mem_singleton.1 hx]; exact ht.on hW⟩ (by simp))
  rw [show ((0 : Nat) : Int) = 0 from rfl, show ((6 : Nat) : Int) = 6 from rfl] at H
  have HW := hide hW
  clear hW hr hc ht
  unfold sizT
  generalize szT 6 [t] 0 = z at H ⊢
  unfold Tm.val Tm.row
  go_enter Try.func9, Try.ntmps9
  go_wp2_with (go_at_call 23; (with_reducible refine H.out.mono ?_); rintro e w' ⟨rfl, hb⟩; have HB := hide (HW.out.trans (hb.mono HW.out.size)); clear hb)
  go_ret
  exact ⟨rfl, HB.out⟩
def tN (n : Int) : Tm := .mk 2 n [] none 0 []
def wk : List Tm := [tN 3, tN 1, tN 3]
theorem wk_set : setL wk = [tN 1, tN 3] := by kernel_rfl
theorem fix_N (n : Int) : fixT (tN n) = true := by
  unfold fixT mayT mayE
  simp [tN, Tm.k, Tm.s, Tm.l]
theorem tN_ok (W : World) {n : Int} (h : I64 n) : TmOK W (tN n) :=
  .mk _ (rd_nil W 4) ⟨(show I64 2 from ⟨by decide, by decide⟩), h, by simp [tN, Tm.s], by simp [tN, Tm.l]⟩ (fun x hx => by cases hx)
set_option maxRecDepth 100000 in
set_option maxHeartbeats 1600000 in
theorem awake7_any (w : World) : Calls Try.prog 10 #[] w fun e w' => e = .returned (.bool true) ∧ Below w.heap.size w w' := by
  have e0 : (⟨#[]⟩ : ByteArray) = strOf [] := by rw [strOf_eq]
  have hcs : tmCells wk = [.int .i64 2, .int .i64 3, .string ⟨#[]⟩, .slice none 0 0, .int .i64 2, .int .i64 1, .string ⟨#[]⟩, .slice none 0 0, .int .i64 2, .int .i64 3, .string ⟨#[]⟩, .slice none 0 0] := by rw [e0]; rfl
  have hr := rd_new w (tmCells wk) 24 4 3 (by rw [tmCells_length]; rfl) (by decide)
  have hok : ∀ x ∈ wk, ∀ W, TmOK W x := fun x hx W => by
    unfold wk at hx
    simp only [List.mem_cons, List.not_mem_nil, or_false] at hx
    rcases hx with rfl | rfl | rfl <;> exact tN_ok W ⟨by decide, by decide⟩
  have hgood : ∀ y, wk[0]? = some y → wk.any (badT y.k) = false := fun y hy => by
    have : y = tN 3 := by simpa [wk] using hy.symm
    rw [this]
    simp only [wk, List.any_cons, List.any_nil, badT, fix_N]
    rfl
  have H := hide (set_ok (w := w.alloc (.cells (tmCells wk).toArray 24)) (.slice (some ⟨w.heap.size, 0, none⟩) 3 3) wk ⟨hr, fun x hx => hok x hx _⟩ (by decide) (by decide) hgood)
  rw [hcs] at H
  unfold SetR at H
  rw [wk_set] at H
  have HN1 := hide (fun W => name_any [97, 58, 98] (by decide) W)
  have HN2 := hide (fun W => name_any [104, 101, 120, 58, 97] (by decide) W)
  rw [show nameT [97, 58, 98] = true by kernel_rfl, strOf_eq] at HN1
  rw [show nameT [104, 101, 120, 58, 97] = false by kernel_rfl, strOf_eq] at HN2
  clear hr hok hgood hcs e0
  go_enter Try.func10, Try.ntmps10
  go_wp2_with fail
  refine H.out.mono ?_
  rintro e w1 ⟨B, d, rfl, hb, hR⟩
  obtain ⟨b, o, rfl, hb8, hc⟩ := tm_at (k := 0) (t := tN 1) hR.1 rfl
  obtain ⟨c0, c1, c2, c3⟩ := hc w1 (Below.refl _ _)
  have c1 : w1.cell? ⟨b, o + 1, none⟩ = some (.int .i64 1) := by (have h := c1; rw [Nat.zero_mul, Nat.add_zero] at h; exact h)
  have HB := hide (((Below.refl w.heap.size w).al _).trans (hb.mono ((Below.refl w.heap.size w).al _).size))
  clear hc c0 c2 c3 hb hR
  go_wp2_with (first
    | (go_at_call 13; (with_reducible refine (HN1.out _).mono ?_); rintro e w' ⟨rfl, rfl⟩)
    | (go_at_call 13; (with_reducible refine (HN2.out _).mono ?_); rintro e w' ⟨rfl, rfl⟩))
  go_ret
  exact ⟨rfl, HB.out.al _⟩
end Go.Proofs.Ytjamoifenkdneaa
