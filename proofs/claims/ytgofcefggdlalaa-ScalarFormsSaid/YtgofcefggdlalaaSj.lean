/-
  Sum, product and remainder of layer 3 as plain functions on bytes; their laws; the code's functions in these words.
-/
import Derived.Test.YtgofcefggdlalaaSi
namespace Go.Proofs.Ytgofcefggdlalaa
open Go.RowKit

@[irreducible] def sumL (a b : List UInt8) : List UInt8 := leB 32 ((bval a + bval b) % Lq)
@[irreducible] def madL (a b c : List UInt8) : List UInt8 := leB 32 ((bval a * bval b + bval c) % Lq)
@[irreducible] def redL (a : List UInt8) : List UInt8 := leB 32 (bval a % Lq)
@[irreducible] def z32 : List UInt8 := List.replicate 32 0
theorem sumL_len (a b : List UInt8) : (sumL a b).length = 32 := by unfold sumL; exact leB_len _ _
theorem madL_len (a b c : List UInt8) : (madL a b c).length = 32 := by unfold madL; exact leB_len _ _
theorem redL_len (a : List UInt8) : (redL a).length = 32 := by unfold redL; exact leB_len _ _
theorem z32_len : z32.length = 32 := by unfold z32; rfl
theorem Lq_256 : Lq < 256 ^ 32 := by unfold Lq; decide
theorem bval_mod (n : Nat) : bval (leB 32 (n % Lq)) = n % Lq := by
  rw [bval_leB, Nat.mod_eq_of_lt]
  exact Nat.lt_trans (Nat.mod_lt _ Lq_lt.2) Lq_256
theorem bval_sumL (a b : List UInt8) : bval (sumL a b) = (bval a + bval b) % Lq := by unfold sumL; exact bval_mod _
theorem bval_madL (a b c : List UInt8) : bval (madL a b c) = (bval a * bval b + bval c) % Lq := by unfold madL; exact bval_mod _
theorem bval_redL (a : List UInt8) : bval (redL a) = bval a % Lq := by unfold redL; exact bval_mod _
theorem bval_z32 : bval z32 = 0 := by unfold z32; exact bval_zeros 32
theorem may_of (l : List UInt8) (h : l.length = 32) (hv : bval l < Lq) : mayS l = true := by unfold mayS; rw [decide_eq_true h, decide_eq_true hv]; rfl
theorem may_sumL (a b : List UInt8) : mayS (sumL a b) = true := may_of _ (sumL_len a b) (by rw [bval_sumL]; exact Nat.mod_lt _ Lq_lt.2)
theorem may_madL (a b c : List UInt8) : mayS (madL a b c) = true := may_of _ (madL_len a b c) (by rw [bval_madL]; exact Nat.mod_lt _ Lq_lt.2)
theorem may_redL (a : List UInt8) : mayS (redL a) = true := may_of _ (redL_len a) (by rw [bval_redL]; exact Nat.mod_lt _ Lq_lt.2)
theorem sumL_comm (a b : List UInt8) : sumL b a = sumL a b := by unfold sumL; rw [Nat.add_comm]
theorem madL_comm (a b c : List UInt8) : madL b a c = madL a b c := by unfold madL; rw [Nat.mul_comm]
theorem sumL_assoc (a b c : List UInt8) : sumL a (sumL b c) = sumL (sumL a b) c := by
  rw [show sumL a (sumL b c) = leB 32 ((bval a + bval (sumL b c)) % Lq) from by unfold sumL; rfl, bval_sumL, show sumL (sumL a b) c = leB 32 ((bval (sumL a b) + bval c) % Lq) from by unfold sumL; rfl, bval_sumL, Nat.add_mod_mod, Nat.mod_add_mod, Nat.add_assoc]
theorem madL_z (a b : List UInt8) : madL a b z32 = leB 32 ((bval a * bval b) % Lq) := by unfold madL; rw [bval_z32, Nat.add_zero]
theorem madL_over (x y z : List UInt8) : madL x (sumL y z) z32 = sumL (madL x y z32) (madL x z z32) := by
  rw [madL_z, bval_sumL, show sumL (madL x y z32) (madL x z z32) = leB 32 ((bval (madL x y z32) + bval (madL x z z32)) % Lq) from by unfold sumL; rfl, bval_madL, bval_madL, bval_z32, Nat.add_zero, Nat.add_zero, Nat.mul_mod_mod, Nat.mul_add, ← Nat.add_mod]
theorem madL_assoc (x y z : List UInt8) : madL x (madL y z z32) z32 = madL (madL x y z32) z z32 := by
  rw [madL_z, bval_madL, madL_z (madL x y z32), bval_madL, bval_z32, Nat.add_zero, Nat.add_zero, Nat.mul_mod_mod, Nat.mod_mul_mod, Nat.mul_assoc]
theorem madL_one (x o : List UInt8) (ho : bval o = 1) : madL x o z32 = redL x := by
  rw [madL_z, ho, Nat.mul_one]; unfold redL; rfl
theorem redL_stays (x : List UInt8) (h : x.length = 32) (hm : mayS x = true) : redL x = x := by
  unfold mayS at hm
  rw [Bool.and_eq_true, decide_eq_true_eq, decide_eq_true_eq] at hm
  refine bval_inj (by rw [redL_len, h]) ?_
  rw [bval_redL, Nat.mod_eq_of_lt hm.2]
theorem redL_moves (x : List UInt8) (hm : mayS x = false) : redL x ≠ x := fun e => by
  have := may_redL x
  rw [e, hm] at this
  cases this
theorem redL_halves (x y t : List UInt8) (hx : x.length = 32) (ht : bval t = 256 ^ 32 % Lq) : redL (x ++ y) = madL y t x := by
  unfold redL madL
  rw [bval_append, hx, ht, Nat.add_comm, Nat.mul_comm (256 ^ 32)]
  rw [Nat.add_mod, ← Nat.mul_mod_mod, ← Nat.add_mod]
theorem bval_full (l : List UInt8) (h : l.length ≤ 32) : bval (fullL l) = bval l := by
  unfold fullL
  rw [List.take_append, List.take_of_length_le h, bval_append, List.take_replicate, bval_zeros, Nat.mul_zero, Nat.add_zero]
theorem strOf_ne {a b : List UInt8} (h : a ≠ b) : strOf a ≠ strOf b := fun e => h (by rw [← strOf_toList a, ← strOf_toList b, e])

theorem step_lit {yl : Nat → Option Bool} {o : Oper} {a : Act} {K : Act → World → Prop} {Q : Exit → Act → World → Prop} {E : Prop} (hw : Region.wanted o yl = true) {P : Program} {w : World} {us : List Value} {n : Nat} {e : TypeId}
    (hrun : ∀ w, (execOp a.eval o).run P w = .ok (.value (.slice (some ⟨w.heap.size, 0, none⟩) n n)) (w.alloc (.cells us.toArray e))) (hl : us.length = n) (hn : n ≤ 4294967296)
    (h : ∀ g w', St w NoB w' [.row (.slice (some ⟨g, 0, none⟩) n n) e 1 n us] → K (a.put o.dst (.slice (some ⟨g, 0, none⟩) n n)) w') : if Region.wanted o yl = true then Oper.wp P o a w K Q else E :=
  step_run hw (hrun w) (h w.heap.size _ ((St.init w NoB).lit us e 1 n (by omega) (by unfold maxLen; omega)))

theorem enAdd (args : Array Value) (w : World) : (callFunc 14 args).run Try.prog w = .ok (.enter 14 args) w := by kernel_rfl
theorem enMulAdd (args : Array Value) (w : World) : (callFunc 13 args).run Try.prog w = .ok (.enter 13 args) w := by kernel_rfl
theorem enReduce (args : Array Value) (w : World) : (callFunc 11 args).run Try.prog w = .ok (.enter 11 args) w := by kernel_rfl
theorem enFull (args : Array Value) (w : World) : (callFunc 10 args).run Try.prog w = .ok (.enter 10 args) w := by kernel_rfl
def Row32 (w : World) (l : List UInt8) (e : Ending) (w' : World) : Prop := ∃ R d, e = .returned (.slice R 32 d) ∧ Below w.heap.size w w' ∧ Rd w' (.slice R 32 d) 1 32 (bvs l)
theorem row32_of {w : World} {l : List UInt8} {e : Ending} {w' : World} (hl : l.length = 32) (h : ResB 5 w l e w') : Row32 w l e w' := by
  obtain ⟨A, c, he, hb, ho⟩ := h
  rw [hl] at he ho
  exact ⟨A, c, he, hb, rd_own ho⟩
theorem addC {W : World} {A B : Option Addr} {ca cb : Nat} {a b : List UInt8} (hla : a.length = 32) (hlb : b.length = 32) (ha : Rd W (.slice A 32 ca) 1 32 (bvs a)) (hb : Rd W (.slice B 32 cb) 1 32 (bvs b)) :
    Calls Try.prog 14 #[.slice A 32 ca, .slice B 32 cb] W (Row32 W (sumL a b)) :=
  (add_walk A B ca cb a b W hla hlb ha hb).mono fun _ _ h => row32_of (sumL_len a b) (by unfold sumL; exact h)
theorem madC {W : World} {A B C : Option Addr} {ca cb cc : Nat} {a b c : List UInt8} (hla : a.length = 32) (hlb : b.length = 32) (hlc : c.length = 32) (ha : Rd W (.slice A 32 ca) 1 32 (bvs a)) (hb : Rd W (.slice B 32 cb) 1 32 (bvs b))
    (hc : Rd W (.slice C 32 cc) 1 32 (bvs c)) : Calls Try.prog 13 #[.slice A 32 ca, .slice B 32 cb, .slice C 32 cc] W (Row32 W (madL a b c)) :=
  (muladd_walk A B C ca cb cc a b c W hla hlb hlc ha hb hc).mono fun _ _ h => row32_of (madL_len a b c) (by unfold madL; exact h)
theorem redC {W : World} {A : Option Addr} {n ca : Nat} {a : List UInt8} (hla : a.length = n) (hn : n ≤ 64) (ha : Rd W (.slice A n ca) 1 n (bvs a)) :
    Calls Try.prog 11 #[.slice A n ca] W (Row32 W (redL a)) :=
  (reduce_walk A n ca a W hla hn ha).mono fun _ _ h => row32_of (redL_len a) (by unfold redL; exact h)
theorem mayC {W : World} {A : Option Addr} {n ca : Nat} {a : List UInt8} {b : Bool} (hm : mayS a = b) (hla : a.length = n) (ha : Rd W (.slice A n ca) 1 n (bvs a)) :
    Calls Try.prog 12 #[.slice A n ca] W fun e w' => e = .returned (.bool b) ∧ Below W.heap.size W w' := by
  subst hm
  exact may_walk A n ca a W hla ha
theorem fullC {W : World} {A : Option Addr} {n ca : Nat} {a : List UInt8} (hla : a.length = n) (hn : n ≤ 100) (ha : Rd W (.slice A n ca) 1 n (bvs a)) :
    Calls Try.prog 10 #[.slice A n ca] W (Row32 W (fullL a)) := by
  refine (full_walk A n ca a W hla (by omega) ha).mono ?_
  rintro e w' ⟨B, d, he, hb, ho⟩
  exact ⟨B, d, he, hb, rd_own ho⟩
set_option maxRecDepth 100000 in
set_option maxHeartbeats 400000 in
theorem reduce_nil (A : Option Addr) (n c : Nat) (w : World) (hn : 64 < n) : Calls Try.prog 11 #[.slice A n c] w fun e w' => e = .returned (.slice none 0 0) ∧ w = w' := by
  have hne : decide (64 < (n : Int)) = true := by simp; omega
  go_enter Try.func11, Try.ntmps11
  go_wp2
  go_ret
  exact ⟨rfl, rfl⟩
end Go.Proofs.Ytgofcefggdlalaa
