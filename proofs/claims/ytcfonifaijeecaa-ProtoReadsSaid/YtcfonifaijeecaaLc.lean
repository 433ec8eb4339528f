/-
  The walk of 'ProtoCut'.
-/
import Derived.Test.YtcfonifaijeecaaPw15
namespace Go.Proofs.Ytcfonifaijeecaa
open Go.RowKit

/-- What the message's bytes are good for here. -/
structure CutL (x : List UInt8) : Prop where
  two : 2 ≤ x.length
  most : x.length ≤ 400
  cut : fds x.dropLast = .bad 2
  more : fds (x ++ [8]) = .bad 2
theorem cutL_I (num : Int) (n : Nat) (h1 : 1 ≤ num) (h2 : num ≤ 100) (hn : W64 n) : CutL (putI num n) := by
  have hm := (mayB_iff num).2 ⟨h1, h2⟩
  refine ⟨?_, ?_, fds_cutI num n hm hn, fds_behindI num n hm hn⟩
  · rw [putI_yes num n hm, List.length_append]
    have := (vb_len (8 * num.toNat)).2
    have := (vb_len n).2
    omega
  · have := putI_len num n
    omega
theorem cutL_R (num : Int) (b : List UInt8) (h1 : 1 ≤ num) (h2 : num ≤ 100) (hb : b.length ≤ 300) : CutL (putR num b) := by
  have hm := (mayB_iff num).2 ⟨h1, h2⟩
  refine ⟨?_, ?_, fds_cutR num b hm (by omega), fds_behindR num b hm (by omega)⟩
  · rw [putR_yes num b hm (by omega)]
    simp only [List.length_append]
    have := (vb_len (8 * num.toNat + 2)).2
    have := (vb_len b.length).2
    omega
  · have := putR_len num b
    omega

theorem rd_cap {w : World} {A : Option Addr} {n c size : Nat} {xs : List Value} (h : Rd w (.slice A n c) size n xs) : n ≤ c := by
  obtain ⟨_, _, e, _, h, _⟩ := h
  injection e with _ _ e
  omega
theorem resFA_bad {w : World} {k : Nat} {e : Ending} {w' : World} (h : ResFA w (.bad k) e w') : ∃ B d, e = .returned (.tuple #[.slice B 0 d, .int .i64 (k : Int)]) ∧ Below w.heap.size w w' := by
  obtain ⟨xs, B, d, rfl, _, hm, hb⟩ := h
  obtain rfl : xs = [] := by simpa [FsR.lst] using hm
  exact ⟨B, d, rfl, hb⟩
def NumOK (nu : Int) : Prop := 1 ≤ nu ∧ nu ≤ 100
theorem numOK_of (num : Int) : NumOK (wrap64 (1 + wrap64 ((IntKind.u64.wrap num).tmod 100))) := by
  have h := IntKind.wrap_u64 num
  rw [h, Int.tmod_eq_emod_of_nonneg (by omega), IntWalk.wrap64_in (num % 18446744073709551616 % 100) (by omega), IntWalk.wrap64_in _ (by omega)]
  unfold NumOK
  omega
set_option maxRecDepth 100000 in
set_option maxHeartbeats 800000 in
theorem cut_walk (num : Int) (n : Nat) (A : Option Addr) (c : Nat) (b : List UInt8) (whole : Bool) (w : World) (hn : W64 n) (hr : Rd w (.slice A b.length c) 1 b.length (bvs b)) :
    Calls Try.prog 8 #[.int .i64 num, .int .u64 n, .slice A b.length c, .bool whole] w fun e w' => e = .returned (.bool true) ∧ Below w.heap.size w w' := by
  have HN := hide hn
  have HR := hide hr
  clear hn hr
  go_enter Try.func8, Try.ntmps8
  go_upto_region 1 with fail
  go_cut [0] (fun t wx => ∃ nu : Int, t = .int .i64 nu ∧ NumOK nu ∧ wx = w)
  case first =>
    go_wp2_with fail
    go_meet
    exact ⟨_, rfl, numOK_of num, rfl⟩
  case rest =>
    obtain ⟨nu, rfl, hnu, rfl⟩ := hcut
    by_cases hb : b.length ≤ 300
    · have hb' : decide (300 < (b.length : Int)) = false := by simp; omega
      obtain ⟨x, hx⟩ : ∃ x, x = if whole then putR nu b else putI nu n := ⟨_, rfl⟩
      have hC : CutL x := by
        rw [hx]
        cases whole
        · exact cutL_I nu n hnu.1 hnu.2 HN.out
        · exact cutL_R nu b hnu.1 hnu.2 hb
      obtain ⟨k, hk⟩ : ∃ k, x.length = k + 1 := ⟨x.length - 1, by have := hC.two; omega⟩
      have hk1 : 1 ≤ k := by have := hC.two; omega
      have hk2 : k ≤ 400 := by have := hC.most; omega
      have HC := hide hC
      have HK := hide hk
      have HB := hide hb
      have BY : ∀ (w1 : World) (v : Value), St wc NoB w1 (MsgC wc.heap.size v x []) → Calls Try.prog 15 #[.pointer (some ⟨wc.heap.size, 0, none⟩)] w1 fun e w' => ∃ A c, e = .returned (.slice A (k + 1) c) ∧ St wc NoB w' (.row (.slice A (k + 1) c) 5 1 (k + 1) (bvs x) :: MsgC wc.heap.size v x []) := by
        intro w1 v hS
        refine (bytes_any wc.heap.size v x (by omega) (hS.cell 0 rfl 0) (hS.rd 1 rfl)).mono ?_
        rintro e w' ⟨A, c, rfl, hb, ho⟩
        rw [hk] at ho ⊢
        exact ⟨A, c, rfl, hS.row hb ho⟩
      have HBY := hide BY
      clear BY hC hk hb
      have hS0 : St wc NoB (wc.alloc (.cells #[.slice none 0 0] 29)) (MsgC wc.heap.size (.slice none 0 0) [] []) := by
        exact (((St.init wc NoB).alloc #[.slice none 0 0] 29).row (Below.refl _ _) (World.ownsRow_nil _ _ 5 1)).swap
      have HS0 := hide hS0
      clear hS0
      have F1 : ∀ (A2 : Option Addr) (c2 : Nat) (W : World), Rd W (.slice A2 (k + 1) c2) 1 (k + 1) (bvs x) → Calls Try.prog 22 #[.slice A2 k c2] W fun e w' => ∃ B d, e = .returned (.tuple #[.slice B 0 d, .int .i64 2]) ∧ Below W.heap.size W w' := by
        intro A2 c2 W hR
        have hd : x.dropLast = x.take k := by rw [List.dropLast_eq_take, HK.out, Nat.add_sub_cancel]
        have := fields_any W A2 k c2 x.dropLast (by rw [List.length_dropLast, HK.out, Nat.add_sub_cancel]) (by rw [List.length_dropLast, HK.out]; omega) (by rw [hd]; exact rd_take hR k (by omega))
        rw [HC.out.cut] at this
        exact this.mono fun _ _ h => resFA_bad h
      have F2 : ∀ (A2 : Option Addr) (c2 : Nat) (W : World), Rd W (.slice A2 (k + 1 + 1) c2) 1 (k + 1 + 1) (bvs (x ++ [8])) → Calls Try.prog 22 #[.slice A2 (k + 1 + 1) c2] W fun e w' => ∃ B d, e = .returned (.tuple #[.slice B 0 d, .int .i64 2]) ∧ Below W.heap.size W w' := by
        intro A2 c2 W hR
        have := fields_any W A2 (k + 1 + 1) c2 (x ++ [8]) (by rw [List.length_append, HK.out]; rfl) (by rw [List.length_append, HK.out]; simp; omega) hR
        rw [HC.out.more] at this
        exact this.mono fun _ _ h => resFA_bad h
      have HF1 := hide F1
      have HF2 := hide F2
      have HX := hide hx
      clear F1 F2 hx
      cases whole
      all_goals
        go_wp2_with (first
          | (go_at_call 13; refine (int_any wc.heap.size (.slice none 0 0) [] nu n HN.out (by simp) HS0.out).mono ?_; rintro e w1 ⟨rfl, v1, hS1⟩; rw [List.nil_append, show putI nu n = x from by rw [HX.out]; rfl] at hS1)
          | (go_at_call 11; refine (raw_any wc.heap.size (.slice none 0 0) [] nu A c b (by simp) (by have := HB.out; omega) HR.out.rdH HS0.out).mono ?_; rintro e w1 ⟨rfl, v1, hS1⟩; rw [List.nil_append, show putR nu b = x from by rw [HX.out]; rfl] at hS1)
          | (go_at_call 15; refine (HBY.out _ v1 hS1).mono ?_; rintro e w2 ⟨A2, c2, rfl, hS2⟩; have hcap : k + 1 ≤ c2 := rd_cap (hS2.rd 0 rfl))
          | (go_at_call 22; ((with_reducible refine (HF1.out A2 c2 _ (hS2.rd 0 rfl)).mono ?_); rintro e w3 ⟨B3, d3, rfl, hb3⟩; have hS3 := hS2.call hb3))
          | (at_builtin; refine wl_append rfl rfl tyB (hS3.lit [] 5 1 0 rfl (by decide)) 0 rfl rfl rfl ((hS3.lit [] 5 1 0 rfl (by decide)).rd 1 rfl) (one_bvs _) (by omega) (by decide) ?_; intro A4 c4 w4 hS4; simp only [Nat.zero_add, List.nil_append, List.set_cons_zero] at hS4)
          | (at_builtin; refine wl_append1 rfl rfl tyB hS4 0 rfl rfl (us := [_]) rfl rfl ?_ ?_ (by decide) ?_; (intro u hu; simp only [List.mem_singleton] at hu; subst hu; rfl); (simp only [List.length_singleton]; omega); intro A5 c5 w5 hS5; simp only [List.set_cons_zero] at hS5; have hR5 : Rd w5 (.slice A5 (k + 1 + 1) c5) 1 (k + 1 + 1) (bvs (x ++ [8])) := (by rw [bvs_append]; exact hS5.rd 0 rfl))
          | (go_at_call 22; ((with_reducible refine (HF2.out A5 c5 _ hR5).mono ?_); rintro e w6 ⟨B6, d6, rfl, hb6⟩; have hS6 := hS5.call hb6))
          | (go_at_call 10; refine (awake_any _).mono ?_; rintro e w7 ⟨rfl, hb7⟩))
        go_ret
        exact ⟨rfl, (hS6.call hb7).below⟩
    · have hb' : decide (300 < (b.length : Int)) = true := by simp; omega
      go_wp2_with (go_at_call 10; refine (awake_any _).mono ?_; rintro e w2 ⟨rfl, hb2⟩)
      go_ret
      exact ⟨rfl, hb2⟩
end Go.Proofs.Ytcfonifaijeecaa
