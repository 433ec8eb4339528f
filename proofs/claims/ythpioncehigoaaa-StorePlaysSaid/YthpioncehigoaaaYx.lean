/-
  Layer 18: the page's Named.
-/
import Derived.Test.YthpioncehigoaaaYw
namespace Go.Proofs.Ythpioncehigoaaa
open Go.RowKit
set_option linter.unusedSimpArgs false

theorem cmpN_zero (s : List UInt8) (n : Int) (f : Fc) : decide (cmpN s n f = 0) = (f.name == s && (f.ts.length : Int) == n) := by
  rw [Bool.eq_iff_iff, decide_eq_true_eq, Bool.and_eq_true, beq_iff_eq, beq_iff_eq]
  constructor
  · intro h
    obtain ⟨h1, h2⟩ := orI_zero (show orI (cmpS f.name s) (cmpI (f.ts.length : Int) n) = 0 from h)
    exact ⟨cmpS_eq.1 h1, cmpI_zero h2⟩
  · rintro ⟨h1, h2⟩
    show orI (cmpS f.name s) (cmpI (f.ts.length : Int) n) = 0
    rw [orI, if_pos (cmpS_eq.2 h1), h2]
    exact cmpI_ord.self n
theorem namF_snoc (s : List UInt8) (n : Int) (X : List Fc) (k : Nat) (f : Fc) (h : X[k]? = some f) : namF s n (X.take (k + 1)) = if decide (cmpN s n f = 0) = true then namF s n (X.take k) ++ [f] else namF s n (X.take k) := by
  unfold namF
  rw [List.take_add_one, h, List.filter_append]
  show _ ++ List.filter _ [f] = _
  rw [List.filter_cons, List.filter_nil]
  split
  · rfl
  · rw [List.append_nil]
set_option maxRecDepth 100000 in
set_option maxHeartbeats 1600000 in
theorem namedR18_any (q : Nat) (B : Option Addr) (d : Nat) (X : List Fc) (s : List UInt8) (nn : Int) (w : World) (hq : w.cell? ⟨q, 0, none⟩ = some (.slice B X.length d)) (hv : FcsAt w (.slice B X.length d) X) (h6 : X.length ≤ 1000000) :
    Calls Try.prog 24 #[.pointer (some ⟨q, 0, none⟩), .string (strOf s), .int .i64 nn] w fun e w' => ∃ B' d', e = .returned (.slice B' (namF s nn X).length d') ∧ FcsAt w' (.slice B' (namF s nn X).length d') (namF s nn X) ∧ Below w.heap.size w w' := by
  have hql := World.block_lt_of_cell? _ _ hq
  have hql : q < w.heap.size := hql
  have HA := hide hv.1
  have HOK := hide hv.2
  obtain ⟨n, hn⟩ : ∃ n, n = X.length := ⟨_, rfl⟩
  have HN := hide hn
  rw [← hn] at HA hq h6
  clear hv hn
  go_enter Try.func24, Try.ntmps24
  go_wp2_with fail
  go_loopw [7, 15] (fun ov i wr => ∃ (k m : Nat) (B' : Option Addr) (d' : Nat) (o : List Fc), k ≤ n ∧ m ≤ k ∧ i = .int .i64 (k : Int) ∧ ov = .slice B' m d' ∧ Hid (o = namF s nn (X.take k) ∧ m = o.length) ∧ Hid (St w NoB wr [.row (.slice B' m d') 27 3 m (fcCells o)])) (fun _ i _ => (n - intOf i).toNat)
  case atStart => exact ⟨0, 0, none, 0, [], by omega, by omega, rfl, rfl, hide ⟨by simp [namF], rfl⟩, hide ((St.init w NoB).row (Below.refl _ _) (World.ownsRow_nil _ _ 27 3))⟩
  case round =>
    obtain ⟨k, m, B', d', o, hk, hmk, rfl, rfl, HX, HS⟩ := hrel
    by_cases hlt : k < n
    · have hd : decide ((k : Int) < (n : Int)) = true := by simp; omega
      have hd' : decide (k < n) = true := by simp; omega
      have kn : (k : Int) < (n : Int) := by omega
      have kl : k < X.length := by have := HN.out; omega
      have hlk : X[k]? = some X[k] := List.getElem?_eq_getElem kl
      obtain ⟨b, ob, rfl, hb8, e0, e1, e2⟩ := fc_at (HA.out.st HS.out) hlk
      have HSN := hide (namF_snoc s nn X k X[k] hlk)
      rw [cmpN_zero] at HSN
      generalize X[k] = f at e0 e1 e2 HSN
      have HS1 := hide (HS.out.alloc #[.string (strOf f.name), .slice f.A f.ts.length f.c, .int .u32 f.o] 27)
      have f0 := HS1.out.cell 0 rfl 0
      have f1 := HS1.out.cell 0 rfl 1
      have f2 := HS1.out.cell 0 rfl 2
      have HL := hide hlt
      clear hlt kl hlk
      unfold Fc.row at e1
      obtain ⟨sb, hsb⟩ : ∃ b, (f.name == s) = b := ⟨_, rfl⟩
      obtain ⟨nb, hnb⟩ : ∃ b, ((f.ts.length : Int) == nn) = b := ⟨_, rfl⟩
      rw [hsb, hnb] at HSN
      by_cases hall : sb = true ∧ nb = true
      · obtain ⟨rfl, rfl⟩ := hall
        have HX2 := hide (show o ++ [f] = namF s nn (X.take (k + 1)) by rw [HSN.out, HX.out.1]; rfl)
        clear HSN
        have HRP := hide (show Rd ((wr.alloc (.cells #[.string (strOf f.name), .slice f.A f.ts.length f.c, .int .u32 f.o] 27)).alloc (.cells #[.string (strOf f.name), .slice f.A f.ts.length f.c, .int .u32 f.o] 27)) (.slice (some ⟨wr.heap.size + 1, 0, none⟩) 1 1) 3 1 f.cells from by
          have h := rd_new (wr.alloc (.cells #[.string (strOf f.name), .slice f.A f.ts.length f.c, .int .u32 f.o] 27)) f.cells 27 3 1 rfl (by decide)
          rw [size_alloc1] at h
          exact h)
        go_wp2_with (at_builtin; refine wl_append (n := m) (m := 1) rfl rfl rowFc (HS1.out.skip _) 1 rfl rfl rfl HRP.out f.one (by omega) (by decide) ?_; intro A2 c2 w9 hS9; have HS9 := hide hS9; clear hS9)
        go_roundw
        case rel => exact ⟨k + 1, m + 1, A2, c2, o ++ [f], by have := HL.out; omega, by omega, by go_num, rfl, hide ⟨HX2.out, by rw [List.length_append, HX.out.2]; rfl⟩, hide (by
          have h := HS9.out.tail
          rw [fcCells_append, show fcCells [f] = f.cells by unfold fcCells; simp]
          exact h)⟩
        case measure => (have := HL.out); (simp [intOf]) <;> omega
      · have HX2 : Hid (o = namF s nn (X.take (k + 1))) := hide (by
          rw [HSN.out, HX.out.1]
          cases sb <;> cases nb <;> first | rfl | exact absurd ⟨rfl, rfl⟩ hall)
        clear HSN
        cases sb <;> cases nb
        all_goals first
          | (exact absurd ⟨rfl, rfl⟩ hall)
          | (go_wp2_with fail
             go_roundw
             case rel => exact ⟨k + 1, m, B', d', o, by have := HL.out; omega, by omega, by go_num, rfl, hide ⟨HX2.out, HX.out.2⟩, hide HS1.out.tail⟩
             case measure => (have := HL.out); (simp [intOf]) <;> omega)
    · obtain rfl : k = n := by omega
      have hd : decide ((k : Int) < (k : Int)) = false := by simp
      have hd' : decide (k < k) = false := by simp
      have HE := hide (show o = namF s nn X by rw [HX.out.1, List.take_of_length_le (by have := HN.out; omega)])
      go_wp2_with fail
      go_ret
      rw [← HE.out, ← HX.out.2]
      exact ⟨B', d', rfl, ⟨by have h := HS.out.rd 0 rfl; rw [← HX.out.2]; exact h, fun x hx => (HOK.out x (List.mem_filter.1 (show x ∈ X.filter (fun f => decide (cmpN s nn f = 0)) by rw [HE.out] at hx; exact hx)).1).on HS.out.below⟩, HS.out.below⟩
end Go.Proofs.Ythpioncehigoaaa
