/-
  Layer 7: the heap's Pop; Clone; Set's closure.
-/
import Derived.Test.YtjamoifenkdneaaTq
namespace Go.Proofs.Ytjamoifenkdneaa
open Go.RowKit
set_option linter.unusedSimpArgs false

/-- What stands when the first of n + 1 has gone to place n. -/
def popL (n : Nat) (l : List Tm) : List Tm := dn n (swp l 0 n) 0 n
theorem popL_length (n : Nat) (l : List Tm) : (popL n l).length = l.length := by unfold popL; rw [dn_length, swp_length]
theorem popL_mem {n : Nat} {l : List Tm} {x : Tm} (h : x ∈ popL n l) : x ∈ l := swp_mem (dn_mem _ _ _ _ h)
set_option maxRecDepth 100000 in
set_option maxHeartbeats 1600000 in
theorem hPop_any {w0 w : World} {H : List Chunk} (g b n c : Nat) (l : List Tm) (rest : List Value) (x : Tm) (hx : (popL n l)[n]? = some x) (hok : ∀ x ∈ l, TmOK w0 x) (hN : n + 1 ≤ 1000000) (hS : St w0 NoB w (PC g b (n + 1) c l rest H)) (hc : n + 1 ≤ c) (hm : c ≤ maxLen) :
    Calls Try.prog 40 #[hpV g] w fun e w' => e = .returned (.iface 24 x.val) ∧ St w0 NoB w' (PC g b n c (popL n l) rest H) := by
  have hln : n + 1 ≤ l.length := by have := (List.getElem?_eq_some_iff.1 hx).1; rw [popL_length] at this; exact this
  obtain ⟨m0, _, m2, m3⟩ := m_run hS
  have HL := hide (fun W => pLen_any (some ⟨b, 0, none⟩) (n + 1) c W)
  have HSW := hide (swap_hp hS hln hN 0 n (by omega) (by omega))
  have HDN := hide (fun W (h : St w0 NoB W (PC g b (n + 1) c (swp l 0 n) rest H)) => down_any g b (n + 1) c (swp l 0 n) rest 0 n (fun y hy => hok y (swp_mem hy)) (Nat.le_succ n) (by rw [swp_length]; exact hln) hc hm hN (Nat.zero_le n) h)
  have HPP := hide (fun W (h : St w0 NoB W (PC g b (n + 1) c (popL n l) rest H)) => pPop_any g b n c (popL n l) rest x hx (by omega) h hc hm)
  have HMR := hide (fun W l' (h : St w0 NoB W (PC g b (n + 1) c l' rest H)) => m_run h)
  have ek : ((n + 1 : Nat) : Int) - 1 = (n : Int) := by omega
  rw [show ((0 : Nat) : Int) = 0 from rfl] at HSW HDN
  unfold Tm.val Tm.row at *
  clear hS hx hok hln hc
  unfold hpV at *
  go_enter Try.func40, Try.ntmps40
  go_wp2_with (first
    | (go_at_call 39; (with_reducible refine (HL.out _).mono ?_); rintro e w1 ⟨rfl, rfl⟩)
    | (go_at_call 71; (with_reducible refine HSW.out.mono ?_); rintro e w1 ⟨rfl, hS1⟩; have HS1 := hide hS1; obtain ⟨_, _, _, m3⟩ := HMR.out _ _ hS1; clear hS1)
    | (go_at_call 50; (with_reducible refine (HDN.out _ HS1.out).mono ?_); rintro e w2 ⟨⟨bb, rfl⟩, hS2⟩; have HS2 := hide hS2; obtain ⟨_, _, _, m3⟩ := HMR.out _ _ hS2; clear hS2)
    | (go_at_call 72; (with_reducible refine (HPP.out _ HS2.out).mono ?_); rintro e w3 ⟨rfl, hS3⟩))
  go_ret
  exact ⟨rfl, hS3⟩
theorem tmCells_one (l : List Tm) : ∀ u ∈ tmCells l, u.oneCell' = true := by
  intro u hu
  unfold tmCells at hu
  obtain ⟨t, _, ht⟩ := List.mem_flatMap.1 hu
  exact t.one u ht
theorem rowTm : RowTy Try.prog 22 24 4 56 := rowTy_of (z := .agg #[.int .i64 0, .int .i64 0, .string ⟨#[]⟩, .slice none 0 0]) (by kernel_rfl) (by kernel_rfl) rfl (by decide)
set_option maxRecDepth 100000 in
set_option maxHeartbeats 800000 in
theorem clone_any {w0 w : World} {M : Nat → Prop} {H : List Chunk} (v : Value) (l : List Tm) (hr : Rd w v 4 l.length (tmCells l)) (hn : l.length ≤ 1000000) (hS : St w0 M w H) :
    Calls Try.prog 37 #[v] w fun e w' => ∃ A c, e = .returned (.slice A l.length c) ∧ St w0 M w' (.row (.slice A l.length c) 24 4 l.length (tmCells l) :: H) := by
  obtain ⟨A, c, rfl, hr⟩ := Rd.isSlice hr
  cases A with
  | none =>
    have h0 : l.length = 0 ∧ c = 0 := by
      obtain ⟨A', c', hv, _, h1, h2, h3, _⟩ := hr
      injection hv with hv1 hv2 hv3
      subst hv1 hv3
      have := h3 rfl
      omega
    obtain ⟨h0, rfl⟩ := h0
    have hl : l = [] := List.eq_nil_of_length_eq_zero h0
    subst hl
    have HS := hide hS
    have hnil : ∀ W, (binOp .eql 22 (.slice none 0 0) (.slice none 0 0)).run Try.prog W = .ok (.bool true) W := fun W => by kernel_rfl
    clear hS hr hn h0
    go_enter Try.func37, Try.ntmps37
    go_wp2_with fail
    go_ret
    exact ⟨none, 0, rfl, HS.out.row (Below.refl _ _) (World.ownsRow_nil _ _ _ _)⟩
  | some a =>
    have hS1 : St w0 M (w.alloc (.cells #[] 24)) (.row (.slice (some ⟨w.heap.size, 0, none⟩) 0 0) 24 4 0 [] :: H) := hS.row ((Below.refl w.heap.size w).alloc (Nat.le_refl _) _) ⟨rfl, .inr ⟨w.heap.size, 0, #[], rfl, Nat.le_refl _, by show (w.heap.push _)[w.heap.size]? = _; simp, Nat.le_refl _, by decide, rfl, rfl⟩⟩
    have hr1 := hr.below ((Below.refl w.heap.size w).alloc (Nat.le_refl _) (.cells #[] 24))
    have HS1 := hide hS1
    have HR1 := hide hr1
    clear hS hS1 hr hr1
    obtain ⟨n, hnn⟩ : ∃ n, n = l.length := ⟨_, rfl⟩
    rw [← hnn] at HR1 hn ⊢
    clear hnn
    have hnil : ∀ W, (binOp .eql 22 (.slice (some a) n c) (.slice none 0 0)).run Try.prog W = .ok (.bool false) W := fun W => by kernel_rfl
    go_enter Try.func37, Try.ntmps37
    go_wp2_with (at_builtin; refine wl_append rfl rfl rowTm HS1.out 0 rfl rfl rfl HR1.out (tmCells_one l) (by omega) (by decide) ?_; intro A' c' w' hS2; rw [Nat.zero_add, List.nil_append] at hS2; have HS2 := hide hS2; clear hS2)
    go_ret
    exact ⟨_, _, rfl, HS2.out⟩
/-- A row of one's own, its block told. -/
theorem St.cells_of {w0 w : World} {M : Nat → Prop} {H : List Chunk} {A : Option Addr} {n c : Nat} {e : TypeId} {xs : List Value} (hS : St w0 M w (.row (.slice A n c) e 4 n xs :: H)) (hn : 0 < n) :
    ∃ b rest, A = some ⟨b, 0, none⟩ ∧ n ≤ c ∧ c ≤ maxLen ∧ St w0 M w (.cells b (xs ++ rest).toArray e :: H) := by
  have ho : w.ownsRow 0 e 4 (.slice A n c) n xs := hS.sat 0 _ rfl
  obtain ⟨h1, h2⟩ := ho
  rcases h2 with ⟨_, h0⟩ | ⟨g, cap, cur, hv, _, hh, h3, h4, h5, h6⟩
  · omega
  · injection hv with hv1 hv2 hv3
    subst hv1 hv3
    have hcur : cur = (xs ++ cur.toList.drop (n * 4)).toArray := by
      rw [← h6, List.take_append_drop]
    refine ⟨g, cur.toList.drop (n * 4), rfl, h3, h4, ?_⟩
    rw [← hcur]
    have key := hS.turn (i := 0) (c := .row (.slice (some ⟨g, 0, none⟩) n c) e 4 n xs) (d := .cells g cur e) rfl (Ext.refl _ _) hh
    exact key (fun k hk => .inl hk)
end Go.Proofs.Ytjamoifenkdneaa
