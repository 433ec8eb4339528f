/-
  Layer 18: the same rows; a store made of facts.
-/
import Derived.Test.YthpioncehigoaaaYt
set_option linter.unusedVariables false
namespace Go.Proofs.Ythpioncehigoaaa
open Go.RowKit
set_option linter.unusedSimpArgs false

set_option maxRecDepth 100000 in
set_option maxHeartbeats 1600000 in
theorem sameFacts_any (va vb : Value) (xs ys : List Fc) (w : World) (ha : FcsAt w va xs) (hb : FcsAt w vb ys) (hm1 : xs.length ≤ 140737488351232) (hm2 : ys.length ≤ 140737488351232) :
    Calls Try.prog 14 #[va, vb] w fun e w' => e = .returned (.bool (sameF xs ys)) ∧ Below w.heap.size w w' := by
  obtain ⟨A, c, rfl, hra⟩ := Rd.isSlice ha.1
  obtain ⟨B, d, rfl, hrb⟩ := Rd.isSlice hb.1
  have HA := hide hra
  have HB := hide hrb
  have HOA := hide ha.2
  have HOB := hide hb.2
  by_cases hll : xs.length = ys.length
  · obtain ⟨n, hn⟩ : ∃ n, n = xs.length := ⟨_, rfl⟩
    rw [← hll, ← hn] at HB
    rw [← hn] at HA hm1
    have HN := hide hn
    have HM := hide (hn.trans hll)
    have q0 : ((n : Int) != (n : Int)) = false := by simp
    rw [← hll, ← hn]
    clear ha hb hra hrb hn hll hm2
    go_enter Try.func14, Try.ntmps14
    go_wp2_with fail
    go_loopw [13] (fun i wr => ∃ k : Nat, k ≤ n ∧ i = .int .i64 (k : Int) ∧ Hid (sameF (xs.drop k) (ys.drop k) = sameF xs ys) ∧ Hid (Below w.heap.size w wr)) (fun i _ => (n - intOf i).toNat)
    case atStart => exact ⟨0, by omega, rfl, hide rfl, hide (Below.refl _ _)⟩
    case round =>
      obtain ⟨k, hk, rfl, HS, HW⟩ := hrel
      by_cases hlt : k < n
      · have hd : decide ((k : Int) < (n : Int)) = true := by simp; omega
        have hd' : decide (k < n) = true := by simp; omega
        have kn : (k : Int) < (n : Int) := by omega
        have k1 : k < xs.length := by have := HN.out; omega
        have k2 : k < ys.length := by have := HM.out; omega
        have HWd := hide (HW.out.drew)
        obtain ⟨b, o, rfl, hb8, c0, c1, c2⟩ := fc_at (HA.out.below HWd.out) (List.getElem?_eq_getElem k1)
        obtain ⟨b', o', rfl, hb8', e0, e1, e2⟩ := fc_at (HB.out.below HWd.out) (List.getElem?_eq_getElem k2)
        have hs := HS.out
        rw [List.drop_eq_getElem_cons k1, List.drop_eq_getElem_cons k2, sameF] at hs
        have HX := hide hs
        have HC := hide (cmpFr_any xs[k] ys[k] wr.drew ((HOA.out _ (List.getElem_mem k1)).on HWd.out) ((HOB.out _ (List.getElem_mem k2)).on HWd.out))
        clear hs
        generalize xs[k] = x at c0 c1 c2 HX HC
        generalize ys[k] = y at e0 e1 e2 HX HC
        obtain ⟨z, hz⟩ : ∃ z, z = cmpF x y := ⟨_, rfl⟩
        rw [← hz] at HX HC
        have HL := hide hlt
        clear hlt k1 k2 hz
        unfold Fc.row at c1 e1
        unfold Fc.val Fc.row at HC
        by_cases hz : z = 0
        · have dz : (z != 0) = false := by simp [hz]
          have HX2 : Hid (sameF (xs.drop (k + 1)) (ys.drop (k + 1)) = sameF xs ys) := hide (by have := HX.out; rw [decide_eq_true hz, Bool.true_and] at this; exact this)
          clear hz
          go_wp2_with fail
          refine wp_region_T [(0, 1), (1, 1), (2, 1), (3, 0), (4, 1), (5, 1), (6, 1), (7, 0), (8, 2), (9, 1)] (by kernel_rfl) (by kernel_rfl) (fun _ _ _ _ h => h) ?_
          go_wp2_with (first
            | (go_at_call 22; (with_reducible refine HC.out.mono ?_); rintro e w2 ⟨rfl, hb⟩; have HW2 := hide (HWd.out.trans (hb.mono HWd.out.size)))
            | (refine wpT_nil ?_)   | ((with_reducible refine fromT_refl ?_); (try simp only [Act.put, nq1, nq2, nq3, nq4, nq5, nq6]))   | ((with_reducible refine fromT_mk (by assumption) ?_); (try simp only [Act.put, nq1, nq2, nq3, nq4, nq5, nq6]))   | (refine wpT_pure (v := ?_) rfl rfl ?_ ?_; rotate_left; (intro wx; go_simp; try go_bits) <;> (with_reducible rfl); (try simp only [Act.put, nq1, nq2, nq3, nq4, nq5, nq6]))   | (refine wpT_load (v := ?_) rfl rfl rfl ?_ ?_; rotate_left; (go_simp; try go_bits) <;> (with_reducible rfl); (try simp only [Act.put, nq1, nq2, nq3, nq4, nq5, nq6]))   | (refine wpT_read (v := ?_) rfl rfl ?_ ?_; rotate_left; (intro wx hx; go_simp; try go_bits) <;> (with_reducible rfl); (try simp only [Act.put, nq1, nq2, nq3, nq4, nq5, nq6]))   | (refine wpT_call rfl rfl ?_; intro K hK)   | (refine wpT_late rfl rfl ?_; intro K hK)   | (refine wpT_any rfl rfl ?_; intro K hK)   | (refine wpT_skip rfl rfl ?_; (try simp only [Act.put, nq1, nq2, nq3, nq4, nq5, nq6])))
          go_roundw
          case rel => exact ⟨k + 1, by have := HL.out; omega, by go_num, HX2, HW2⟩
          case measure => (have := HL.out); (simp [intOf]) <;> omega
        · have dz : (z != 0) = true := by simp [hz]
          have HX2 : Hid (false = sameF xs ys) := hide (by have := HX.out; rw [decide_eq_false hz, Bool.false_and] at this; exact this)
          clear hz
          go_wp2_with fail
          refine wp_region_T [(0, 1), (1, 1), (2, 1), (3, 0), (4, 1), (5, 1), (6, 1), (7, 0), (8, 2), (9, 1)] (by kernel_rfl) (by kernel_rfl) (fun _ _ _ _ h => h) ?_
          go_wp2_with (first
            | (go_at_call 22; (with_reducible refine HC.out.mono ?_); rintro e w2 ⟨rfl, hb⟩; have HW2 := hide (HWd.out.trans (hb.mono HWd.out.size)))
            | (refine wpT_nil ?_)   | ((with_reducible refine fromT_refl ?_); (try simp only [Act.put, nq1, nq2, nq3, nq4, nq5, nq6]))   | ((with_reducible refine fromT_mk (by assumption) ?_); (try simp only [Act.put, nq1, nq2, nq3, nq4, nq5, nq6]))   | (refine wpT_pure (v := ?_) rfl rfl ?_ ?_; rotate_left; (intro wx; go_simp; try go_bits) <;> (with_reducible rfl); (try simp only [Act.put, nq1, nq2, nq3, nq4, nq5, nq6]))   | (refine wpT_load (v := ?_) rfl rfl rfl ?_ ?_; rotate_left; (go_simp; try go_bits) <;> (with_reducible rfl); (try simp only [Act.put, nq1, nq2, nq3, nq4, nq5, nq6]))   | (refine wpT_read (v := ?_) rfl rfl ?_ ?_; rotate_left; (intro wx hx; go_simp; try go_bits) <;> (with_reducible rfl); (try simp only [Act.put, nq1, nq2, nq3, nq4, nq5, nq6]))   | (refine wpT_call rfl rfl ?_; intro K hK)   | (refine wpT_late rfl rfl ?_; intro K hK)   | (refine wpT_any rfl rfl ?_; intro K hK)   | (refine wpT_skip rfl rfl ?_; (try simp only [Act.put, nq1, nq2, nq3, nq4, nq5, nq6])))
          go_ret
          rw [← HX2.out]
          exact ⟨rfl, HW2.out⟩
      · obtain rfl : k = n := by omega
        have hd : decide ((k : Int) < (k : Int)) = false := by simp
        have hd' : decide (k < k) = false := by simp
        have hs := HS.out
        rw [List.drop_of_length_le (show xs.length ≤ k by have := HN.out; omega), List.drop_of_length_le (show ys.length ≤ k by have := HM.out; omega), sameF] at hs
        have HX := hide hs
        clear hs
        go_wp2_with fail
        go_ret
        rw [← HX.out]
        exact ⟨rfl, HW.out⟩
  · have hv := sameF_len hll
    obtain ⟨n, hn⟩ : ∃ n, n = xs.length := ⟨_, rfl⟩
    obtain ⟨m, hm⟩ : ∃ m, m = ys.length := ⟨_, rfl⟩
    rw [← hn, ← hm] at hll
    rw [hv, ← hn, ← hm]
    have q0 : ((n : Int) != (m : Int)) = true := by simp; omega
    have q0' : (n != m) = true := by simp; omega
    clear ha hb hra hrb hn hm hll hv
    go_enter Try.func14, Try.ntmps14
    go_wp2_with fail
    go_ret
    exact ⟨rfl, Below.refl _ _⟩
/-- A store that stands. -/
def Sto (W : World) (p : Nat) (S : List Fc) : Prop := ∃ A c, W.cell? ⟨p, 0, none⟩ = some (.slice A S.length c) ∧ FcsAt W (.slice A S.length c) S ∧ RisF S ∧ ∀ g ∈ S, okF g = true
theorem Sto.on {W W' : World} {p : Nat} {S : List Fc} (h : Sto W p S) (hb : Below W.heap.size W W') : Sto W' p S := by
  obtain ⟨A, c, h1, h2, h3, h4⟩ := h
  have hp : p < W.heap.size := World.block_lt_of_cell? _ _ h1
  exact ⟨A, c, (hb.cell (p := ⟨p, 0, none⟩) hp).trans h1, h2.on hb, h3, h4⟩
/-- A store's own, with blocks E that nothing reads. -/
structure StoE (E : Nat → Prop) (w : World) (p : Nat) (A : Option Addr) (c : Nat) (S : List Fc) : Prop where
  ok : ∀ g ∈ S, FcOK (mask (fun k => StoB p A S.length c k ∨ E k) w) g
  ris : RisF S
  may : ∀ g ∈ S, okF g = true
theorem StoE.at {E : Nat → Prop} {w w' : World} {p : Nat} {A : Option Addr} {c : Nat} {S : List Fc} (h : StoE E w p A c S) (hb : Below w.heap.size w w') : StoE E w' p A c S := ⟨fun g hg => (h.ok g hg).csub (mask_ext fun k hk hm => ⟨hm, hb.block k hk⟩), h.ris, h.may⟩
/-- One step of a store. -/
def AddE (E : Nat → Prop) (p : Nat) (A : Option Addr) (c : Nat) (S : List Fc) (f : Fc) (w : World) (e : Ending) (w' : World) : Prop :=
  ∃ A' c' S', e = .returned (.bool (addB S f)) ∧ S'.map shF = addX (S.map shF) f ∧ S'.length ≤ S.length + 1 ∧
    (∀ (w0 : World) (M0 : Nat → Prop) (B : List Chunk), St w0 M0 w (StoC p A c S ++ B) → St w0 M0 w' (StoC p A' c' S' ++ B)) ∧ StoE E w' p A' c' S' ∧ Ext (StoB p A S.length c) w w'
theorem addE_step {w w0 : World} {M0 : Nat → Prop} {B : List Chunk} (E : Nat → Prop) (p : Nat) (A : Option Addr) (c : Nat) (S : List Fc) (f : Fc) (hS : St w0 M0 w (StoC p A c S ++ B)) (hI : StoE E w p A c S) (hEl : ∀ k, E k → k < w.heap.size) (hS6 : S.length ≤ 999999) (hf : FcOK (mask (fun k => StoB p A S.length c k ∨ E k) w) f) :
    Calls Try.prog 20 #[.pointer (some ⟨p, 0, none⟩), f.val] w fun e w' => AddE E p A c S f w e w' := by
  have hlt : ∀ k, StoB p A S.length c k ∨ E k → k < w.heap.size := fun k hk => by
    rcases hk with hk | hk
    · obtain ⟨d, hd, hdk⟩ := stoC_blk.2 hk
      obtain ⟨i, hi⟩ := List.getElem?_of_mem hd
      have hil := (List.getElem?_eq_some_iff.1 hi).1
      exact Chunk.lt (hS.sat i d (by rw [List.getElem?_append_left hil]; exact hi)) hdk
    · exact hEl k hk
  refine (add_any p A c S f (fun k => StoB p A S.length c k ∨ E k) hS hlt (fun k hk => .inl hk) hI.ok hS6 hI.ris hf).mono fun e w' h => ?_
  rcases h with ⟨hb, rfl, hbl⟩ | ⟨hb, A', c', f', rfl, hsh, hst, hok⟩
  · refine ⟨A, c, S, by rw [hb], (addX_shno hI.ris hb).symm, Nat.le_succ _, fun w0 M0 B h => h.call hbl, hI.at hbl, ext_of_below hbl⟩
  · have hsh2 := addX_sh hI.ris hsh hb
    have e0 : (S.map shF).map shF = S.map shF := by rw [List.map_map]; congr 1; funext x; exact shF_shF x
    have hlen : (S.take (plc (fun x => cmpF x f) S) ++ f' :: S.drop (plc (fun x => cmpF x f) S)).length = S.length + 1 := by
      have := plc_le (fun x => cmpF x f) S
      rw [List.length_append, List.length_cons, List.length_take, List.length_drop]
      omega
    refine ⟨A', c', _, by rw [hb], hsh2, by rw [hlen]; exact Nat.le_refl _, fun w0 M0 B h => h.backL hst, ⟨fun g hg => (hok g hg).csub (mask_sub fun k hk => ?_), ?_, ?_⟩, ?_⟩
    · rcases hk with (h | h) | h
      · exact .inl (.inl (.inl h))
      · exact .inr ((own_len A' _ _ c' c').trans h)
      · exact .inl (.inr h)
    · refine risF_sh (l := addX (S.map shF) f) ?_ (addX_ris (risF_sh e0.symm hI.ris) f)
      rw [← hsh2, List.map_map]
      congr 1
      funext x
      exact shF_shF x
    · refine okF_map ?_
      rw [hsh2]
      exact addX_ok (fun g hg => by
        obtain ⟨y, hy, rfl⟩ := List.mem_map.1 hg
        rw [okF_sh]
        exact hI.may y hy) f
    · have hE := hst.ext
      exact ⟨hE.os, hE.tape, hE.output, hE.size, fun k hk hm => hE.block k hk fun h => hm (stoC_blk.1 h)⟩
theorem sto_of {w0 W : World} {E M : Nat → Prop} {B : List Chunk} {p : Nat} {A : Option Addr} {c : Nat} {S : List Fc} (h : St w0 M W (StoC p A c S ++ B)) (hI : StoE E W p A c S) : Sto W p S :=
  ⟨A, c, h.cell 0 rfl 0, ⟨h.rd 1 rfl, fun g hg => (hI.ok g hg).csub (csub_mask _ _)⟩, hI.ris, hI.may⟩
theorem foldl_take {α β : Type} (f : β → α → β) (b : β) (l : List α) (k : Nat) (x : α) (h : l[k]? = some x) : (l.take (k + 1)).foldl f b = f ((l.take k).foldl f b) x := by
  rw [List.take_add_one, h, List.foldl_append]
  rfl
theorem RAd_no {q : Nat} {X : List Fc} {f : Fc} {w : World} {e : Ending} {w' : World} (h : RAdR q X f w e w') (hb : addB X f = false) : e = .returned (.bool false) ∧ Below w.heap.size w w' := by
  rcases h with ⟨_, h1, h2⟩ | ⟨h1, _⟩
  · exact ⟨h1, h2⟩
  · rw [hb] at h1; cases h1
theorem RAd_yes {q : Nat} {X : List Fc} {f : Fc} {w : World} {e : Ending} {w' : World} (h : RAdR q X f w e w') (hb : addB X f = true) :
    ∃ B' d' X', e = .returned (.bool true) ∧ X' = X.take (plc (fun x => cmpF x f) X) ++ f :: X.drop (plc (fun x => cmpF x f) X) ∧ St w (OneB q) w' [.cells q #[.slice B' X'.length d'] 45, .row (.slice B' X'.length d') 27 3 X'.length (fcCells X')] := by
  rcases h with ⟨h1, _, _⟩ | ⟨_, B', d', h1, h2⟩
  · rw [hb] at h1; cases h1
  · exact ⟨B', d', _, h1, rfl, h2⟩
/-- The page's store. -/
def RstC (q : Nat) (B : Option Addr) (d : Nat) (X : List Fc) : List Chunk := [.cells q #[.slice B X.length d] 45, .row (.slice B X.length d) 27 3 X.length (fcCells X)]
/-- One step of the page's store. -/
def RAdS (q : Nat) (B : Option Addr) (d : Nat) (X : List Fc) (f : Fc) (w : World) (e : Ending) (w' : World) : Prop :=
  ∃ B' d' X', e = .returned (.bool (addB X f)) ∧ X'.map shF = addX (X.map shF) f ∧ X'.length ≤ X.length + 1 ∧ (∀ g ∈ X', g = f ∨ g ∈ X) ∧
    (∀ (w0 : World) (M0 : Nat → Prop) (H : List Chunk), St w0 M0 w (RstC q B d X ++ H) → St w0 M0 w' (RstC q B' d' X' ++ H)) ∧ Ext (OneB q) w w'
theorem radd_step {w w0 : World} {M0 : Nat → Prop} {H : List Chunk} (q : Nat) (B : Option Addr) (d : Nat) (X : List Fc) (f : Fc) (hS : St w0 M0 w (RstC q B d X ++ H)) (hok : ∀ g ∈ X, FcOK w g) (hr : RisF X) (h6 : X.length ≤ 999999) (hf : FcOK w f) :
    Calls Try.prog 21 #[.pointer (some ⟨q, 0, none⟩), f.val] w fun e w' => RAdS q B d X f w e w' := by
  refine (radd_any (w0 := w0) (M0 := M0) (H := (Chunk.row (.slice B X.length d) 27 3 X.length (fcCells X)) :: H) q B d X f hS ⟨hS.rd 1 rfl, hok⟩ hf h6 hr).mono fun e w' h => ?_
  cases hb : addB X f with
  | false =>
    obtain ⟨rfl, hbl⟩ := RAd_no h hb
    exact ⟨B, d, X, by rw [hb], (addX_shno hr hb).symm, Nat.le_succ _, fun g hg => .inr hg, fun w0 M0 H h => h.call hbl, ext_of_below hbl⟩
  | true =>
    obtain ⟨B', d', X', rfl, hX, hst⟩ := RAd_yes h hb
    refine ⟨B', d', X', by rw [hb], by rw [hX]; exact addX_sh hr rfl hb, ?_, fun g hg => ?_, fun w0 M0 H h => ?_, hst.ext⟩
    · have := plc_le (fun x => cmpF x f) X
      rw [hX, List.length_append, List.length_cons, List.length_take, List.length_drop]
      omega
    · rw [hX] at hg
      rcases List.mem_append.1 hg with h | h
      · exact .inr (List.mem_of_mem_take h)
      · rcases List.mem_cons.1 h with h | h
        · exact .inl h
        · exact .inr (List.mem_of_mem_drop h)
    · have h2 : St w0 M0 w ([.cells q #[.slice B X.length d] 45] ++ ((Chunk.row (.slice B X.length d) 27 3 X.length (fcCells X)) :: H)) := h
      have h3 := h2.backL (hst.mono fun k hk => ⟨_, List.mem_singleton.2 rfl, by rw [show k = q from hk]; rfl⟩)
      have h4 : St w0 M0 w' ((.cells q #[.slice B' X'.length d'] 45 :: Chunk.row (.slice B' X'.length d') 27 3 X'.length (fcCells X') :: (Chunk.row (.slice B X.length d) 27 3 X.length (fcCells X)) :: H)) := h3
      exact h4.mid2
set_option maxRecDepth 100000 in
set_option maxHeartbeats 1600000 in
theorem made_any (v : Value) (l : List Fc) (w : World) (hv : FcsAt w v l) (h6 : l.length ≤ 999998) :
    Calls Try.prog 12 #[v] w fun e w' => ∃ p q S, e = .returned (.tuple #[.pointer (some ⟨p, 0, none⟩), .pointer (some ⟨q, 0, none⟩)]) ∧ Sto w' p S ∧ S.map shF = made l ∧ S.length ≤ l.length ∧ Below w.heap.size w w' := by
  obtain ⟨A0, c0, rfl, hr⟩ := Rd.isSlice hv.1
  have HA := hide hr
  have HOK := hide hv.2
  obtain ⟨n, hn⟩ : ∃ n, n = l.length := ⟨_, rfl⟩
  have HN := hide hn
  rw [← hn] at HA h6 ⊢
  have HNW := hide (new_any w)
  have h0 := (St.init w NoB).alloc #[.slice none 0 0] 67
  have h1 := (h0.alloc #[.slice none 0 0] 45)
  rw [size_alloc1] at h1
  have h2 := (h1.row (Below.refl _ _) (World.ownsRow_nil _ _ 27 3)).row (Below.refl _ _) (World.ownsRow_nil _ _ 27 3)
  have HS0 := hide (show St w NoB _ (StoC w.heap.size none 0 [] ++ RstC (w.heap.size + 1) none 0 []) from h2.pickL [3, 0, 2, 1] (by decide) rfl)
  clear hv hr hn h0 h1 h2
  go_enter Try.func12, Try.ntmps12
  go_wp2_with (go_at_call 18; (with_reducible refine HNW.out.mono ?_); rintro e w1 ⟨rfl, rfl⟩)
  go_loopw [13] (fun i wr => ∃ (k : Nat) (A : Option Addr) (c : Nat) (S : List Fc) (B : Option Addr) (d : Nat) (X : List Fc), k ≤ n ∧ i = .int .i64 (k : Int) ∧ Hid (S.map shF = made (l.take k) ∧ X.map shF = made (l.take k) ∧ S.length ≤ k ∧ X.length ≤ k ∧ ∀ g ∈ X, g ∈ l) ∧ Hid (StoE (OneB (w.heap.size + 1)) wr w.heap.size A c S) ∧
    Hid (St w NoB wr (StoC w.heap.size A c S ++ RstC (w.heap.size + 1) B d X))) (fun i _ => (n - intOf i).toNat)
  case atStart => exact ⟨0, none, 0, [], none, 0, [], by omega, rfl, hide ⟨rfl, rfl, Nat.le_refl _, Nat.le_refl _, fun g hg => (by cases hg)⟩, hide ⟨fun g hg => (by cases hg), trivial, fun g hg => (by cases hg)⟩, HS0⟩
  case round =>
    clear HS0
    obtain ⟨k, A, c, S, B, d, X, hk, rfl, HX, HI, HS⟩ := hrel
    by_cases hlt : k < n
    · have hd : decide ((k : Int) < (n : Int)) = true := by simp; omega
      have hd' : decide (k < n) = true := by simp; omega
      have kn : (k : Int) < (n : Int) := by omega
      have kl : k < l.length := by have := HN.out; omega
      have hlk : l[k]? = some l[k] := List.getElem?_eq_getElem kl
      obtain ⟨b, o, rfl, hb8, e0, e1, e2⟩ := fc_at (HA.out.st HS.out) hlk
      have HOF := hide (HOK.out l[k] (List.getElem_mem kl))
      have HLK := hide hlk
      have HML := hide (List.getElem_mem kl)
      generalize l[k] = f at e0 e1 e2 HOF HLK HML
      have h1 := HS.out.alloc #[.string (strOf f.name), .slice f.A f.ts.length f.c, .int .u32 f.o] 27
      have HS1 := hide (show St w NoB _ (StoC w.heap.size A c S ++ (RstC (w.heap.size + 1) B d X ++ [.cells wr.heap.size #[.string (strOf f.name), .slice f.A f.ts.length f.c, .int .u32 f.o] 27])) from h1.pickL [1, 2, 3, 4, 0] (by decide) rfl)
      have HI1 := hide (HI.out.at ((Below.refl wr.heap.size wr).al (.cells #[.string (strOf f.name), .slice f.A f.ts.length f.c, .int .u32 f.o] 27)))
      have hown : ∀ j, StoB w.heap.size A S.length c j ∨ OneB (w.heap.size + 1) j → w.heap.size ≤ j := fun j hj => by
        rcases hj with (h | h) | h
        · omega
        · rcases HS1.out.own 1 _ j rfl h with h' | h'
          · exact h'
          · exact h'.elim
        · have : j = w.heap.size + 1 := h
          omega
      have hEl : ∀ j, OneB (w.heap.size + 1) j → j < (wr.alloc (.cells #[.string (strOf f.name), .slice f.A f.ts.length f.c, .int .u32 f.o] 27)).heap.size := fun j hj => by
        rw [show j = w.heap.size + 1 from hj]
        exact Chunk.lt (HS1.out.sat 2 _ rfl) rfl
      have HAD := hide (addE_step (OneB (w.heap.size + 1)) w.heap.size A c S f HS1.out HI1.out hEl (by have := HX.out.2.2.1; omega) (HOF.out.csub (mask_old HS1.out.below hown)))
      have HRD := hide (fun W A' c' S' (h : St w NoB W (StoC w.heap.size A' c' S' ++ (RstC (w.heap.size + 1) B d X ++ [.cells wr.heap.size #[.string (strOf f.name), .slice f.A f.ts.length f.c, .int .u32 f.o] 27]))) => radd_step (w := W) (w0 := w) (M0 := NoB) (H := StoC w.heap.size A' c' S' ++ [.cells wr.heap.size #[.string (strOf f.name), .slice f.A f.ts.length f.c, .int .u32 f.o] 27]) (w.heap.size + 1) B d X f (h.pickL [2, 3, 0, 1, 4] (by decide) rfl) (fun g hg => (HOK.out g (HX.out.2.2.2.2 g hg)).on h.below) (risF_sh (l := made (l.take k)) (by rw [← HX.out.2.1]; exact (sh_self rfl).symm) (made_ris _)) (by have := HX.out.2.2.2.1; omega) (HOF.out.on h.below))
      have HL := hide hlt
      clear h1 hown hEl hlk kl hlt
      unfold Fc.val Fc.row at HAD HRD
      unfold Fc.row at e1
      go_wp2_with (first
        | (go_at_call 20; (with_reducible refine HAD.out.mono ?_); rintro e w2 ⟨A', c', S', rfl, hx2, hl2, hst2, hi2, hE2⟩; have HS2 := hide (hst2 _ _ _ HS1.out); have HI2 := hide hi2; have HX2 := hide hx2; have HL2 := hide hl2; have g0 := HS2.out.cell 4 rfl 0; have g1 := HS2.out.cell 4 rfl 1; have g2 := HS2.out.cell 4 rfl 2; have HRS := hide (HRD.out _ _ _ _ HS2.out); clear hx2 hl2 hst2 hi2 hE2)
        | (go_at_call 21; (with_reducible refine HRS.out.mono ?_); rintro e w3 ⟨B', d', X', rfl, hx3, hl3, hm3, hst3, hE3⟩; have HS3 := hide (hst3 w NoB (StoC w.heap.size A' c' S' ++ [.cells wr.heap.size #[.string (strOf f.name), .slice f.A f.ts.length f.c, .int .u32 f.o] 27]) (HS2.out.pickL [2, 3, 0, 1, 4] (by decide) rfl)); have HX3 := hide hx3; have HL3 := hide hl3; have HM3 := hide hm3; have HE3 := hide hE3; clear hx3 hl3 hst3 hm3 hE3))
      go_roundw
      case rel =>
        refine ⟨k + 1, A', c', S', B', d', X', by have := HL.out; omega, by go_num, hide ⟨?_, ?_, ?_, ?_, fun g hg => ?_⟩, hide ⟨fun g hg => (HI2.out.ok g hg).csub (mask_ext fun j hj hm => ⟨hm, HE3.out.block j hj fun e => hm (.inr e)⟩), HI2.out.ris, HI2.out.may⟩, hide (HS3.out.pickL [2, 3, 0, 1] (by decide) rfl)⟩
        · rw [HX2.out, HX.out.1]; exact (foldl_take addX [] l k f HLK.out).symm
        · rw [HX3.out, HX.out.2.1]; exact (foldl_take addX [] l k f HLK.out).symm
        · have := HL2.out; have := HX.out.2.2.1; omega
        · have := HL3.out; have := HX.out.2.2.2.1; omega
        · rcases HM3.out g hg with h | h
          · rw [h]; exact HML.out
          · exact HX.out.2.2.2.2 g h
      case measure => (have := HL.out); (simp [intOf]) <;> omega
    · obtain rfl : k = n := by omega
      have hd : decide ((k : Int) < (k : Int)) = false := by simp
      have hd' : decide (k < k) = false := by simp
      go_wp2_with fail
      go_ret2
      refine ⟨w.heap.size, w.heap.size + 1, S, rfl, sto_of HS.out HI.out, ?_, by have := HX.out.2.2.1; have := HN.out; omega, HS.out.below⟩
      rw [HX.out.1, List.take_of_length_le (by have := HN.out; omega)]
end Go.Proofs.Ythpioncehigoaaa
