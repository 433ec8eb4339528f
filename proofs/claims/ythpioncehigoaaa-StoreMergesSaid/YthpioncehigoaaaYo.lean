/-
  Layer 18: the store's state from call to call; Has, Len, All, New; the store that there isn't.
-/
import Derived.Test.YthpioncehigoaaaYn
set_option linter.unusedVariables false
namespace Go.Proofs.Ythpioncehigoaaa
open Go.RowKit
set_option linter.unusedSimpArgs false

def StoB (p : Nat) (A : Option Addr) (n c : Nat) : Nat → Prop := fun k => k = p ∨ (Value.slice A n c).ownBlock = some k
structure StoI (w : World) (p : Nat) (A : Option Addr) (c : Nat) (S : List Fc) : Prop where
  ok : ∀ g ∈ S, FcOK (mask (StoB p A S.length c) w) g
  ris : RisF S
  may : ∀ g ∈ S, okF g = true
theorem mask_sub {M M' : Nat → Prop} {W : World} (h : ∀ k, M' k → M k) : CSub (mask M W) (mask M' W) := mask_ext fun k _ hm => ⟨fun h' => hm (h k h'), rfl⟩
theorem addX_sh {S : List Fc} (hr : RisF S) {f f' : Fc} (hf : shF f' = shF f) (h : addB S f = true) :
    (S.take (plc (fun x => cmpF x f) S) ++ f' :: S.drop (plc (fun x => cmpF x f) S)).map shF = addX (S.map shF) f := by
  have e0 : (S.map shF).map shF = S.map shF := by rw [List.map_map]; congr 1; funext x; exact shF_shF x
  have e1 := plc_sh f f rfl (S.map shF) S e0
  have hb : addB (S.map shF) f = true := by
    unfold addB at h ⊢
    rw [has_sh (f := f) (f' := f) rfl e0]
    exact h
  rw [addX_yes (risF_sh e0.symm hr) hb, e1, List.map_append, List.map_cons, hf, List.map_take, List.map_drop]
theorem addX_shno {S : List Fc} (hr : RisF S) {f : Fc} (h : addB S f = false) : addX (S.map shF) f = S.map shF := by
  have e0 : (S.map shF).map shF = S.map shF := by rw [List.map_map]; congr 1; funext x; exact shF_shF x
  refine addX_no (risF_sh e0.symm hr) ?_
  unfold addB at h ⊢
  rw [has_sh (f := f) (f' := f) rfl e0]
  exact h
theorem addX_ok {X : List Fc} (hX : ∀ g ∈ X, okF g = true) (f : Fc) : ∀ g ∈ addX X f, okF g = true := by
  intro g hg
  unfold addX at hg
  split at hg
  · rename_i h
    rcases insF_mem X _ g hg with e | e
    · rw [e, okF_sh]; exact h
    · exact hX g e
  · exact hX g hg
theorem okF_map {S : List Fc} (h : ∀ g ∈ S.map shF, okF g = true) : ∀ g ∈ S, okF g = true := fun g hg => by
  rw [← okF_sh g]
  exact h _ (List.mem_map_of_mem hg)
/-- One step of a store. -/
def AddS (p : Nat) (A : Option Addr) (c : Nat) (S : List Fc) (f : Fc) (w : World) (e : Ending) (w' : World) : Prop :=
  ∃ A' c' S', e = .returned (.bool (addB S f)) ∧ S'.map shF = addX (S.map shF) f ∧ S'.length ≤ S.length + 1 ∧
    (∀ (w0 : World) (M0 : Nat → Prop) (B : List Chunk), St w0 M0 w (StoC p A c S ++ B) → St w0 M0 w' (StoC p A' c' S' ++ B)) ∧ StoI w' p A' c' S' ∧ Ext (StoB p A S.length c) w w'
theorem add_step {w w0 : World} {M0 : Nat → Prop} {B : List Chunk} (p : Nat) (A : Option Addr) (c : Nat) (S : List Fc) (f : Fc) (hS : St w0 M0 w (StoC p A c S ++ B)) (hI : StoI w p A c S) (hS6 : S.length ≤ 999999) (hf : FcOK (mask (StoB p A S.length c) w) f) :
    Calls Try.prog 20 #[.pointer (some ⟨p, 0, none⟩), f.val] w fun e w' => AddS p A c S f w e w' := by
  have hlt : ∀ k, StoB p A S.length c k → k < w.heap.size := fun k hk => by
    obtain ⟨d, hd, hdk⟩ := stoC_blk.2 hk
    obtain ⟨i, hi⟩ := List.getElem?_of_mem hd
    have hil := (List.getElem?_eq_some_iff.1 hi).1
    exact Chunk.lt (hS.sat i d (by rw [List.getElem?_append_left hil]; exact hi)) hdk
  refine (add_any p A c S f (StoB p A S.length c) hS hlt (fun k hk => hk) hI.ok hS6 hI.ris hf).mono fun e w' h => ?_
  rcases h with ⟨hb, rfl, hbl⟩ | ⟨hb, A', c', f', rfl, hsh, hst, hok⟩
  · refine ⟨A, c, S, by rw [hb], (addX_shno hI.ris hb).symm, Nat.le_succ _, fun w0 M0 B h => h.call hbl, ⟨fun g hg => (hI.ok g hg).csub (mask_ext fun k hk hm => ⟨hm, hbl.block k hk⟩), hI.ris, hI.may⟩, ext_of_below hbl⟩
  · have hsh2 := addX_sh hI.ris hsh hb
    have e0 : (S.map shF).map shF = S.map shF := by rw [List.map_map]; congr 1; funext x; exact shF_shF x
    have hlen : (S.take (plc (fun x => cmpF x f) S) ++ f' :: S.drop (plc (fun x => cmpF x f) S)).length = S.length + 1 := by
      have := plc_le (fun x => cmpF x f) S
      rw [List.length_append, List.length_cons, List.length_take, List.length_drop]
      omega
    refine ⟨A', c', _, by rw [hb], hsh2, by rw [hlen]; exact Nat.le_refl _, fun w0 M0 B h => h.backL hst, ⟨fun g hg => (hok g hg).csub (mask_sub fun k hk => ?_), ?_, ?_⟩, ?_⟩
    · rcases hk with h | h
      · exact .inl (.inl h)
      · exact .inr ((own_len A' _ _ c' c').trans h)
    · refine risF_sh (l := addX (S.map shF) f) ?_ (addX_ris (risF_sh e0.symm hI.ris) f)
      rw [← hsh2, List.map_map]
      congr 1
      funext x
      exact shF_shF x
    · refine okF_map ?_
      rw [hsh2]
      exact addX_ok (fun g hg => by
        obtain ⟨y, hy, rfl⟩ := List.mem_map.1 hg
        rw [okF_sh]
        exact hI.may y hy) f
    · have hE := hst.ext
      exact ⟨hE.os, hE.tape, hE.output, hE.size, fun k hk hm => hE.block k hk fun h => hm (stoC_blk.1 h)⟩
theorem nilS0 (W : World) : (binOp .eql 34 (.pointer none) (.pointer none)).run Try.prog W = .ok (.bool true) W := by kernel_rfl
theorem new_any (w : World) : Calls Try.prog 18 #[] w fun e w' => e = .returned (.pointer (some ⟨w.heap.size, 0, none⟩)) ∧ w' = w.alloc (.cells #[.slice none 0 0] 67) := by
  go_enter Try.func18, Try.ntmps18
  go_wp2_with fail
  go_ret
  exact ⟨rfl, rfl⟩
theorem len_any (p : Nat) (A : Option Addr) (n c : Nat) (w : World) (hp : w.cell? ⟨p, 0, none⟩ = some (.slice A n c)) : Calls Try.prog 15 #[.pointer (some ⟨p, 0, none⟩)] w fun e w' => e = .returned (.int .i64 (n : Int)) ∧ w = w' := by
  have hnil := fun W => nilS p W
  go_enter Try.func15, Try.ntmps15
  go_wp2_with fail
  go_ret
  exact ⟨rfl, rfl⟩
theorem len_nil (w : World) : Calls Try.prog 15 #[.pointer none] w fun e w' => e = .returned (.int .i64 0) ∧ w = w' := by
  have hnil := fun W => nilS0 W
  go_enter Try.func15, Try.ntmps15
  go_wp2_with fail
  go_ret
  exact ⟨rfl, rfl⟩
theorem all_nil (w : World) : Calls Try.prog 13 #[.pointer none] w fun e w' => e = .returned (.slice none 0 0) ∧ w = w' := by
  have hnil := fun W => nilS0 W
  go_enter Try.func13, Try.ntmps13
  go_wp2_with fail
  go_ret
  exact ⟨rfl, rfl⟩
theorem has_nil (f : Fc) (w : World) : Calls Try.prog 17 #[.pointer none, f.val] w fun e w' => e = .returned (.bool false) ∧ Below w.heap.size w w' := by
  have hnil := fun W => nilS0 W
  have HB := hide ((Below.refl w.heap.size w).al (.cells #[.string (strOf f.name), .slice f.A f.ts.length f.c, .int .u32 f.o] 27))
  unfold Fc.val Fc.row at *
  go_enter Try.func17, Try.ntmps17
  go_wp2_with fail
  go_ret
  exact ⟨rfl, HB.out⟩
theorem add_nil (f : Fc) (w : World) : Calls Try.prog 20 #[.pointer none, f.val] w fun e w' => e = .returned (.bool false) ∧ Below w.heap.size w w' := by
  have hnil := fun W => nilS0 W
  have HB := hide ((Below.refl w.heap.size w).al (.cells #[.string (strOf f.name), .slice f.A f.ts.length f.c, .int .u32 f.o] 27))
  unfold Fc.val Fc.row at *
  go_enter Try.func20, Try.ntmps20
  go_wp2_with fail
  go_ret
  exact ⟨rfl, HB.out⟩
theorem named_nil (s : List UInt8) (n : Int) (w : World) : Calls Try.prog 23 #[.pointer none, .string (strOf s), .int .i64 n] w fun e w' => e = .returned (.slice none 0 0) ∧ Below w.heap.size w w' := by
  have hnil := fun W => nilS0 W
  have HB := hide ((Below.refl w.heap.size w).al (.cells #[.string (strOf s)] 9))
  go_enter Try.func23, Try.ntmps23
  go_wp2_with fail
  go_ret
  exact ⟨rfl, HB.out⟩
set_option maxRecDepth 100000 in
set_option maxHeartbeats 800000 in
theorem has18_any (p : Nat) (A : Option Addr) (c : Nat) (S : List Fc) (f : Fc) (w : World) (hp : w.cell? ⟨p, 0, none⟩ = some (.slice A S.length c)) (hv : FcsAt w (.slice A S.length c) S) (hr : RisF S) (hf : FcOK w f) (h6 : S.length ≤ 1000000) :
    Calls Try.prog 17 #[.pointer (some ⟨p, 0, none⟩), f.val] w fun e w' => e = .returned (.bool (hasX S f)) ∧ Below w.heap.size w w' := by
  have hnil := fun W => nilS p W
  have HS := hide ((St.init w NoB).alloc #[.string (strOf f.name), .slice f.A f.ts.length f.c, .int .u32 f.o] 27).drew
  have hpb := World.block_lt_of_cell? _ _ hp
  have hpb : p < w.heap.size := hpb
  have HBS := hide (bs_any (.slice A S.length c) S f (plc (fun x => cmpF x f) S) _ (hv.on HS.out.below) (hf.on HS.out.below) h6 (part_of hr f))
  rw [fnd_has hr f] at HBS
  have p0 := (HS.out.below.cell (p := ⟨p, 0, none⟩) hpb).trans hp
  have f0 := HS.out.cell 0 rfl 0
  have f1 := HS.out.cell 0 rfl 1
  have f2 := HS.out.cell 0 rfl 2
  clear hp hv hf hr
  unfold Fc.val Fc.row at *
  generalize hasX S f = res at *
  generalize plc (fun x => cmpF x f) S = j at *
  go_enter Try.func17, Try.ntmps17
  go_wp2_with fail
  refine wp_region_T [(0, 1), (1, 1), (2, 1), (3, 0), (4, 0), (5, 2), (6, 1), (7, 1), (8, 1), (9, 1), (10, 1)] (by kernel_rfl) (by kernel_rfl) (fun _ _ _ _ h => h) ?_
  go_wp2_with (first
    | (go_at_call 36; (with_reducible refine HBS.out.mono ?_); rintro e w3 ⟨rfl, hb⟩; have HB3 := hide (HS.out.below.trans (hb.mono HS.out.below.size)))
    | (refine wpT_nil ?_)   | ((with_reducible refine fromT_refl ?_); (try simp only [Act.put, nq1, nq2, nq3, nq4, nq5, nq6]))   | ((with_reducible refine fromT_mk (by assumption) ?_); (try simp only [Act.put, nq1, nq2, nq3, nq4, nq5, nq6]))   | (refine wpT_pure (v := ?_) rfl rfl ?_ ?_; rotate_left; (intro wx; go_simp; try go_bits) <;> (with_reducible rfl); (try simp only [Act.put, nq1, nq2, nq3, nq4, nq5, nq6]))   | (refine wpT_load (v := ?_) rfl rfl rfl ?_ ?_; rotate_left; (go_simp; try go_bits) <;> (with_reducible rfl); (try simp only [Act.put, nq1, nq2, nq3, nq4, nq5, nq6]))   | (refine wpT_read (v := ?_) rfl rfl ?_ ?_; rotate_left; (intro wx hx; go_simp; try go_bits) <;> (with_reducible rfl); (try simp only [Act.put, nq1, nq2, nq3, nq4, nq5, nq6]))   | (refine wpT_call rfl rfl ?_; intro K hK)   | (refine wpT_late rfl rfl ?_; intro K hK)   | (refine wpT_any rfl rfl ?_; intro K hK)   | (refine wpT_skip rfl rfl ?_; (try simp only [Act.put, nq1, nq2, nq3, nq4, nq5, nq6])))
  go_ret
  exact ⟨rfl, HB3.out⟩
set_option maxRecDepth 100000 in
set_option maxHeartbeats 800000 in
theorem hasR18_any (q : Nat) (B : Option Addr) (d : Nat) (X : List Fc) (f : Fc) (w : World) (hq : w.cell? ⟨q, 0, none⟩ = some (.slice B X.length d)) (hv : FcsAt w (.slice B X.length d) X) (hr : RisF X) (hf : FcOK w f) (h6 : X.length ≤ 1000000) :
    Calls Try.prog 19 #[.pointer (some ⟨q, 0, none⟩), f.val] w fun e w' => e = .returned (.bool (hasX X f)) ∧ Below w.heap.size w w' := by
  have HS := hide ((St.init w NoB).alloc #[.string (strOf f.name), .slice f.A f.ts.length f.c, .int .u32 f.o] 27)
  have hqb := World.block_lt_of_cell? _ _ hq
  have hqb : q < w.heap.size := hqb
  have HPL := hide (place_any q B d X f _ ((HS.out.below.cell (p := ⟨q, 0, none⟩) hqb).trans hq) (hv.on HS.out.below) (hf.on HS.out.below) h6)
  rw [fnd_has hr f] at HPL
  have f0 := HS.out.cell 0 rfl 0
  have f1 := HS.out.cell 0 rfl 1
  have f2 := HS.out.cell 0 rfl 2
  clear hq hv hf hr
  unfold Fc.val Fc.row at *
  generalize hasX X f = res at *
  generalize plc (fun x => cmpF x f) X = j at *
  go_enter Try.func19, Try.ntmps19
  go_wp2_with (go_at_call 37; (with_reducible refine HPL.out.mono ?_); rintro e w3 ⟨rfl, hb⟩; have HB3 := hide (HS.out.below.trans (hb.mono HS.out.below.size)))
  go_ret
  exact ⟨rfl, HB3.out⟩
theorem all18_any (p : Nat) (A : Option Addr) (c : Nat) (S : List Fc) (w : World) (hp : w.cell? ⟨p, 0, none⟩ = some (.slice A S.length c)) (hv : FcsAt w (.slice A S.length c) S) (h6 : S.length ≤ 1000000) (hs : ∀ f ∈ S, okF f = true) :
    Calls Try.prog 13 #[.pointer (some ⟨p, 0, none⟩)] w fun e w' => ∃ B l', e = .returned (.slice B l'.length l'.length) ∧ l'.map shF = S.map shF ∧ FcsAt w' (.slice B l'.length l'.length) l' ∧ Below w.heap.size w w' := by
  have hnil := fun W => nilS p W
  have HA := hide (all_any (.slice A S.length c) S w hv h6 (fun f hf => ok_sm (hs f hf)))
  go_enter Try.func13, Try.ntmps13
  go_wp2_with (go_at_call 33; (with_reducible refine HA.out.mono ?_); rintro e w' ⟨B, l', rfl, h1, h2, h3⟩)
  go_ret
  exact ⟨B, l', rfl, h1, h2, h3⟩
end Go.Proofs.Ythpioncehigoaaa
