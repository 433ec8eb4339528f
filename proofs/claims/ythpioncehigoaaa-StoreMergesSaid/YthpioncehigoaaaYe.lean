/-
  Layer 18: a row of facts copied, one by one.
-/
import Derived.Test.YthpioncehigoaaaYd
set_option linter.unusedVariables false
namespace Go.Proofs.Ythpioncehigoaaa
open Go.RowKit
set_option linter.unusedSimpArgs false

def zF : Fc := ⟨[], none, 0, [], 0⟩
theorem zF_cells : zF.cells = [.string ⟨#[]⟩, .slice none 0 0, .int .u32 0] := by
  unfold Fc.cells Fc.row
  show [Value.string (strOf []), .slice none 0 0, .int .u32 0] = _
  rw [strOf_eq]
theorem made_facts (n : Nat) : madeCells #[.string ⟨#[]⟩, .slice none 0 0, .int .u32 0] (n * 3) = (fcCells (List.replicate n zF)).toArray := by
  apply Array.ext
  · rw [size_madeCells, List.size_toArray, fcCells_length, List.length_replicate]
  · intro j h1 h2
    rw [size_madeCells] at h1
    have hq : j / 3 < n := Nat.div_lt_of_lt_mul (by rw [Nat.mul_comm]; exact h1)
    have hr : j % 3 < 3 := Nat.mod_lt _ (by decide)
    have e := fcCells_at (l := List.replicate n zF) (k := j / 3) (j := j % 3) (f := zF) (by rw [List.getElem?_replicate, if_pos hq]) hr
    have hj : j / 3 * 3 + j % 3 = j := by omega
    rw [hj, zF_cells] at e
    have e2 : (fcCells (List.replicate n zF)).toArray[j]? = [Value.string ⟨#[]⟩, .slice none 0 0, .int .u32 0][j % 3]? := by rw [List.getElem?_toArray]; exact e
    rw [Array.getElem?_eq_getElem h2] at e2
    have e3 : (madeCells #[Value.string ⟨#[]⟩, .slice none 0 0, .int .u32 0] (n * 3))[j]'(by rw [size_madeCells]; exact h1) = #[Value.string ⟨#[]⟩, .slice none 0 0, .int .u32 0][j % 3]! := by
      simp [madeCells]
    rw [e3]
    have h3 : j % 3 = 0 ∨ j % 3 = 1 ∨ j % 3 = 2 := by omega
    rcases h3 with h3 | h3 | h3 <;> rw [h3] at e2 ⊢ <;> simpa using e2.symm
theorem run_makeF (n : Nat) (hn : n ≤ 1000000) (W : World) : (Instr.makeSlice 29 (.int .i64 (n : Int)) (.int .i64 (n : Int))).run Try.prog W = .ok (.slice (some ⟨W.heap.size, 0, none⟩) n n) (W.alloc (.cells (fcCells (List.replicate n zF)).toArray 27)) := by
  have hinf : (Try.prog.info? 27).map (fun i => (i.zero, i.size, i.bytes)) = some (some (.agg #[.string ⟨#[]⟩, .slice none 0 0, .int .u32 0]), 3, 48) := by kernel_rfl
  cases hi : Try.prog.info? 27 with
  | none => rw [hi] at hinf; cases hinf
  | some inf =>
    rw [hi] at hinf
    simp only [Option.map_some, Option.some.injEq, Prod.mk.injEq] at hinf
    obtain ⟨hz, hsz, hby⟩ := hinf
    have h := run_make (P := Try.prog) W 29 27 inf _ Try.underlying29 hi hz .i64 .i64 (n : Int) (n : Int) (by omega) (Int.le_refl _) (by rw [hby]; omega) (by omega)
    rw [h, hsz, Int.toNat_natCast]
    have hz2 : (Value.agg #[Value.string ⟨#[]⟩, .slice none 0 0, .int .u32 0]).cells = #[.string ⟨#[]⟩, .slice none 0 0, .int .u32 0] := rfl
    rw [hz2, made_facts]
theorem put_fc {l : List Fc} {i : Nat} {x : Fc} (y : Fc) (hi : l[i]? = some x) : putC (fcCells l).toArray (i * 3) y.cells = (fcCells (l.set i y)).toArray := by
  obtain ⟨hlt, hx⟩ := List.getElem?_eq_some_iff.1 hi
  have e1 : l = l.take i ++ x :: l.drop (i + 1) := by rw [← hx, ← List.drop_eq_getElem_cons hlt, List.take_append_drop]
  have e2 : l.set i y = l.take i ++ y :: l.drop (i + 1) := by rw [List.set_eq_take_append_cons_drop, if_pos hlt]
  have c1 : fcCells l = fcCells (l.take i) ++ (x.cells ++ fcCells (l.drop (i + 1))) := by
    conv => lhs; rw [e1]
    rw [fcCells_append, fcCells_cons]
  have c2 : fcCells (l.set i y) = fcCells (l.take i) ++ (y.cells ++ fcCells (l.drop (i + 1))) := by
    rw [e2, fcCells_append, fcCells_cons]
  rw [c1, c2]
  have hl : (fcCells (l.take i)).length = i * 3 := by rw [fcCells_length, List.length_take, Nat.min_eq_left (by omega)]
  rw [← hl]
  exact putC_list y.cells x.cells _ _ rfl
theorem mask_none (W : World) : CSub W (mask NoB W) := fun a u h => mask_cell.2 ⟨fun h => h, h⟩
set_option maxRecDepth 100000 in
set_option maxHeartbeats 1600000 in
theorem all_any (v : Value) (l : List Fc) (w : World) (hv : FcsAt w v l) (hn6 : l.length ≤ 1000000) (hs : ∀ f ∈ l, FcSm f) :
    Calls Try.prog 33 #[v] w fun e w' => ∃ B l', e = .returned (.slice B l'.length l'.length) ∧ l'.map shF = l.map shF ∧ FcsAt w' (.slice B l'.length l'.length) l' ∧ Below w.heap.size w w' := by
  obtain ⟨A, c, rfl, hr⟩ := Rd.isSlice hv.1
  have HA := hide hr
  have HOK := hide hv.2
  have HSM := hide hs
  obtain ⟨n, hn⟩ : ∃ n, n = l.length := ⟨_, rfl⟩
  have HN := hide hn
  rw [← hn] at HA hn6 ⊢
  have hmk := run_makeF n hn6
  have HS0 := hide ((St.init w NoB).alloc (fcCells (List.replicate n zF)).toArray 27)
  clear hv hr hs hn
  go_enter Try.func33, Try.ntmps33
  go_wp2_with fail
  go_loopw [11] (fun i wr => ∃ (k : Nat) (T : List Fc), k ≤ n ∧ i = .int .i64 (k : Int) ∧ Hid (T.length = k ∧ T.map shF = (l.take k).map shF ∧ ∀ f ∈ T, FcOK (mask (OneB w.heap.size) wr) f) ∧
    Hid (St w NoB wr [.cells w.heap.size (fcCells (T ++ List.replicate (n - k) zF)).toArray 27])) (fun i _ => (n - intOf i).toNat)
  case atStart => exact ⟨0, [], by omega, rfl, hide ⟨rfl, by simp, fun f hf => by cases hf⟩, HS0⟩
  case round =>
    clear HS0
    obtain ⟨k, T, hk, rfl, HX, HS⟩ := hrel
    by_cases hlt : k < n
    · have d : decide ((k : Int) < (n : Int)) = true := by simp; omega
      have d' : decide (k < n) = true := by simp; omega
      have kn : (k : Int) < (n : Int) := by omega
      have kl : k < l.length := by have := HN.out; omega
      have hlk : l[k]? = some l[k] := List.getElem?_eq_getElem kl
      obtain ⟨b, o, rfl, hb8, c0, c1, c2⟩ := fc_at (HA.out.st HS.out) hlk
      have hbw : b < w.heap.size := by
        obtain ⟨b', o', e', hb', _⟩ := fc_at HA.out hlk
        injection e' with e'
        injection e' with e1 _
        rw [e1]
        exact hb'
      have HLK := hide hlk
      have HOF := hide (HOK.out l[k] (List.getElem_mem kl))
      have HSF := hide (HSM.out l[k] (List.getElem_mem kl))
      generalize l[k] = f at c0 c1 c2 HLK HOF HSF
      have HS1 := hide (HS.out.alloc #[.string (strOf f.name), .slice f.A f.ts.length f.c, .int .u32 f.o] 27)
      have HGB := hide (show w.heap.size < wr.heap.size from Chunk.lt (HS.out.sat 0 _ rfl) rfl)
      have HCP := hide (copied_any (OneB w.heap.size) f (wr.alloc (.cells #[.string (strOf f.name), .slice f.A f.ts.length f.c, .int .u32 f.o] 27)) (fun j hj => by
        have hj : j = w.heap.size := hj
        have h1 := HGB.out
        rw [size_alloc1]
        omega) (HOF.out.csub (mask_old HS1.out.below fun j hj => by have hj : j = w.heap.size := hj; omega)) HSF.out)
      have HL := hide hlt
      have hgx : (T ++ List.replicate (n - k) zF)[k]? = some zF := by
        rw [List.getElem?_append_right (by rw [HX.out.1]; exact Nat.le_refl _), HX.out.1, Nat.sub_self, List.getElem?_replicate, if_pos (by omega)]
      have HGX := hide hgx
      clear hlk kl hgx hlt
      unfold Fc.val at HCP
      unfold Fc.row at c1 HCP
      go_wp2_with (first
        | (go_at_call 43; (with_reducible refine HCP.out.mono ?_); rintro e w2 ⟨f', rfl, hsh, hok, hb⟩; have HS2 := hide (HS1.out.call hb); have HSH := hide hsh; have HNF := hide hok; have HB2 := hide hb; clear hsh hok hb)
        | (refine wl_storeC rfl rfl (HS2.out.solo 1 rfl) 0 rfl (k := k * 3) (vs := f'.cells) szFact (by rw [Fc.cells_length, List.size_toArray, fcCells_length, List.length_append, List.length_replicate, HX.out.1]; have := HL.out; omega) rfl rfl f'.one ?_; intro w3 hS3; rw [put_fc f' HGX.out] at hS3; have HE3 := hide hS3.ext; have HS3 := hide (HS2.out.back 1 rfl hS3); clear hS3))
      go_roundw
      case rel =>
        have hl := HL.out
        have hkeep : CSub (mask (OneB w.heap.size) wr) (mask (OneB w.heap.size) w3) := mask_ext fun j hj hm => ⟨hm, by
          rw [HE3.out.block j (by have := HB2.out.size; rw [size_alloc1] at this; omega) hm, HB2.out.block j (by rw [size_alloc1]; omega)]
          exact ((Below.refl _ _).al _).block j hj⟩
        have hnew : FcOK (mask (OneB w.heap.size) w3) f' := HNF.out.csub (mask_ext fun j hj hm => ⟨hm, HE3.out.block j hj hm⟩)
        have hlist : (T ++ List.replicate (n - k) zF).set k f' = (T ++ [f']) ++ List.replicate (n - (k + 1)) zF := by
          have e1 : List.replicate (n - k) zF = zF :: List.replicate (n - (k + 1)) zF := by rw [show n - k = (n - (k + 1)) + 1 by omega, List.replicate_succ]
          rw [e1]
          have := set_mid T (List.replicate (n - (k + 1)) zF) zF f'
          rw [HX.out.1] at this
          rw [this, List.append_assoc]
          rfl
        have h4 := HS3.out
        rw [hlist] at h4
        refine ⟨k + 1, T ++ [f'], by omega, by go_num, hide ⟨by rw [List.length_append, HX.out.1]; rfl, ?_, fun g hg => ?_⟩, hide (h4.pickL [1] (by decide) rfl)⟩
        · rw [List.map_append, HX.out.2.1, List.take_add_one, HLK.out, List.map_append]
          show _ ++ [shF f'] = _ ++ [shF f]
          rw [HSH.out]
        · rcases List.mem_append.1 hg with h | h
          · exact (HX.out.2.2 g h).csub hkeep
          · rw [List.mem_singleton.1 h]; exact hnew
      case measure => (have := HL.out); (simp [intOf]) <;> omega
    · obtain rfl : k = n := by omega
      have d : decide ((k : Int) < (k : Int)) = false := by simp
      have d' : decide (k < k) = false := by simp
      go_wp2_with fail
      go_ret
      have h4 := HS.out
      rw [Nat.sub_self, List.replicate_zero, List.append_nil] at h4
      have h1 := HX.out.1
      refine ⟨some ⟨w.heap.size, 0, none⟩, T, by rw [h1]; rfl, by rw [HX.out.2.1, List.take_of_length_le (by have := HN.out; omega)], ⟨?_, fun f hf => (HX.out.2.2 f hf).csub (csub_mask _ _)⟩, h4.below⟩
      have e4 : (fcCells T).toArray = (fcCells T ++ []).toArray := by rw [List.append_nil]
      rw [e4] at h4
      exact rd_pre h4 0 rfl (fcCells_length T) (Nat.le_refl _) (by unfold maxLen; omega)
end Go.Proofs.Ythpioncehigoaaa
