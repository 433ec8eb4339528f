/-
  Layer 7: Set's closure; what Set answers of terms that it refuses.
-/
import Derived.Test.YtjamoifenkdneaaTr
namespace Go.Proofs.Ytjamoifenkdneaa
open Go.RowKit
set_option linter.unusedSimpArgs false

theorem enSet (args : Array Value) (w : World) : (callFunc 36 args).run Try.prog w = .ok (.enter 36 args) w := by kernel_rfl
/-- What Set refuses. -/
noncomputable def badT (k0 : Int) (x : Tm) : Bool := !fixT x || (decide (x.k = 7) || decide (x.k ≠ k0))
set_option maxRecDepth 100000 in
set_option maxHeartbeats 1600000 in
theorem setC_any {W0 W : World} {p : Nat} {H : List Chunk} {A : Option Addr} {n c : Nat} {l : List Tm} {x y : Tm} (hx : TmOK W x) (hr : Rd W (.slice A n c) 4 n (tmCells l)) (hy : l[0]? = some y) (hn0 : 0 < n) (hS : St W0 NoB W (.cells p #[.slice A n c] 22 :: H)) :
    Calls Try.prog 36 #[x.val, .pointer (some ⟨p, 0, none⟩)] W fun e w' => e = .returned (.bool (badT y.k x)) ∧ Below W.heap.size W w' := by
  obtain ⟨b, o, rfl, hb8, hc⟩ := tm_at hr hy
  have HY : Hid (∀ w', Below W.heap.size W w' → w'.cell? ⟨b, o, none⟩ = some (.int .i64 y.k)) := hide (fun w' hw => by have := (hc w' hw).1; rw [Nat.zero_mul, Nat.add_zero] at this; exact this)
  have HP := hide (fun w' (hw : Below W.heap.size W w') => (hS.call hw).cell 0 rfl 0)
  have HFX := hide (fun W1 (hW : Below W.heap.size W W1) => fixed_any hx W1 hW)
  have hp := World.block_lt_of_cell? _ _ (hS.cell 0 rfl 0)
  have hp : p < W.heap.size := hp
  have n0 : (0 : Int) < (n : Int) := by omega
  clear hc hx hr hy hS
  generalize y.k = yk at *
  unfold Tm.val Tm.row at *
  have HV : Hid (badT yk x = (!fixT x || (decide (x.k = 7) || decide (x.k ≠ yk)))) := hide rfl
  generalize badT yk x = res at HV ⊢
  generalize fixT x = f at HFX HV
  generalize x.n = xn at *
  generalize x.s = xs at *
  generalize x.A = xA at *
  generalize x.c = xc at *
  generalize x.l.length = xm at *
  generalize hxk : x.k = xk at *
  clear hxk
  obtain ⟨b7, h7⟩ : ∃ bb, decide (xk = 7) = bb := ⟨_, rfl⟩
  obtain ⟨bn, hn⟩ : ∃ bb, decide (xk ≠ yk) = bb := ⟨_, rfl⟩
  have q7 : (xk == 7) = b7 := by rw [← h7, Bool.eq_iff_iff]; simp
  have qn : (xk != yk) = bn := by rw [← hn, Bool.eq_iff_iff]; simp
  rw [h7, hn] at HV
  clear h7 hn
  have HB0 := hide ((Below.refl W.heap.size W).al (.cells #[.int .i64 xk, .int .i64 xn, .string (strOf xs), .slice xA xm xc] 24)).drew
  cases f <;> cases b7 <;> cases bn
  all_goals
    go_enter Try.func36, Try.ntmps36
    go_wp2_with fail
    refine wp_region_T [(0, 0), (1, 2), (2, 1), (3, 1), (4, 1), (5, 0), (6, 1), (7, 1), (8, 1), (9, 1), (10, 0), (11, 0), (12, 1), (13, 1), (14, 0), (15, 1), (16, 1), (17, 1)] (by kernel_rfl) (by kernel_rfl) (fun _ _ _ _ h => h) ?_
    go_wp2_with (first
      | (refine wpT_nil ?_)   | ((with_reducible refine fromT_refl ?_); (try simp only [Act.put, List.setIfInBounds_toArray, List.set_cons_zero, List.set_cons_succ, List.getElem_toArray, List.getElem_cons_succ, List.getElem_cons_zero]))   | ((with_reducible refine fromT_mk (by assumption) ?_); (try simp only [Act.put, List.setIfInBounds_toArray, List.set_cons_zero, List.set_cons_succ, List.getElem_toArray, List.getElem_cons_succ, List.getElem_cons_zero]))   | (refine wpT_pure (v := ?_) rfl rfl ?_ ?_; rotate_left; (intro wx; go_simp; try go_bits) <;> (with_reducible rfl); (try simp only [Act.put, List.setIfInBounds_toArray, List.set_cons_zero, List.set_cons_succ, List.getElem_toArray, List.getElem_cons_succ, List.getElem_cons_zero]))   | (refine wpT_load (v := ?_) rfl rfl rfl ?_ ?_; rotate_left; (go_simp; try go_bits) <;> (with_reducible rfl); (try simp only [Act.put, List.setIfInBounds_toArray, List.set_cons_zero, List.set_cons_succ, List.getElem_toArray, List.getElem_cons_succ, List.getElem_cons_zero]))   | (refine wpT_read (v := ?_) rfl rfl ?_ ?_; rotate_left; (intro wx hx; go_simp; try go_bits) <;> (with_reducible rfl); (try simp only [Act.put, List.setIfInBounds_toArray, List.set_cons_zero, List.set_cons_succ, List.getElem_toArray, List.getElem_cons_succ, List.getElem_cons_zero]))   | (refine wpT_call rfl rfl ?_; intro K hK)   | (refine wpT_late rfl rfl ?_; intro K hK)   | (refine wpT_any rfl rfl ?_; intro K hK)   | (refine wpT_skip rfl rfl ?_; (try simp only [Act.put, List.setIfInBounds_toArray, List.set_cons_zero, List.set_cons_succ, List.getElem_toArray, List.getElem_cons_succ, List.getElem_cons_zero]))
      | (go_at_call 15; (with_reducible refine (HFX.out _ HB0.out).mono ?_); rintro e w' ⟨rfl, hb⟩; have HB := hide (HB0.out.trans (hb.mono HB0.out.size)); have y0 := HY.out _ HB.out; have p0 := HP.out _ HB.out; have ck : w'.cell? ⟨W.heap.size, 0, none⟩ = some (.int .i64 xk) := (((St.init W NoB).alloc _ _).drew.call hb).cell 0 rfl 0))
    go_ret
    rw [HV.out]
    exact ⟨rfl, HB.out⟩
set_option maxRecDepth 100000 in
set_option maxHeartbeats 800000 in
theorem set_err {w : World} (v : Value) (l : List Tm) (hv : TmsAt w v l) (hm : l.length ≤ 140737488351232) (hbad : l.length ≤ 16 → ∃ y, l[0]? = some y ∧ l.any (badT y.k) = true) :
    Calls Try.prog 24 #[v] w fun e w' => e = .returned (.tuple #[.agg #[.int .i64 0, .int .i64 0, .string ⟨#[]⟩, .slice none 0 0], .int .i64 1]) ∧ Below w.heap.size w w' := by
  obtain ⟨A, c, rfl, hr⟩ := Rd.isSlice hv.1
  have HOK := hide hv.2
  obtain ⟨n, hn⟩ : ∃ n, n = l.length := ⟨_, rfl⟩
  rw [← hn] at hr hm hbad ⊢
  have hS0 := ((St.init w NoB).alloc #[.slice A n c] 22).alloc #[.int .i64 0, .int .i64 0, .string ⟨#[]⟩, .slice none 0 0] 24
  rw [size_alloc1] at hS0
  have HS0 := hide hS0
  by_cases h16 : 16 < n
  · have d : decide (16 < (n : Int)) = true := by simp; omega
    have d' : decide (16 < n) = true := by simp; omega
    clear hv hr hbad hS0 hn
    go_enter Try.func24, Try.ntmps24
    go_wp2_with fail
    refine bodyPost_ret (results_cell_tmp_row rfl _ _ (w.heap.size + 1) _ #[.int .i64 0, .int .i64 0, .string ⟨#[]⟩, .slice none 0 0] _ _ rfl (HS0.out.heap 0 rfl) Try.underlying24 rfl (by kernel_rfl)) rfl ?_
    exact ⟨rfl, HS0.out.below⟩
  · have d : decide (16 < (n : Int)) = false := by simp; omega
    have d' : decide (16 < n) = false := by simp; omega
    obtain ⟨y, hy, hany⟩ := hbad (by omega)
    have hn0 : 0 < n := by have := (List.getElem?_eq_some_iff.1 hy).1; omega
    have HRD := hide (fun W (h : Below w.heap.size w W) => hr.below h)
    have HCF := hide (fun W (h : St w NoB W [.cells (w.heap.size + 1) #[.int .i64 0, .int .i64 0, .string ⟨#[]⟩, .slice none 0 0] 24, .cells w.heap.size #[.slice A n c] 22]) => contF_any 36 enSet #[.pointer (some ⟨w.heap.size, 0, none⟩)] (badT y.k) (.slice A n c) l W (by rw [← hn]; exact HRD.out W h.below) (by omega) (fun W2 hW2 x hx => setC_any (n := n) ((HOK.out x hx).on (h.below.trans (hW2.mono h.below.size))) (HRD.out W2 (h.below.trans (hW2.mono h.below.size))) hy hn0 (h.call hW2).swap))
    rw [hany] at HCF
    clear hv hr hbad hS0 hn hy hany
    go_enter Try.func24, Try.ntmps24
    go_wp2_with (go_at_call 32; (with_reducible refine (HCF.out _ HS0.out).mono ?_); rintro e w1 ⟨rfl, hb1⟩; have HS1 := hide (HS0.out.call hb1); have t0 := HS1.out.cell 0 rfl 0; have t1 := HS1.out.cell 0 rfl 1; have t2 := HS1.out.cell 0 rfl 2; have t3 := HS1.out.cell 0 rfl 3; have fr0 := HS1.out.free 0 rfl 0; have fr1 := HS1.out.free 0 rfl 1; have fr2 := HS1.out.free 0 rfl 2; have fr3 := HS1.out.free 0 rfl 3)
    have HS2 := hide ((((HS1.out.setCell 0 rfl 0 (.int .i64 0)).setCell 0 rfl 1 (.int .i64 0)).setCell 0 rfl 2 (.string ⟨#[]⟩)).setCell 0 rfl 3 (.slice none 0 0))
    refine bodyPost_ret (results_cell_tmp_row rfl _ _ (w.heap.size + 1) _ #[.int .i64 0, .int .i64 0, .string ⟨#[]⟩, .slice none 0 0] _ _ rfl (HS2.out.heap 0 rfl) Try.underlying24 rfl (by kernel_rfl)) rfl ?_
    exact ⟨rfl, HS2.out.below⟩
end Go.Proofs.Ytjamoifenkdneaa
