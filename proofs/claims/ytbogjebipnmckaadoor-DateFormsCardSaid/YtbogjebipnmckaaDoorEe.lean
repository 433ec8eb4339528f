/-
  Layer 8: the walk of DateOffsets.
-/
import Derived.Test.YtbogjebipnmckaaDoorEd
namespace Go.Proofs.YtbogjebipnmckaaDoor
open Go.RowKit
set_option linter.unusedSimpArgs false

set_option maxRecDepth 100000 in
set_option maxHeartbeats 800000 in
theorem two8_any (n : Nat) (h : n < 100) (w : World) : Calls Tryd.prog 18 #[.int .i64 (n : Int)] w fun e w' => e = .returned (.string (strOf (d2 n))) ∧ Below w.heap.size w w' := by
  obtain ⟨p, hp⟩ : ∃ p : Nat, p = n / 10 := ⟨_, rfl⟩
  obtain ⟨q, hq⟩ : ∃ q : Nat, q = n % 10 := ⟨_, rfl⟩
  have e1 : (n : Int) / 10 = (p : Int) := by omega
  have e2 : (n : Int) % 10 = (q : Int) := by omega
  have hp' : p < 10 := by omega
  have hq' : q < 10 := by omega
  have ed : d2 n = [UInt8.ofNat (48 + p), UInt8.ofNat (48 + q)] := by unfold d2; rw [hp, hq]
  rw [ed]
  clear ed
  have hb : bvs [UInt8.ofNat (48 + p), UInt8.ofNat (48 + q)] = [.int .u8 (48 + (p : Int)), .int .u8 (48 + (q : Int))] := by
    simp only [bvs, bv, List.map_cons, List.map_nil, dig_nat hp', dig_nat hq']
    rfl
  have cv : (convert 48 9 (.slice (some ⟨w.heap.size, 0, none⟩) 2 2)).run Tryd.prog (w.alloc (.cells #[.int .u8 (48 + (p : Int)), .int .u8 (48 + (q : Int))] 5)) = .ok (.string (strOf [UInt8.ofNat (48 + p), UInt8.ofNat (48 + q)])) (w.alloc (.cells #[.int .u8 (48 + (p : Int)), .int .u8 (48 + (q : Int))] 5)) := by
    have := rd_new w [.int .u8 (48 + (p : Int)), .int .u8 (48 + (q : Int))] 5 1 2 rfl (by decide)
    rw [← hb] at this
    have := run_str (P := Tryd.prog) Tryd.underlying48 Tryd.underlying5 Tryd.underlying9 this
    rw [hb] at this
    exact this
  have HB := hide ((Below.refl w.heap.size w).alloc (Nat.le_refl _) (.cells #[.int .u8 (48 + (p : Int)), .int .u8 (48 + (q : Int))] 5))
  clear hb hp hq
  generalize [UInt8.ofNat (48 + p), UInt8.ofNat (48 + q)] = l at cv ⊢
  go_enter Tryd.func18, Tryd.ntmps18
  go_wp2_with fail
  go_ret
  exact ⟨rfl, HB.out⟩
theorem cut19 {N : Nat} (h : N < 253402300800) (c : UInt8) (oh om : Nat) : ((prt N).take 19 ++ [c]) ++ ((d2 oh ++ [58]) ++ d2 om) = dtx (dY N) (dM N + 1) (dT N) (N % 86400 / 3600) (N % 3600 / 60) (N % 60) (ofsT c oh om) := by
  rw [prt_dtx h]
  rfl
theorem d2_len (n : Nat) : (d2 n).length = 2 := rfl
set_option maxRecDepth 100000 in
set_option maxHeartbeats 800000 in
theorem dateOffsets_walk (a b c : Int) (w : World) (ht : Tb w) : Calls Tryd.prog 6 #[.int .i64 a, .int .i64 b, .int .i64 c] w fun e w' => e = .returned (.bool true) ∧ Below w.heap.size w w' := by
  obtain ⟨A, eA⟩ : ∃ Y : Nat, IntKind.u64.wrap a % 253402000000 = (Y : Int) := ⟨(IntKind.u64.wrap a % 253402000000).toNat, by omega⟩
  obtain ⟨h, eh⟩ : ∃ Y : Nat, IntKind.u64.wrap b % 24 = (Y : Int) := ⟨(IntKind.u64.wrap b % 24).toNat, by omega⟩
  obtain ⟨m, em⟩ : ∃ Y : Nat, IntKind.u64.wrap c % 60 = (Y : Int) := ⟨(IntKind.u64.wrap c % 60).toNat, by omega⟩
  have hA : A < 253402000000 := by omega
  have hh : h < 24 := by omega
  have hm : m < 60 := by omega
  have tA : (IntKind.u64.wrap a).tmod 253402000000 = (A : Int) := by rw [Int.tmod_eq_emod_of_nonneg (by rw [IntKind.wrap_u64]; omega)]; exact eA
  have th : (IntKind.u64.wrap b).tmod 24 = (h : Int) := by rw [Int.tmod_eq_emod_of_nonneg (by rw [IntKind.wrap_u64]; omega)]; exact eh
  have tm : (IntKind.u64.wrap c).tmod 60 = (m : Int) := by rw [Int.tmod_eq_emod_of_nonneg (by rw [IntKind.wrap_u64]; omega)]; exact em
  clear eA eh em
  obtain ⟨N, hN⟩ : ∃ N : Nat, N = 100000 + A := ⟨_, rfl⟩
  obtain ⟨k, hk⟩ : ∃ k : Nat, k = 3600 * h + 60 * m := ⟨_, rfl⟩
  have eN : (100000 : Int) + (A : Int) = (N : Int) := by omega
  have ek : (3600 : Int) * (h : Int) + 60 * (m : Int) = (k : Int) := by omega
  have n0 : 100000 ≤ N := by omega
  have n1 : N < 253402100000 := by omega
  have k1 : k ≤ 86400 := by omega
  have hN8 : N < 253402300800 := by omega
  clear hN
  have l1 := prt_length hN8
  have H2h := hide (fun W => two8_any h (by omega) W)
  have H2m := hide (fun W => two8_any m (by omega) W)
  obtain ⟨p1, p2, p3⟩ := off_P h m (by omega) (by omega)
  obtain ⟨m1, m2, m3⟩ := off_M h m (by omega) (by omega)
  have hb : (decide (h ≤ 23) && decide (m ≤ 59)) = true := by rw [decide_eq_true (by omega : h ≤ 23), decide_eq_true (by omega : m ≤ 59)]; rfl
  rw [hb] at p3 m3
  have r1 := par_prt hN8 (ofsT 43 h m) (o := (k : Int)) p3 p2 (by rw [p1]; exact ek) (by omega)
  have r2 := par_prt hN8 (ofsT 45 h m) (o := -(k : Int)) m3 m2 (by rw [m1, ek]) (by omega)
  rw [show (N : Int) - -(k : Int) = (N : Int) + (k : Int) by omega] at r2
  rw [← cut19 hN8] at r1 r2
  have HP := hide (fun W h => printS_is (printT_nat hN8) W h)
  clear p1 p2 p3 m1 m2 m3 hb hN8 hk
  generalize prt N = x at l1 HP r1 r2
  have hL := fun W => run_lenS (P := Tryd.prog) (t := 9) (ty := 3) (by kernel_rfl) x W
  rw [l1] at hL
  have s1 := fun W => run_cutTo (P := Tryd.prog) (t := 9) (by kernel_rfl) x 19 (by omega) W
  rw [show ((19 : Nat) : Int) = 19 from rfl] at s1
  have ly : (x.take 19).length = 19 := by rw [List.length_take]; omega
  generalize x.take 19 = y at s1 ly r1 r2
  have c1 := fun W => run_cat (P := Tryd.prog) (d2 h) [58] (by simp [d2_len]) W
  have l2 : (d2 h ++ [58]).length = 3 := rfl
  generalize d2 h ++ [58] = f1 at c1 l2 r1 r2
  have c2 := fun W => run_cat (P := Tryd.prog) f1 (d2 m) (by rw [d2_len]; omega) W
  have l3 : (f1 ++ d2 m).length = 5 := by rw [List.length_append, l2, d2_len]
  generalize f1 ++ d2 m = off at c2 l3 r1 r2
  have c3 := fun W => run_cat (P := Tryd.prog) y [43] (by simp; omega) W
  have c4 := fun W => run_cat (P := Tryd.prog) y [45] (by simp; omega) W
  have l4 : (y ++ [43]).length = 20 := by rw [List.length_append, ly]; rfl
  have l5 : (y ++ [45]).length = 20 := by rw [List.length_append, ly]; rfl
  generalize y ++ [43] = yp at c3 l4 r1
  generalize y ++ [45] = ym at c4 l5 r2
  have c5 := fun W => run_cat (P := Tryd.prog) yp off (by omega) W
  have c6 := fun W => run_cat (P := Tryd.prog) ym off (by omega) W
  generalize yp ++ off = tp at c5 r1
  generalize ym ++ off = tmn at c6 r2
  generalize d2 h = dh at H2h c1
  generalize d2 m = dm at H2m c2
  rw [strOf_eq [58]] at c1
  rw [strOf_eq [43]] at c3
  rw [strOf_eq [45]] at c4
  have P1 := hide (fun W => parseS_is r1 W)
  have P2 := hide (fun W => parseS_is r2 W)
  have HW := hide (fun W h => awake_any W h)
  have HT := hide ht
  have HB := hide (Below.refl w.heap.size w)
  clear ht r1 r2 l1 l2 l3 l4 l5 ly
  go_enter Tryd.func6, Tryd.ntmps6
  go_wp2_with (first
    | (go_at_call 14; (with_reducible refine (HP.out _ HT.out).mono ?_); rintro e w' ⟨rfl, hb⟩; have HB := hide (HB.out.trans (hb.mono HB.out.size)); have HT := hide (HT.out.on hb); clear hb)
    | (go_at_call 18; (with_reducible refine (H2h.out _).mono ?_); rintro e w' ⟨rfl, hb⟩; have HB := hide (HB.out.trans (hb.mono HB.out.size)); have HT := hide (HT.out.on hb); clear hb)
    | (go_at_call 18; (with_reducible refine (H2m.out _).mono ?_); rintro e w' ⟨rfl, hb⟩; have HB := hide (HB.out.trans (hb.mono HB.out.size)); have HT := hide (HT.out.on hb); clear hb)
    | (go_at_call 10; (with_reducible refine (P1.out _).mono ?_); rintro e w' ⟨rfl, hb⟩; have HB := hide (HB.out.trans (hb.mono HB.out.size)); have HT := hide (HT.out.on hb); clear hb)
    | (go_at_call 10; (with_reducible refine (P2.out _).mono ?_); rintro e w' ⟨rfl, hb⟩; have HB := hide (HB.out.trans (hb.mono HB.out.size)); have HT := hide (HT.out.on hb); clear hb)
    | (go_at_call 9; (with_reducible refine (HW.out _ HT.out).mono ?_); rintro e w' ⟨rfl, hb⟩; have HB := hide (HB.out.trans (hb.mono HB.out.size)); clear hb))
  go_ret
  exact ⟨rfl, HB.out⟩
end Go.Proofs.YtbogjebipnmckaaDoor
