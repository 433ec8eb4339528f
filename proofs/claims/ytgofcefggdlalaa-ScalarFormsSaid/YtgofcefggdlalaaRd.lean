/-
  Scalars for bytes of any length: the program's functions and the page's.
-/
import Derived.Test.YtgofcefggdlalaaRc
namespace Go.Proofs.Ytgofcefggdlalaa
open Go.RowKit
set_option linter.unusedSimpArgs false

/-- A call that hands bytes back. -/
def SlR (w : World) (l : List UInt8) (e : Ending) (w' : World) : Prop := ∃ B n d, e = .returned (.slice B n d) ∧ Below w.heap.size w w' ∧ Rd w' (.slice B n d) 1 n (bvs l)
theorem slr_nil (w : World) : SlR w [] (.returned (.slice none 0 0)) w := ⟨_, _, _, rfl, Below.refl _ _, rd_nil w 1⟩
def redT (l : List UInt8) : List UInt8 := if l.length ≤ 64 then redL l else []
def madT (a b c : List UInt8) : List UInt8 := if a.length = 32 ∧ b.length = 32 ∧ c.length = 32 then madL a b c else []
def oneL : List UInt8 := (List.replicate 32 (0 : UInt8)).set 0 1
def clampT (l : List UInt8) : List UInt8 := if l.length = 32 then clampL l else []
theorem redP (A : Option Addr) (n c : Nat) (l : List UInt8) (w : World) (hl : l.length = n) (hr : Rd w (.slice A n c) 1 n (bvs l)) : Calls Try.prog 11 #[.slice A n c] w (SlR w (redT l)) := by
  unfold redT
  by_cases hn : n ≤ 64
  · rw [if_pos (by omega)]
    refine (redC hl hn hr).mono ?_
    rintro e w' ⟨B, d, he, hb, ho⟩
    exact ⟨B, 32, d, he, hb, ho⟩
  · rw [if_neg (by omega)]
    refine (reduce_nil A n c w (by omega)).mono ?_
    rintro e w' ⟨rfl, rfl⟩
    exact slr_nil w
theorem redQ (A : Option Addr) (n c : Nat) (l : List UInt8) (w : World) (hl : l.length = n) (hr : Rd w (.slice A n c) 1 n (bvs l)) : Calls Try.prog 16 #[.slice A n c] w (SlR w (redT l)) := by
  unfold redT
  by_cases hn : n ≤ 64
  · rw [if_pos (by omega)]
    refine (reduceR A n c l w hl hn hr).mono ?_
    rintro e w' ⟨B, d, he, hb, ho⟩
    exact ⟨B, 32, d, he, hb, rd_own ho⟩
  · rw [if_neg (by omega)]
    refine (reduceR_nil A n c w (by omega)).mono ?_
    rintro e w' ⟨rfl, rfl⟩
    exact slr_nil w
set_option maxRecDepth 100000 in
set_option maxHeartbeats 800000 in
theorem madP (A B C : Option Addr) (na nb nc ca cb cc : Nat) (x y z : List UInt8) (w : World) (la : x.length = na) (lb : y.length = nb) (lc : z.length = nc) (ra : Rd w (.slice A na ca) 1 na (bvs x)) (rb : Rd w (.slice B nb cb) 1 nb (bvs y)) (rc : Rd w (.slice C nc cc) 1 nc (bvs z)) :
    Calls Try.prog 13 #[.slice A na ca, .slice B nb cb, .slice C nc cc] w (SlR w (madT x y z)) := by
  unfold madT
  by_cases ha : x.length = 32
  · by_cases hb : y.length = 32
    · by_cases hc : z.length = 32
      · rw [if_pos ⟨ha, hb, hc⟩]
        obtain rfl : na = 32 := by omega
        obtain rfl : nb = 32 := by omega
        obtain rfl : nc = 32 := by omega
        refine (madC ha hb hc ra rb rc).mono ?_
        rintro e w' ⟨B, d, he, hb, ho⟩
        exact ⟨B, 32, d, he, hb, ho⟩
      · rw [if_neg (fun h => hc h.2.2)]
        have d1 : ((na : Int) != 32) = false := by simp; omega
        have d2 : ((nb : Int) != 32) = false := by simp; omega
        have d3 : ((nc : Int) != 32) = true := by simp; omega
        obtain rfl : na = 32 := by omega
        obtain rfl : nb = 32 := by omega
        have e3 : ¬ (nc : Int) = 32 := by omega
        have e4 : decide ((nc : Int) = 32) = false := by simp; omega
        clear la lb lc ra rb rc ha hb hc
        go_enter Try.func13, Try.ntmps13
        go_wp2_with fail
        go_ret
        exact slr_nil w
    · rw [if_neg (fun h => hb h.2.1)]
      have d2 : ((nb : Int) != 32) = true := by simp; omega
      obtain rfl : na = 32 := by omega
      have e3 : ¬ (nb : Int) = 32 := by omega
      have e4 : decide ((nb : Int) = 32) = false := by simp; omega
      clear la lb lc ra rb rc ha hb
      go_enter Try.func13, Try.ntmps13
      go_wp2_with fail
      go_ret
      exact slr_nil w
  · rw [if_neg (fun h => ha h.1)]
    have d2 : ((na : Int) != 32) = true := by simp; omega
    have e3 : ¬ (na : Int) = 32 := by omega
    have e4 : decide ((na : Int) = 32) = false := by simp; omega
    clear la lb lc ra rb rc ha
    go_enter Try.func13, Try.ntmps13
    go_wp2_with fail
    go_ret
    exact slr_nil w
set_option maxRecDepth 100000 in
set_option maxHeartbeats 800000 in
theorem madQ (A B C : Option Addr) (na nb nc ca cb cc : Nat) (x y z : List UInt8) (w : World) (la : x.length = na) (lb : y.length = nb) (lc : z.length = nc) (ra : Rd w (.slice A na ca) 1 na (bvs x)) (rb : Rd w (.slice B nb cb) 1 nb (bvs y)) (rc : Rd w (.slice C nc cc) 1 nc (bvs z)) :
    Calls Try.prog 18 #[.slice A na ca, .slice B nb cb, .slice C nc cc] w (SlR w (madT x y z)) := by
  unfold madT
  by_cases ha : x.length = 32
  · by_cases hb : y.length = 32
    · by_cases hc : z.length = 32
      · rw [if_pos ⟨ha, hb, hc⟩]
        obtain rfl : na = 32 := by omega
        obtain rfl : nb = 32 := by omega
        obtain rfl : nc = 32 := by omega
        refine (muladdR A B C ca cb cc x y z w ha hb hc ra rb rc).mono ?_
        rintro e w' ⟨B, d, he, hb, ho⟩
        exact ⟨B, 32, d, he, hb, rd_own ho⟩
      · rw [if_neg (fun h => hc h.2.2)]
        have d1 : ((na : Int) != 32) = false := by simp; omega
        have d2 : ((nb : Int) != 32) = false := by simp; omega
        have d3 : ((nc : Int) != 32) = true := by simp; omega
        obtain rfl : na = 32 := by omega
        obtain rfl : nb = 32 := by omega
        have e3 : ¬ (nc : Int) = 32 := by omega
        have e4 : decide ((nc : Int) = 32) = false := by simp; omega
        clear la lb lc ra rb rc ha hb hc
        go_enter Try.func18, Try.ntmps18
        go_wp2_with fail
        go_ret
        exact slr_nil w
    · rw [if_neg (fun h => hb h.2.1)]
      have d2 : ((nb : Int) != 32) = true := by simp; omega
      obtain rfl : na = 32 := by omega
      have e3 : ¬ (nb : Int) = 32 := by omega
      have e4 : decide ((nb : Int) = 32) = false := by simp; omega
      clear la lb lc ra rb rc ha hb
      go_enter Try.func18, Try.ntmps18
      go_wp2_with fail
      go_ret
      exact slr_nil w
  · rw [if_neg (fun h => ha h.1)]
    have d2 : ((na : Int) != 32) = true := by simp; omega
    have e3 : ¬ (na : Int) = 32 := by omega
    have e4 : decide ((na : Int) = 32) = false := by simp; omega
    clear la lb lc ra rb rc ha
    go_enter Try.func18, Try.ntmps18
    go_wp2_with fail
    go_ret
    exact slr_nil w
set_option maxRecDepth 100000 in
set_option maxHeartbeats 800000 in
theorem addP (A B : Option Addr) (na nb ca cb : Nat) (x y : List UInt8) (w : World) (la : x.length = na) (lb : y.length = nb) (ra : Rd w (.slice A na ca) 1 na (bvs x)) (rb : Rd w (.slice B nb cb) 1 nb (bvs y)) :
    Calls Try.prog 14 #[.slice A na ca, .slice B nb cb] w (SlR w (madT x oneL y)) := by
  have RA := hide ra
  have RB := hide rb
  have LA := hide la
  have LB := hide lb
  clear ra rb la lb
  go_enter Try.func14, Try.ntmps14
  go_wp2_with (first
    | (refine wl_makeB (n := 32) rfl rfl Try.underlying22 infoB (St.init w NoB) rfl rfl (by decide) ?_; intro g w1 hS1 hb1; obtain ⟨g', c1', hv, _, _, hcs, hfr, _⟩ := hS1.rowOpen 0 rfl (by omega); injection hv with hv1 _ hv3; injection hv1 with hv1; injection hv1 with hv1; subst hv1 hv3; have k0 := hcs 0 (.int .u8 ((0 : UInt8).toNat : Int)) (bvs_get rfl); have f0 := hfr 0; have HRow := hide (show St w NoB (w1.setCell ⟨g, 0, none⟩ (.int .u8 1)) [.row (.slice (some ⟨g, 0, none⟩) 32 32) 5 1 32 (bvs oneL)] from hS1.rowSet 0 rfl 0 (.int .u8 1) (by omega)); clear hS1 hcs hfr hb1)
    | (go_at_call 13; (with_reducible refine (madP A (some ⟨g, 0, none⟩) B na 32 nb ca 32 cb x oneL y (w1.setCell ⟨g, 0, none⟩ (.int .u8 1)) LA.out rfl LB.out (RA.out.st HRow.out) (HRow.out.rd 0 rfl) (RB.out.st HRow.out)).mono ?_); rintro e w2 ⟨B2, n2, d2, rfl, hb2, hr2⟩; have HB2 := hide hb2; have HR2 := hide hr2; clear hb2 hr2))
  go_ret
  exact ⟨B2, n2, d2, rfl, bnx HRow.out.below HB2.out, HR2.out⟩
set_option maxRecDepth 100000 in
set_option maxHeartbeats 800000 in
theorem addQ (A B : Option Addr) (na nb ca cb : Nat) (x y : List UInt8) (w : World) (la : x.length = na) (lb : y.length = nb) (ra : Rd w (.slice A na ca) 1 na (bvs x)) (rb : Rd w (.slice B nb cb) 1 nb (bvs y)) :
    Calls Try.prog 17 #[.slice A na ca, .slice B nb cb] w (SlR w (madT x oneL y)) := by
  have RA := hide ra
  have RB := hide rb
  have LA := hide la
  have LB := hide lb
  clear ra rb la lb
  go_enter Try.func17, Try.ntmps17
  go_wp2_with (first
    | (refine wl_makeB (n := 32) rfl rfl Try.underlying22 infoB (St.init w NoB) rfl rfl (by decide) ?_; intro g w1 hS1 hb1; obtain ⟨g', c1', hv, _, _, hcs, hfr, _⟩ := hS1.rowOpen 0 rfl (by omega); injection hv with hv1 _ hv3; injection hv1 with hv1; injection hv1 with hv1; subst hv1 hv3; have k0 := hcs 0 (.int .u8 ((0 : UInt8).toNat : Int)) (bvs_get rfl); have f0 := hfr 0; have HRow := hide (show St w NoB (w1.setCell ⟨g, 0, none⟩ (.int .u8 1)) [.row (.slice (some ⟨g, 0, none⟩) 32 32) 5 1 32 (bvs oneL)] from hS1.rowSet 0 rfl 0 (.int .u8 1) (by omega)); clear hS1 hcs hfr hb1)
    | (go_at_call 18; (with_reducible refine (madQ A (some ⟨g, 0, none⟩) B na 32 nb ca 32 cb x oneL y (w1.setCell ⟨g, 0, none⟩ (.int .u8 1)) LA.out rfl LB.out (RA.out.st HRow.out) (HRow.out.rd 0 rfl) (RB.out.st HRow.out)).mono ?_); rintro e w2 ⟨B2, n2, d2, rfl, hb2, hr2⟩; have HB2 := hide hb2; have HR2 := hide hr2; clear hb2 hr2))
  go_ret
  exact ⟨B2, n2, d2, rfl, bnx HRow.out.below HB2.out, HR2.out⟩
set_option maxRecDepth 100000 in
set_option maxHeartbeats 800000 in
theorem clamp_walkR (A : Option Addr) (c : Nat) (l : List UInt8) (w : World) (hl : l.length = 32) (hr : Rd w (.slice A 32 c) 1 32 (bvs l)) :
    Calls Try.prog 19 #[.slice A 32 c] w (ResB 5 w (clampL l)) := by
  obtain ⟨a, ha⟩ : ∃ a, l[0]? = some a := ⟨l[0], List.getElem?_eq_getElem _⟩
  obtain ⟨b, hb⟩ : ∃ b, l[31]? = some b := ⟨l[31], List.getElem?_eq_getElem _⟩
  have e := clampL_eq l a b ha hb
  have a2 := UInt8.toNat_lt a
  have b2 := UInt8.toNat_lt b
  have ga := bvs_get ha
  have gb := bvs_get hb
  obtain ⟨an, han⟩ : ∃ an, an = a.toNat := ⟨_, rfl⟩
  obtain ⟨bn, hbn⟩ : ∃ bn, bn = b.toNat := ⟨_, rfl⟩
  rw [← han] at e a2 ga
  rw [← hbn] at e b2 gb
  have eA := clA_eq an a2
  have eB := clB_eq bn b2
  have hS := St.init w NoB
  have HR := hide hr
  have HE := hide e
  have HL := hide hl
  have GA := hide ga
  have GB := hide gb
  have LA := hide (clA_lt an a2)
  have LB := hide (clB_lt bn b2)
  clear hr e hl ga gb ha hb han hbn
  go_enter Try.func19, Try.ntmps19
  go_wp2_with (at_builtin; refine wl_append0 rfl rfl tyB hS rfl rfl HR.out (one_bvs _) (by omega) (by decide) ?_; intro A1 c1 w1 hS1; obtain ⟨g, c1', hv, hc1, hcm, hcs, hfr, _⟩ := hS1.rowOpen 0 rfl (by omega); injection hv with hv1 _ hv3; subst hv1 hv3; have k0 := hcs 0 _ GA.out; have k31 := hcs 31 _ GB.out; have f0 := hfr 0; have f31 := hfr 31; have HS1 := hide hS1; clear hS1 hcs hfr)
  go_ret
  have h2 := (HS1.out.rowSet 0 rfl 0 (.int .u8 (clA an : Nat)) (by omega)).rowSet 0 rfl 31 (.int .u8 (clB bn : Nat)) (by omega)
  rw [bvs_set _ _ _ LA.out, bvs_set _ _ _ LB.out, ← HE.out] at h2
  have h3 := resB_of (l := clampL l) h2 0 rfl rfl
  exact h3
set_option maxRecDepth 100000 in
set_option maxHeartbeats 800000 in
theorem clP (A : Option Addr) (n c : Nat) (l : List UInt8) (w : World) (hl : l.length = n) (hr : Rd w (.slice A n c) 1 n (bvs l)) : Calls Try.prog 9 #[.slice A n c] w (SlR w (clampT l)) := by
  unfold clampT
  by_cases h : l.length = 32
  · rw [if_pos h]
    obtain rfl : n = 32 := by omega
    refine (clamp_walk A c l w h hr).mono ?_
    rintro e w' ⟨B, d, he, hb, ho⟩
    rw [clampL_len, h] at he ho
    exact ⟨B, 32, d, he, hb, rd_own ho⟩
  · rw [if_neg h]
    have d1 : ((n : Int) != 32) = true := by simp; omega
    have e3 : ¬ (n : Int) = 32 := by omega
    have e4 : decide ((n : Int) = 32) = false := by simp; omega
    clear hl hr h
    go_enter Try.func9, Try.ntmps9
    go_wp2_with fail
    go_ret
    exact slr_nil w
set_option maxRecDepth 100000 in
set_option maxHeartbeats 800000 in
theorem clQ (A : Option Addr) (n c : Nat) (l : List UInt8) (w : World) (hl : l.length = n) (hr : Rd w (.slice A n c) 1 n (bvs l)) : Calls Try.prog 19 #[.slice A n c] w (SlR w (clampT l)) := by
  unfold clampT
  by_cases h : l.length = 32
  · rw [if_pos h]
    obtain rfl : n = 32 := by omega
    refine (clamp_walkR A c l w h hr).mono ?_
    rintro e w' ⟨B, d, he, hb, ho⟩
    rw [clampL_len, h] at he ho
    exact ⟨B, 32, d, he, hb, rd_own ho⟩
  · rw [if_neg h]
    have d1 : ((n : Int) != 32) = true := by simp; omega
    have e3 : ¬ (n : Int) = 32 := by omega
    have e4 : decide ((n : Int) = 32) = false := by simp; omega
    clear hl hr h
    go_enter Try.func19, Try.ntmps19
    go_wp2_with fail
    go_ret
    exact slr_nil w
end Go.Proofs.Ytgofcefggdlalaa
