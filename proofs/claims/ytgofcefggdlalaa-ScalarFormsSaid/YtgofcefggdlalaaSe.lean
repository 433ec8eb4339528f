/-
  The walks of layer 3: May, Reduce.
-/
import Derived.Test.YtgofcefggdlalaaSd
namespace Go.Proofs.Ytgofcefggdlalaa
open Go.RowKit

/-- A number that is told: below the order or not. -/
def mayS (l : List UInt8) : Bool := decide (l.length = 32) && decide (bval l < Lq)
theorem less_bit (a r : List Nat) (bo : Nat) (hr : Words r) (hrl : r.length = 4) (hbo : bo ≤ 1) (ha : lv a < 18446744073709551616 ^ 4) (h : lv r + Lq = lv a + bo * 18446744073709551616 ^ 4) : decide (0 < bo) = decide (lv a < Lq) := by
  have h4 := lv_lt r hr
  have hL := Lq_lt
  rw [hrl] at h4
  generalize 18446744073709551616 ^ 4 = B at *
  rw [Bool.eq_iff_iff, decide_eq_true_eq, decide_eq_true_eq]
  have : bo = 0 ∨ bo = 1 := by omega
  rcases this with rfl | rfl <;> omega
set_option maxRecDepth 100000 in
set_option maxHeartbeats 800000 in
theorem may_walk (A : Option Addr) (n c : Nat) (l : List UInt8) (w : World) (hl : l.length = n) (hr : Rd w (.slice A n c) 1 n (bvs l)) :
    Calls Try.prog 12 #[.slice A n c] w fun e w' => e = .returned (.bool (mayS l)) ∧ Below w.heap.size w w' := by
  by_cases h32 : n = 32
  · subst h32
    have hm : mayS l = decide (bval l < Lq) := by unfold mayS; rw [hl]; simp
    rw [hm]
    have HR := hide hr
    have HL := hide hl
    clear hm hr hl
    go_enter Try.func12, Try.ntmps12
    go_wp2_with (first
      | (go_at_call 22; refine (from_walk A c l _ HL.out HR.out).mono ?_; rintro e w1 ⟨a0, a1, a2, a3, haw, hav, rfl, hb1⟩; have HAV := hide hav; clear hav)
      | (go_at_call 24; refine (order_any _).mono ?_; rintro e w2 ⟨rfl, hb2⟩)
      | (go_at_call 23; refine (less_any a0 a1 a2 a3 _ _ _ _ _ haw ord_words).mono ?_; rintro e w3 ⟨r0, r1, r2, r3, bo, hrw, hbo, hrv, rfl, hb3⟩; have HRV := hide hrv; clear hrv))
    go_ret
    have hB := lv_lt _ haw
    have hd := less_bit [a0, a1, a2, a3] [r0, r1, r2, r3] bo hrw rfl hbo hB (by rw [← lv_ord]; exact HRV.out)
    rw [HAV.out] at hd
    refine ⟨congrArg (fun z => Ending.returned (Value.bool z)) hd, ?_⟩
    have hb12 := hb1.trans (hb2.mono hb1.size)
    have hb13 := hb12.trans (hb3.mono hb12.size)
    exact hb13.trans ((Below.refl _ _).alloc (by first | exact hb13.size | omega) _)
  · have hm : mayS l = false := by unfold mayS; rw [hl, decide_eq_false h32]; rfl
    have hne : ((n : Int) != 32) = true := by simp; omega
    have hne2 : ((n : Int) == 32) = false := by simp; omega
    rw [hm]
    clear hm hr hl
    go_enter Try.func12, Try.ntmps12
    go_wp2_with fail
    go_ret
    exact ⟨rfl, Below.refl _ _⟩

theorem enNext (args : Array Value) (w : World) : (callFunc 20 args).run Try.prog w = .ok (.enter 20 args) w := by kernel_rfl
theorem next_any (a0 a1 a2 a3 bit : Nat) (w : World) (ha : Words [a0, a1, a2, a3]) (hx : lv [a0, a1, a2, a3] < Lq) (hbit : bit ≤ 1) :
    Calls Try.prog 20 #[.agg #[.int .u64 (a0 : Int), .int .u64 (a1 : Int), .int .u64 (a2 : Int), .int .u64 (a3 : Int)], .int .u64 (bit : Int)] w fun e w' =>
      ∃ r0 r1 r2 r3 : Nat, Words [r0, r1, r2, r3] ∧ lv [r0, r1, r2, r3] = (2 * lv [a0, a1, a2, a3] + bit) % Lq ∧ e = .returned (.agg #[.int .u64 (r0 : Int), .int .u64 (r1 : Int), .int .u64 (r2 : Int), .int .u64 (r3 : Int)]) ∧ Below w.heap.size w w' := by
  refine (next_walk [a0, a1, a2, a3] bit w rfl ha hx hbit).mono ?_
  rintro e w' ⟨rs, hrl, hrw, hv, rfl, hb⟩
  match rs, hrl with
  | [r0, r1, r2, r3], _ => exact ⟨r0, r1, r2, r3, hrw, hv, rfl, hb⟩

def AtI (m : Nat) (i : Value) : Prop := (m = 0 ∧ i = .int .i64 (-1)) ∨ ∃ p : Nat, m = p + 1 ∧ i = .int .i64 (p : Int)
theorem atI_pred (p : Nat) : AtI p (.int .i64 ((p : Int) - 1)) := by
  cases p with
  | zero => exact .inl ⟨rfl, rfl⟩
  | succ p => exact .inr ⟨p, rfl, by simp⟩
def RedRel (w : World) (g : Nat) (X : Nat) (wr : World) : Prop :=
  ∃ a0 a1 a2 a3 : Nat, Words [a0, a1, a2, a3] ∧ lv [a0, a1, a2, a3] = X % Lq ∧ St w NoB wr [.cells g #[.int .u64 (a0 : Int), .int .u64 (a1 : Int), .int .u64 (a2 : Int), .int .u64 (a3 : Int)] 35]
theorem red_step (X c k : Nat) (hk : k < 8) : (2 * ((X * 2 ^ (7 - k) + c / 2 ^ (k + 1)) % Lq) + c / 2 ^ k % 2) % Lq = (X * 2 ^ (8 - k) + c / 2 ^ k) % Lq := by
  have e : X * 2 ^ (8 - k) + c / 2 ^ k = 2 * (X * 2 ^ (7 - k) + c / 2 ^ (k + 1)) + c / 2 ^ k % 2 := by
    rw [show 8 - k = (7 - k) + 1 from by omega, Nat.pow_succ, Nat.pow_succ, ← Nat.div_div_eq_div_mul, Nat.mul_add, ← Nat.mul_assoc X]
    have := Nat.div_add_mod (c / 2 ^ k) 2
    omega
  rw [e, Nat.add_mod, Nat.mul_mod_mod, ← Nat.add_mod]
theorem red_byte (l : List UInt8) (p : Nat) (c : UInt8) (h : l[p]? = some c) : bval (l.drop (p + 1)) * 256 + c.toNat = bval (l.drop p) := by
  have hlt := (List.getElem?_eq_some_iff.1 h).1
  have hc := (List.getElem?_eq_some_iff.1 h).2
  rw [List.drop_eq_getElem_cons hlt, hc, bval]
  omega
theorem red_bit (c k : Nat) (hc : c < 256) : bits .and .u8 ((c / 2 ^ k : Nat) : Int) 1 = ((c / 2 ^ k % 2 : Nat) : Int) := by
  have h1 : c / 2 ^ k < 256 := Nat.lt_of_le_of_lt (Nat.div_le_self _ _) hc
  have := u8_and_nat (c / 2 ^ k) 1 h1 (by omega)
  rw [nat_mask1] at this
  exact this
set_option maxRecDepth 100000 in
set_option maxHeartbeats 1600000 in
theorem reduce_walk (A : Option Addr) (n c : Nat) (l : List UInt8) (w : World) (hl : l.length = n) (hn : n ≤ 64) (hr : Rd w (.slice A n c) 1 n (bvs l)) :
    Calls Try.prog 11 #[.slice A n c] w (ResB 5 w (leB 32 (bval l % Lq))) := by
  have HR := hide hr
  have HL := hide hl
  have HS0 := hide ((St.init w NoB).alloc #[.int .u64 0, .int .u64 0, .int .u64 0, .int .u64 0] 35)
  have hL := Lq_lt
  have HLQ := hide hL.2
  have hat : AtI n (.int .i64 ((n : Int) - 1)) := by
    cases n with
    | zero => exact .inl ⟨rfl, rfl⟩
    | succ p => exact .inr ⟨p, rfl, by simp⟩
  have HAT := hide hat
  clear hr hl hL hat
  go_enter Try.func11, Try.ntmps11
  go_wp2_with fail
  go_loopw [4] (fun i wr => ∃ m : Nat, m ≤ n ∧ AtI m i ∧ RedRel w w.heap.size (bval (l.drop m)) wr) (fun i _ => (intOf i + 1).toNat)
  case atStart =>
    refine ⟨n, Nat.le_refl _, HAT.out, 0, 0, 0, 0, by unfold Words; decide, ?_, HS0.out⟩
    rw [List.drop_eq_nil_of_le (by rw [HL.out]; exact Nat.le_refl _)]
    rfl
  case round =>
    obtain ⟨m, hm, hi, a0, a1, a2, a3, haw, hav, hS⟩ := hrel
    rcases hi with ⟨rfl, rfl⟩ | ⟨p, rfl, rfl⟩
    · have HAV := hide hav
      have HS := hide hS
      have hc0 : wr.cell? ⟨w.heap.size, 0, none⟩ = some (.int .u64 (a0 : Int)) := hS.cell 0 rfl 0
      have hc1 : wr.cell? ⟨w.heap.size, 1, none⟩ = some (.int .u64 (a1 : Int)) := hS.cell 0 rfl 1
      have hc2 : wr.cell? ⟨w.heap.size, 2, none⟩ = some (.int .u64 (a2 : Int)) := hS.cell 0 rfl 2
      have hc3 : wr.cell? ⟨w.heap.size, 3, none⟩ = some (.int .u64 (a3 : Int)) := hS.cell 0 rfl 3
      clear hav hS
      go_wp2_with (go_at_call 21; refine (bytes_walk a0 a1 a2 a3 _ haw).mono ?_; rintro e w2 ⟨B, d, rfl, hb, ho⟩)
      go_ret
      have hav := HAV.out
      rw [List.drop_zero] at hav
      rw [← hav]
      exact ⟨B, d, rfl, HS.out.below.trans (hb.mono HS.out.below.size), ho.base_le HS.out.below.size⟩
    · obtain ⟨ch, hch⟩ : ∃ ch, l[p]? = some ch := ⟨l[p]'(by rw [HL.out]; omega), List.getElem?_eq_getElem _⟩
      have hrb := red_byte l p ch hch
      have hch2 := UInt8.toNat_lt ch
      obtain ⟨cn, hcn⟩ : ∃ cn, cn = ch.toNat := ⟨_, rfl⟩
      rw [← hcn] at hrb hch2
      obtain ⟨X, hX⟩ : ∃ X, X = bval (l.drop (p + 1)) := ⟨_, rfl⟩
      rw [← hX] at hrb hav
      rcases HR.out.cases with ⟨_, h0, _⟩ | ⟨b, o, sp, c', hA, hb, hnc, hcm, _, hsp, hc⟩
      · omega
      injection hA with hA1 _ hA3
      subst hA1 hA3
      obtain rfl : sp = none := hsp (by omega)
      replace hb := hb (by omega)
      have hcb : w.cell? ⟨b, o + p, none⟩ = some (.int .u8 (cn : Int)) := hc p _ (by simp only [bvs, List.getElem?_map, hch]; rw [hcn]; rfl)
      have HRB := hide hrb
      have HCB := hide hcb
      have HRR := hide (show RedRel w w.heap.size (X * 2 ^ (8 - 8) + cn / 2 ^ 8) wr from ⟨a0, a1, a2, a3, haw, by rw [hav, show cn / 2 ^ 8 = 0 from by omega]; simp, hS⟩)
      clear hrb hX hcn hch hc hsp hav hS haw hcb
      unfold maxLen at hcm
      go_wp2_with fail
      go_loopw [5] (fun k wr => ∃ j : Nat, j ≤ 8 ∧ AtI j k ∧ RedRel w w.heap.size (X * 2 ^ (8 - j) + cn / 2 ^ j) wr) (fun k _ => (intOf k + 1).toNat)
      case atStart => exact ⟨8, Nat.le_refl _, .inr ⟨7, rfl, rfl⟩, HRR.out⟩
      case round =>
        obtain ⟨j, hj, hk, b0, b1, b2, b3, hbw, hbv, hS2⟩ := hrel
        clear HRR
        rcases hk with ⟨rfl, rfl⟩ | ⟨k, rfl, rfl⟩
        · have HBV := hide hbv
          clear hbv
          have HS2 := hide hS2
          clear hS2
          go_wp2_with fail
          go_roundw
          case rel =>
            refine ⟨p, by omega, atI_pred p, b0, b1, b2, b3, hbw, ?_, HS2.out⟩
            rw [HBV.out, ← HRB.out]
            simp
          case measure => simp [intOf]; try omega
        · obtain ⟨d, hd⟩ : ∃ d, d = cn / 2 ^ k % 2 := ⟨_, rfl⟩
          have hd1 : d ≤ 1 := by omega
          have hst := red_step X cn k (by omega)
          rw [show 8 - (k + 1) = 7 - k from by omega] at hbv
          rw [← hbv, ← hd] at hst
          have hbl : lv [b0, b1, b2, b3] < Lq := by rw [hbv]; exact Nat.mod_lt _ HLQ.out
          have he : bits .and .u8 ((cn : Int) / 2 ^ k) 1 = (d : Int) := by
            have := red_bit cn k hch2
            rw [hd, ← this]
            simp
          have hwd : IntKind.u64.wrap (d : Int) = (d : Int) := by rw [IntKind.wrap_u64]; omega
          have hk8 : k < 8 := by omega
          have hp1 : p < n := by omega
          have hp2 : (p : Int) < (n : Int) := by omega
          have hS' := hS2.drew
          have hHS := hide hS'
          have n0 : ∀ z, From wr.drew z → z.cell? ⟨w.heap.size, 0, none⟩ = some (.int .u64 (b0 : Int)) := fun z hz => by
            rw [hz.cell (p := ⟨w.heap.size, 0, none⟩) (Chunk.lt (hHS.out.sat 0 _ rfl) rfl)]; exact hHS.out.cell 0 rfl 0
          have n1 : ∀ z, From wr.drew z → z.cell? ⟨w.heap.size, 1, none⟩ = some (.int .u64 (b1 : Int)) := fun z hz => by
            rw [hz.cell (p := ⟨w.heap.size, 1, none⟩) (Chunk.lt (hHS.out.sat 0 _ rfl) rfl)]; exact hHS.out.cell 0 rfl 1
          have n2 : ∀ z, From wr.drew z → z.cell? ⟨w.heap.size, 2, none⟩ = some (.int .u64 (b2 : Int)) := fun z hz => by
            rw [hz.cell (p := ⟨w.heap.size, 2, none⟩) (Chunk.lt (hHS.out.sat 0 _ rfl) rfl)]; exact hHS.out.cell 0 rfl 2
          have n3 : ∀ z, From wr.drew z → z.cell? ⟨w.heap.size, 3, none⟩ = some (.int .u64 (b3 : Int)) := fun z hz => by
            rw [hz.cell (p := ⟨w.heap.size, 3, none⟩) (Chunk.lt (hHS.out.sat 0 _ rfl) rfl)]; exact hHS.out.cell 0 rfl 3
          have cb : ∀ z, From wr.drew z → z.cell? ⟨b, o + p, none⟩ = some (.int .u8 (cn : Int)) := fun z hz => by
            have hbz := hHS.out.below.trans (hz.mono hHS.out.below.size)
            rw [hbz.cell (p := ⟨b, o + p, none⟩) hb]; exact HCB.out
          have HST := hide hst
          have HBL := hide hbl
          clear hS' hS2 hst hbl hbv hd
          go_wp2_with fail
          refine wp_region_M (fun i => i == 10) (From wr.drew) (by kernel_rfl) ?_
          (refine wpM_take (i := 0) (v := ?_) rfl (by kernel_rfl) (by kernel_rfl) (by kernel_rfl) (fun _ _ _ h => h) (From.refl _) rfl (by kernel_rfl) (Or.inl ⟨by first | kernel_rfl | rfl, ?_⟩) ?_; rotate_left; (intro wx hx; go_simp) <;> (with_reducible rfl); (try simp only [Act.put, List.setIfInBounds_toArray, List.set_cons_zero, List.set_cons_succ, List.getElem_toArray, List.getElem_cons_succ, List.getElem_cons_zero]))
          (refine wpM_takeU (i := 1) (v := ?_) rfl (by kernel_rfl) (by kernel_rfl) (by kernel_rfl) (fun _ _ _ h => h) (From.refl _) rfl (Or.inl ⟨by first | kernel_rfl | rfl, ?_⟩) ?_; rotate_left; (intro wx; go_simp) <;> (with_reducible rfl); (try simp only [Act.put, List.setIfInBounds_toArray, List.set_cons_zero, List.set_cons_succ, List.getElem_toArray, List.getElem_cons_succ, List.getElem_cons_zero])); (refine wpM_takeU (i := 2) (v := ?_) rfl (by kernel_rfl) (by kernel_rfl) (by kernel_rfl) (fun _ _ _ h => h) (From.refl _) rfl (Or.inl ⟨by first | kernel_rfl | rfl, ?_⟩) ?_; rotate_left; (intro wx; go_simp) <;> (with_reducible rfl); (try simp only [Act.put, List.setIfInBounds_toArray, List.set_cons_zero, List.set_cons_succ, List.getElem_toArray, List.getElem_cons_succ, List.getElem_cons_zero])); (refine wpM_takeU (i := 3) (v := ?_) rfl (by kernel_rfl) (by kernel_rfl) (by kernel_rfl) (fun _ _ _ h => h) (From.refl _) rfl (Or.inl ⟨by first | kernel_rfl | rfl, ?_⟩) ?_; rotate_left; (intro wx; go_simp) <;> (with_reducible rfl); (try simp only [Act.put, List.setIfInBounds_toArray, List.set_cons_zero, List.set_cons_succ, List.getElem_toArray, List.getElem_cons_succ, List.getElem_cons_zero]))
          (refine wpM_take (i := 4) (v := ?_) rfl (by kernel_rfl) (by kernel_rfl) (by kernel_rfl) (fun _ _ _ h => h) (From.refl _) rfl (by kernel_rfl) (Or.inl ⟨by first | kernel_rfl | rfl, ?_⟩) ?_; rotate_left; (intro wx hx; go_simp) <;> (with_reducible rfl); (try simp only [Act.put, List.setIfInBounds_toArray, List.set_cons_zero, List.set_cons_succ, List.getElem_toArray, List.getElem_cons_succ, List.getElem_cons_zero]))
          (refine wpM_takeU (i := 5) (v := ?_) rfl (by kernel_rfl) (by kernel_rfl) (by kernel_rfl) (fun _ _ _ h => h) (From.refl _) rfl (Or.inl ⟨by first | kernel_rfl | rfl, ?_⟩) ?_; rotate_left; (intro wx; go_simp) <;> (with_reducible rfl); (try simp only [Act.put, List.setIfInBounds_toArray, List.set_cons_zero, List.set_cons_succ, List.getElem_toArray, List.getElem_cons_succ, List.getElem_cons_zero])); (refine wpM_takeU (i := 6) (v := ?_) rfl (by kernel_rfl) (by kernel_rfl) (by kernel_rfl) (fun _ _ _ h => h) (From.refl _) rfl (Or.inl ⟨by first | kernel_rfl | rfl, ?_⟩) ?_; rotate_left; (intro wx; go_simp) <;> (with_reducible rfl); (try simp only [Act.put, List.setIfInBounds_toArray, List.set_cons_zero, List.set_cons_succ, List.getElem_toArray, List.getElem_cons_succ, List.getElem_cons_zero])); (refine wpM_takeU (i := 7) (v := ?_) rfl (by kernel_rfl) (by kernel_rfl) (by kernel_rfl) (fun _ _ _ h => h) (From.refl _) rfl (Or.inl ⟨by first | kernel_rfl | rfl, ?_⟩) ?_; rotate_left; (intro wx; go_simp) <;> (with_reducible rfl); (try simp only [Act.put, List.setIfInBounds_toArray, List.set_cons_zero, List.set_cons_succ, List.getElem_toArray, List.getElem_cons_succ, List.getElem_cons_zero])); (refine wpM_takeU (i := 8) (v := ?_) rfl (by kernel_rfl) (by kernel_rfl) (by kernel_rfl) (fun _ _ _ h => h) (From.refl _) rfl (Or.inl ⟨by first | kernel_rfl | rfl, ?_⟩) ?_; rotate_left; (intro wx; go_simp) <;> (with_reducible rfl); (try simp only [Act.put, List.setIfInBounds_toArray, List.set_cons_zero, List.set_cons_succ, List.getElem_toArray, List.getElem_cons_succ, List.getElem_cons_zero]))
          (refine wpM_one (i := 9) (by kernel_rfl) rfl rfl ?_; intro K hK; (try simp only [Act.put, List.setIfInBounds_toArray, List.set_cons_zero, List.set_cons_succ, List.getElem_toArray, List.getElem_cons_succ, List.getElem_cons_zero]))
          refine step_call rfl rfl enNext rfl (next_any b0 b1 b2 b3 d _ hbw HBL.out hd1) ?_
          rintro e w2 ⟨r0, r1, r2, r3, hrw, hrv, rfl, hb2⟩
          have hS3 := hHS.out.call hb2
          refine ⟨_, rfl, hK (From w2) _ _ (From.next hb2) (From.refl _) ?_⟩
          clear hK K
          (try simp only [Act.put, List.setIfInBounds_toArray, List.set_cons_zero, List.set_cons_succ, List.getElem_toArray, List.getElem_cons_succ, List.getElem_cons_zero])
          (refine wpM_late (i := 10) (by kernel_rfl) rfl rfl ?_; intro K hK; (try simp only [Act.put, List.setIfInBounds_toArray, List.set_cons_zero, List.set_cons_succ, List.getElem_toArray, List.getElem_cons_succ, List.getElem_cons_zero]))
          refine step_storeRow rfl rfl hS3 0 rfl rfl (cs := #[.int .u64 (r0 : Int), .int .u64 (r1 : Int), .int .u64 (r2 : Int), .int .u64 (r3 : Int)]) rfl (by kernel_rfl) rfl (by kernel_rfl) ?_
          intro w5 hS5
          refine hK _ _ ?_
          clear hK K
          (try simp only [Act.put, List.setIfInBounds_toArray, List.set_cons_zero, List.set_cons_succ, List.getElem_toArray, List.getElem_cons_succ, List.getElem_cons_zero])
          refine wpAny_done (by kernel_rfl) ?_ _
          go_wp2_with fail
          go_roundw
          case rel => exact ⟨k, by omega, atI_pred k, r0, r1, r2, r3, hrw, by rw [hrv]; exact HST.out, hS5⟩
          case measure => simp [intOf]; try omega
end Go.Proofs.Ytgofcefggdlalaa
