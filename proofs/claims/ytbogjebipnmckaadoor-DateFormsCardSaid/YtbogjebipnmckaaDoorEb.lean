/-
  Layer 8: plain law: of two moments the later one is the later text.
-/
import Derived.Test.YtbogjebipnmckaaDoorEa
namespace Go.Proofs.YtbogjebipnmckaaDoor
open Go.RowKit
set_option linter.unusedSimpArgs false

theorem bl_dig {a b : Nat} (ha : a < 10) (hb : b < 10) (x y : List UInt8) : Op.bytesLess (UInt8.ofNat (48 + a) :: x) (UInt8.ofNat (48 + b) :: y) = (decide (a < b) || (decide (a = b) && Op.bytesLess x y)) := by
  rw [Op.bytesLess]
  have e1 : decide (UInt8.ofNat (48 + a) < UInt8.ofNat (48 + b)) = decide (a < b) := by
    apply decide_eq_decide.2
    rw [UInt8.lt_iff_toNat_lt, dig_nat ha, dig_nat hb]
    omega
  have e2 : (UInt8.ofNat (48 + a) == UInt8.ofNat (48 + b)) = decide (a = b) := by
    rw [Bool.eq_iff_iff, beq_iff_eq, decide_eq_true_iff, ← UInt8.toNat_inj, dig_nat ha, dig_nat hb]
    omega
  rw [e1, e2]
theorem bl_same (c : UInt8) (x y : List UInt8) : Op.bytesLess (c :: x) (c :: y) = Op.bytesLess x y := by
  have e : decide (c < c) = false := decide_eq_false (by rw [UInt8.lt_iff_toNat_lt]; omega)
  rw [Op.bytesLess, e]
  simp
theorem bl_d2 {a b : Nat} (ha : a < 100) (hb : b < 100) (x y : List UInt8) : Op.bytesLess (d2 a ++ x) (d2 b ++ y) = (decide (a < b) || (decide (a = b) && Op.bytesLess x y)) := by
  show Op.bytesLess (UInt8.ofNat (48 + a / 10) :: UInt8.ofNat (48 + a % 10) :: x) (UInt8.ofNat (48 + b / 10) :: UInt8.ofNat (48 + b % 10) :: y) = _
  rw [bl_dig (by omega) (by omega), bl_dig (by omega) (by omega)]
  rw [Bool.eq_iff_iff]
  simp only [Bool.or_eq_true, Bool.and_eq_true, decide_eq_true_eq]
  cases Op.bytesLess x y <;> simp <;> omega
theorem bl_d4 {a b : Nat} (ha : a < 10000) (hb : b < 10000) (x y : List UInt8) : Op.bytesLess (d4 a ++ x) (d4 b ++ y) = (decide (a < b) || (decide (a = b) && Op.bytesLess x y)) := by
  show Op.bytesLess (UInt8.ofNat (48 + a / 1000) :: UInt8.ofNat (48 + a / 100 % 10) :: UInt8.ofNat (48 + a / 10 % 10) :: UInt8.ofNat (48 + a % 10) :: x) (UInt8.ofNat (48 + b / 1000) :: UInt8.ofNat (48 + b / 100 % 10) :: UInt8.ofNat (48 + b / 10 % 10) :: UInt8.ofNat (48 + b % 10) :: y) = _
  rw [bl_dig (by omega) (by omega), bl_dig (by omega) (by omega), bl_dig (by omega) (by omega), bl_dig (by omega) (by omega)]
  rw [Bool.eq_iff_iff]
  simp only [Bool.or_eq_true, Bool.and_eq_true, decide_eq_true_eq]
  cases Op.bytesLess x y <;> simp <;> omega
theorem prt_inj {a b : Nat} (ha : a < 253402300800) (hb : b < 253402300800) (h : prt a = prt b) : a = b := by
  have e := par_back ha
  rw [h, par_back hb] at e
  have := Value.tuple.inj e
  have := congrArg (fun v => v[0]?) this
  simp at this
  omega
theorem less_q {a b : Nat} (h : ((a / 86400 : Nat) : Int) < ((b / 86400 : Nat) : Int)) : a < b := by omega
theorem less_Y {a b : Nat} (ha : a < 253402300800) (hb : b < 253402300800) (h : dY a < dY b) : a < b := by
  have p := dtP ha
  have q := dtP hb
  have := yrs_mono (show dY a + 1 ≤ dY b from h) (Nat.le_succ_of_le q.y)
  have h1 := p.y2
  have h2 := q.y1
  rw [show ((dY a + 1 : Nat) : Int) = (dY a : Int) + 1 from Int.natCast_succ _] at this
  exact less_q (by clear p q ha hb h; omega)
theorem less_M {a b : Nat} (ha : a < 253402300800) (hb : b < 253402300800) (hy : dY a = dY b) (h : dM a < dM b) : a < b := by
  have p := dtP ha
  have q := dtP hb
  have := cuM_mono (dY a : Int) (show dM a + 1 ≤ dM b from h) (Nat.le_succ_of_le q.m)
  have h1 := p.m2
  have h2 := q.m1
  have h3 := p.L
  have h4 := q.L
  rw [← hy] at h2 h4
  exact less_q (by clear p q ha hb h hy; omega)
theorem less_T {a b : Nat} (ha : a < 253402300800) (hb : b < 253402300800) (hy : dY a = dY b) (hm : dM a = dM b) : (dT a : Int) - dT b = (a / 86400 : Nat) - (b / 86400 : Nat) := by
  have d1 := (dtP ha).day
  have d2 := (dtP hb).day
  rw [← hy, ← hm] at d2
  clear ha hb hy hm
  omega
theorem prt_less {a b : Nat} (ha : a < 253402300800) (hb : b < 253402300800) : Op.bytesLess (prt a) (prt b) = decide (a < b) := by
  have p := dtP ha
  have q := dtP hb
  obtain ⟨pa, pb, pc⟩ := hms_bd a
  obtain ⟨qa, qb, qc⟩ := hms_bd b
  have pm := (par_m (dM a) p.m).2.2.2
  have qm := (par_m (dM b) q.m).2.2.2
  rw [prt_dtx ha, prt_dtx hb]
  unfold dtx
  rw [bl_d4 (Nat.lt_succ_of_le p.y) (Nat.lt_succ_of_le q.y), bl_same, bl_d2 pm qm, bl_same, bl_d2 (Nat.lt_of_le_of_lt p.t31 (by decide)) (Nat.lt_of_le_of_lt q.t31 (by decide)), bl_same,
    bl_d2 (Nat.lt_of_le_of_lt pa (by decide)) (Nat.lt_of_le_of_lt qa (by decide)), bl_same, bl_d2 (Nat.lt_of_le_of_lt pb (by decide)) (Nat.lt_of_le_of_lt qb (by decide)), bl_same, bl_d2 (Nat.lt_of_le_of_lt pc (by decide)) (Nat.lt_of_le_of_lt qc (by decide)), bl_same]
  have e0 : Op.bytesLess [] [] = false := rfl
  rw [e0]
  have y1 := fun h => less_Y ha hb h
  have y2 := fun h => less_Y hb ha h
  have m1 := fun h g => less_M ha hb h g
  have m2 := fun h g => less_M hb ha h g
  have dd := fun h g => less_T ha hb h g
  clear p q pa pb pc qa qb qc pm qm e0 ha hb
  rw [Bool.eq_iff_iff]
  simp only [Bool.or_eq_true, Bool.and_eq_true, decide_eq_true_eq, Bool.and_false, Bool.or_false]
  by_cases h1 : dY a < dY b
  · have := y1 h1
    simp [h1, this]
  · by_cases h2 : dY b < dY a
    · have := y2 h2
      simp [h1, show ¬ dY a = dY b by omega, show ¬ a < b by omega]
    · have h3 : dY a = dY b := by omega
      by_cases h4 : dM a < dM b
      · have := m1 h3 h4
        simp [h3, h4, this]
      · by_cases h5 : dM b < dM a
        · have := m2 h3.symm h5
          simp [h3, show ¬ dM a = dM b by omega, show ¬ a < b by omega, h4]
        · have h6 : dM a = dM b := by omega
          have := dd h3 h6
          simp only [h3, h6, Nat.lt_irrefl, true_and, false_or]
          clear y1 y2 m1 m2 dd h1 h2 h3 h4 h5 h6
          omega
end Go.Proofs.YtbogjebipnmckaaDoor
