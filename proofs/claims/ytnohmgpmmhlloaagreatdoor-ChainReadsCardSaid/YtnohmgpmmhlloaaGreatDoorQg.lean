/-
 Joined of texts of mine, in build order: Pw7, Pw8, Pw9, Pw10, Vf, Pl, C1, Pw11, C4, Mc, Br, Bs, Bu, Bw, Bx, Bv, By, Ic, Id, Ra, Rb, Rc, Rd, Hw, Md, Oa, Ob, Oc, Od, Oe. Each says what it proves at its own head.
-/
import Derived.Deep.DeepCutAuto
import Derived.Maps.OwnOps
import Derived.Deep.LoopGhost
import Derived.BigQuiet
import Derived.Test.YtnohmgpmmhlloaaGreatDoorQf
set_option linter.unusedSimpArgs false
set_option linter.unusedVariables false
set_option maxRecDepth 100000
set_option maxHeartbeats 25600000

namespace Go.Proofs.YtnohmgpmmhlloaaGreatDoor.S6
set_option maxRecDepth 100000
open Go.RowKit

@[irreducible] def cutA (A : Option Addr) (c k : Nat) : Option Addr := if c = k then A else A.map (·.add k)
theorem rd_cut {w : World} {A : Option Addr} {n c : Nat} {l : List UInt8} (h : Rd w (.slice A n c) 1 n (bvs l)) (k : Nat) (hk : k ≤ n) : Rd w (.slice (cutA A c k) (n - k) (c - k)) 1 (n - k) (bvs (l.drop k)) := by
 obtain ⟨A', c', e, h1, h2, h3, h4, h5⟩ := h
 injection e with e1 _ e3
 subst e1 e3
 rw [length_bvs] at h1
 refine ⟨_, _, rfl, by rw [length_bvs, List.length_drop]; omega, by omega, by omega, ?_, ?_⟩
 ·intro hA
  unfold cutA at hA
  split at hA
  ·have := h4 hA; omega
  ·have : A = none := by simpa using hA
   have := h4 this; omega
 ·intro b o sp hA
  unfold cutA at hA
  split at hA
  ·rename_i hck
   have hl : l.drop k = [] := List.drop_eq_nil_of_le (by omega)
   exact ⟨fun hn => by omega, fun j u hu => by rw [hl] at hu; simp [bvs] at hu⟩
  ·obtain ⟨ad, rfl, had⟩ : ∃ ad, A = some ad ∧ ad.add k = ⟨b, o, sp⟩ := by
    cases A with
    | none => simp at hA
    | some ad => exact ⟨ad, rfl, by simpa using hA⟩
   obtain ⟨b', o', sp'⟩ := ad
   obtain ⟨k1, k2⟩ := h5 b' o' sp' rfl
   by_cases hk0 : k = 0
   ·subst hk0
    simp only [Addr.add_zero', Addr.mk.injEq] at had
    obtain ⟨rfl, rfl, rfl⟩ := had
    exact ⟨fun hn => k1 (by omega), fun j u hu => k2 j u (by simpa using hu)⟩
   ·have hz : (⟨b', o', sp'⟩ : Addr).add k = ⟨b', o' + k, none⟩ := by unfold Addr.add; rw [if_neg hk0]
    rw [hz, Addr.mk.injEq] at had
    obtain ⟨rfl, rfl, rfl⟩ := had
    refine ⟨fun _ => rfl, fun j u hu => ?_⟩
    rw [Nat.add_assoc]
    refine k2 (k + j) u ?_
    rw [← hu]
    simp [bvs, List.getElem?_drop]
theorem RdH.cut {w0 : World} {M : Nat → Prop} {H : List Chunk} {A : Option Addr} {n c : Nat} {l : List UInt8} (h : RdH w0 M H (.slice A n c) 1 n (bvs l)) (k : Nat) (hk : k ≤ n) : RdH w0 M H (.slice (cutA A c k) (n - k) (c - k)) 1 (n - k) (bvs (l.drop k)) :=
 fun w hS => rd_cut (h w hS) k hk

def RdrC (g : Nat) (A : Option Addr) (n c : Nat) (e : Nat) (H : List Chunk) : List Chunk := .cells g #[.slice A n c, .int .i64 (e : Nat)] 143 :: H

@[irreducible] def badB (k x : Nat) : Bool := (decide (k = 9) && decide (1 < x)) || (decide (0 < k) && decide (x = 0))
theorem run_cut {P : Program} {t e : TypeId} (ht : P.underlying t = some (.slice e)) (hs : P.cellsOf e = 1) (hz : ∃ i, P.info? e = some i) (kd : IntKind) (A : Option Addr) (n c k : Nat) (hk : k ≤ n) (W : World) :
  (Instr.sliceAt t (.slice A n c) (some (.int kd (k : Int))) none none).run P W = .ok (.slice (cutA A c k) (n - k) (c - k)) W := by
 obtain ⟨i, hi⟩ := hz
 have hsz : i.size = 1 := by simpa [Program.cellsOf, hi] using hs
 have hb : (Instr.sliceBound (.int kd (k : Int)) n .sliceB).run P W = .ok k W := by
  simp [Instr.sliceBound, asIntOf, hk]
 unfold Instr.sliceAt Instr.slice Instr.sliceBounds cutA
 simp only [Sem.run_bind, run_underlying ht, Result.andThen_ok, Sem.run_pure, hb, sizeOf, typeInfo, run_program, hi, hsz, Nat.mul_one, Option.isSome_none]
 simp only [Bool.false_eq_true, if_false, hb, Result.andThen_ok, Sem.run_pure, Sem.run_bind, hsz, Nat.mul_one]
theorem infoU8 : ∃ i, Tryz.prog.info? 5 = some i := by
 cases h : Tryz.prog.info? 5 with
 | some i => exact ⟨i, rfl⟩
 | none =>
  have : (Tryz.prog.info? 5).isSome = true := by kernel_rfl
  rw [h] at this
  cases this
theorem cellU8 : Tryz.prog.cellsOf 5 = 1 := by kernel_rfl

def CutR (A : Option Addr) (c : Nat) (l : List UInt8) (A' : Option Addr) (c' : Nat) (l' : List UInt8) : Prop :=
 ∀ w, Rd w (.slice A l.length c) 1 l.length (bvs l) → Rd w (.slice A' l'.length c') 1 l'.length (bvs l')
theorem CutR.trans {A A' A'' : Option Addr} {c c' c'' : Nat} {l l' l'' : List UInt8} (h : CutR A c l A' c' l') (k : CutR A' c' l' A'' c'' l'') : CutR A c l A'' c'' l'' := fun w x => k w (h w x)
theorem CutR.rdH {w0 : World} {M : Nat → Prop} {H : List Chunk} {A A' : Option Addr} {c c' : Nat} {l l' : List UInt8} (h : CutR A c l A' c' l') (hr : RdH w0 M H (.slice A l.length c) 1 l.length (bvs l)) : RdH w0 M H (.slice A' l'.length c') 1 l'.length (bvs l') := fun w x => h w (hr w x)
theorem cutR (A : Option Addr) (c : Nat) (l : List UInt8) (k : Nat) (hk : k ≤ l.length) : CutR A c l (cutA A c k) (c - k) (l.drop k) := fun w h => by
 rw [List.length_drop]
 exact rd_cut h k hk
def RvPost (w0 : World) (M : Nat → Prop) (H : List Chunk) (g : Nat) (A : Option Addr) (c : Nat) (l : List UInt8) : VR → Ending → World → Prop
 | .ok v rest, e, w' => e = .returned (.int .u64 (v : Int)) ∧ W64 v ∧ ∃ A' c', St w0 M w' (RdrC g A' rest.length c' 0 H) ∧ CutR A c l A' c' rest
 | .bad k, e, w' => e = .returned (.int .u64 0) ∧ St w0 M w' (RdrC g A l.length c k H)

theorem rv_bad (l : List UInt8) (k acc x : Nat) (h : k < l.length) (hx : x = l[k].toNat) (hb : badB k x = true) (hv : rvF (l.drop k) k acc = rv l) : rv l = .bad 3 := by
 rw [← hv, List.drop_eq_getElem_cons h, rvF, if_pos]
 unfold badB at hb
 subst hx
 simpa using hb
theorem rv_ok (l : List UInt8) (k acc x : Nat) (h : k < l.length) (hx : x = l[k].toNat) (hb : badB k x = false) (h1 : x < 128) (hv : rvF (l.drop k) k acc = rv l) : rv l = .ok (acc + x * 2 ^ (7 * k)) (l.drop (k + 1)) := by
 rw [← hv, List.drop_eq_getElem_cons h, rvF, if_neg, if_pos (by omega), hx]
 unfold badB at hb
 subst hx
 simpa using hb
theorem rv_on (l : List UInt8) (k acc x : Nat) (h : k < l.length) (hx : x = l[k].toNat) (hb : badB k x = false) (h1 : ¬ x < 128) (hv : rvF (l.drop k) k acc = rv l) : rvF (l.drop (k + 1)) (k + 1) (acc + (x - 128) * 2 ^ (7 * k)) = rv l := by
 rw [← hv, List.drop_eq_getElem_cons h, rvF, if_neg, if_neg (by omega), hx]
 unfold badB at hb
 subst hx
 simpa using hb
theorem rv_end (l : List UInt8) (k acc : Nat) (h : ¬ k < l.length) (hv : rvF (l.drop k) k acc = rv l) : rv l = .bad 2 := by
 rw [← hv, List.drop_eq_nil_of_le (by omega), rvF]
theorem bad_nine (k x : Nat) (hk : k ≤ 9) (hb : badB k x = false) : k = 9 → x ≤ 1 := by
 unfold badB at hb
 simp at hb
 omega
theorem or_step (k acc x : Nat) (hk : k ≤ 9) (hx : x < 256) (h9 : k = 9 → x ≤ 1) (ha : acc < 2 ^ (7 * k)) :
  bits .or .u64 (acc : Int) (IntKind.u64.wrap (IntKind.u64.wrap (bits .andNot .u8 (x : Int) 128) * 2 ^ (7 * k))) = ((acc + x % 128 * 2 ^ (7 * k) : Nat) : Int) ∧ W64 (acc + x % 128 * 2 ^ (7 * k)) ∧ acc + x % 128 * 2 ^ (7 * k) < 2 ^ (7 * (k + 1)) := by
 have e1 : bits .andNot .u8 (x : Int) 128 = ((x % 128 : Nat) : Int) := by
  have := u8_andNot_nat x 128 hx (by omega)
  rw [show 255 - 128 = 127 from rfl, nat_mask7] at this
  exact this
 have hp : 0 < 2 ^ (7 * k) := Nat.two_pow_pos _
 have hm : x % 128 * 2 ^ (7 * k) ≤ 127 * 2 ^ (7 * k) := Nat.mul_le_mul_right _ (by omega)
 have hlt : x % 128 * 2 ^ (7 * k) + 2 ^ (7 * k) ≤ 18446744073709551616 := by
  by_cases h : k = 9
  ·have h1 := h9 h
   have h2 : 2 ^ (7 * k) = 9223372036854775808 := by rw [h]
   rw [h2]
   omega
  ·have h2 : 2 ^ (7 * k) ≤ 2 ^ 56 := Nat.pow_le_pow_right (by omega) (by omega)
   have h3 : (2 : Nat) ^ 56 = 72057594037927936 := rfl
   rw [h3] at h2
   omega
 have e2 : (IntKind.u64.wrap ((x % 128 : Nat) : Int)) = ((x % 128 : Nat) : Int) := by rw [IntKind.wrap_u64]; omega
 have e3 : IntKind.u64.wrap (((x % 128 : Nat) : Int) * 2 ^ (7 * k)) = ((x % 128 * 2 ^ (7 * k) : Nat) : Int) := by
  rw [show (((x % 128 : Nat) : Int) * 2 ^ (7 * k)) = ((x % 128 * 2 ^ (7 * k) : Nat) : Int) from by simp, IntKind.wrap_u64]
  omega
 rw [e1, e2, e3, u64_or_nat _ _ (by omega) (by omega), Nat.or_comm, nat_join (7 * k) _ _ (Nat.mul_mod_left _ _) ha]
 refine ⟨by rw [Nat.add_comm], by unfold W64; omega, ?_⟩
 rw [show 7 * (k + 1) = 7 * k + 7 from by omega, Nat.pow_add]
 omega
theorem rvarint_walk {w0 w : World} {M : Nat → Prop} {H : List Chunk} (g : Nat) (A : Option Addr) (c : Nat) (l : List UInt8) (hl : l.length ≤ 1000000) (hr : RdH w0 M H (.slice A l.length c) 1 l.length (bvs l))
  (hS : St w0 M w (RdrC g A l.length c 0 H)) :
  Calls Tryz.prog 148 #[.pointer (some ⟨g, 0, none⟩)] w (RvPost w0 M H g A c l (rv l)) := by
 have hS0 := hide hS
 unfold RdrC at hS
 have hc0 : w.cell? ⟨g, 0, none⟩ = some (.slice A l.length c) := hS.cell 0 rfl 0
 have hc1 : w.cell? ⟨g, 1, none⟩ = some (.int .i64 0) := hS.cell 0 rfl 1
 have hf0 := hS.free 0 rfl 0
 have hf1 := hS.free 0 rfl 1
 have hrd := hr w hS.tail
 go_enter Tryz.func148, Tryz.ntmps148
 go_wp2_with fail
 go_loop [3, 6] (fun n i => ∃ k acc : Nat, i = .int .i64 k ∧ n = .int .u64 acc ∧ k ≤ 9 ∧ k ≤ l.length ∧ acc < 2 ^ (7 * k) ∧ rvF (l.drop k) k acc = rv l) (fun _ i => 10 - (intOf i).toNat)
 case atStart => exact ⟨0, 0, rfl, rfl, by omega, by omega, by simp, by rw [rv_eq]; rfl⟩
 case round =>
  obtain ⟨k, acc, rfl, rfl, hk, hkl, hacc, hrv⟩ := hrel
  have HA := hide hacc
  have HV := hide hrv
  clear hacc hrv
  by_cases hlt : k < l.length
  ·rcases hrd.cases with ⟨_, h0, _⟩ | ⟨b, o, sp, c', hA, hb, _, _, _, hsp, hcl⟩
   ·omega
   injection hA with hA _ hc'
   subst hA hc'
   obtain rfl : sp = none := hsp (by omega)
   have hcx : w.cell? ⟨b, o + k, none⟩ = some (.int .u8 (l[k].toNat : Int)) := hcl k _ (by simp [bvs, bv, List.getElem?_eq_getElem hlt])
   have hxl : l[k].toNat < 256 := UInt8.toNat_lt _
   obtain ⟨x, hx⟩ : ∃ x, x = l[k].toNat := ⟨_, rfl⟩
   rw [← hx] at hcx hxl
   have HX := hide hx
   clear hx hcl hsp
   have hge : decide (l.length ≤ k) = false := by simp; omega
   go_upto_region 11 with fail
   go_cut [46] (fun s wx => s = .bool (badB k x) ∧ wx = w)
   case first =>
    have e9 : ((k : Int) == 9) = decide (k = 9) := by rw [Bool.eq_iff_iff]; simp; omega
    have e1 : decide (1 < (x : Int)) = decide (1 < x) := by rw [Bool.eq_iff_iff]; simp; omega
    have e0 : decide (0 < (k : Int)) = decide (0 < k) := by rw [Bool.eq_iff_iff]; simp
    have ez : ((x : Int) == 0) = decide (x = 0) := by rw [Bool.eq_iff_iff]; simp
    have ez' : (x == 0) = decide (x = 0) := by rw [Bool.eq_iff_iff]; simp
    have ew : badB k x = ((decide (k = 9) && decide (1 < x)) || (decide (0 < k) && decide (x = 0))) := by unfold badB; rfl
    cases h9 : decide (k = 9) <;> cases h1 : decide (1 < x) <;> cases h0 : decide (0 < k) <;> cases hx0 : decide (x = 0)
    all_goals (rw [h9] at e9; rw [h1] at e1; rw [h0] at e0; rw [hx0] at ez ez'; rw [h9, h1, h0, hx0] at ew; have EW := hide ew; clear ew h9)
    all_goals go_wp2_with fail
    all_goals (go_meet; refine ⟨?_, rfl⟩; rw [EW.out]; rfl)
   case rest =>
    obtain ⟨rfl, rfl⟩ := hcut
    have hct := fun W => run_cut Tryz.underlying22 cellU8 infoU8 .i64 (some ⟨b, o, none⟩) l.length c (k + 1) (by omega) (P := Tryz.prog) W
    rw [show (((k + 1 : Nat)) : Int) = (k : Int) + 1 from by omega] at hct
    cases hbad : badB k x
    ·obtain ⟨o1, o2, o3⟩ := or_step k acc x hk hxl (bad_nine k x hk hbad) HA.out
     have O2 := hide o2
     have O3 := hide o3
     clear o2 o3
     by_cases h128 : x < 128
     ·have HR := hide (rv_ok l k acc x hlt HX.out hbad h128 HV.out)
      have hv : (acc : Int) + (x : Int) % 128 * 2 ^ (7 * k) = ((acc + x * 2 ^ (7 * k) : Nat) : Int) := by
       have : (x : Int) % 128 = x := by omega
       rw [this]
       simp
      have O := O2.out
      rw [show x % 128 = x from by omega] at O
      have HV' := hide hv
      have HO := hide O
      clear hv O
      go_wp2_with fail
      go_ret
      rw [HR.out]
      refine ⟨congrArg (fun z => Ending.returned (Value.int .u64 z)) HV'.out, HO.out, cutA (some ⟨b, o, none⟩) c (k + 1), c - (k + 1), ?_, ?_⟩
      ·rw [List.length_drop]
       exact hS.setCell 0 rfl 0 (.slice (cutA (some ⟨b, o, none⟩) c (k + 1)) (l.length - (k + 1)) (c - (k + 1)))
      ·exact cutR _ _ l (k + 1) (by omega)
     ·have HR := hide (rv_on l k acc x hlt HX.out hbad h128 HV.out)
      have h9 := bad_nine k x hk hbad
      have hv : (acc : Int) + (x : Int) % 128 * 2 ^ (7 * k) = ((acc + (x - 128) * 2 ^ (7 * k) : Nat) : Int) := by
       have : (x : Int) % 128 = ((x - 128 : Nat) : Int) := by omega
       rw [this]
       simp
      have O := O3.out
      rw [show x % 128 = x - 128 from by omega] at O
      have HV' := hide hv
      have HO := hide O
      have H9 := hide h9
      clear hv O h9
      go_wp2_with fail
      go_round
      case rel => exact ⟨k + 1, acc + (x - 128) * 2 ^ (7 * k), by go_num, congrArg (Value.int .u64) HV'.out, by have := H9.out; omega, by omega, HO.out, HR.out⟩
      case measure => simp [intOf]; omega
    ·have HR := hide (rv_bad l k acc x hlt HX.out hbad HV.out)
     go_wp2_with fail
     go_ret
     rw [HR.out]
     exact ⟨rfl, hS.setCell 0 rfl 1 (.int .i64 3)⟩
  ·have hge : decide (l.length ≤ k) = true := by simp; omega
   have HR := hide (rv_end l k acc hlt HV.out)
   go_wp2_with fail
   go_ret
   rw [HR.out]
   exact ⟨rfl, hS.setCell 0 rfl 1 (.int .i64 2)⟩
end Go.Proofs.YtnohmgpmmhlloaaGreatDoor.S6

namespace Go.Proofs.YtnohmgpmmhlloaaGreatDoor.S6
set_option maxRecDepth 100000
open Go.RowKit

theorem rd_take {w : World} {A : Option Addr} {n c : Nat} {l : List UInt8} (h : Rd w (.slice A n c) 1 n (bvs l)) (k : Nat) (hk : k ≤ n) : Rd w (.slice A k c) 1 k (bvs (l.take k)) := by
 obtain ⟨A', c', e, h1, h2, h3, h4, h5⟩ := h
 injection e with e1 _ e3
 subst e1 e3
 rw [length_bvs] at h1
 refine ⟨_, _, rfl, by rw [length_bvs, List.length_take]; omega, by omega, by omega, h4, fun b o sp hA => ?_⟩
 obtain ⟨k1, k2⟩ := h5 b o sp hA
 refine ⟨fun hn => k1 (by omega), fun j u hu => k2 j u ?_⟩
 rw [← hu]
 have hj : j < k := by
  have := (List.getElem?_eq_some_iff.1 hu).1
  rw [length_bvs, List.length_take] at this
  omega
 simp [bvs, List.getElem?_take, hj]

inductive BR where
 | ok (b rest : List UInt8)
 | bad (e : Nat)
@[irreducible] def rw_ (l : List UInt8) : BR :=
 match rv l with
 | .ok n rest => if n ≤ rest.length then .ok (rest.take n) (rest.drop n) else .bad 2
 | .bad k => .bad k
def RwPost (w0 : World) (M : Nat → Prop) (H : List Chunk) (g : Nat) (A : Option Addr) (c : Nat) (l : List UInt8) : BR → Ending → World → Prop
 | .ok b rest, e, w' => ∃ B d, e = .returned (.slice B b.length d) ∧ ∃ A' c', St w0 M w' (RdrC g A' rest.length c' 0 (.row (.slice B b.length d) 5 1 b.length (bvs b) :: H)) ∧ CutR A c l A' c' rest
 | .bad k, e, w' => e = .returned (.slice none 0 0) ∧ ∃ A' n' c', St w0 M w' (RdrC g A' n' c' k H)
theorem rw_bad (l : List UInt8) (k : Nat) (h : rv l = .bad k) : rw_ l = .bad k := by unfold rw_; rw [h]
theorem rw_short (l : List UInt8) (n : Nat) (r : List UInt8) (h : rv l = .ok n r) (hn : ¬ n ≤ r.length) : rw_ l = .bad 2 := by unfold rw_; rw [h]; simp only [if_neg hn]
theorem rw_ok (l : List UInt8) (n : Nat) (r : List UInt8) (h : rv l = .ok n r) (hn : n ≤ r.length) : rw_ l = .ok (r.take n) (r.drop n) := by unfold rw_; rw [h]; simp only [if_pos hn]
theorem rvF_bad : ∀ (l : List UInt8) (i n k : Nat), rvF l i n = .bad k → k = 2 ∨ k = 3
 | [], i, n, k, h => by simp [rvF] at h; exact .inl h.symm
 | c :: b, i, n, k, h => by
  unfold rvF at h
  split at h
  ·injection h with h; exact .inr h.symm
  ·split at h
   ·cases h
   ·exact rvF_bad b _ _ k h
theorem rv_bads (l : List UInt8) (k : Nat) (h : rv l = .bad k) : k = 2 ∨ k = 3 := by rw [rv_eq] at h; exact rvF_bad l _ _ k h
theorem rvF_len : ∀ (l : List UInt8) (i n v : Nat) (r : List UInt8), rvF l i n = .ok v r → r.length < l.length
 | [], i, n, v, r, h => by simp [rvF] at h
 | c :: b, i, n, v, r, h => by
  unfold rvF at h
  split at h
  ·cases h
  ·split at h
   ·injection h with _ h; subst h; simp
   ·have := rvF_len b _ _ v r h
    simp only [List.length_cons]; omega
theorem rv_len (l : List UInt8) (v : Nat) (r : List UInt8) (h : rv l = .ok v r) : r.length < l.length := by rw [rv_eq] at h; exact rvF_len l _ _ v r h

theorem rraw_walk {w0 w : World} {M : Nat → Prop} {H : List Chunk} (g : Nat) (A : Option Addr) (c : Nat) (l : List UInt8) (hl : l.length ≤ 1000000) (hr : RdH w0 M H (.slice A l.length c) 1 l.length (bvs l))
  (hS : St w0 M w (RdrC g A l.length c 0 H)) :
  Calls Tryz.prog 151 #[.pointer (some ⟨g, 0, none⟩)] w (RwPost w0 M H g A c l (rw_ l)) := by
 have V := rvarint_walk g A c l hl hr hS
 cases hv : rv l with
 | bad k =>
  have hk := rv_bads l k hv
  rw [rw_bad l k hv]
  rw [hv] at V
  have VV := hide V
  have hk1 : ((k : Int) == 0) = false := by rcases hk with rfl | rfl <;> rfl
  have hk2 : ((k : Int) != 0) = true := by rcases hk with rfl | rfl <;> rfl
  clear V hv hk hS hr hl
  go_enter Tryz.func151, Tryz.ntmps151
  go_wp2_with (go_at_call 148; refine VV.out.mono ?_; rintro e w1 ⟨rfl, hS1⟩; have c1 : w1.cell? ⟨g, 1, none⟩ = some (.int .i64 (k : Int)) := hS1.cell 0 rfl 1)
  go_ret
  exact ⟨rfl, A, l.length, c, hS1⟩
 | ok n rest =>
  have hlen := rv_len l n rest hv
  rw [hv] at V
  have VV := hide V
  by_cases hn : n ≤ rest.length
  ·rw [rw_ok l n rest hv hn]
   have hn' : decide ((rest.length : Int) < (n : Int)) = false := by simp; omega
   have hlr : n ≤ 4294967296 := by omega
   have HR := hide hr
   clear V hv hS hr
   go_enter Tryz.func151, Tryz.ntmps151
   go_wp2_with (first
    | (go_at_call 148; refine VV.out.mono ?_; rintro e w1 ⟨rfl, hw, A1, a1, hS1, hr1⟩; have c0 : w1.cell? ⟨g, 0, none⟩ = some (.slice A1 rest.length a1) := hS1.cell 0 rfl 0; have c1 : w1.cell? ⟨g, 1, none⟩ = some (.int .i64 0) := hS1.cell 0 rfl 1; have hq := hr1 w1 (HR.out w1 hS1.tail); have hcap : rest.length ≤ a1 := (by obtain ⟨_, _, e, _, h, _⟩ := hq; injection e with _ _ e; omega); have hct := run_cut Tryz.underlying22 cellU8 infoU8 .u64 A1 rest.length a1 n hn (P := Tryz.prog); clear hw)
    | (at_builtin; refine wl_append0 rfl rfl tyB hS1 rfl rfl (rd_take hq n hn) (one_bvs _) hlr (by decide) ?_; intro B d w2 hS2; have d0 : w2.cell? ⟨g, 0, none⟩ = some (.slice A1 rest.length a1) := hS2.cell 1 rfl 0; have g0 := hS2.free 1 rfl 0))
   go_ret
   have e1 : (rest.take n).length = n := by rw [List.length_take]; omega
   have hS3 := (hS2.setCell 1 rfl 0 (.slice (cutA A1 a1 n) (rest.length - n) (a1 - n))).swap
   refine ⟨B, d, by rw [e1]; rfl, cutA A1 a1 n, a1 - n, ?_, ?_⟩
   ·rw [e1, List.length_drop]
    exact hS3
   ·exact hr1.trans (cutR _ _ rest n hn)
  ·rw [rw_short l n rest hv hn]
   have hn' : decide ((rest.length : Int) < (n : Int)) = true := by simp; omega
   clear V hv hS hr
   go_enter Tryz.func151, Tryz.ntmps151
   go_wp2_with (go_at_call 148; refine VV.out.mono ?_; rintro e w1 ⟨rfl, hw, A1, a1, hS1, hr1⟩; have c0 : w1.cell? ⟨g, 0, none⟩ = some (.slice A1 rest.length a1) := hS1.cell 0 rfl 0; have c1 : w1.cell? ⟨g, 1, none⟩ = some (.int .i64 0) := hS1.cell 0 rfl 1; have f0 := hS1.free 0 rfl 1; clear hw)
   go_ret
   exact ⟨rfl, A1, rest.length, a1, hS1.setCell 0 rfl 1 (.int .i64 2)⟩
end Go.Proofs.YtnohmgpmmhlloaaGreatDoor.S6

namespace Go.Proofs.YtnohmgpmmhlloaaGreatDoor.S6
set_option maxRecDepth 100000
open Go.RowKit

def FldC (b1 g b4 : Nat) (cs : Array Value) (H : List Chunk) : List Chunk := .cells b4 cs 93 :: .cells b1 #[.pointer (some ⟨g, 0, none⟩)] 141 :: H
def P0 (b : Nat) : Value := .pointer (some ⟨b, 0, none⟩)

theorem clo1_walk {w0 w : World} {M : Nat → Prop} {H : List Chunk} (g b1 b4 : Nat) (num : Int) (A : Option Addr) (c : Nat) (l : List UInt8) (hl : l.length ≤ 1000000) (hr : RdH w0 M H (.slice A l.length c) 1 l.length (bvs l))
  (hS : St w0 M w (RdrC g A l.length c 0 (FldC b1 g b4 #[.int .i64 num, .bool false, .int .u64 0, .slice none 0 0] H))) :
  Calls Tryz.prog 149 #[P0 b1, P0 b4] w fun e w' => e = .returned (.tuple #[]) ∧ match rv l with
   | .ok n rest => W64 n ∧ ∃ A' c', St w0 M w' (RdrC g A' rest.length c' 0 (FldC b1 g b4 #[.int .i64 num, .bool false, .int .u64 (n : Int), .slice none 0 0] H)) ∧ CutR A c l A' c' rest
   | .bad k => St w0 M w' (RdrC g A l.length c k (FldC b1 g b4 #[.int .i64 num, .bool false, .int .u64 0, .slice none 0 0] H)) := by
 have V := hide (rvarint_walk g A c l hl (fun w h => hr w h.tail.tail) hS)
 have cb : w.cell? ⟨b1, 0, none⟩ = some (P0 g) := hS.cell 2 rfl 0
 clear hS hr
 unfold P0 at *
 go_enter Tryz.func149, Tryz.ntmps149
 cases hv : rv l with
 | ok n rest =>
  rw [hv] at V
  go_wp2_with (go_at_call 148; refine V.out.mono ?_; rintro e w1 ⟨rfl, hw, A1, a1, hS1, hr1⟩; have f2 := hS1.free 1 rfl 2; have c2 : w1.cell? ⟨b4, 2, none⟩ = some (.int .u64 0) := hS1.cell 1 rfl 2)
  go_end0
  exact ⟨rfl, A1, a1, hS1.setCell 1 rfl 2 (.int .u64 (n : Int)), hr1⟩
 | bad k =>
  rw [hv] at V
  go_wp2_with (go_at_call 148; refine V.out.mono ?_; rintro e w1 ⟨rfl, hS1⟩; have f2 := hS1.free 1 rfl 2; have c2 : w1.cell? ⟨b4, 2, none⟩ = some (.int .u64 0) := hS1.cell 1 rfl 2)
  go_end0
  exact ⟨rfl, hS1.setCell 1 rfl 2 (.int .u64 0)⟩
theorem clo2_walk {w0 w : World} {M : Nat → Prop} {H : List Chunk} (g b1 b4 : Nat) (num : Int) (A : Option Addr) (c : Nat) (l : List UInt8) (hl : l.length ≤ 1000000) (hr : RdH w0 M H (.slice A l.length c) 1 l.length (bvs l))
  (hS : St w0 M w (RdrC g A l.length c 0 (FldC b1 g b4 #[.int .i64 num, .bool false, .int .u64 0, .slice none 0 0] H))) :
  Calls Tryz.prog 150 #[P0 b1, P0 b4] w fun e w' => e = .returned (.tuple #[]) ∧ match rw_ l with
   | .ok b rest => ∃ B d A' c', St w0 M w' (RdrC g A' rest.length c' 0 (.row (.slice B b.length d) 5 1 b.length (bvs b) :: FldC b1 g b4 #[.int .i64 num, .bool true, .int .u64 0, .slice B b.length d] H)) ∧ CutR A c l A' c' rest
   | .bad k => ∃ A' n' c', St w0 M w' (RdrC g A' n' c' k (FldC b1 g b4 #[.int .i64 num, .bool true, .int .u64 0, .slice none 0 0] H)) := by
 have V := hide (rraw_walk g A c l hl (fun w h => hr w h.tail.tail) hS)
 have cb : w.cell? ⟨b1, 0, none⟩ = some (P0 g) := hS.cell 2 rfl 0
 clear hS hr
 unfold P0 at *
 go_enter Tryz.func150, Tryz.ntmps150
 cases hv : rw_ l with
 | ok b rest =>
  rw [hv] at V
  go_wp2_with (go_at_call 151; refine V.out.mono ?_; rintro e w1 ⟨B, d, rfl, A1, a1, hS1, hr1⟩; have f1 := hS1.free 2 rfl 1; have f3 := hS1.free 2 rfl 3; have c1 : w1.cell? ⟨b4, 1, none⟩ = some (.bool false) := hS1.cell 2 rfl 1; have c3 : w1.cell? ⟨b4, 3, none⟩ = some (.slice none 0 0) := hS1.cell 2 rfl 3)
  go_end0
  exact ⟨rfl, B, d, A1, a1, (hS1.setCell 2 rfl 1 (.bool true)).setCell 2 rfl 3 (.slice B b.length d), hr1⟩
 | bad k =>
  rw [hv] at V
  go_wp2_with (go_at_call 151; refine V.out.mono ?_; rintro e w1 ⟨rfl, A1, n1, a1, hS1⟩; have f1 := hS1.free 1 rfl 1; have f3 := hS1.free 1 rfl 3; have c1 : w1.cell? ⟨b4, 1, none⟩ = some (.bool false) := hS1.cell 1 rfl 1; have c3 : w1.cell? ⟨b4, 3, none⟩ = some (.slice none 0 0) := hS1.cell 1 rfl 3)
  go_end0
  exact ⟨rfl, A1, n1, a1, (hS1.setCell 1 rfl 1 (.bool true)).setCell 1 rfl 3 (.slice none 0 0)⟩
end Go.Proofs.YtnohmgpmmhlloaaGreatDoor.S6

namespace Go.Proofs.YtnohmgpmmhlloaaGreatDoor.S6
set_option maxRecDepth 100000
open Go.RowKit

structure FdV where
 num : Nat
 whole : Bool
 n : Nat
 b : List UInt8
inductive FR where
 | ok (f : FdV) (rest : List UInt8)
 | bad (e : Nat)
@[irreducible] def numF (tag : Nat) : Nat := min (tag / 8) 101
@[irreducible] def fd (l : List UInt8) : FR :=
 match rv l with
 | .bad k => .bad k
 | .ok tag rest =>
  if (tag % 8 = 0 ∨ tag % 8 = 2) ∧ mayB (numF tag) = true then
   if tag % 8 = 0 then match rv rest with
    | .ok n r => .ok ⟨numF tag, false, n, []⟩ r
    | .bad k => .bad k
   else match rw_ rest with
    | .ok b r => .ok ⟨numF tag, true, 0, b⟩ r
    | .bad k => .bad k
  else .bad 3
def takeV (k b1 b4 : Nat) : Value := if k = 0 then .func (.func 149) #[] #[P0 b1, P0 b4] else if k = 2 then .func (.func 150) #[] #[P0 b1, P0 b4] else .nilFunc
def FdPost (w0 : World) (M : Nat → Prop) (H : List Chunk) (g : Nat) (A : Option Addr) (c : Nat) (l : List UInt8) : FR → Ending → World → Prop
 | .ok f rest, e, w' => ∃ B d, e = .returned (.agg #[.int .i64 (f.num : Int), .bool f.whole, .int .u64 (f.n : Int), .slice B f.b.length d]) ∧ ∃ A' c', St w0 M w' (RdrC g A' rest.length c' 0 (.row (.slice B f.b.length d) 5 1 f.b.length (bvs f.b) :: H)) ∧ CutR A c l A' c' rest
 | .bad k, e, w' => ∃ x1 x2 x3 B m d, e = .returned (.agg #[.int .i64 x1, .bool x2, .int .u64 x3, .slice B m d]) ∧ ∃ A' n' c', St w0 M w' (RdrC g A' n' c' k H)

theorem _root_.Go.Proofs.YtnohmgpmmhlloaaGreatDoor.St.ne {w0 w : World} {M : Nat → Prop} {H : List Chunk} (h : St w0 M w H) (i j : Nat) (hij : i ≠ j) {g g' : Nat} {c c' : Array Value} {e e' : TypeId} (hi : H[i]? = some (.cells g c e)) (hj : H[j]? = some (.cells g' c' e')) : g ≠ g' :=
 fun x => h.apart i j _ _ g hij hi hj rfl (by rw [x]; rfl)
theorem eq_fn (w : World) (f : Fn) (a b : Array Value) : (binOp .eql 1 (.func f a b) .nilFunc).run Tryz.prog w = .ok (.bool false) w := by kernel_rfl
theorem eq_nilFn (w : World) : (binOp .eql 1 .nilFunc .nilFunc).run Tryz.prog w = .ok (.bool true) w := by kernel_rfl
theorem fd_bad (l : List UInt8) (k : Nat) (h : rv l = .bad k) : fd l = .bad k := by unfold fd; rw [h]
theorem fd_no (l : List UInt8) (tag : Nat) (rest : List UInt8) (h : rv l = .ok tag rest) (hn : ¬ ((tag % 8 = 0 ∨ tag % 8 = 2) ∧ mayB (numF tag) = true)) : fd l = .bad 3 := by unfold fd; rw [h]; simp only [if_neg hn]
theorem fd_num (l : List UInt8) (tag n : Nat) (rest r : List UInt8) (h : rv l = .ok tag rest) (h0 : tag % 8 = 0) (hm : mayB (numF tag) = true) (h2 : rv rest = .ok n r) : fd l = .ok ⟨numF tag, false, n, []⟩ r := by
 unfold fd; rw [h]; simp only [if_pos (show (tag % 8 = 0 ∨ tag % 8 = 2) ∧ mayB (numF tag) = true from ⟨.inl h0, hm⟩), if_pos h0, h2]
theorem fd_numBad (l : List UInt8) (tag k : Nat) (rest : List UInt8) (h : rv l = .ok tag rest) (h0 : tag % 8 = 0) (hm : mayB (numF tag) = true) (h2 : rv rest = .bad k) : fd l = .bad k := by
 unfold fd; rw [h]; simp only [if_pos (show (tag % 8 = 0 ∨ tag % 8 = 2) ∧ mayB (numF tag) = true from ⟨.inl h0, hm⟩), if_pos h0, h2]
theorem fd_raw (l : List UInt8) (tag : Nat) (rest b r : List UInt8) (h : rv l = .ok tag rest) (h0 : tag % 8 = 2) (hm : mayB (numF tag) = true) (h2 : rw_ rest = .ok b r) : fd l = .ok ⟨numF tag, true, 0, b⟩ r := by
 unfold fd; rw [h]; simp only [if_pos (show (tag % 8 = 0 ∨ tag % 8 = 2) ∧ mayB (numF tag) = true from ⟨.inr h0, hm⟩), if_neg (show ¬ tag % 8 = 0 from by omega), h2]
theorem fd_rawBad (l : List UInt8) (tag k : Nat) (rest : List UInt8) (h : rv l = .ok tag rest) (h0 : tag % 8 = 2) (hm : mayB (numF tag) = true) (h2 : rw_ rest = .bad k) : fd l = .bad k := by
 unfold fd; rw [h]; simp only [if_pos (show (tag % 8 = 0 ∨ tag % 8 = 2) ∧ mayB (numF tag) = true from ⟨.inr h0, hm⟩), if_neg (show ¬ tag % 8 = 0 from by omega), h2]
theorem rvpost_any {w0 w' : World} {M : Nat → Prop} {H : List Chunk} {g : Nat} {A : Option Addr} {c : Nat} {l : List UInt8} {e : Ending} (h : RvPost w0 M H g A c l (rv l) e w') :
  ∃ (tag ek : Nat) (A1 : Option Addr) (n1 a1 : Nat), e = .returned (.int .u64 (tag : Int)) ∧ W64 tag ∧ St w0 M w' (RdrC g A1 n1 a1 ek H) ∧
   Hid ((∃ rest, rv l = .ok tag rest ∧ ek = 0 ∧ n1 = rest.length ∧ CutR A c l A1 a1 rest) ∨ (rv l = .bad ek ∧ tag = 0)) := by
 cases hv : rv l with
 | ok n rest =>
  rw [hv] at h
  obtain ⟨rfl, hw, A1, a1, hS, hr⟩ := h
  exact ⟨n, 0, A1, _, a1, rfl, hw, hS, .inl ⟨rest, rfl, rfl, rfl, hr⟩⟩
 | bad k =>
  rw [hv] at h
  obtain ⟨rfl, hS⟩ := h
  exact ⟨0, k, A, _, c, rfl, by unfold W64; omega, hS, .inr ⟨rfl, rfl⟩⟩
theorem numF_val (tag : Nat) : (numF tag : Int) = if (tag : Int) / 8 ≤ 101 then (tag : Int) / 8 else 101 := by
 unfold numF
 split <;> omega
theorem run_makeMap0 (P : Program) (t : TypeId) (w : World) : (Instr.makeMap t none).run P w = .ok (.map (some w.heap.size)) (w.alloc (.map #[] 0)) := rfl
theorem size_alloc1 (w : World) (o : Obj) : (w.alloc o).heap.size = w.heap.size + 1 := by
 show (w.heap.push o).size = _
 simp
def mapV (b1 b4 : Nat) : Array MapEntry := #[⟨.int .u64 0, .func (.func 149) #[] #[P0 b1, P0 b4], 0⟩, ⟨.int .u64 2, .func (.func 150) #[] #[P0 b1, P0 b4], 1⟩]
theorem find_take (b1 b4 k : Nat) : ∃ r, Instr.findNow (.int .u64) (.int .u64 (k : Int)) (mapV b1 b4).toList 0 = some r ∧ (r.map (·.2)).getD .nilFunc = takeV k b1 b4 := by
 unfold mapV takeV
 by_cases h0 : k = 0
 ·subst h0
  exact ⟨_, rfl, rfl⟩
 ·by_cases h2 : k = 2
  ·subst h2
   exact ⟨_, rfl, rfl⟩
  ·have e0 : ((k : Int) == 0) = false := by simp; omega
   have e2 : ((k : Int) == 2) = false := by simp; omega
   refine ⟨none, ?_, by simp [h0, h2]⟩
   simp [Instr.findNow, Instr.sameNow, e0, e2]
theorem zero_fn (w : World) : (zeroValue 1).run Tryz.prog w = .ok .nilFunc w := by kernel_rfl
theorem and7 (tag : Nat) (h : W64 tag) : bits .and .u64 (tag : Int) 7 = ((tag % 8 : Nat) : Int) := by
 unfold W64 at h
 have := u64_and_nat tag 7 (by omega) (by omega)
 rw [show ((7 : Nat) : Int) = 7 from rfl] at this
 rw [this]
 congr 1
 exact Nat.and_two_pow_sub_one_eq_mod tag 3
theorem field_walk {w0 w : World} {M : Nat → Prop} {H : List Chunk} (g : Nat) (A : Option Addr) (c : Nat) (l : List UInt8) (hl : l.length ≤ 1000000) (hr : RdH w0 M H (.slice A l.length c) 1 l.length (bvs l))
  (hS : St w0 M w (RdrC g A l.length c 0 H)) :
  Calls Tryz.prog 113 #[P0 g] w (FdPost w0 M H g A c l (fd l)) := by
 have hSa := ((hS.alloc #[P0 g] 141).alloc #[.int .i64 0, .bool false, .int .u64 0, .slice none 0 0] 93)
 have cb1 : ((w.alloc (.cells #[P0 g] 141)).alloc (.cells #[.int .i64 0, .bool false, .int .u64 0, .slice none 0 0] 93)).cell? ⟨w.heap.size, 0, none⟩ = some (P0 g) := hSa.cell 1 rfl 0
 rw [size_alloc1] at hSa
 have hSb : St w0 M ((w.alloc (.cells #[P0 g] 141)).alloc (.cells #[.int .i64 0, .bool false, .int .u64 0, .slice none 0 0] 93)) (RdrC g A l.length c 0 (.cells w.heap.size #[P0 g] 141 :: .cells (w.heap.size + 1) #[.int .i64 0, .bool false, .int .u64 0, .slice none 0 0] 93 :: H)) := hSa.rot3
 have V := hide (rvarint_walk g A c l hl (fun w h => hr w h.tail.tail) hSb)
 clear hS hSa hSb
 unfold P0 at *
 have hmm := run_makeMap0 Tryz.prog 193
 go_enter Tryz.func113, Tryz.ntmps113
 go_upto_region 2 with (go_at_call 148; refine V.out.mono ?_; rintro e w1 he; obtain ⟨tag, ek, A1, n1, a1, rfl, hw, hS1, hcase⟩ := rvpost_any he; clear he)
 have hv := hide (numF_val tag)
 clear V cb1
 go_cut [4] (fun p wx => ∃ b4, p = P0 b4 ∧ St w0 M wx (RdrC g A1 n1 a1 ek (FldC w.heap.size g b4 #[.int .i64 (numF tag : Int), .bool false, .int .u64 0, .slice none 0 0] (.cells (w.heap.size + 1) #[.int .i64 0, .bool false, .int .u64 0, .slice none 0 0] 93 :: H))))
 case first =>
  go_wp2_with fail
  all_goals (go_meet; refine ⟨_, rfl, ?_⟩; rw [hv.out]; split)
  all_goals first | (exfalso; omega) | exact (hS1.alloc _ _).swap
 case rest =>
  obtain ⟨b4, rfl, hS2⟩ := hcut
  clear hS1
  generalize hN : numF tag = num at *
  have hS3 := hide (hS2.allocObj (.map #[] 0))
  unfold P0 at *
  go_upto_region 3 with fail
  go_cut [5] (fun t wx => t = takeV (tag % 8) w.heap.size b4 ∧ St w0 M wx (RdrC g A1 n1 a1 ek (FldC w.heap.size g b4 #[.int .i64 (num : Int), .bool false, .int .u64 0, .slice none 0 0] (.cells (w.heap.size + 1) #[.int .i64 0, .bool false, .int .u64 0, .slice none 0 0] 93 :: H))))
  case first =>
   obtain ⟨r, hr1, hr2⟩ := find_take w.heap.size b4 (tag % 8)
   have hk := hide (and7 tag hw)
   go_wp2_with (first
    | (refine wl_insert (v := .tmp 14) rfl rfl Tryz.underlying193 Tryz.underlying51 hS3.out 0 rfl rfl rfl rfl rfl ?_; intro w4 hS4)
    | (refine wl_insert (v := .tmp 15) rfl rfl Tryz.underlying193 Tryz.underlying51 hS4 0 rfl rfl rfl rfl rfl ?_; intro w5 hS5; have hb5 : w5.heap[wc.heap.size]? = some (.map (mapV w.heap.size b4) 2) := hS5.sat 0 _ rfl)
    | (at_lookup; refine wl_lookup rfl rfl Tryz.underlying193 Tryz.underlying51 (zero_fn _) hb5 rfl (congrArg (Value.int .u64) hk.out) hr1 ?_; rw [hr2]))
   go_meet
   exact ⟨rfl, hS5.tail⟩
  case rest =>
   obtain ⟨rfl, hS5⟩ := hcut
   clear hS2 hS3
   rw [← hN] at *
   have hc1 : wc.cell? ⟨g, 1, none⟩ = some (.int .i64 (ek : Int)) := hS5.cell 0 rfl 1
   have eF := fun w f a b => eq_fn w f a b
   have eN := fun w => eq_nilFn w
   have hcb : wc.cell? ⟨w.heap.size, 0, none⟩ = some (.pointer (some ⟨g, 0, none⟩)) := hS5.cell 2 rfl 0
   rcases hcase.out with ⟨rest, hrv, rfl, rfl, hrc⟩ | ⟨hrv, rfl⟩
   ·have hlr := rv_len l tag rest hrv
    have hr' : RdH w0 M (.cells (w.heap.size + 1) #[.int .i64 0, .bool false, .int .u64 0, .slice none 0 0] 93 :: H) (.slice A1 rest.length a1) 1 rest.length (bvs rest) := fun w h => hrc w (hr w h.tail)
    by_cases h02 : (tag % 8 = 0 ∨ tag % 8 = 2) ∧ mayB (numF tag) = true
    ·obtain ⟨h02, hm⟩ := h02
     have he0 : wc.cell? ⟨b4, 0, none⟩ = some (.int .i64 (numF tag : Int)) := hS5.cell 1 rfl 0
     by_cases h0 : tag % 8 = 0
     ·rw [show takeV (tag % 8) w.heap.size b4 = .func (.func 149) #[] #[P0 w.heap.size, P0 b4] from by unfold takeV; rw [if_pos h0]]
      have C := hide (clo1_walk g w.heap.size b4 (numF tag) A1 a1 rest (by omega) hr' hS5)
      cases hv2 : rv rest with
      | ok n r =>
       rw [hv2] at C
       have FD := hide (fd_num l tag n rest r hrv h0 hm hv2)
       clear hr hr' hcase hS5 hrv hv2 hv hN h02
       unfold P0 at *
       go_wp2_with (first
        | (go_at_call 152; refine (may_any _ _).mono ?_; rintro e w' ⟨rfl, rfl⟩)
        | (go_at_call 149; refine C.out.mono ?_; rintro e w2 ⟨rfl, hw2, A2, a2, hS6, hr2⟩; have hf0 := hS6.free 3 rfl 0; have hf1 := hS6.free 3 rfl 1; have hf2 := hS6.free 3 rfl 2; have hf3 := hS6.free 3 rfl 3; have hd0 : w2.cell? ⟨w.heap.size + 1, 0, none⟩ = some (.int .i64 0) := hS6.cell 3 rfl 0; have hd1 : w2.cell? ⟨w.heap.size + 1, 1, none⟩ = some (.bool false) := hS6.cell 3 rfl 1; have hd2 : w2.cell? ⟨w.heap.size + 1, 2, none⟩ = some (.int .u64 0) := hS6.cell 3 rfl 2; have hd3 : w2.cell? ⟨w.heap.size + 1, 3, none⟩ = some (.slice none 0 0) := hS6.cell 3 rfl 3; have he0 : w2.cell? ⟨b4, 0, none⟩ = some (.int .i64 (numF tag : Int)) := hS6.cell 1 rfl 0; have he1 : w2.cell? ⟨b4, 1, none⟩ = some (.bool false) := hS6.cell 1 rfl 1; have he2 : w2.cell? ⟨b4, 2, none⟩ = some (.int .u64 (n : Int)) := hS6.cell 1 rfl 2; have he3 : w2.cell? ⟨b4, 3, none⟩ = some (.slice none 0 0) := hS6.cell 1 rfl 3))
       have hS8 := ((((hS6.setCell 3 rfl 0 (.int .i64 (numF tag : Int))).setCell 3 rfl 1 (.bool false)).setCell 3 rfl 2 (.int .u64 (n : Int))).setCell 3 rfl 3 (.slice none 0 0))
       refine bodyPost_ret (results_cell_row rfl _ _ (w.heap.size + 1) _ _ _ _ rfl (hS8.heap 3 rfl) Tryz.underlying93 rfl (by kernel_rfl)) rfl ?_
       rw [FD.out]
       have hS7 := hS8.swap.tail.swap.tail.swap.tail
       exact ⟨none, 0, rfl, A2, a2, (hS7.row (Below.refl _ _) (World.ownsRow_nil _ _ _ _)).swap, hrc.trans hr2⟩
      | bad k =>
       rw [hv2] at C
       have FD := hide (fd_numBad l tag k rest hrv h0 hm hv2)
       clear hr hr' hcase hS5 hrv hv2 hv hN h02
       unfold P0 at *
       go_wp2_with (first
        | (go_at_call 152; refine (may_any _ _).mono ?_; rintro e w' ⟨rfl, rfl⟩)
        | (go_at_call 149; refine C.out.mono ?_; rintro e w2 ⟨rfl, hS6⟩; have hf0 := hS6.free 3 rfl 0; have hf1 := hS6.free 3 rfl 1; have hf2 := hS6.free 3 rfl 2; have hf3 := hS6.free 3 rfl 3; have hd0 : w2.cell? ⟨w.heap.size + 1, 0, none⟩ = some (.int .i64 0) := hS6.cell 3 rfl 0; have hd1 : w2.cell? ⟨w.heap.size + 1, 1, none⟩ = some (.bool false) := hS6.cell 3 rfl 1; have hd2 : w2.cell? ⟨w.heap.size + 1, 2, none⟩ = some (.int .u64 0) := hS6.cell 3 rfl 2; have hd3 : w2.cell? ⟨w.heap.size + 1, 3, none⟩ = some (.slice none 0 0) := hS6.cell 3 rfl 3; have he0 : w2.cell? ⟨b4, 0, none⟩ = some (.int .i64 (numF tag : Int)) := hS6.cell 1 rfl 0; have he1 : w2.cell? ⟨b4, 1, none⟩ = some (.bool false) := hS6.cell 1 rfl 1; have he2 : w2.cell? ⟨b4, 2, none⟩ = some (.int .u64 0) := hS6.cell 1 rfl 2; have he3 : w2.cell? ⟨b4, 3, none⟩ = some (.slice none 0 0) := hS6.cell 1 rfl 3))
       have hS8 := ((((hS6.setCell 3 rfl 0 (.int .i64 (numF tag : Int))).setCell 3 rfl 1 (.bool false)).setCell 3 rfl 2 (.int .u64 0)).setCell 3 rfl 3 (.slice none 0 0))
       refine bodyPost_ret (results_cell_row rfl _ _ (w.heap.size + 1) _ _ _ _ rfl (hS8.heap 3 rfl) Tryz.underlying93 rfl (by kernel_rfl)) rfl ?_
       rw [FD.out]
       have hS7 := hS8.swap.tail.swap.tail.swap.tail
       exact ⟨_, _, _, _, _, _, rfl, _, _, _, hS7⟩
     ·have h2 : tag % 8 = 2 := by omega
      rw [show takeV (tag % 8) w.heap.size b4 = .func (.func 150) #[] #[P0 w.heap.size, P0 b4] from by unfold takeV; rw [if_neg h0, if_pos h2]]
      have C := hide (clo2_walk g w.heap.size b4 (numF tag) A1 a1 rest (by omega) hr' hS5)
      cases hv2 : rw_ rest with
      | ok b r =>
       rw [hv2] at C
       have FD := hide (fd_raw l tag rest b r hrv h2 hm hv2)
       clear hr hr' hcase hS5 hrv hv2 hv hN h02
       unfold P0 at *
       go_wp2_with (first
        | (go_at_call 152; refine (may_any _ _).mono ?_; rintro e w' ⟨rfl, rfl⟩)
        | (go_at_call 150; refine C.out.mono ?_; rintro e w2 ⟨rfl, B, d, A2, a2, hS6, hr2⟩; have hf0 := hS6.free 4 rfl 0; have hf1 := hS6.free 4 rfl 1; have hf2 := hS6.free 4 rfl 2; have hf3 := hS6.free 4 rfl 3; have hd0 : w2.cell? ⟨w.heap.size + 1, 0, none⟩ = some (.int .i64 0) := hS6.cell 4 rfl 0; have hd1 : w2.cell? ⟨w.heap.size + 1, 1, none⟩ = some (.bool false) := hS6.cell 4 rfl 1; have hd2 : w2.cell? ⟨w.heap.size + 1, 2, none⟩ = some (.int .u64 0) := hS6.cell 4 rfl 2; have hd3 : w2.cell? ⟨w.heap.size + 1, 3, none⟩ = some (.slice none 0 0) := hS6.cell 4 rfl 3; have he0 : w2.cell? ⟨b4, 0, none⟩ = some (.int .i64 (numF tag : Int)) := hS6.cell 2 rfl 0; have he1 : w2.cell? ⟨b4, 1, none⟩ = some (.bool true) := hS6.cell 2 rfl 1; have he2 : w2.cell? ⟨b4, 2, none⟩ = some (.int .u64 0) := hS6.cell 2 rfl 2; have he3 : w2.cell? ⟨b4, 3, none⟩ = some (.slice B b.length d) := hS6.cell 2 rfl 3))
       have hS8 := ((((hS6.setCell 4 rfl 0 (.int .i64 (numF tag : Int))).setCell 4 rfl 1 (.bool true)).setCell 4 rfl 2 (.int .u64 0)).setCell 4 rfl 3 (.slice B b.length d))
       refine bodyPost_ret (results_cell_row rfl _ _ (w.heap.size + 1) _ _ _ _ rfl (hS8.heap 4 rfl) Tryz.underlying93 rfl (by kernel_rfl)) rfl ?_
       rw [FD.out]
       have hS7 := hS8.mid2.mid2.mid2
       exact ⟨B, d, rfl, A2, a2, hS7, hrc.trans hr2⟩
      | bad k =>
       rw [hv2] at C
       have FD := hide (fd_rawBad l tag k rest hrv h2 hm hv2)
       clear hr hr' hcase hS5 hrv hv2 hv hN h02
       unfold P0 at *
       go_wp2_with (first
        | (go_at_call 152; refine (may_any _ _).mono ?_; rintro e w' ⟨rfl, rfl⟩)
        | (go_at_call 150; refine C.out.mono ?_; rintro e w2 ⟨rfl, A2, n2, a2, hS6⟩; have hf0 := hS6.free 3 rfl 0; have hf1 := hS6.free 3 rfl 1; have hf2 := hS6.free 3 rfl 2; have hf3 := hS6.free 3 rfl 3; have hd0 : w2.cell? ⟨w.heap.size + 1, 0, none⟩ = some (.int .i64 0) := hS6.cell 3 rfl 0; have hd1 : w2.cell? ⟨w.heap.size + 1, 1, none⟩ = some (.bool false) := hS6.cell 3 rfl 1; have hd2 : w2.cell? ⟨w.heap.size + 1, 2, none⟩ = some (.int .u64 0) := hS6.cell 3 rfl 2; have hd3 : w2.cell? ⟨w.heap.size + 1, 3, none⟩ = some (.slice none 0 0) := hS6.cell 3 rfl 3; have he0 : w2.cell? ⟨b4, 0, none⟩ = some (.int .i64 (numF tag : Int)) := hS6.cell 1 rfl 0; have he1 : w2.cell? ⟨b4, 1, none⟩ = some (.bool true) := hS6.cell 1 rfl 1; have he2 : w2.cell? ⟨b4, 2, none⟩ = some (.int .u64 0) := hS6.cell 1 rfl 2; have he3 : w2.cell? ⟨b4, 3, none⟩ = some (.slice none 0 0) := hS6.cell 1 rfl 3))
       have hS8 := ((((hS6.setCell 3 rfl 0 (.int .i64 (numF tag : Int))).setCell 3 rfl 1 (.bool true)).setCell 3 rfl 2 (.int .u64 0)).setCell 3 rfl 3 (.slice none 0 0))
       refine bodyPost_ret (results_cell_row rfl _ _ (w.heap.size + 1) _ _ _ _ rfl (hS8.heap 3 rfl) Tryz.underlying93 rfl (by kernel_rfl)) rfl ?_
       rw [FD.out]
       have hS7 := hS8.swap.tail.swap.tail.swap.tail
       exact ⟨_, _, _, _, _, _, rfl, _, _, _, hS7⟩
    ·have FD := hide (fd_no l tag rest hrv h02)
     have hf0 := hS5.free 3 rfl 0
     have hf1 := hS5.free 3 rfl 1
     have hf2 := hS5.free 3 rfl 2
     have hf3 := hS5.free 3 rfl 3
     have hd0 : wc.cell? ⟨w.heap.size + 1, 0, none⟩ = some (.int .i64 0) := hS5.cell 3 rfl 0
     have hd1 : wc.cell? ⟨w.heap.size + 1, 1, none⟩ = some (.bool false) := hS5.cell 3 rfl 1
     have hd2 : wc.cell? ⟨w.heap.size + 1, 2, none⟩ = some (.int .u64 0) := hS5.cell 3 rfl 2
     have hd3 : wc.cell? ⟨w.heap.size + 1, 3, none⟩ = some (.slice none 0 0) := hS5.cell 3 rfl 3
     have he0 : wc.cell? ⟨b4, 0, none⟩ = some (.int .i64 (numF tag : Int)) := hS5.cell 1 rfl 0
     have he1 : wc.cell? ⟨b4, 1, none⟩ = some (.bool false) := hS5.cell 1 rfl 1
     have he2 : wc.cell? ⟨b4, 2, none⟩ = some (.int .u64 0) := hS5.cell 1 rfl 2
     have he3 : wc.cell? ⟨b4, 3, none⟩ = some (.slice none 0 0) := hS5.cell 1 rfl 3
     have hg1 := hS5.free 0 rfl 1
     have hx1 := hS5.ne 0 1 (by decide) rfl rfl
     have hx2 := hS5.ne 1 0 (by decide) rfl rfl
     have hx3 := hS5.ne 0 3 (by decide) rfl rfl
     have hx4 := hS5.ne 3 0 (by decide) rfl rfl
     clear hr hr' hcase hrv hv hN
     cases hm : mayB (numF tag)
     ·by_cases h0 : tag % 8 = 0
      ·rw [show takeV (tag % 8) w.heap.size b4 = .func (.func 149) #[] #[P0 w.heap.size, P0 b4] from by unfold takeV; rw [if_pos h0]]
       unfold P0 at *
       go_wp2_with (go_at_call 152; refine (may_any _ _).mono ?_; rintro e w' ⟨rfl, rfl⟩)
       have hS8 := (((((hS5.setCell 0 rfl 1 (.int .i64 3)).setCell 3 rfl 0 (.int .i64 (numF tag : Int))).setCell 3 rfl 1 (.bool false)).setCell 3 rfl 2 (.int .u64 0)).setCell 3 rfl 3 (.slice none 0 0))
       refine bodyPost_ret (results_cell_row rfl _ _ (w.heap.size + 1) _ _ _ _ rfl (hS8.heap 3 rfl) Tryz.underlying93 rfl (by kernel_rfl)) rfl ?_
       rw [FD.out]
       exact ⟨_, _, _, _, _, _, rfl, _, _, _, hS8.swap.tail.swap.tail.swap.tail⟩
      ·by_cases h2 : tag % 8 = 2
       ·rw [show takeV (tag % 8) w.heap.size b4 = .func (.func 150) #[] #[P0 w.heap.size, P0 b4] from by unfold takeV; rw [if_neg h0, if_pos h2]]
        unfold P0 at *
        go_wp2_with (go_at_call 152; refine (may_any _ _).mono ?_; rintro e w' ⟨rfl, rfl⟩)
        have hS8 := (((((hS5.setCell 0 rfl 1 (.int .i64 3)).setCell 3 rfl 0 (.int .i64 (numF tag : Int))).setCell 3 rfl 1 (.bool false)).setCell 3 rfl 2 (.int .u64 0)).setCell 3 rfl 3 (.slice none 0 0))
        refine bodyPost_ret (results_cell_row rfl _ _ (w.heap.size + 1) _ _ _ _ rfl (hS8.heap 3 rfl) Tryz.underlying93 rfl (by kernel_rfl)) rfl ?_
        rw [FD.out]
        exact ⟨_, _, _, _, _, _, rfl, _, _, _, hS8.swap.tail.swap.tail.swap.tail⟩
       ·rw [show takeV (tag % 8) w.heap.size b4 = .nilFunc from by unfold takeV; rw [if_neg h0, if_neg h2]]
        go_wp2_with fail
        have hS8 := (((((hS5.setCell 0 rfl 1 (.int .i64 3)).setCell 3 rfl 0 (.int .i64 (numF tag : Int))).setCell 3 rfl 1 (.bool false)).setCell 3 rfl 2 (.int .u64 0)).setCell 3 rfl 3 (.slice none 0 0))
        refine bodyPost_ret (results_cell_row rfl _ _ (w.heap.size + 1) _ _ _ _ rfl (hS8.heap 3 rfl) Tryz.underlying93 rfl (by kernel_rfl)) rfl ?_
        rw [FD.out]
        exact ⟨_, _, _, _, _, _, rfl, _, _, _, hS8.swap.tail.swap.tail.swap.tail⟩
     ·have h0 : ¬ tag % 8 = 0 := fun h => h02 ⟨.inl h, hm⟩
      have h2 : ¬ tag % 8 = 2 := fun h => h02 ⟨.inr h, hm⟩
      rw [show takeV (tag % 8) w.heap.size b4 = .nilFunc from by unfold takeV; rw [if_neg h0, if_neg h2]]
      go_wp2_with fail
      have hS8 := (((((hS5.setCell 0 rfl 1 (.int .i64 3)).setCell 3 rfl 0 (.int .i64 (numF tag : Int))).setCell 3 rfl 1 (.bool false)).setCell 3 rfl 2 (.int .u64 0)).setCell 3 rfl 3 (.slice none 0 0))
      refine bodyPost_ret (results_cell_row rfl _ _ (w.heap.size + 1) _ _ _ _ rfl (hS8.heap 3 rfl) Tryz.underlying93 rfl (by kernel_rfl)) rfl ?_
      rw [FD.out]
      exact ⟨_, _, _, _, _, _, rfl, _, _, _, hS8.swap.tail.swap.tail.swap.tail⟩
   ·have hk := rv_bads l ek hrv
    have hk2 : ((ek : Int) != 0) = true := by rcases hk with rfl | rfl <;> rfl
    have hf0 := hS5.free 3 rfl 0
    have hf1 := hS5.free 3 rfl 1
    have hf2 := hS5.free 3 rfl 2
    have hf3 := hS5.free 3 rfl 3
    have hd0 : wc.cell? ⟨w.heap.size + 1, 0, none⟩ = some (.int .i64 0) := hS5.cell 3 rfl 0
    have hd1 : wc.cell? ⟨w.heap.size + 1, 1, none⟩ = some (.bool false) := hS5.cell 3 rfl 1
    have hd2 : wc.cell? ⟨w.heap.size + 1, 2, none⟩ = some (.int .u64 0) := hS5.cell 3 rfl 2
    have hd3 : wc.cell? ⟨w.heap.size + 1, 3, none⟩ = some (.slice none 0 0) := hS5.cell 3 rfl 3
    have he0 : wc.cell? ⟨b4, 0, none⟩ = some (.int .i64 (numF 0 : Int)) := hS5.cell 1 rfl 0
    have he1 : wc.cell? ⟨b4, 1, none⟩ = some (.bool false) := hS5.cell 1 rfl 1
    have he2 : wc.cell? ⟨b4, 2, none⟩ = some (.int .u64 0) := hS5.cell 1 rfl 2
    have he3 : wc.cell? ⟨b4, 3, none⟩ = some (.slice none 0 0) := hS5.cell 1 rfl 3
    go_wp2_with fail
    have hS8 := ((((hS5.setCell 3 rfl 0 (.int .i64 (numF 0 : Int))).setCell 3 rfl 1 (.bool false)).setCell 3 rfl 2 (.int .u64 0)).setCell 3 rfl 3 (.slice none 0 0))
    refine bodyPost_ret (results_cell_row rfl _ _ (w.heap.size + 1) _ _ _ _ rfl (hS8.heap 3 rfl) Tryz.underlying93 rfl (by kernel_rfl)) rfl ?_
    rw [fd_bad l ek hrv]
    exact ⟨_, _, _, _, _, _, rfl, _, _, _, hS8.swap.tail.swap.tail.swap.tail⟩
end Go.Proofs.YtnohmgpmmhlloaaGreatDoor.S6

namespace Go.Proofs.YtnohmgpmmhlloaaGreatDoor.S6
set_option maxRecDepth 100000
open Go.RowKit

theorem rw_len (l b r : List UInt8) (h : rw_ l = .ok b r) : r.length < l.length := by
 cases hv : rv l with
 | bad k => rw [rw_bad l k hv] at h; cases h
 | ok n rest =>
  have := rv_len l n rest hv
  by_cases hn : n ≤ rest.length
  ·rw [rw_ok l n rest hv hn] at h
   injection h with _ h
   subst h
   rw [List.length_drop]
   omega
  ·rw [rw_short l n rest hv hn] at h; cases h
theorem rw_bads (l : List UInt8) (k : Nat) (h : rw_ l = .bad k) : k = 2 ∨ k = 3 := by
 cases hv : rv l with
 | bad j => rw [rw_bad l j hv] at h; injection h with h; subst h; exact rv_bads l _ hv
 | ok n rest =>
  by_cases hn : n ≤ rest.length
  ·rw [rw_ok l n rest hv hn] at h; cases h
  ·rw [rw_short l n rest hv hn] at h; injection h with h; exact .inl h.symm
theorem fd_len (l : List UInt8) (f : FdV) (r : List UInt8) (h : fd l = .ok f r) : r.length < l.length := by
 cases hv : rv l with
 | bad k => rw [fd_bad l k hv] at h; cases h
 | ok tag rest =>
  have h1 := rv_len l tag rest hv
  by_cases hc : (tag % 8 = 0 ∨ tag % 8 = 2) ∧ mayB (numF tag) = true
  ·by_cases h0 : tag % 8 = 0
   ·cases h2 : rv rest with
    | bad k => rw [fd_numBad l tag k rest hv h0 hc.2 h2] at h; cases h
    | ok n r' =>
     rw [fd_num l tag n rest r' hv h0 hc.2 h2] at h
     injection h with _ h
     subst h
     have := rv_len rest n r' h2
     omega
   ·have h0' : tag % 8 = 2 := by omega
    cases h2 : rw_ rest with
    | bad k => rw [fd_rawBad l tag k rest hv h0' hc.2 h2] at h; cases h
    | ok b r' =>
     rw [fd_raw l tag rest b r' hv h0' hc.2 h2] at h
     injection h with _ h
     subst h
     have := rw_len rest b r' h2
     omega
  ·rw [fd_no l tag rest hv hc] at h; cases h
theorem fd_bads (l : List UInt8) (k : Nat) (h : fd l = .bad k) : k = 2 ∨ k = 3 := by
 cases hv : rv l with
 | bad j => rw [fd_bad l j hv] at h; injection h with h; subst h; exact rv_bads l _ hv
 | ok tag rest =>
  by_cases hc : (tag % 8 = 0 ∨ tag % 8 = 2) ∧ mayB (numF tag) = true
  ·by_cases h0 : tag % 8 = 0
   ·cases h2 : rv rest with
    | bad j => rw [fd_numBad l tag j rest hv h0 hc.2 h2] at h; injection h with h; subst h; exact rv_bads rest _ h2
    | ok n r' => rw [fd_num l tag n rest r' hv h0 hc.2 h2] at h; cases h
   ·have h0' : tag % 8 = 2 := by omega
    cases h2 : rw_ rest with
    | bad j => rw [fd_rawBad l tag j rest hv h0' hc.2 h2] at h; injection h with h; subst h; exact rw_bads rest _ h2
    | ok b r' => rw [fd_raw l tag rest b r' hv h0' hc.2 h2] at h; cases h
  ·rw [fd_no l tag rest hv hc] at h; injection h with h; exact .inr h.symm

inductive FsR where
 | ok (l : List FdV)
 | bad (e : Nat)
def FsR.pre (fs : List FdV) : FsR → FsR
 | .ok l => .ok (fs ++ l)
 | .bad k => .bad k
theorem FsR.pre_nil (r : FsR) : r.pre [] = r := by cases r <;> rfl
theorem FsR.pre_pre (fs gs : List FdV) (r : FsR) : (r.pre gs).pre fs = r.pre (fs ++ gs) := by cases r <;> simp [FsR.pre]
def fdsF : Nat → List UInt8 → FsR
 | 0, _ => .ok []
 | n + 1, l =>
  if l = [] then .ok [] else
  match fd l with
  | .bad k => .bad k
  | .ok f r => (fdsF n r).pre [f]
theorem fdsF_fuel : ∀ (n m : Nat) (l : List UInt8), l.length ≤ n → l.length ≤ m → fdsF n l = fdsF m l
 | 0, m, l, h, _ => by
  have : l = [] := List.eq_nil_of_length_eq_zero (by omega)
  subst this
  cases m <;> simp [fdsF]
 | n + 1, 0, l, _, h => by
  have : l = [] := List.eq_nil_of_length_eq_zero (by omega)
  subst this
  simp [fdsF]
 | n + 1, m + 1, l, h1, h2 => by
  unfold fdsF
  by_cases hl : l = []
  ·rw [if_pos hl, if_pos hl]
  ·rw [if_neg hl, if_neg hl]
   cases hf : fd l with
   | bad k => rfl
   | ok f r =>
    have := fd_len l f r hf
    simp only
    rw [fdsF_fuel n m r (by omega) (by omega)]
@[irreducible] def fds (l : List UInt8) : FsR := fdsF l.length l
theorem fds_nil : fds [] = .ok [] := by unfold fds; rfl
theorem fds_bad (l : List UInt8) (k : Nat) (hl : l ≠ []) (h : fd l = .bad k) : fds l = .bad k := by
 unfold fds
 obtain ⟨n, hn⟩ : ∃ n, l.length = n + 1 := ⟨l.length - 1, by have := List.length_pos_iff.2 hl; omega⟩
 rw [hn, fdsF, if_neg hl, h]
theorem fds_ok (l : List UInt8) (f : FdV) (r : List UInt8) (hl : l ≠ []) (h : fd l = .ok f r) : fds l = (fds r).pre [f] := by
 unfold fds
 obtain ⟨n, hn⟩ : ∃ n, l.length = n + 1 := ⟨l.length - 1, by have := List.length_pos_iff.2 hl; omega⟩
 have := fd_len l f r h
 rw [hn, fdsF, if_neg hl, h]
 simp only
 rw [fdsF_fuel n r.length r (by omega) (by omega)]

structure FdL where
 f : FdV
 A : Option Addr
 c : Nat
def FdL.cells (x : FdL) : List Value := [.int .i64 (x.f.num : Int), .bool x.f.whole, .int .u64 (x.f.n : Int), .slice x.A x.f.b.length x.c]
def FdL.chunk (x : FdL) : Chunk := .row (.slice x.A x.f.b.length x.c) 5 1 x.f.b.length (bvs x.f.b)
def cellsF (xs : List FdL) : List Value := xs.flatMap FdL.cells
def chunksF (xs : List FdL) : List Chunk := (xs.map FdL.chunk).reverse
theorem cellsF_snoc (xs : List FdL) (x : FdL) : cellsF (xs ++ [x]) = cellsF xs ++ x.cells := by simp [cellsF]
theorem chunksF_snoc (xs : List FdL) (x : FdL) : chunksF (xs ++ [x]) = x.chunk :: chunksF xs := by simp [chunksF]
def ResF (e : TypeId) (w : World) : FsR → Ending → World → Prop
 | .ok fs, r, w' => ∃ (xs : List FdL) (A : Option Addr) (c : Nat), r = .returned (.tuple #[.slice A xs.length c, .int .i64 0]) ∧ xs.map FdL.f = fs ∧ St w NoB w' (.row (.slice A xs.length c) e 4 xs.length (cellsF xs) :: chunksF xs)
 | .bad k, r, w' => r = .returned (.tuple #[.slice none 0 0, .int .i64 (k : Int)]) ∧ Below w.heap.size w w'
end Go.Proofs.YtnohmgpmmhlloaaGreatDoor.S6

namespace Go.Proofs.YtnohmgpmmhlloaaGreatDoor.S6
set_option maxRecDepth 100000
open Go.RowKit

theorem pow7 (i : Nat) : 2 ^ (7 * (i + 1)) = 128 * 2 ^ (7 * i) := by
 rw [show 7 * (i + 1) = 7 * i + 7 from by omega, Nat.pow_add, Nat.mul_comm]
theorem split7 (m P : Nat) : m % 128 * P + m / 128 * (128 * P) = m * P := by
 rw [← Nat.mul_assoc, ← Nat.add_mul]
 congr 1
 omega
theorem ofNat_toNat (m : Nat) (h : m < 256) : (UInt8.ofNat m).toNat = m := by
 rw [UInt8.toNat_ofNat', Nat.mod_eq_of_lt (by omega)]

theorem rvF_vbF : ∀ (f i m acc : Nat) (r : List UInt8), f + i = 9 → m < 2 ^ (7 * f + 1) → (0 < i → 0 < m) → rvF (vbF f m ++ r) i acc = .ok (acc + m * 2 ^ (7 * i)) r
 | 0, i, m, acc, r, hi, hm, h0 => by
  have hm2 : m < 2 := hm
  simp only [vbF, List.cons_append, List.nil_append, rvF, ofNat_toNat m (by omega)]
  rw [if_neg (by omega), if_pos (by omega)]
 | f + 1, i, m, acc, r, hi, hm, h0 => by
  simp only [vbF]
  by_cases h : m < 128
  ·rw [if_pos h]
   simp only [List.cons_append, List.nil_append, rvF, ofNat_toNat m (by omega)]
   rw [if_neg (by omega), if_pos (by omega)]
  ·rw [if_neg h]
   simp only [List.cons_append, rvF, ofNat_toNat (m % 128 + 128) (by omega)]
   rw [if_neg (by omega), if_neg (by omega)]
   have hm' : m / 128 < 2 ^ (7 * f + 1) := by
    rw [show 7 * (f + 1) + 1 = (7 * f + 1) + 7 from by omega, Nat.pow_add] at hm
    omega
   rw [rvF_vbF f (i + 1) (m / 128) _ r (by omega) hm' (by omega), pow7, Nat.add_assoc, show m % 128 + 128 - 128 = m % 128 from by omega, split7]
theorem rv_vb (n : Nat) (r : List UInt8) (h : W64 n) : rv (vb n ++ r) = .ok n r := by
 rw [rv_eq, vb_eq, rvF_vbF 9 0 n 0 r (by omega) h (by omega)]
 simp
theorem rvF_inv : ∀ (l : List UInt8) (f i acc v : Nat) (r : List UInt8), f + i = 9 → rvF l i acc = .ok v r →
  ∃ m, l = vbF f m ++ r ∧ v = acc + m * 2 ^ (7 * i) ∧ m < 2 ^ (7 * f + 1) ∧ (0 < i → 0 < m)
 | [], f, i, acc, v, r, hi, h => by simp [rvF] at h
 | c :: b, f, i, acc, v, r, hi, h => by
  simp only [rvF] at h
  have hc : c.toNat < 256 := UInt8.toNat_lt c
  by_cases hb : (i = 9 ∧ 1 < c.toNat) ∨ (0 < i ∧ c.toNat = 0)
  ·rw [if_pos hb] at h; cases h
  ·rw [if_neg hb] at h
   by_cases h1 : c.toNat < 128
   ·rw [if_pos h1] at h
    injection h with hv hr
    refine ⟨c.toNat, ?_, hv.symm, ?_, by omega⟩
    ·have hcc : UInt8.ofNat c.toNat = c := by simp
     cases f <;> simp [vbF, h1, hr]
    ·cases f with
     | zero => simp; omega
     | succ f =>
      have : (2 : Nat) ^ 8 ≤ 2 ^ (7 * (f + 1) + 1) := Nat.pow_le_pow_right (by omega) (by omega)
      omega
   ·rw [if_neg h1] at h
    cases f with
    | zero => omega
    | succ f =>
     obtain ⟨m, hl, hv, hm, h0⟩ := rvF_inv b f (i + 1) _ v r (by omega) h
     have hm0 := h0 (by omega)
     refine ⟨m * 128 + (c.toNat - 128), ?_, ?_, ?_, by omega⟩
     ·simp only [vbF]
      rw [if_neg (by omega), show (m * 128 + (c.toNat - 128)) % 128 + 128 = c.toNat from by omega, show (m * 128 + (c.toNat - 128)) / 128 = m from by omega, hl]
      simp
     ·rw [hv, pow7, Nat.add_assoc]
      congr 1
      have := split7 (m * 128 + (c.toNat - 128)) (2 ^ (7 * i))
      rw [show (m * 128 + (c.toNat - 128)) % 128 = c.toNat - 128 from by omega, show (m * 128 + (c.toNat - 128)) / 128 = m from by omega] at this
      exact this
     ·rw [show 7 * (f + 1) + 1 = (7 * f + 1) + 7 from by omega, Nat.pow_add]
      omega
theorem rv_inv (l : List UInt8) (v : Nat) (r : List UInt8) (h : rv l = .ok v r) : W64 v ∧ l = vb v ++ r := by
 rw [rv_eq] at h
 obtain ⟨m, hl, hv, hm, _⟩ := rvF_inv l 9 0 0 v r (by omega) h
 have : v = m := by simpa using hv
 subst this
 exact ⟨hm, by rw [vb_eq]; exact hl⟩

theorem mayB_iff (num : Int) : mayB num = true ↔ 1 ≤ num ∧ num ≤ 100 := by unfold mayB; simp
theorem numF_tag (num : Int) (w : Nat) (h : mayB num = true) (hw : w < 8) : ((numF (8 * num.toNat + w) : Nat) : Int) = num ∧ numF (8 * num.toNat + w) = num.toNat := by
 have := (mayB_iff num).1 h
 unfold numF
 omega
theorem w64_small (n : Nat) (h : n ≤ 1000000) : W64 n := by unfold W64; omega
theorem rw_put (b r : List UInt8) (h : b.length ≤ 65536) : rw_ (vb b.length ++ (b ++ r)) = .ok b r := by
 rw [rw_ok _ b.length (b ++ r) (rv_vb _ _ (w64_small _ (by omega))) (by simp)]
 simp
theorem fd_putR (num : Int) (b r : List UInt8) (h : mayB num = true) (hb : b.length ≤ 65536) : fd (putR num b ++ r) = .ok ⟨num.toNat, true, 0, b⟩ r := by
 have hm := (mayB_iff num).1 h
 obtain ⟨e1, e2⟩ := numF_tag num 2 h (by omega)
 rw [putR_yes num b h hb, List.append_assoc, List.append_assoc]
 have := fd_raw _ (8 * num.toNat + 2) (vb b.length ++ (b ++ r)) b r (rv_vb _ _ (w64_small _ (by omega))) (by omega) (by rw [e1]; exact h) (rw_put b r hb)
 rw [this, e2]
theorem vb_ne (n : Nat) : vb n ≠ [] := fun h => by have := (vb_len n).2; rw [h] at this; simp at this
theorem putR_ne (num : Int) (b : List UInt8) (h : mayB num = true) (hb : b.length ≤ 65536) : putR num b ≠ [] := by
 rw [putR_yes num b h hb]
 simp [vb_ne]

def putF (f : FdV) : List UInt8 := if f.whole then putR f.num f.b else putI f.num f.n
structure FdOK (f : FdV) : Prop where
 may : mayB f.num = true
 n : W64 f.n
theorem fd_inv (l : List UInt8) (f : FdV) (r : List UInt8) (hl : l.length ≤ 65536) (h : fd l = .ok f r) : l = putF f ++ r ∧ FdOK f ∧ f.b.length + r.length ≤ l.length := by
 cases hv : rv l with
 | bad k => rw [fd_bad l k hv] at h; cases h
 | ok tag rest =>
  obtain ⟨hw, hl1⟩ := rv_inv l tag rest hv
  have hlen := rv_len l tag rest hv
  by_cases hc : (tag % 8 = 0 ∨ tag % 8 = 2) ∧ mayB (numF tag) = true
  ·obtain ⟨hc, hm⟩ := hc
   have hm' := (mayB_iff _).1 hm
   have ht : numF tag = tag / 8 := by
    have h2 : numF tag ≤ 100 := by omega
    unfold numF at h2 ⊢
    omega
   by_cases h0 : tag % 8 = 0
   ·cases h2 : rv rest with
    | bad k => rw [fd_numBad l tag k rest hv h0 hm h2] at h; cases h
    | ok n r' =>
     rw [fd_num l tag n rest r' hv h0 hm h2] at h
     injection h with hf hr
     subst hr
     subst hf
     obtain ⟨hw2, hl2⟩ := rv_inv rest n r' h2
     have := rv_len rest n r' h2
     refine ⟨?_, ⟨hm, hw2⟩, by simp; omega⟩
     unfold putF
     rw [if_neg (by simp), putI_yes _ _ hm, List.append_assoc, ← hl2, show 8 * ((numF tag : Nat) : Int).toNat = tag from by omega]
     exact hl1
   ·have h0' : tag % 8 = 2 := by omega
    cases h2 : rw_ rest with
    | bad k => rw [fd_rawBad l tag k rest hv h0' hm h2] at h; cases h
    | ok b r' =>
     rw [fd_raw l tag rest b r' hv h0' hm h2] at h
     injection h with hf hr
     subst hr
     subst hf
     cases h3 : rv rest with
     | bad k => rw [rw_bad rest k h3] at h2; cases h2
     | ok n rest2 =>
      obtain ⟨hw2, hl2⟩ := rv_inv rest n rest2 h3
      have := rv_len rest n rest2 h3
      by_cases hn : n ≤ rest2.length
      ·rw [rw_ok rest n rest2 h3 hn] at h2
       injection h2 with hb hr
       have hbl : b.length = n := by rw [← hb, List.length_take]; omega
       have hcat : rest2 = b ++ r' := by rw [← hb, ← hr, List.take_append_drop]
       have hlen2 : rest2.length = b.length + r'.length := by rw [hcat, List.length_append]
       refine ⟨?_, ⟨hm, by unfold W64; dsimp only; omega⟩, by dsimp only; omega⟩
       unfold putF
       rw [if_pos rfl, putR_yes _ _ hm (by dsimp only; omega)]
       dsimp only
       rw [hbl, List.append_assoc, List.append_assoc, ← hcat, ← hl2, show 8 * ((numF tag : Nat) : Int).toNat + 2 = tag from by omega]
       exact hl1
      ·rw [rw_short rest n rest2 h3 hn] at h2; cases h2
  ·rw [fd_no l tag rest hv hc] at h; cases h
theorem fds_inv : ∀ (n : Nat) (l : List UInt8) (fs : List FdV), l.length ≤ n → l.length ≤ 65536 → fds l = .ok fs → l = fs.flatMap putF ∧ ∀ f ∈ fs, FdOK f ∧ f.b.length ≤ l.length
 | n, [], fs, _, _, h => by
  rw [fds_nil] at h
  injection h with h
  subst h
  exact ⟨rfl, fun f hf => by cases hf⟩
 | 0, c :: l, fs, hn, _, h => by simp at hn
 | n + 1, c :: l, fs, hn, hl, h => by
  cases hf : fd (c :: l) with
  | bad k => rw [fds_bad _ k (by simp) hf] at h; cases h
  | ok f r =>
   rw [fds_ok _ f r (by simp) hf] at h
   obtain ⟨h1, h2, h3⟩ := fd_inv _ f r hl hf
   have hlr := fd_len _ f r hf
   cases hr : fds r with
   | bad k => rw [hr] at h; cases h
   | ok gs =>
    rw [hr] at h
    injection h with h
    obtain ⟨h4, h5⟩ := fds_inv n r gs (by omega) (by omega) hr
    subst h
    refine ⟨by rw [h1]; simp [← h4], fun g hg => ?_⟩
    rcases List.mem_cons.1 (by simpa using hg) with rfl | hg
    ·exact ⟨h2, by omega⟩
    ·have := h5 g hg
     exact ⟨this.1, by omega⟩

end Go.Proofs.YtnohmgpmmhlloaaGreatDoor.S6

namespace Go.Proofs.YtnohmgpmmhlloaaGreatDoor.S6
set_option maxRecDepth 100000
open Go.RowKit
theorem fds_putR (num : Int) (b r : List UInt8) (hm : mayB num = true) (hb : b.length ≤ 65536) : fds (putR num b ++ r) = (fds r).pre [⟨num.toNat, true, 0, b⟩] :=
 fds_ok _ _ _ (fun h => putR_ne num b hm hb (List.append_eq_nil_iff.1 h).1) (fd_putR num b r hm hb)
theorem fdsF_bads : ∀ (n : Nat) (l : List UInt8) (k : Nat), fdsF n l = .bad k → k = 2 ∨ k = 3
 | 0, _, _, h => by unfold fdsF at h; cases h
 | n + 1, l, k, h => by
  unfold fdsF at h
  by_cases hl : l = []
  ·rw [if_pos hl] at h; cases h
  ·rw [if_neg hl] at h
   cases hf : fd l with
   | bad j => rw [hf] at h; injection h with h; subst h; exact fd_bads l _ hf
   | ok f r =>
    rw [hf] at h
    cases hr : fdsF n r with
    | bad j =>
     replace h : (fdsF n r).pre [f] = .bad k := h
     rw [hr] at h
     injection h with h
     subst h
     exact fdsF_bads n r _ hr
    | ok x =>
     replace h : (fdsF n r).pre [f] = .bad k := h
     rw [hr] at h
     cases h
theorem fds_bads (l : List UInt8) (k : Nat) (h : fds l = .bad k) : k = 2 ∨ k = 3 := by
 unfold fds at h
 exact fdsF_bads _ _ _ h
theorem fdsF_len : ∀ (n : Nat) (l : List UInt8) (fs : List FdV), fdsF n l = .ok fs → fs.length ≤ l.length
 | 0, _, fs, h => by
  unfold fdsF at h
  injection h with h
  subst h
  exact Nat.zero_le _
 | n + 1, l, fs, h => by
  unfold fdsF at h
  by_cases hl : l = []
  ·rw [if_pos hl] at h
   injection h with h
   subst h
   exact Nat.zero_le _
  ·rw [if_neg hl] at h
   cases hf : fd l with
   | bad j => rw [hf] at h; cases h
   | ok f r =>
    rw [hf] at h
    replace h : (fdsF n r).pre [f] = .ok fs := h
    have hlen := fd_len l f r hf
    cases hr : fdsF n r with
    | bad j => rw [hr] at h; cases h
    | ok x =>
     rw [hr] at h
     injection h with h
     have := fdsF_len n r x hr
     rw [← h, List.length_append, List.length_singleton]
     omega
theorem fds_len (l : List UInt8) (fs : List FdV) (h : fds l = .ok fs) : fs.length ≤ l.length := by
 unfold fds at h
 exact fdsF_len _ _ _ h
def spEnc (x : Sp) : List UInt8 := if x.k.length + x.v.length = 0 then accL [x.b, x.n, x.s] 3 else accL [x.b, x.n, x.s, x.k, x.v] 5
theorem accL3 (a b c : List UInt8) : accL [a, b, c] 3 = putR 1 a ++ (putR 2 b ++ (putR 3 c ++ [])) := rfl
theorem accL5 (a b c d e : List UInt8) : accL [a, b, c, d, e] 5 = putR 1 a ++ (putR 2 b ++ (putR 3 c ++ (putR 4 d ++ (putR 5 e ++ [])))) := rfl
def blksL (l : List Sp) : List UInt8 := l.flatMap fun x => putR 1 (spEnc x)
def encL (p : Tp) : List UInt8 := (blksL p.l ++ someL 2 p.e) ++ someL 3 p.z
def spLen (x : Sp) : Nat := x.b.length + x.n.length + x.s.length + x.k.length + x.v.length
def totL (l : List Sp) : Nat := (l.map spLen).sum
theorem spEnc_le (x : Sp) : (spEnc x).length ≤ spLen x + 100 := by
 have h1 := putR_le 1 x.b
 have h2 := putR_le 2 x.n
 have h3 := putR_le 3 x.s
 have h4 := putR_le 4 x.k
 have h5 := putR_le 5 x.v
 unfold spEnc spLen
 split
 ·rw [accL3]
  simp only [List.length_append, List.length_nil]
  omega
 ·rw [accL5]
  simp only [List.length_append, List.length_nil]
  omega
theorem blksL_le : ∀ l : List Sp, (blksL l).length ≤ totL l + 120 * l.length
 | [] => by simp [blksL, totL]
 | x :: l => by
  have ih := blksL_le l
  have h1 := putR_le 1 (spEnc x)
  have h2 := spEnc_le x
  unfold blksL totL at ih ⊢
  rw [List.flatMap_cons, List.length_append, List.map_cons, List.sum_cons, List.length_cons]
  omega
theorem blksL_snoc (l : List Sp) (x : Sp) : blksL (l ++ [x]) = blksL l ++ putR 1 (spEnc x) := by
 unfold blksL
 rw [List.flatMap_append, List.flatMap_cons, List.flatMap_nil, List.append_nil]
theorem blksL_app (l m : List Sp) : blksL (l ++ m) = blksL l ++ blksL m := List.flatMap_append
theorem someL_le (num : Int) (b : List UInt8) : (someL num b).length ≤ b.length + 20 := by
 unfold someL
 split
 ·simp
 ·exact putR_le num b
theorem encL_le (p : Tp) : (encL p).length ≤ totL p.l + 120 * p.l.length + p.e.length + p.z.length + 40 := by
 have h1 := blksL_le p.l
 have h2 := someL_le 2 p.e
 have h3 := someL_le 3 p.z
 unfold encL
 rw [List.length_append, List.length_append]
 omega
def rise : Nat → List FdV → Bool
 | _, [] => true
 | last, f :: fs => f.whole && (decide (f.num ≤ 5) && (decide (last < f.num) && rise f.num fs))
def look (l : List FdV) (j : Nat) : List UInt8 := match l.find? (fun f => f.num == j) with | some f => f.b | none => []
def hasN (l : List FdV) (j : Nat) : Nat := match l.find? (fun f => f.num == j) with | some _ => 1 | none => 0
def sgR (fs : List FdV) : Option Sp := if rise 0 fs = true ∧ hasN fs 1 + hasN fs 2 + hasN fs 3 = 3 ∧ hasN fs 4 = hasN fs 5 then some ⟨look fs 1, look fs 2, look fs 3, look fs 4, look fs 5⟩ else none
inductive SgQ where
 | ok (x : Sp)
 | bad (k : Nat)
def sgB (b : List UInt8) : SgQ := match fds b with
 | .bad k => .bad k
 | .ok fs => match sgR fs with
  | none => .bad 3
  | some x => .ok x
def tkF : Nat → Tp → List FdV → Rz
 | _, t, [] => ⟨0, t⟩
 | last, t, f :: fs =>
  if f.whole = false ∨ f.num < last ∨ (f.num = last ∧ f.num ≠ 1) then ⟨3, tp0⟩
  else if f.num = 1 then match sgB f.b with
   | .bad k => ⟨k, tp0⟩
   | .ok x => tkF 1 ⟨t.r, t.l ++ [x], t.e, t.z⟩ fs
  else if f.num = 2 then tkF 2 ⟨t.r, t.l, f.b, t.z⟩ fs
  else if f.num = 3 then tkF 3 ⟨t.r, t.l, t.e, f.b⟩ fs
  else ⟨3, tp0⟩
def decRz (raw root : List UInt8) : Rz := match fds raw with
 | .bad k => ⟨k, tp0⟩
 | .ok fs => if (tkF 0 ⟨root, [], [], []⟩ fs).c ≠ 0 then ⟨(tkF 0 ⟨root, [], [], []⟩ fs).c, tp0⟩ else if (tkF 0 ⟨root, [], [], []⟩ fs).p.l.length = 0 ∨ 8 < (tkF 0 ⟨root, [], [], []⟩ fs).p.l.length then ⟨3, tp0⟩ else ⟨0, (tkF 0 ⟨root, [], [], []⟩ fs).p⟩
def Sp.tiny (x : Sp) : Prop := x.b.length ≤ 5000 ∧ x.n.length ≤ 5000 ∧ x.s.length ≤ 5000 ∧ x.k.length ≤ 5000 ∧ x.v.length ≤ 5000
theorem tiny_enc {x : Sp} (h : Sp.tiny x) : (spEnc x).length ≤ 25100 := by
 have := spEnc_le x
 obtain ⟨h1, h2, h3, h4, h5⟩ := h
 unfold spLen at this
 omega
theorem fds_enc (x : Sp) (h : Sp.tiny x) : fds (spEnc x) = .ok (if x.k.length + x.v.length = 0 then [⟨1, true, 0, x.b⟩, ⟨2, true, 0, x.n⟩, ⟨3, true, 0, x.s⟩] else [⟨1, true, 0, x.b⟩, ⟨2, true, 0, x.n⟩, ⟨3, true, 0, x.s⟩, ⟨4, true, 0, x.k⟩, ⟨5, true, 0, x.v⟩]) := by
 obtain ⟨h1, h2, h3, h4, h5⟩ := h
 unfold spEnc
 split
 ·rw [accL3, fds_putR 1 _ _ (by decide) (by omega), fds_putR 2 _ _ (by decide) (by omega), fds_putR 3 _ _ (by decide) (by omega), fds_nil]
  rfl
 ·rw [accL5, fds_putR 1 _ _ (by decide) (by omega), fds_putR 2 _ _ (by decide) (by omega), fds_putR 3 _ _ (by decide) (by omega), fds_putR 4 _ _ (by decide) (by omega), fds_putR 5 _ _ (by decide) (by omega), fds_nil]
  rfl
theorem sgB_enc (x : Sp) (h : Sp.tiny x) : sgB (spEnc x) = .ok x := by
 obtain ⟨b, n, s, k, v⟩ := x
 unfold sgB
 rw [fds_enc _ h]
 by_cases h0 : k.length + v.length = 0
 ·obtain rfl : k = [] := List.eq_nil_of_length_eq_zero (by omega)
  obtain rfl : v = [] := List.eq_nil_of_length_eq_zero (by omega)
  rfl
 ·rw [if_neg (show ¬ (Sp.k ⟨b, n, s, k, v⟩).length + (Sp.v ⟨b, n, s, k, v⟩).length = 0 from h0)]
  rfl
theorem tkF_blks : ∀ (l : List Sp) (last : Nat) (t : Tp) (fs : List FdV), last ≤ 1 → (∀ x ∈ l, Sp.tiny x) → ∃ last', last' ≤ 1 ∧ tkF last t (l.map (fun x => (⟨1, true, 0, spEnc x⟩ : FdV)) ++ fs) = tkF last' ⟨t.r, t.l ++ l, t.e, t.z⟩ fs
 | [], last, t, fs, h, _ => ⟨last, h, by rw [List.append_nil]; rfl⟩
 | x :: l, last, t, fs, h, hx => by
  obtain ⟨q, hq, e⟩ := tkF_blks l 1 ⟨t.r, t.l ++ [x], t.e, t.z⟩ fs (Nat.le_refl _) fun y hy => hx y (List.mem_cons_of_mem _ hy)
  refine ⟨q, hq, ?_⟩
  rw [List.map_cons, List.cons_append]
  rw [tkF]
  rw [if_neg (by simp; omega), if_pos rfl]
  show (match sgB (spEnc x) with | .bad k => _ | .ok x => _) = _
  rw [sgB_enc x (hx x (List.mem_cons_self ..))]
  show tkF 1 ⟨t.r, t.l ++ [x], t.e, t.z⟩ _ = _
  rw [e]
  show tkF q ⟨t.r, (t.l ++ [x]) ++ l, t.e, t.z⟩ fs = _
  rw [List.append_assoc]
  rfl
theorem fds_blks : ∀ (l : List Sp) (r : List UInt8), (∀ x ∈ l, Sp.tiny x) → fds (blksL l ++ r) = (fds r).pre (l.map fun x => (⟨1, true, 0, spEnc x⟩ : FdV))
 | [], r, _ => by rw [List.map_nil, FsR.pre_nil]; rfl
 | x :: l, r, h => by
  have ih := fds_blks l r fun y hy => h y (List.mem_cons_of_mem _ hy)
  have hx := tiny_enc (h x (List.mem_cons_self ..))
  rw [show blksL (x :: l) ++ r = putR 1 (spEnc x) ++ (blksL l ++ r) from by unfold blksL; rw [List.flatMap_cons, List.append_assoc], fds_putR 1 _ _ (by decide) (by omega), ih, FsR.pre_pre]
  rfl
def someF (num : Nat) (b : List UInt8) : List FdV := if b.length = 0 then [] else [⟨num, true, 0, b⟩]
theorem fds_some2 (b r : List UInt8) (h : b.length ≤ 65536) : fds (someL 2 b ++ r) = (fds r).pre (someF 2 b) := by
 unfold someL someF
 split
 ·rw [FsR.pre_nil]; rfl
 ·rw [fds_putR 2 _ _ (by decide) h]; rfl
theorem fds_some3 (b r : List UInt8) (h : b.length ≤ 65536) : fds (someL 3 b ++ r) = (fds r).pre (someF 3 b) := by
 unfold someL someF
 split
 ·rw [FsR.pre_nil]; rfl
 ·rw [fds_putR 3 _ _ (by decide) h]; rfl
structure Tiny (p : Tp) : Prop where
 n0 : 0 < p.l.length
 n8 : p.l.length ≤ 8
 e : p.e.length ≤ 5000
 z : p.z.length ≤ 5000
 l : ∀ x ∈ p.l, Sp.tiny x
theorem dec_enc (p : Tp) (h : Tiny p) : decRz (encL p) p.r = ⟨0, p⟩ := by
 obtain ⟨r, l, e, z⟩ := p
 obtain ⟨h0, h8, he, hz, hl⟩ := h
 have hf : fds (encL ⟨r, l, e, z⟩) = .ok (l.map (fun x => (⟨1, true, 0, spEnc x⟩ : FdV)) ++ (someF 2 e ++ (someF 3 z ++ []))) := by
  show fds ((blksL l ++ someL 2 e) ++ someL 3 z) = _
  rw [List.append_assoc, fds_blks l _ hl, fds_some2 e _ (by exact Nat.le_trans he (by decide)), show someL 3 z = someL 3 z ++ [] from (List.append_nil _).symm, fds_some3 z _ (by exact Nat.le_trans hz (by decide)), fds_nil]
  rfl
 have ht : tkF 0 ⟨r, [], [], []⟩ (l.map (fun x => (⟨1, true, 0, spEnc x⟩ : FdV)) ++ (someF 2 e ++ (someF 3 z ++ []))) = ⟨0, ⟨r, l, e, z⟩⟩ := by
  obtain ⟨q, hq, e1⟩ := tkF_blks l 0 ⟨r, [], [], []⟩ (someF 2 e ++ (someF 3 z ++ [])) (by decide) hl
  rw [e1]
  unfold someF
  by_cases c2 : e.length = 0
  ·obtain rfl : e = [] := List.eq_nil_of_length_eq_zero c2
   rw [if_pos c2]
   by_cases c3 : z.length = 0
   ·obtain rfl : z = [] := List.eq_nil_of_length_eq_zero c3
    rw [if_pos c3]
    rfl
   ·rw [if_neg c3]
    show tkF q _ [⟨3, true, 0, z⟩] = _
    unfold tkF
    rw [if_neg (by simp; omega)]
    rfl
  ·rw [if_neg c2]
   show tkF q _ (⟨2, true, 0, e⟩ :: _) = _
   unfold tkF
   rw [if_neg (by simp; omega)]
   by_cases c3 : z.length = 0
   ·obtain rfl : z = [] := List.eq_nil_of_length_eq_zero c3
    rw [if_pos c3]
    rfl
   ·rw [if_neg c3]
    rfl
 unfold decRz
 rw [hf]
 show (if (tkF 0 ⟨r, [], [], []⟩ _).c ≠ 0 then _ else _) = _
 rw [ht, if_neg (by simp), if_neg (show ¬ (l.length = 0 ∨ 8 < l.length) by have a0 : 0 < l.length := h0; have a8 : l.length ≤ 8 := h8; omega)]
end Go.Proofs.YtnohmgpmmhlloaaGreatDoor.S6

namespace Go.Proofs.YtnohmgpmmhlloaaGreatDoor.S6
set_option maxRecDepth 100000
open Go.RowKit

theorem tyF : RowTy Tryz.prog 89 93 4 48 := rowTy_of (z := .agg #[.int .i64 0, .bool false, .int .u64 0, .slice none 0 0]) (by kernel_rfl) (by kernel_rfl) (by kernel_rfl) (by decide)

def FieldsRel (w : World) (g : Nat) (A : Option Addr) (c : Nat) (l : List UInt8) (left : Nat) (v : Value) (wr : World) : Prop :=
 (∃ (xs : List FdL) (r : List UInt8) (B : Option Addr) (d : Nat) (A' : Option Addr) (c' : Nat), v = .slice B xs.length d ∧ left = r.length ∧ xs.length + r.length ≤ l.length ∧
  St w NoB wr (RdrC g A' r.length c' 0 (.row (.slice B xs.length d) 93 4 xs.length (cellsF xs) :: chunksF xs)) ∧ CutR A c l A' c' r ∧ fds l = (fds r).pre (xs.map FdL.f)) ∨
 (∃ (k n' : Nat) (B : Option Addr) (n d : Nat) (A' : Option Addr) (c' : Nat), v = .slice B n d ∧ left = 0 ∧ (k = 2 ∨ k = 3) ∧ St w NoB wr (RdrC g A' n' c' k []) ∧ fds l = .bad k)

theorem fields_walk (w : World) (A : Option Addr) (c : Nat) (l : List UInt8) (hl : l.length ≤ 65536) (hr : Rd w (.slice A l.length c) 1 l.length (bvs l)) :
  Calls Tryz.prog 64 #[.slice A l.length c] w (ResF 93 w (fds l)) := by
 have hle : decide (65536 < (l.length : Int)) = false := by simp; omega
 have hS0 : St w NoB (w.alloc (.cells #[.slice A l.length c, .int .i64 0] 143)) (RdrC w.heap.size A l.length c 0 (.row (.slice none 0 0) 93 4 0 [] :: [])) := (((St.init w NoB).alloc #[.slice A l.length c, .int .i64 0] 143).row (Below.refl _ _) (World.ownsRow_nil _ _ _ _)).swap
 have HR := hide hr
 have HS := hide hS0
 clear hr hS0
 go_enter Tryz.func64, Tryz.ntmps64
 go_wp2_with fail
 go_loopg [6] (l.length + 1) (fun left v wr => ∃ k, left = k + 1 ∧ FieldsRel w w.heap.size A c l k v wr)
 case atStart => exact ⟨_, rfl, .inl ⟨[], l, none, 0, A, c, rfl, rfl, by simp, HS.out, fun _ h => h, (FsR.pre_nil _).symm⟩⟩
 case round =>
  obtain ⟨k0, rfl, hrel⟩ := hrel
  rcases hrel with ⟨xs, r, B, d, A', c', rfl, rfl, hxl, hS, hcr, hfd⟩ | ⟨k, n', B, n, d, A', c', rfl, rfl, hk, hS, hfd⟩
  ·have hc0 : wr.cell? ⟨w.heap.size, 0, none⟩ = some (.slice A' r.length c') := hS.cell 0 rfl 0
   have hc1 : wr.cell? ⟨w.heap.size, 1, none⟩ = some (.int .i64 0) := hS.cell 0 rfl 1
   by_cases hr0 : r = []
   ·subst hr0
    rw [fds_nil] at hfd
    have hd0 : decide ((0 : Int) < (([] : List UInt8).length : Int)) = false := rfl
    have HF := hide hfd
    have HX := hide hxl
    clear hfd hxl
    go_wp2_with fail
    go_ret2
    rw [HF.out]
    refine ⟨xs, B, d, rfl, by simp [FsR.pre], hS.tail⟩
   ·have hpos : 0 < r.length := List.length_pos_iff.2 hr0
    have hd0 : decide ((0 : Int) < (r.length : Int)) = true := by simp; omega
    have F := field_walk w.heap.size A' c' r (by omega) (hcr.rdH HR.out.rdH) hS
    cases hf : fd r with
    | ok f r' =>
     have hlen := fd_len r f r' hf
     have HF := hide (show fds l = (fds r').pre ((xs.map FdL.f) ++ [f]) by rw [hfd, fds_ok r f r' hr0 hf, FsR.pre_pre])
     rw [hf] at F
     have FF := hide F
     have HX := hide hxl
     clear F hfd hS hf hxl
     unfold P0 at *
     go_wp2_with (first
      | (go_at_call 113; refine FF.out.mono ?_; rintro e w2 ⟨B2, d2, rfl, A2, a2, hS2, hr2⟩)
      | (at_builtin; refine wl_appendN rfl rfl tyF hS2 2 rfl rfl (us := [_, _, _, _]) rfl rfl ?_ ?_ (by decide) ?_; (intro u hu; simp only [List.mem_cons, List.not_mem_nil, or_false] at hu; rcases hu with rfl | rfl | rfl | rfl <;> rfl); (have := HX.out; omega); intro B3 d3 w3 hS3))
     go_roundg (r'.length + 1)
     case rel =>
      refine ⟨_, rfl, .inl ⟨xs ++ [⟨f, B2, d2⟩], r', B3, d3, A2, a2, by simp, rfl, ?_, ?_, hcr.trans hr2, ?_⟩⟩
      ·have := HX.out
       simp only [List.length_append, List.length_singleton]
       omega
      ·rw [cellsF_snoc, chunksF_snoc, List.length_append, List.length_singleton]
       exact St.swap12 hS3
      ·rw [HF.out, List.map_append]
       rfl
     case measure => omega
    | bad k =>
     have hk := fd_bads r k hf
     have HF := hide (show fds l = .bad k by rw [hfd, fds_bad r k hr0 hf]; rfl)
     rw [hf] at F
     have FF := hide F
     have HX := hide hxl
     have HK := hide hk
     clear F hfd hS hf hxl hk
     unfold P0 at *
     go_wp2_with (first
      | (go_at_call 113; refine FF.out.mono ?_; rintro e w2 ⟨x1, x2, x3, B2, m2, d2, rfl, A2, n2, a2, hS2⟩)
      | (at_builtin; refine wl_appendN rfl rfl tyF hS2 1 rfl rfl (us := [_, _, _, _]) rfl rfl ?_ ?_ (by decide) ?_; (intro u hu; simp only [List.mem_cons, List.not_mem_nil, or_false] at hu; rcases hu with rfl | rfl | rfl | rfl <;> rfl); (have := HX.out; omega); intro B3 d3 w3 hS3))
     go_roundg 1
     case rel => exact ⟨_, rfl, .inr ⟨k, n2, B3, _, d3, A2, a2, rfl, rfl, HK.out, hS3.pickL [0] (by decide) rfl, HF.out⟩⟩
     case measure => omega
  ·have hc0 : wr.cell? ⟨w.heap.size, 0, none⟩ = some (.slice A' n' c') := hS.cell 0 rfl 0
   have hc1 : wr.cell? ⟨w.heap.size, 1, none⟩ = some (.int .i64 (k : Int)) := hS.cell 0 rfl 1
   have hk1 : ((k : Int) == 0) = false := by rcases hk with rfl | rfl <;> rfl
   have hk2 : ((k : Int) != 0) = true := by rcases hk with rfl | rfl <;> rfl
   have HF := hide hfd
   clear hfd hk
   by_cases hn : n' = 0
   ·subst hn
    go_wp2_with fail
    go_quiet (fail)
    go_wp2_with fail
    go_ret2
    rw [HF.out]
    exact ⟨rfl, (hS.drewN _).below⟩
   ·have hd0 : decide ((0 : Int) < (n' : Int)) = true := by simp; omega
    go_wp2_with fail
    go_quiet (fail)
    go_wp2_with fail
    go_ret2
    rw [HF.out]
    exact ⟨rfl, (hS.drewN _).below⟩
end Go.Proofs.YtnohmgpmmhlloaaGreatDoor.S6

namespace Go.Proofs.YtnohmgpmmhlloaaGreatDoor.S6
set_option maxRecDepth 100000
open Go.RowKit
set_option linter.unusedSimpArgs false
def arr6 (f : Nat → Value) : Array Value := #[f 0, f 1, f 2, f 3, f 4, f 5]
theorem arr6_get (f : Nat → Value) {k : Nat} (h : k < 6) : (arr6 f)[k]? = some (f k) := by
 rcases (show k = 0 ∨ k = 1 ∨ k = 2 ∨ k = 3 ∨ k = 4 ∨ k = 5 by omega) with rfl | rfl | rfl | rfl | rfl | rfl <;> rfl
theorem arr6_set (f : Nat → Value) {k : Nat} (h : k < 6) (v : Value) : (arr6 f).setIfInBounds k v = arr6 (fun j => if j = k then v else f j) := by
 rcases (show k = 0 ∨ k = 1 ∨ k = 2 ∨ k = 3 ∨ k = 4 ∨ k = 5 by omega) with rfl | rfl | rfl | rfl | rfl | rfl <;> rfl
def lookV (xs : List FdL) (j : Nat) : PcV := match xs.find? (fun x => x.f.num == j) with | some x => ⟨x.A, x.c, x.f.b⟩ | none => pc0
def hasV (xs : List FdL) (j : Nat) : Nat := match xs.find? (fun x => x.f.num == j) with | some _ => 1 | none => 0
theorem look_map (xs : List FdL) (j : Nat) : (lookV xs j).b = look (xs.map FdL.f) j := by
 unfold lookV look
 rw [List.find?_map]
 show _ = (match ((xs.find? (fun x => x.f.num == j)).map FdL.f) with | some f => f.b | none => [])
 cases xs.find? (fun x => x.f.num == j) <;> rfl
theorem has_map (xs : List FdL) (j : Nat) : hasV xs j = hasN (xs.map FdL.f) j := by
 unfold hasV hasN
 rw [List.find?_map]
 show _ = (match ((xs.find? (fun x => x.f.num == j)).map FdL.f) with | some _ => 1 | none => 0)
 cases xs.find? (fun x => x.f.num == j) <;> rfl
theorem look_ch {xs : List FdL} {G : List Chunk} (j : Nat) (h0 : pc0.ch ∈ G) (h : ∀ x ∈ xs, FdL.chunk x ∈ G) : (lookV xs j).ch ∈ G := by
 unfold lookV
 cases e : xs.find? (fun x => x.f.num == j) with
 | none => exact h0
 | some x => exact h x (List.mem_of_find?_eq_some e)
theorem find_none {xs : List FdL} {m : Nat} (h : ∀ y ∈ xs, y.f.num < m) : xs.find? (fun x => x.f.num == m) = none := by
 rw [List.find?_eq_none]
 intro y hy
 have := h y hy
 simp
 omega
theorem lookV_snoc (xs : List FdL) (x : FdL) (h : ∀ y ∈ xs, y.f.num < x.f.num) (j : Nat) : lookV (xs ++ [x]) j = if j = x.f.num then ⟨x.A, x.c, x.f.b⟩ else lookV xs j := by
 unfold lookV
 rw [List.find?_append]
 by_cases e : j = x.f.num
 ·subst e
  rw [if_pos rfl, find_none h]
  simp
 ·rw [if_neg e, show List.find? (fun y => y.f.num == j) [x] = none by simp; omega, Option.or_none]
theorem hasV_snoc (xs : List FdL) (x : FdL) (h : ∀ y ∈ xs, y.f.num < x.f.num) (j : Nat) : hasV (xs ++ [x]) j = if j = x.f.num then 1 else hasV xs j := by
 unfold hasV
 rw [List.find?_append]
 by_cases e : j = x.f.num
 ·subst e
  rw [if_pos rfl, find_none h]
  simp
 ·rw [if_neg e, show List.find? (fun y => y.f.num == j) [x] = none by simp; omega, Option.or_none]
theorem hasV_new (xs : List FdL) (m : Nat) (h : ∀ y ∈ xs, y.f.num < m) : hasV xs m = 0 := by
 unfold hasV
 rw [find_none h]
theorem hasN_le (l : List FdV) (j : Nat) : hasN l j ≤ 1 := by
 unfold hasN
 split <;> decide
theorem fd_at {w : World} {B : Option Addr} {n d : Nat} {l : List FdL} {k : Nat} {x : FdL} (h : Rd w (.slice B n d) 4 n (cellsF l)) (hk : l[k]? = some x) : ∃ b o, B = some ⟨b, o, none⟩ ∧ b < w.heap.size ∧ ∀ w', Below w.heap.size w w' →
  w'.cell? ⟨b, o + k * 4, none⟩ = some (.int .i64 (x.f.num : Int)) ∧ w'.cell? ⟨b, o + k * 4 + 1, none⟩ = some (.bool x.f.whole) ∧ w'.cell? ⟨b, o + k * 4 + 2, none⟩ = some (.int .u64 (x.f.n : Int)) ∧ w'.cell? ⟨b, o + k * 4 + 3, none⟩ = some (.slice x.A x.f.b.length x.c) := by
 have gt : ∀ j, j < 4 → (cellsF l)[k * 4 + j]? = x.cells[j]? := fun j hj => flat_get FdL.cells 4 (fun _ => rfl) l k j x hk hj
 obtain ⟨b, o, rfl, hb, h0⟩ := rd_atG h (k := k * 4) ((gt 0 (by omega)).trans rfl)
 have get : ∀ j u, j < 4 → x.cells[j]? = some u → w.cell? ⟨b, o + k * 4 + j, none⟩ = some u := fun j u hj hu => by
  obtain ⟨b', o', e, _, h1⟩ := rd_atG h (k := k * 4 + j) (u := u) ((gt j hj).trans hu)
  injection e with e
  injection e with e1 e2 _
  subst e1 e2
  rw [Nat.add_assoc]
  exact h1
 refine ⟨b, o, rfl, hb, fun w' hw => ?_⟩
 have k1 : ∀ j, w'.cell? ⟨b, j, none⟩ = w.cell? ⟨b, j, none⟩ := fun j => hw.cell (p := ⟨b, j, none⟩) hb
 exact ⟨(k1 _).trans (get 0 _ (by omega) rfl), (k1 _).trans (get 1 _ (by omega) rfl), (k1 _).trans (get 2 _ (by omega) rfl), (k1 _).trans (get 3 _ (by omega) rfl)⟩
theorem szField : (Tryz.prog.info? 93).map (·.size) = some 4 := by kernel_rfl
theorem oneF {a n : Int} {b : Bool} {A : Option Addr} {m c : Nat} : ∀ v ∈ [Value.int .i64 a, .bool b, .int .u64 n, .slice A m c], v.oneCell' = true := by
 intro v hv
 simp only [List.mem_cons, List.not_mem_nil, or_false] at hv
 rcases hv with rfl | rfl | rfl | rfl <;> rfl
def SgD (w : World) : SgQ → Ending → World → Prop
 | .ok x, e, w' => ∃ (y : Sg) (G : List Chunk), e = .returned (.tuple #[y.val, .int .i64 0]) ∧ y.p = x ∧ SgIn G y ∧ St w NoB w' G
 | .bad k, e, w' => e = .returned (.tuple #[.agg #[.slice none 0 0, .slice none 0 0, .slice none 0 0, .slice none 0 0, .slice none 0 0], .int .i64 (k : Int)]) ∧ Below w.heap.size w w'
theorem sgB_bad {l : List UInt8} {k : Nat} (h : fds l = .bad k) : sgB l = .bad k := by unfold sgB; rw [h]
theorem sgB_none {l : List UInt8} {fs : List FdV} (h : fds l = .ok fs) (h2 : sgR fs = none) : sgB l = .bad 3 := by unfold sgB; rw [h]; show (match sgR fs with | none => _ | some x => _) = _; rw [h2]
theorem sgB_some {l : List UInt8} {fs : List FdV} {x : Sp} (h : fds l = .ok fs) (h2 : sgR fs = some x) : sgB l = .ok x := by unfold sgB; rw [h]; show (match sgR fs with | none => _ | some x => _) = _; rw [h2]
theorem sgR_no {fs : List FdV} (h : ¬ (rise 0 fs = true ∧ hasN fs 1 + hasN fs 2 + hasN fs 3 = 3 ∧ hasN fs 4 = hasN fs 5)) : sgR fs = none := by unfold sgR; rw [if_neg h]
theorem signedOf_any (A : Option Addr) (n c : Nat) (l : List UInt8) (w : World) (hl : l.length = n) (hn : n ≤ 65536) (hr : Rd w (.slice A n c) 1 n (bvs l)) : Calls Tryz.prog 114 #[.slice A n c] w (SgD w (sgB l)) := by
 have HS := hide ((St.init w NoB).alloc #[.slice none 0 0, .slice none 0 0, .slice none 0 0, .slice none 0 0, .slice none 0 0] 32)
 have HF := fields_walk _ A c l (by omega) (hl ▸ hr.st HS.out)
 rw [hl] at HF
 cases hf : fds l with
 | bad k =>
  rw [sgB_bad hf]
  rw [hf] at HF
  have HC := hide HF
  have hk : k = 2 ∨ k = 3 := fds_bads l k hf
  have d0 : ((k : Int) != 0) = true := by simp; omega
  have d0' : decide ((k : Int) = 0) = false := by simp; omega
  clear HF hr hk
  go_enter Tryz.func114, Tryz.ntmps114
  go_wp2_with (first
   | (go_at_call 64; (with_reducible refine HC.out.mono ?_); rintro e w2 ⟨rfl, hb⟩; have HS := hide (HS.out.call hb); clear hb)
   | (refine wl_storeC rfl rfl HS.out 0 rfl (vs := [.slice none 0 0, .slice none 0 0, .slice none 0 0, .slice none 0 0, .slice none 0 0]) szSigned (Nat.le_refl _) rfl rfl one5 ?_; intro w7 hS7; have HS7 := hide hS7; clear hS7))
  refine bodyPost_ret (results_cell_tmp_row rfl _ _ w.heap.size _ _ _ _ rfl (HS7.out.heap 0 rfl) Tryz.underlying32 rfl (by kernel_rfl)) rfl ?_
  exact ⟨rfl, HS7.out.below⟩
 | ok fs =>
  rw [hf] at HF
  have HC := hide HF
  have HFS := hide hf
  clear HF hr hf
  go_enter Tryz.func114, Tryz.ntmps114
  go_upto_region 4 with (go_at_call 64; (with_reducible refine HC.out.mono ?_); rintro e w2 ⟨xs, B, d, rfl, hx, hS2⟩; have HS : Hid (St w NoB w2 (.cells w.heap.size #[.slice none 0 0, .slice none 0 0, .slice none 0 0, .slice none 0 0, .slice none 0 0] 32 :: .row (.slice B xs.length d) 93 4 xs.length (cellsF xs) :: chunksF xs)) := hide (St.rot _ [_] (HS.out.join hS2)); clear hS2)
  obtain ⟨m, hm⟩ : ∃ m, xs.length = m := ⟨_, rfl⟩
  rw [hm] at HS ⊢
  have HM := hide hm
  have HX := hide hx
  have hm6 : m ≤ 65536 := by
   have h1 := fds_len l fs HFS.out
   rw [← HX.out, List.length_map, HM.out] at h1
   omega
  have hA := (HS.out.alloc #[.slice none 0 0, .slice none 0 0, .slice none 0 0, .slice none 0 0, .slice none 0 0, .slice none 0 0] 194).alloc #[.int .i64 0, .int .i64 0, .int .i64 0, .int .i64 0, .int .i64 0, .int .i64 0] 149
  rw [size_alloc1] at hA
  have HSL := hide hA
  clear hA HS hx hm
  go_wp2_with fail
  generalize w2.heap.size = gp at HSL ⊢
  go_loopw [8, 22] (fun lv iv wr => ∃ (k last : Nat), k ≤ m ∧ iv = .int .i64 (k : Int) ∧ lv = .int .i64 (last : Int) ∧ Hid (last ≤ 5 ∧ (∀ y ∈ xs.take k, y.f.num ≤ last) ∧ rise 0 (xs.map FdL.f) = rise last ((xs.drop k).map FdL.f)) ∧ Hid (St w NoB wr (.cells (gp + 1) (arr6 fun j => .int .i64 (hasV (xs.take k) j : Int)) 149 :: .cells gp (arr6 fun j => (lookV (xs.take k) j).v) 194 :: .cells w.heap.size #[.slice none 0 0, .slice none 0 0, .slice none 0 0, .slice none 0 0, .slice none 0 0] 32 :: .row (.slice B m d) 93 4 m (cellsF xs) :: chunksF xs))) (fun _ i _ => (m - intOf i).toNat)
  case atStart => exact ⟨0, 0, by omega, rfl, rfl, ⟨by omega, fun y hy => absurd hy List.not_mem_nil, rfl⟩, HSL⟩
  case round =>
   clear HSL
   obtain ⟨k, last, hk, rfl, rfl, HI, HS⟩ := hrel
   by_cases hlt : k < m
   ·have e0 : decide ((k : Int) < (m : Int)) = true := by simp; omega
    have e0' : decide (k < m) = true := by simp; omega
    have kn : (k : Int) < (m : Int) := by omega
    have kl : k < xs.length := by have := HM.out; omega
    have hlk : xs[k]? = some xs[k] := List.getElem?_eq_getElem kl
    obtain ⟨b, o, rfl, hb8, hc⟩ := fd_at (HS.out.rd 3 rfl) hlk
    obtain ⟨k0, k1, k2, k3⟩ := hc _ (Below.refl _ _)
    have HTK := hide (show xs.take (k + 1) = xs.take k ++ [xs[k]] by rw [List.take_add_one, hlk]; rfl)
    have HDK := hide (show rise last ((xs.drop k).map FdL.f) = (xs[k].f.whole && (decide (xs[k].f.num ≤ 5) && (decide (last < xs[k].f.num) && rise xs[k].f.num ((xs.drop (k + 1)).map FdL.f)))) by rw [List.drop_eq_getElem_cons kl]; rfl)
    generalize xs[k] = y at k0 k1 k2 k3 HTK HDK
    obtain ⟨⟨num, whole, fn, fb⟩, X, xc⟩ := y
    replace HTK : Hid (xs.take (k + 1) = xs.take k ++ [⟨⟨num, whole, fn, fb⟩, X, xc⟩]) := HTK
    replace HDK : Hid (rise last ((xs.drop k).map FdL.f) = (whole && (decide (num ≤ 5) && (decide (last < num) && rise num ((xs.drop (k + 1)).map FdL.f))))) := HDK
    have hl5 : last ≤ 5 := HI.out.1
    clear hc hlk kl
    go_upto_region 10 with (refine wl_storeC rfl rfl (HS.out.alloc _ _) 0 rfl (vs := [.int .i64 (num : Int), .bool whole, .int .u64 (fn : Int), .slice X fb.length xc]) szField (Nat.le_refl _) rfl rfl oneF ?_; intro w5 hS5; have HS5 := hide hS5; clear hS5)
    have q0 : _ = some (Value.int .i64 (num : Int)) := HS5.out.cell 0 rfl 0
    have q1 : _ = some (Value.bool whole) := HS5.out.cell 0 rfl 1
    have q3 : _ = some (Value.slice X fb.length xc) := HS5.out.cell 0 rfl 3
    clear k0 k1 k2 k3
    by_cases hg : whole = true ∧ num ≤ 5 ∧ last < num
    ·obtain ⟨rfl, h5, hln⟩ := hg
     have HLT : Hid (∀ y ∈ xs.take k, y.f.num < num) := hide (fun y hy => by have := HI.out.2.1 y hy; omega)
     have HRI : Hid (rise 0 (xs.map FdL.f) = rise num ((xs.drop (k + 1)).map FdL.f)) := hide (by rw [HI.out.2.2, HDK.out]; simp [h5, hln])
     have d2 : decide ((5 : Int) < (num : Int)) = false := by simp; omega
     have d2' : decide (5 < num) = false := by simp; omega
     have d3 : decide ((num : Int) ≤ (last : Int)) = false := by simp; omega
     have d3' : decide (num ≤ last) = false := by simp; omega
     have h6 : (num : Int) < 6 := by omega
     have h6' : num < 6 := by omega
     have p1 : w5.cell? ⟨gp, num, none⟩ = some (lookV (xs.take k) num).v := (HS5.out.cell 2 rfl num).trans (arr6_get _ (by omega))
     have f1 := HS5.out.free 2 rfl num
     go_upto_region 14 with fail
     have HS6 := hide (HS5.out.setCell 2 rfl num (.slice X fb.length xc))
     clear p1 f1 q0 q1 q3
     generalize World.setCell w5 _ _ = w6 at HS6 ⊢
     have q0 : _ = some (Value.int .i64 (num : Int)) := HS6.out.cell 0 rfl 0
     have g1 : w6.cell? ⟨gp + 1, num, none⟩ = some (.int .i64 0) := (HS6.out.cell 1 rfl num).trans ((arr6_get _ (by omega)).trans (by rw [hasV_new _ _ HLT.out]; rfl))
     have g2 := HS6.out.free 1 rfl num
     go_wp2_with fail
     have hS7 : St w NoB _ (.cells (gp + 1) ((arr6 fun j => .int .i64 (hasV (xs.take k) j : Int)).setIfInBounds num (.int .i64 1)) 149 :: .cells gp ((arr6 fun j => (lookV (xs.take k) j).v).setIfInBounds num (.slice X fb.length xc)) 194 :: .cells w.heap.size #[.slice none 0 0, .slice none 0 0, .slice none 0 0, .slice none 0 0, .slice none 0 0] 32 :: .row (.slice (some ⟨b, o, none⟩) m d) 93 4 m (cellsF xs) :: chunksF xs) := (HS6.out.setCell 1 rfl num (.int .i64 1)).tail
     rw [arr6_set _ h6', arr6_set _ h6'] at hS7
     have e1 : (fun j => if j = num then Value.int .i64 1 else .int .i64 (hasV (xs.take k) j : Int)) = fun j => .int .i64 (hasV (xs.take (k + 1)) j : Int) := by
      funext j
      rw [HTK.out, hasV_snoc _ _ HLT.out]
      by_cases e : j = num
      ·subst e; rw [if_pos rfl, if_pos rfl]; rfl
      ·rw [if_neg e, if_neg e]
     have e2 : (fun j => if j = num then Value.slice X fb.length xc else (lookV (xs.take k) j).v) = fun j => (lookV (xs.take (k + 1)) j).v := by
      funext j
      rw [HTK.out, lookV_snoc _ _ HLT.out]
      by_cases e : j = num
      ·subst e; rw [if_pos rfl, if_pos rfl]; rfl
      ·rw [if_neg e, if_neg e]
     rw [e1, e2] at hS7
     have HS7 := hide hS7
     clear e1 e2 hS7 HS6 HS5 g1 g2
     go_roundw
     case rel => exact ⟨k + 1, num, by omega, by go_num, rfl, hide ⟨h5, (fun y hy => by
       rw [HTK.out] at hy
       rcases List.mem_append.1 hy with hy | hy
       ·exact Nat.le_of_lt (HLT.out y hy)
       ·rw [List.mem_singleton.1 hy]; exact Nat.le_refl _), HRI.out⟩, HS7⟩
     case measure => (simp [intOf]) <;> omega
    ·have hb : whole = false ∨ (whole = true ∧ 5 < num) ∨ (whole = true ∧ ¬ 5 < num ∧ num ≤ last) := by
      cases whole
      ·exact .inl rfl
      ·exact .inr (by by_cases h : 5 < num; exact .inl ⟨rfl, h⟩; exact .inr ⟨rfl, h, by have : ¬ (num ≤ 5 ∧ last < num) := fun h => hg ⟨rfl, h⟩; omega⟩)
     have HNO : Hid (sgB l = .bad 3) := hide (sgB_none HFS.out (sgR_no (fun h => by
      have h1 := h.1
      rw [← HX.out, HI.out.2.2, HDK.out] at h1
      simp at h1
      exact hg ⟨h1.1, h1.2.1, h1.2.2.1⟩)))
     clear hg HDK HTK
     have d2 : (whole = true → decide ((5 : Int) < (num : Int)) = decide (5 < num)) := fun _ => by simp; omega
     rcases hb with rfl | ⟨rfl, h5⟩ | ⟨rfl, h5, h6⟩
     ·go_wp2_with (refine wl_storeC rfl rfl HS5.out 3 rfl (vs := [.slice none 0 0, .slice none 0 0, .slice none 0 0, .slice none 0 0, .slice none 0 0]) szSigned (Nat.le_refl _) rfl rfl one5 ?_; intro w7 hS7; have HS7 := hide hS7; clear hS7)
      refine bodyPost_ret (results_cell_tmp_row rfl _ _ w.heap.size _ _ _ _ rfl (HS7.out.heap 3 rfl) Tryz.underlying32 rfl (by kernel_rfl)) rfl ?_
      rw [HNO.out]
      exact ⟨rfl, HS7.out.below⟩
     ·have d2 : decide ((5 : Int) < (num : Int)) = true := by simp; omega
      have d2' : decide (5 < num) = true := by simp; omega
      go_wp2_with (refine wl_storeC rfl rfl HS5.out 3 rfl (vs := [.slice none 0 0, .slice none 0 0, .slice none 0 0, .slice none 0 0, .slice none 0 0]) szSigned (Nat.le_refl _) rfl rfl one5 ?_; intro w7 hS7; have HS7 := hide hS7; clear hS7)
      refine bodyPost_ret (results_cell_tmp_row rfl _ _ w.heap.size _ _ _ _ rfl (HS7.out.heap 3 rfl) Tryz.underlying32 rfl (by kernel_rfl)) rfl ?_
      rw [HNO.out]
      exact ⟨rfl, HS7.out.below⟩
     ·have d2 : decide ((5 : Int) < (num : Int)) = false := by simp; omega
      have d2' : decide (5 < num) = false := by simp; omega
      have d3 : decide ((num : Int) ≤ (last : Int)) = true := by simp; omega
      have d3' : decide (num ≤ last) = true := by simp; omega
      go_wp2_with (refine wl_storeC rfl rfl HS5.out 3 rfl (vs := [.slice none 0 0, .slice none 0 0, .slice none 0 0, .slice none 0 0, .slice none 0 0]) szSigned (Nat.le_refl _) rfl rfl one5 ?_; intro w7 hS7; have HS7 := hide hS7; clear hS7)
      refine bodyPost_ret (results_cell_tmp_row rfl _ _ w.heap.size _ _ _ _ rfl (HS7.out.heap 3 rfl) Tryz.underlying32 rfl (by kernel_rfl)) rfl ?_
      rw [HNO.out]
      exact ⟨rfl, HS7.out.below⟩
   ·obtain rfl : k = m := by omega
    have e0 : decide ((k : Int) < (k : Int)) = false := by simp
    have e0' : decide (k < k) = false := by simp
    have htk : xs.take k = xs := List.take_of_length_le (by rw [HM.out]; exact Nat.le_refl _)
    have hri : rise 0 (xs.map FdL.f) = true := by rw [HI.out.2.2, List.drop_of_length_le (by rw [HM.out]; exact Nat.le_refl _)]; rfl
    rw [htk] at HS
    clear HI
    have HN : Hid (∀ j, hasN fs j = hasV xs j) := hide (fun j => by rw [has_map, HX.out])
    have HLK : Hid (∀ j, look fs j = (lookV xs j).b) := hide (fun j => by rw [look_map, HX.out])
    have hle : ∀ j, hasV xs j ≤ 1 := fun j => by rw [has_map]; exact hasN_le _ _
    have c1 : wr.cell? ⟨gp + 1, 1, none⟩ = some (.int .i64 (hasV xs 1 : Int)) := HS.out.cell 0 rfl 1
    have c2 : wr.cell? ⟨gp + 1, 2, none⟩ = some (.int .i64 (hasV xs 2 : Int)) := HS.out.cell 0 rfl 2
    have c3 : wr.cell? ⟨gp + 1, 3, none⟩ = some (.int .i64 (hasV xs 3 : Int)) := HS.out.cell 0 rfl 3
    have c4 : wr.cell? ⟨gp + 1, 4, none⟩ = some (.int .i64 (hasV xs 4 : Int)) := HS.out.cell 0 rfl 4
    have c5 : wr.cell? ⟨gp + 1, 5, none⟩ = some (.int .i64 (hasV xs 5 : Int)) := HS.out.cell 0 rfl 5
    have HR : Hid (rise 0 fs = true) := hide (by rw [← HX.out]; exact hri)
    have HQ : Hid (sgR fs = if hasV xs 1 + hasV xs 2 + hasV xs 3 = 3 ∧ hasV xs 4 = hasV xs 5 then some ⟨(lookV xs 1).b, (lookV xs 2).b, (lookV xs 3).b, (lookV xs 4).b, (lookV xs 5).b⟩ else none) := hide (by
     unfold sgR
     rw [HN.out, HN.out, HN.out, HN.out, HN.out, HLK.out, HLK.out, HLK.out, HLK.out, HLK.out]
     by_cases hh : hasV xs 1 + hasV xs 2 + hasV xs 3 = 3 ∧ hasV xs 4 = hasV xs 5
     ·rw [if_pos hh, if_pos ⟨HR.out, hh⟩]
     ·rw [if_neg hh, if_neg (fun h => hh h.2)])
    have a1 := hle 1
    have a2 := hle 2
    have a3 := hle 3
    have a4 := hle 4
    have a5 := hle 5
    clear hle hri htk HN HLK HR
    have s1 : wr.cell? ⟨gp, 1, none⟩ = some (lookV xs 1).v := HS.out.cell 1 rfl 1
    have s2 : wr.cell? ⟨gp, 2, none⟩ = some (lookV xs 2).v := HS.out.cell 1 rfl 2
    have s3 : wr.cell? ⟨gp, 3, none⟩ = some (lookV xs 3).v := HS.out.cell 1 rfl 3
    have s4 : wr.cell? ⟨gp, 4, none⟩ = some (lookV xs 4).v := HS.out.cell 1 rfl 4
    have s5 : wr.cell? ⟨gp, 5, none⟩ = some (lookV xs 5).v := HS.out.cell 1 rfl 5
    have HCH : Hid (∀ j, (lookV xs j).ch ∈ pc0.ch :: chunksF xs) := hide (fun j => look_ch j (List.mem_cons_self ..) fun x hx => List.mem_cons_of_mem _ (by unfold chunksF; rw [List.mem_reverse]; exact List.mem_map_of_mem hx))
    have HC1 := hide (HCH.out 1)
    have HC2 := hide (HCH.out 2)
    have HC3 := hide (HCH.out 3)
    have HC4 := hide (HCH.out 4)
    have HC5 := hide (HCH.out 5)
    generalize hasV xs 1 = x1 at *
    generalize hasV xs 2 = x2 at *
    generalize hasV xs 3 = x3 at *
    generalize hasV xs 4 = x4 at *
    generalize hasV xs 5 = x5 at *
    clear HCH
    generalize lookV xs 1 = p1 at s1 HQ HC1
    generalize lookV xs 2 = p2 at s2 HQ HC2
    generalize lookV xs 3 = p3 at s3 HQ HC3
    generalize lookV xs 4 = p4 at s4 HQ HC4
    generalize lookV xs 5 = p5 at s5 HQ HC5
    obtain ⟨E1, f1, y1⟩ := p1
    obtain ⟨E2, f2, y2⟩ := p2
    obtain ⟨E3, f3, y3⟩ := p3
    obtain ⟨E4, f4, y4⟩ := p4
    obtain ⟨E5, f5, y5⟩ := p5
    replace s1 : wr.cell? ⟨gp, 1, none⟩ = some (.slice E1 y1.length f1) := s1
    replace s2 : wr.cell? ⟨gp, 2, none⟩ = some (.slice E2 y2.length f2) := s2
    replace s3 : wr.cell? ⟨gp, 3, none⟩ = some (.slice E3 y3.length f3) := s3
    replace s4 : wr.cell? ⟨gp, 4, none⟩ = some (.slice E4 y4.length f4) := s4
    replace s5 : wr.cell? ⟨gp, 5, none⟩ = some (.slice E5 y5.length f5) := s5
    by_cases hs : x1 + x2 + x3 = 3
    ·have d1 : decide ((x1 : Int) + (x2 : Int) + (x3 : Int) < 3) = false := by simp; omega
     have d1' : decide (x1 + x2 + x3 < 3) = false := by simp; omega
     by_cases h45 : x4 = x5
     ·have HY := hide (sgB_some HFS.out (HQ.out.trans (if_pos ⟨hs, h45⟩)))
      subst h45
      clear hs HQ
      go_wp2_with (refine wl_storeC rfl rfl HS.out 2 rfl (vs := [.slice E1 y1.length f1, .slice E2 y2.length f2, .slice E3 y3.length f3, .slice E4 y4.length f4, .slice E5 y5.length f5]) szSigned (Nat.le_refl _) rfl rfl one5 ?_; intro w7 hS7; have HS7 := hide hS7; clear hS7)
      refine bodyPost_ret (results_cell_tmp_row rfl _ _ w.heap.size _ _ _ _ rfl (HS7.out.heap 2 rfl) Tryz.underlying32 rfl (by kernel_rfl)) rfl ?_
      rw [HY.out]
      refine ⟨⟨⟨E1, f1, y1⟩, ⟨E2, f2, y2⟩, ⟨E3, f3, y3⟩, ⟨E4, f4, y4⟩, ⟨E5, f5, y5⟩⟩, _, rfl, rfl, fun c hc => ?_, HS7.out.row (Below.refl _ _) (World.ownsRow_nil _ _ 5 1)⟩
      have h1 : c ∈ pc0.ch :: chunksF xs := by
       simp only [Sg.chs, List.mem_cons, List.not_mem_nil, or_false] at hc
       rcases hc with rfl | rfl | rfl | rfl | rfl
       ·exact HC1.out
       ·exact HC2.out
       ·exact HC3.out
       ·exact HC4.out
       ·exact HC5.out
      rcases List.mem_cons.1 h1 with h1 | h1
      ·rw [h1]; exact List.mem_cons_self ..
      ·show c ∈ _ :: _ :: _ :: _ :: _ :: chunksF xs
       (iterate 5 apply List.mem_cons_of_mem)
       exact h1
     ·have HNO := hide (sgB_none HFS.out (HQ.out.trans (if_neg (fun h => h45 h.2))))
      have d2 : ((x4 : Int) != (x5 : Int)) = true := by simp; omega
      have d2' : (x4 != x5) = true := by simp; omega
      have d3 : decide ((x4 : Int) = (x5 : Int)) = false := by simp; omega
      have d3' : decide (x4 = x5) = false := by simp; omega
      clear hs HQ h45
      go_wp2_with (refine wl_storeC rfl rfl HS.out 2 rfl (vs := [.slice none 0 0, .slice none 0 0, .slice none 0 0, .slice none 0 0, .slice none 0 0]) szSigned (Nat.le_refl _) rfl rfl one5 ?_; intro w7 hS7; have HS7 := hide hS7; clear hS7)
      refine bodyPost_ret (results_cell_tmp_row rfl _ _ w.heap.size _ _ _ _ rfl (HS7.out.heap 2 rfl) Tryz.underlying32 rfl (by kernel_rfl)) rfl ?_
      rw [HNO.out]
      exact ⟨rfl, HS7.out.below⟩
    ·have HNO := hide (sgB_none HFS.out (HQ.out.trans (if_neg (fun h => hs h.1))))
     have d1 : decide ((x1 : Int) + (x2 : Int) + (x3 : Int) < 3) = true := by simp; omega
     have d1' : decide (x1 + x2 + x3 < 3) = true := by simp; omega
     clear hs HQ
     go_wp2_with (refine wl_storeC rfl rfl HS.out 2 rfl (vs := [.slice none 0 0, .slice none 0 0, .slice none 0 0, .slice none 0 0, .slice none 0 0]) szSigned (Nat.le_refl _) rfl rfl one5 ?_; intro w7 hS7; have HS7 := hide hS7; clear hS7)
     refine bodyPost_ret (results_cell_tmp_row rfl _ _ w.heap.size _ _ _ _ rfl (HS7.out.heap 2 rfl) Tryz.underlying32 rfl (by kernel_rfl)) rfl ?_
     rw [HNO.out]
     exact ⟨rfl, HS7.out.below⟩
end Go.Proofs.YtnohmgpmmhlloaaGreatDoor.S6

namespace Go.Proofs.YtnohmgpmmhlloaaGreatDoor
open Go.RowKit
set_option linter.unusedSimpArgs false
section
variable {P : Program} {ops : Array Oper} {Q : Exit → Act → World → Prop} {restT : List (Nat × Nat)} {i : Nat} {o : Oper} {a : Act} {w : World} {W0 : World} {F : List (Nat × Nat)} {fc : Array Value} {fe : TypeId} {suf : STr}
end
end Go.Proofs.YtnohmgpmmhlloaaGreatDoor

namespace Go.Proofs.YtnohmgpmmhlloaaGreatDoor
open Go.RowKit
set_option linter.unusedSimpArgs false

structure QtN (v : Array Value) (P : Ed) : Prop where
 ex : ∃ A a b c d, v = quad a b c d ∧ NA a A.X ∧ NA b A.Y ∧ NA c A.Z ∧ NA d A.T ∧ Rp A P
theorem QtN.arr {v : Array Value} {P : Ed} (h : QtN v P) : Arr 64 v := by
 obtain ⟨A, a, b, c, d, rfl, h2, h3, h4, h5, _⟩ := h.ex
 exact quad_arr h2.arr h3.arr h4.arr h5.arr rfl
end Go.Proofs.YtnohmgpmmhlloaaGreatDoor

namespace Go.Proofs.YtnohmgpmmhlloaaGreatDoor
open Go.RowKit
set_option linter.unusedSimpArgs false
end Go.Proofs.YtnohmgpmmhlloaaGreatDoor

namespace Go.Proofs.YtnohmgpmmhlloaaGreatDoor
open Go.RowKit
set_option linter.unusedSimpArgs false

end Go.Proofs.YtnohmgpmmhlloaaGreatDoor

namespace Go.Proofs.YtnohmgpmmhlloaaGreatDoor
open Go.RowKit
set_option linter.unusedSimpArgs false

end Go.Proofs.YtnohmgpmmhlloaaGreatDoor

namespace Go.Proofs.YtnohmgpmmhlloaaGreatDoor
open Go.RowKit
set_option linter.unusedSimpArgs false

section
variable {P : Program} {ops : Array Oper} {Q : Exit → Act → World → Prop} {rest : List Oper} {o : Oper} {a : Act} {w0 w : World} {M : Nat → Prop} {H : List Chunk} {t e : TypeId} {n g off : Nat} {x : Operand} {cs part : Array Value}
end
end Go.Proofs.YtnohmgpmmhlloaaGreatDoor

namespace Go.Proofs.YtnohmgpmmhlloaaGreatDoor
open Go.RowKit
set_option linter.unusedSimpArgs false

end Go.Proofs.YtnohmgpmmhlloaaGreatDoor

namespace Go.Proofs.YtnohmgpmmhlloaaGreatDoor
open Go.RowKit
set_option linter.unusedSimpArgs false

end Go.Proofs.YtnohmgpmmhlloaaGreatDoor

namespace Go.Proofs.YtnohmgpmmhlloaaGreatDoor
open Go.RowKit
set_option linter.unusedSimpArgs false

def xb (c : Nat) : Nat := if c < 128 then c + 128 else c - 128
end Go.Proofs.YtnohmgpmmhlloaaGreatDoor

namespace Go.Proofs.YtnohmgpmmhlloaaGreatDoor
open Go.RowKit
set_option linter.unusedSimpArgs false
def ob (c : Nat) : Nat := if c < 128 then c + 128 else c
end Go.Proofs.YtnohmgpmmhlloaaGreatDoor

namespace Go.Proofs.YtnohmgpmmhlloaaGreatDoor.S3
open Go.RowKit
set_option linter.unusedSimpArgs false

theorem rd_at' {w : World} {B : Option Addr} {n d : Nat} {xs : List Value} {k : Nat} {u : Value} (h : Rd w (.slice B n d) 1 n xs) (hk : xs[k]? = some u) : ∃ b o, B = some ⟨b, o, none⟩ ∧ w.cell? ⟨b, o + k, none⟩ = some u := by
 rcases h.cases with ⟨_, _, h0⟩ | ⟨b, o, sp, c', hv, _, _, _, hl, h4, hc⟩
 ·rw [h0] at hk; simp at hk
 ·injection hv with hv1 _ _
  have hkl : k < xs.length := (List.getElem?_eq_some_iff.1 hk).1
  have := h4 (by omega)
  subst this hv1
  exact ⟨b, o, rfl, hc k u hk⟩
def ivs (xs : List Int) : List Value := xs.map (.int .i64 ·)
theorem ivs_len (xs : List Int) : (ivs xs).length = xs.length := by simp [ivs]
theorem wl_run {P : Program} {ops : Array Oper} {rest : List Oper} {o : Oper} {a : Act} {w : World} {Q : Exit → Act → World → Prop} (hgd : o.guard = none) {v : Value} (hrun : (execOp a.eval o).run P w = .ok (.value v) w)
  (h : wpList P ops Q rest (a.put o.dst v) w) : wpList P ops Q (o :: rest) a w :=
 wpList_plain hgd fun K hK => by
  unfold Oper.wp
  rw [hrun, Oper.upon_value]
  exact hK _ _ h
section
variable {P : Program} {ops : Array Oper} {rest : List Oper} {o : Oper} {a : Act} {w : World} {Q : Exit → Act → World → Prop}
end
end Go.Proofs.YtnohmgpmmhlloaaGreatDoor.S3

namespace Go.Proofs.YtnohmgpmmhlloaaGreatDoor.S3
open Go.RowKit
set_option linter.unusedSimpArgs false

theorem bval_bit (l : List UInt8) {q r : Nat} {c : UInt8} (hc : l[q]? = some c) (hr : r < 8) : c.toNat / 2 ^ r % 2 = bval l / 2 ^ (8 * q + r) % 2 := by
 have hq := (List.getElem?_eq_some_iff.1 hc).1
 have h1 : bval l = bval (l.take q) + 256 ^ q * (c.toNat + 256 * bval (l.drop (q + 1))) := by
  have e := bval_append (l.take q) (l.drop q)
  rw [List.take_append_drop, List.length_take, Nat.min_eq_left (by omega)] at e
  rw [e, List.drop_eq_getElem_cons hq]
  rw [List.getElem?_eq_getElem hq] at hc
  injection hc with hc
  rw [hc, bval]
 have h2 := bval_lt (l.take q)
 rw [List.length_take, Nat.min_eq_left (by omega)] at h2
 have hp : (2 : Nat) ^ (8 * q + r) = 256 ^ q * 2 ^ r := by rw [Nat.pow_add, Nat.pow_mul]
 rw [hp, ← Nat.div_div_eq_div_mul, h1, Nat.add_mul_div_left _ _ (Nat.pos_of_ne_zero (by omega)), Nat.div_eq_of_lt h2, Nat.zero_add]
 generalize bval (l.drop (q + 1)) = R
 generalize c.toNat = C
 match r, hr with
 | 0, _ => omega
 | 1, _ => omega
 | 2, _ => omega
 | 3, _ => omega
 | 4, _ => omega
 | 5, _ => omega
 | 6, _ => omega
 | 7, _ => omega
end Go.Proofs.YtnohmgpmmhlloaaGreatDoor.S3

namespace Go.Proofs.YtnohmgpmmhlloaaGreatDoor.S3
open Go.RowKit
set_option linter.unusedSimpArgs false

theorem bnx {w0 w w' : World} (h : Below w0.heap.size w0 w) (h2 : Below w.heap.size w w') : Below w0.heap.size w0 w' := h.trans (h2.mono h.size)
end Go.Proofs.YtnohmgpmmhlloaaGreatDoor.S3

namespace Go.Proofs.YtnohmgpmmhlloaaGreatDoor.S3
open Go.RowKit
set_option linter.unusedSimpArgs false

end Go.Proofs.YtnohmgpmmhlloaaGreatDoor.S3

namespace Go.Proofs.YtnohmgpmmhlloaaGreatDoor.S1
open Go.RowKit
set_option linter.unusedSimpArgs false

def lenOf : Value → Nat
 | .slice _ n _ => n
 | _ => 0
end Go.Proofs.YtnohmgpmmhlloaaGreatDoor.S1

namespace Go.Proofs.YtnohmgpmmhlloaaGreatDoor
open Go.RowKit
set_option linter.unusedSimpArgs false
end Go.Proofs.YtnohmgpmmhlloaaGreatDoor

namespace Go.Proofs.YtnohmgpmmhlloaaGreatDoor
open Go.RowKit
set_option linter.unusedSimpArgs false
theorem join23_any (A : Option Addr) (n c : Nat) (ps : List PcV) (w : World) (hn : ps.length = n) (hm : (allL ps).length ≤ 900000) (hr : Rd w (.slice A n c) 1 n (ps.flatMap PcV.cells)) (hp : ∀ p ∈ ps, PcOK w p) :
  Calls Tryz.prog 45 #[.slice A n c] w (BN (allL ps).length w (allL ps)) := by
 have HR := hide hr
 have HE := hide hp
 have HL := hide hn
 have HM := hide hm
 have HM2 := hide (allL_le ps)
 have hnm : n ≤ maxLen := hr.le
 unfold maxLen at hnm
 have HSN := hide ((St.init w NoB).row (Below.refl _ _) (World.ownsRow_nil _ _ _ _) : St w NoB w [.row (.slice none 0 0) 5 1 0 []])
 clear hr hp hn hm
 go_enter Tryz.func45, Tryz.ntmps45
 go_wp2_with fail
 go_loopw [3, 8] (fun v3 iv wr => ∃ (k m : Nat) (X : Option Addr) (x : Nat), k ≤ n ∧ iv = .int .i64 (k : Int) ∧ v3 = .slice X m x ∧ m = (allL (ps.take k)).length ∧ Hid (St w NoB wr [.row (.slice X m x) 5 1 m (bvs (allL (ps.take k)))])) (fun _ iv _ => n - (intOf iv).toNat)
 case atStart => exact ⟨0, 0, none, 0, by omega, rfl, rfl, rfl, HSN⟩
 case round =>
  clear HSN
  obtain ⟨k, m, X, x, hk, rfl, rfl, hmm, HS⟩ := hrel
  by_cases hlt : k < n
  ·obtain ⟨p, hp⟩ : ∃ p, ps[k]? = some p := ⟨ps[k]'(by rw [HL.out]; exact hlt), List.getElem?_eq_getElem _⟩
   obtain ⟨b, o, hA, hc⟩ := rd_cell (HR.out.st HS.out) (pcs_get hp)
   subst hA
   have HT := hide (allL_take hp)
   have HP := hide (show Rd w (.slice p.A p.b.length p.c) 1 p.b.length (bvs p.b) from HE.out p (List.mem_of_getElem? hp))
   have dk : decide ((k : Int) < (n : Int)) = true := by simp; omega
   have dk2 : decide (k < n) = true := by simp; omega
   have ik : (k : Int) < (n : Int) := by omega
   have HB := hide (show m + p.b.length ≤ 4294967296 by
    have h1 := HM2.out (k + 1)
    have h2 := HM.out
    rw [allL_take hp, List.length_append, ← hmm] at h1
    omega)
   have HMM := hide hmm
   clear hp hmm
   go_wp2_with (at_builtin; refine wl_append rfl rfl tyB8 HS.out 0 rfl rfl rfl (HP.out.st HS.out) (one_bvs _) HB.out (by decide) ?_; intro Az cz wz hS2; simp only [List.set_cons_zero] at hS2; rw [← bvs_append, ← HT.out] at hS2; have HS2 := hide hS2; clear hS2)
   go_roundw
   case rel => exact ⟨k + 1, m + p.b.length, Az, cz, by omega, by go_num, rfl, by rw [HT.out, List.length_append, HMM.out], HS2⟩
   case measure => (simp [intOf]) <;> omega
  ·obtain rfl : k = n := by omega
   rw [List.take_of_length_le (by rw [HL.out]; omega)] at HS hmm
   clear hlt hk
   have dk : decide ((k : Int) < (k : Int)) = false := by simp
   have HMM := hide hmm
   clear hmm
   go_wp2_with fail
   go_ret
   rw [← HMM.out]
   exact ⟨X, x, rfl, HS.out.below, HS.out.ownsRow 0 rfl⟩
theorem join23_3 {A1 A2 A3 : Option Addr} {m1 m2 m3 c1 c2 c3 : Nat} {x1 x2 x3 : List UInt8} (w : World) (h1 : x1.length = m1) (h2 : x2.length = m2) (h3 : x3.length = m3) (hm : m1 + (m2 + m3) ≤ 900000) (r1 : Rd w (.slice A1 m1 c1) 1 m1 (bvs x1)) (r2 : Rd w (.slice A2 m2 c2) 1 m2 (bvs x2)) (r3 : Rd w (.slice A3 m3 c3) 1 m3 (bvs x3)) :
  Calls Tryz.prog 45 #[.slice (some ⟨w.heap.size, 0, none⟩) 3 3] (w.alloc (.cells #[.slice A1 m1 c1, .slice A2 m2 c2, .slice A3 m3 c3] 22)) (BN (m1 + (m2 + m3)) (w.alloc (.cells #[.slice A1 m1 c1, .slice A2 m2 c2, .slice A3 m3 c3] 22)) (x1 ++ (x2 ++ x3))) := by
 obtain ⟨ps, p1, p2, p3, p4⟩ := three_ps (o := .cells #[.slice A1 m1 c1, .slice A2 m2 c2, .slice A3 m3 c3] 22) h1 h2 h3 r1 r2 r3
 have := join23_any _ 3 3 ps _ p1 (by rw [p2, List.length_append, List.length_append, h1, h2, h3]; exact hm) (by rw [p3]; exact rd_new w [.slice A1 m1 c1, .slice A2 m2 c2, .slice A3 m3 c3] 22 1 3 rfl (by decide)) p4
 rw [p2, len_add3 h1 h2 h3] at this
 exact this
theorem join23_1 {A1 : Option Addr} {m1 c1 : Nat} {x1 : List UInt8} (w : World) (h1 : x1.length = m1) (hm : m1 ≤ 900000) (r1 : Rd w (.slice A1 m1 c1) 1 m1 (bvs x1)) :
  Calls Tryz.prog 45 #[.slice (some ⟨w.heap.size, 0, none⟩) 1 1] (w.alloc (.cells #[.slice A1 m1 c1] 22)) (BN m1 (w.alloc (.cells #[.slice A1 m1 c1] 22)) x1) := by
 have hb : Below w.heap.size w (w.alloc (.cells #[.slice A1 m1 c1] 22)) := (Below.refl _ _).alloc (Nat.le_refl _) _
 have hal : allL [PcV.mk A1 c1 x1] = x1 := by simp [allL]
 have := join23_any (some ⟨w.heap.size, 0, none⟩) 1 1 [PcV.mk A1 c1 x1] _ rfl (by rw [hal, h1]; exact hm) (by subst h1; exact rd_new w [.slice A1 x1.length c1] 22 1 1 rfl (by decide)) (fun p hp => by
  obtain rfl := List.mem_singleton.1 hp
  subst h1
  exact r1.below hb)
 rw [hal, h1] at this
 exact this
end Go.Proofs.YtnohmgpmmhlloaaGreatDoor

namespace Go.Proofs.YtnohmgpmmhlloaaGreatDoor
open Go.RowKit
set_option linter.unusedSimpArgs false
end Go.Proofs.YtnohmgpmmhlloaaGreatDoor

namespace Go.Proofs.YtnohmgpmmhlloaaGreatDoor
open Go.RowKit
set_option linter.unusedSimpArgs false
end Go.Proofs.YtnohmgpmmhlloaaGreatDoor

namespace Go.Proofs.YtnohmgpmmhlloaaGreatDoor
open Go.RowKit
set_option linter.unusedSimpArgs false
end Go.Proofs.YtnohmgpmmhlloaaGreatDoor

namespace Go.Proofs.YtnohmgpmmhlloaaGreatDoor
open Go.RowKit
set_option linter.unusedSimpArgs false
noncomputable def sameSp (x y : Sp) : Bool := @decide (x = y) (Classical.propDecidable _)
theorem sameSp_yes {x y : Sp} (h : x = y) : sameSp x y = true := @decide_eq_true _ (Classical.propDecidable _) h
theorem sameSp_no {x y : Sp} (h : x ≠ y) : sameSp x y = false := @decide_eq_false _ (Classical.propDecidable _) h
theorem sameSp_of {x y : Sp} (h : sameSp x y = true) : x = y := @of_decide_eq_true _ (Classical.propDecidable _) h
theorem sameSp_not {x y : Sp} (h : sameSp x y = false) : x ≠ y := @of_decide_eq_false _ (Classical.propDecidable _) h
noncomputable def sameSl (x y : List Sp) : Bool := @decide (x = y) (Classical.propDecidable _)
theorem sameSl_yes {x y : List Sp} (h : x = y) : sameSl x y = true := @decide_eq_true _ (Classical.propDecidable _) h
theorem sameSl_no {x y : List Sp} (h : x ≠ y) : sameSl x y = false := @decide_eq_false _ (Classical.propDecidable _) h
theorem sameSl_of {x y : List Sp} (h : sameSl x y = true) : x = y := @of_decide_eq_true _ (Classical.propDecidable _) h
theorem sameSl_not {x y : List Sp} (h : sameSl x y = false) : x ≠ y := @of_decide_eq_false _ (Classical.propDecidable _) h
noncomputable def sameTp (x y : Tp) : Bool := @decide (x = y) (Classical.propDecidable _)
theorem sameTp_yes {x y : Tp} (h : x = y) : sameTp x y = true := @decide_eq_true _ (Classical.propDecidable _) h
theorem sameTp_no {x y : Tp} (h : x ≠ y) : sameTp x y = false := @decide_eq_false _ (Classical.propDecidable _) h
theorem eq_of_b {a b : List UInt8} (h : (a == b) = true) : a = b := by simpa using h
theorem ne_of_b {a b : List UInt8} (h : (a == b) = false) : a ≠ b := by simpa using h
theorem eqB_any (A B : Option Addr) (n m c d : Nat) (l k : List UInt8) (b : Bool) (w : World) (hb : (l == k) = b) (hr1 : Rd w (.slice A n c) 1 n (bvs l)) (hr2 : Rd w (.slice B m d) 1 m (bvs k)) :
  Calls Tryz.prog 54 #[.slice A n c, .slice B m d] w fun e w' => e = .returned (.bool b) ∧ w = w' := by
 have cv1 := run_str (P := Tryz.prog) Tryz.underlying22 Tryz.underlying5 Tryz.underlying9 hr1
 have cv2 := run_str (P := Tryz.prog) Tryz.underlying22 Tryz.underlying5 Tryz.underlying9 hr2
 clear hr1 hr2
 go_enter Tryz.func54, Tryz.ntmps54
 go_wp2_with fail
 go_ret
 exact ⟨rfl, rfl⟩
theorem sameSg_core (A1 A2 A3 A4 A5 B1 B2 B3 B4 B5 : Option Addr) (na1 ca1 na2 ca2 na3 ca3 na4 ca4 na5 ca5 nb1 cb1 nb2 cb2 nb3 cb3 nb4 cb4 nb5 cb5 : Nat) (l1 l2 l3 l4 l5 k1 k2 k3 k4 k5 : List UInt8) (w : World) (ha1 : Rd w (.slice A1 na1 ca1) 1 na1 (bvs l1)) (ha2 : Rd w (.slice A2 na2 ca2) 1 na2 (bvs l2)) (ha3 : Rd w (.slice A3 na3 ca3) 1 na3 (bvs l3)) (ha4 : Rd w (.slice A4 na4 ca4) 1 na4 (bvs l4)) (ha5 : Rd w (.slice A5 na5 ca5) 1 na5 (bvs l5)) (hb1 : Rd w (.slice B1 nb1 cb1) 1 nb1 (bvs k1)) (hb2 : Rd w (.slice B2 nb2 cb2) 1 nb2 (bvs k2)) (hb3 : Rd w (.slice B3 nb3 cb3) 1 nb3 (bvs k3)) (hb4 : Rd w (.slice B4 nb4 cb4) 1 nb4 (bvs k4)) (hb5 : Rd w (.slice B5 nb5 cb5) 1 nb5 (bvs k5)) :
  Calls Tryz.prog 56 #[.agg #[.slice A1 na1 ca1, .slice A2 na2 ca2, .slice A3 na3 ca3, .slice A4 na4 ca4, .slice A5 na5 ca5], .agg #[.slice B1 nb1 cb1, .slice B2 nb2 cb2, .slice B3 nb3 cb3, .slice B4 nb4 cb4, .slice B5 nb5 cb5]] w fun e w' => e = .returned (.bool (sameSp ⟨l1, l2, l3, l4, l5⟩ ⟨k1, k2, k3, k4, k5⟩)) ∧ Below w.heap.size w w' := by
 have hS0 := ((St.init w NoB).alloc #[.slice A1 na1 ca1, .slice A2 na2 ca2, .slice A3 na3 ca3, .slice A4 na4 ca4, .slice A5 na5 ca5] 32).alloc #[.slice B1 nb1 cb1, .slice B2 nb2 cb2, .slice B3 nb3 cb3, .slice B4 nb4 cb4, .slice B5 nb5 cb5] 32
 rw [size_alloc1] at hS0
 have HS := hide hS0
 clear hS0
 have HA1 := hide (ha1.below HS.out.below)
 have HA2 := hide (ha2.below HS.out.below)
 have HA3 := hide (ha3.below HS.out.below)
 have HA4 := hide (ha4.below HS.out.below)
 have HA5 := hide (ha5.below HS.out.below)
 have HB1 := hide (hb1.below HS.out.below)
 have HB2 := hide (hb2.below HS.out.below)
 have HB3 := hide (hb3.below HS.out.below)
 have HB4 := hide (hb4.below HS.out.below)
 have HB5 := hide (hb5.below HS.out.below)
 clear ha1 ha2 ha3 ha4 ha5 hb1 hb2 hb3 hb4 hb5
 have ta1 : _ = some (Value.slice A1 na1 ca1) := HS.out.cell 1 rfl 0
 have ta2 : _ = some (Value.slice A2 na2 ca2) := HS.out.cell 1 rfl 1
 have ta3 : _ = some (Value.slice A3 na3 ca3) := HS.out.cell 1 rfl 2
 have ta4 : _ = some (Value.slice A4 na4 ca4) := HS.out.cell 1 rfl 3
 have ta5 : _ = some (Value.slice A5 na5 ca5) := HS.out.cell 1 rfl 4
 have tb1 : _ = some (Value.slice B1 nb1 cb1) := HS.out.cell 0 rfl 0
 have tb2 : _ = some (Value.slice B2 nb2 cb2) := HS.out.cell 0 rfl 1
 have tb3 : _ = some (Value.slice B3 nb3 cb3) := HS.out.cell 0 rfl 2
 have tb4 : _ = some (Value.slice B4 nb4 cb4) := HS.out.cell 0 rfl 3
 have tb5 : _ = some (Value.slice B5 nb5 cb5) := HS.out.cell 0 rfl 4
 cases e1 : (l1 == k1) with
 | false =>
  go_enter Tryz.func56, Tryz.ntmps56
  have M0 := True.intro
  go_wp2_with (first
   | (clear M0; go_at_call 54; (with_reducible refine (eqB_any _ _ _ _ _ _ _ _ _ _ e1 HA1.out HB1.out).mono ?_); rintro e wy ⟨rfl, rfl⟩; have M1 := True.intro))
  go_ret
  exact ⟨congrArg (fun b => Ending.returned (.bool b)) (sameSp_no (fun h => ne_of_b e1 (congrArg Sp.b h))).symm, HS.out.below⟩
 | true =>
  cases e2 : (l2 == k2) with
  | false =>
   go_enter Tryz.func56, Tryz.ntmps56
   have M0 := True.intro
   go_wp2_with (first
    | (clear M1; go_at_call 54; (with_reducible refine (eqB_any _ _ _ _ _ _ _ _ _ _ e2 HA2.out HB2.out).mono ?_); rintro e wy ⟨rfl, rfl⟩; have M2 := True.intro)
    | (clear M0; go_at_call 54; (with_reducible refine (eqB_any _ _ _ _ _ _ _ _ _ _ e1 HA1.out HB1.out).mono ?_); rintro e wy ⟨rfl, rfl⟩; have M1 := True.intro))
   go_ret
   exact ⟨congrArg (fun b => Ending.returned (.bool b)) (sameSp_no (fun h => ne_of_b e2 (congrArg Sp.n h))).symm, HS.out.below⟩
  | true =>
   cases e3 : (l3 == k3) with
   | false =>
    go_enter Tryz.func56, Tryz.ntmps56
    have M0 := True.intro
    go_wp2_with (first
     | (clear M2; go_at_call 54; (with_reducible refine (eqB_any _ _ _ _ _ _ _ _ _ _ e3 HA3.out HB3.out).mono ?_); rintro e wy ⟨rfl, rfl⟩; have M3 := True.intro)
     | (clear M1; go_at_call 54; (with_reducible refine (eqB_any _ _ _ _ _ _ _ _ _ _ e2 HA2.out HB2.out).mono ?_); rintro e wy ⟨rfl, rfl⟩; have M2 := True.intro)
     | (clear M0; go_at_call 54; (with_reducible refine (eqB_any _ _ _ _ _ _ _ _ _ _ e1 HA1.out HB1.out).mono ?_); rintro e wy ⟨rfl, rfl⟩; have M1 := True.intro))
    go_ret
    exact ⟨congrArg (fun b => Ending.returned (.bool b)) (sameSp_no (fun h => ne_of_b e3 (congrArg Sp.s h))).symm, HS.out.below⟩
   | true =>
    cases e4 : (l4 == k4) with
    | false =>
     go_enter Tryz.func56, Tryz.ntmps56
     have M0 := True.intro
     go_wp2_with (first
      | (clear M3; go_at_call 54; (with_reducible refine (eqB_any _ _ _ _ _ _ _ _ _ _ e4 HA4.out HB4.out).mono ?_); rintro e wy ⟨rfl, rfl⟩; have M4 := True.intro)
      | (clear M2; go_at_call 54; (with_reducible refine (eqB_any _ _ _ _ _ _ _ _ _ _ e3 HA3.out HB3.out).mono ?_); rintro e wy ⟨rfl, rfl⟩; have M3 := True.intro)
      | (clear M1; go_at_call 54; (with_reducible refine (eqB_any _ _ _ _ _ _ _ _ _ _ e2 HA2.out HB2.out).mono ?_); rintro e wy ⟨rfl, rfl⟩; have M2 := True.intro)
      | (clear M0; go_at_call 54; (with_reducible refine (eqB_any _ _ _ _ _ _ _ _ _ _ e1 HA1.out HB1.out).mono ?_); rintro e wy ⟨rfl, rfl⟩; have M1 := True.intro))
     go_ret
     exact ⟨congrArg (fun b => Ending.returned (.bool b)) (sameSp_no (fun h => ne_of_b e4 (congrArg Sp.k h))).symm, HS.out.below⟩
    | true =>
     cases e5 : (l5 == k5) with
     | false =>
      go_enter Tryz.func56, Tryz.ntmps56
      have M0 := True.intro
      go_wp2_with (first
       | (clear M4; go_at_call 54; (with_reducible refine (eqB_any _ _ _ _ _ _ _ _ _ _ e5 HA5.out HB5.out).mono ?_); rintro e wy ⟨rfl, rfl⟩; have M5 := True.intro)
       | (clear M3; go_at_call 54; (with_reducible refine (eqB_any _ _ _ _ _ _ _ _ _ _ e4 HA4.out HB4.out).mono ?_); rintro e wy ⟨rfl, rfl⟩; have M4 := True.intro)
       | (clear M2; go_at_call 54; (with_reducible refine (eqB_any _ _ _ _ _ _ _ _ _ _ e3 HA3.out HB3.out).mono ?_); rintro e wy ⟨rfl, rfl⟩; have M3 := True.intro)
       | (clear M1; go_at_call 54; (with_reducible refine (eqB_any _ _ _ _ _ _ _ _ _ _ e2 HA2.out HB2.out).mono ?_); rintro e wy ⟨rfl, rfl⟩; have M2 := True.intro)
       | (clear M0; go_at_call 54; (with_reducible refine (eqB_any _ _ _ _ _ _ _ _ _ _ e1 HA1.out HB1.out).mono ?_); rintro e wy ⟨rfl, rfl⟩; have M1 := True.intro))
      go_ret
      exact ⟨congrArg (fun b => Ending.returned (.bool b)) (sameSp_no (fun h => ne_of_b e5 (congrArg Sp.v h))).symm, HS.out.below⟩
     | true =>
      go_enter Tryz.func56, Tryz.ntmps56
      have M0 := True.intro
      go_wp2_with (first
       | (clear M4; go_at_call 54; (with_reducible refine (eqB_any _ _ _ _ _ _ _ _ _ _ e5 HA5.out HB5.out).mono ?_); rintro e wy ⟨rfl, rfl⟩; have M5 := True.intro)
       | (clear M3; go_at_call 54; (with_reducible refine (eqB_any _ _ _ _ _ _ _ _ _ _ e4 HA4.out HB4.out).mono ?_); rintro e wy ⟨rfl, rfl⟩; have M4 := True.intro)
       | (clear M2; go_at_call 54; (with_reducible refine (eqB_any _ _ _ _ _ _ _ _ _ _ e3 HA3.out HB3.out).mono ?_); rintro e wy ⟨rfl, rfl⟩; have M3 := True.intro)
       | (clear M1; go_at_call 54; (with_reducible refine (eqB_any _ _ _ _ _ _ _ _ _ _ e2 HA2.out HB2.out).mono ?_); rintro e wy ⟨rfl, rfl⟩; have M2 := True.intro)
       | (clear M0; go_at_call 54; (with_reducible refine (eqB_any _ _ _ _ _ _ _ _ _ _ e1 HA1.out HB1.out).mono ?_); rintro e wy ⟨rfl, rfl⟩; have M1 := True.intro))
      go_ret
      exact ⟨congrArg (fun b => Ending.returned (.bool b)) (sameSp_yes (by rw [eq_of_b e1, eq_of_b e2, eq_of_b e3, eq_of_b e4, eq_of_b e5])).symm, HS.out.below⟩
theorem eqFn_any (A B : Option Addr) (n m c d : Nat) (l k : List Sg) (w : World) (hl : l.length = n) (hk : k.length = m) (hn : n ≤ 1000) (hm : m ≤ 1000) (hr1 : Rd w (.slice A n c) 5 n (sgCells l)) (hr2 : Rd w (.slice B m d) 5 m (sgCells k)) (hx : ∀ x ∈ l, SgOK w x) (hy : ∀ x ∈ k, SgOK w x) :
  Calls Tryz.prog 55 #[.slice A n c, .slice B m d, .func (.func 56) #[] #[]] w fun e w' => e = .returned (.bool (sameSl (l.map Sg.p) (k.map Sg.p))) ∧ Below w.heap.size w w' := by
 by_cases h1 : n ≠ m
 ·have d1 : ((n : Int) != (m : Int)) = true := by simp; omega
  have d2 : (n != m) = true := by simp; omega
  have hne : (l.map Sg.p) ≠ (k.map Sg.p) := fun h => by
   have := congrArg List.length h
   rw [List.length_map, List.length_map] at this
   omega
  rw [sameSl_no hne]
  clear hr1 hr2 hx hy hne
  go_enter Tryz.func55, Tryz.ntmps55
  go_wp2_with fail
  go_ret
  exact ⟨rfl, Below.refl _ _⟩
 obtain rfl : n = m := Decidable.not_not.1 h1
 have HR1 := hide hr1
 have HR2 := hide hr2
 have HX := hide hx
 have HY := hide hy
 have HL := hide hl
 have HK := hide hk
 clear hr1 hr2 hx hy hl hk h1 hm
 go_enter Tryz.func55, Tryz.ntmps55
 go_wp2_with fail
 go_loopw [17] (fun iv wr => ∃ (j : Nat), j ≤ n ∧ iv = .int .i64 (j : Int) ∧ (l.take j).map Sg.p = (k.take j).map Sg.p ∧ Hid (Below w.heap.size w wr)) (fun iv _ => n - (intOf iv).toNat)
 case atStart => exact ⟨0, by omega, rfl, rfl, Below.refl _ _⟩
 case round =>
  obtain ⟨j, hj, rfl, hpr, HB⟩ := hrel
  have HPR := hide hpr
  clear hpr
  by_cases hlt : j < n
  ·have d0 : decide ((j : Int) < (n : Int)) = true := by simp; omega
   have d0' : decide (j < n) = true := by simp; omega
   have jn : (j : Int) < (n : Int) := by omega
   have hlk : l[j]? = some (l[j]'(by have := HL.out; omega)) := List.getElem?_eq_getElem _
   have hkk : k[j]? = some (k[j]'(by have := HK.out; omega)) := List.getElem?_eq_getElem _
   obtain ⟨b1, o1, rfl, h8, hc1⟩ := sg_at HR1.out hlk
   obtain ⟨b2, o2, rfl, h9, hc2⟩ := sg_at HR2.out hkk
   have HOX := hide (HX.out _ (List.mem_of_getElem? hlk))
   have HOY := hide (HY.out _ (List.mem_of_getElem? hkk))
   have HT1 := hide (show (l.take (j + 1)).map Sg.p = (l.take j).map Sg.p ++ [(l[j]'(by have := HL.out; omega)).p] by rw [List.take_add_one, hlk, List.map_append]; rfl)
   have HT2 := hide (show (k.take (j + 1)).map Sg.p = (k.take j).map Sg.p ++ [(k[j]'(by have := HK.out; omega)).p] by rw [List.take_add_one, hkk, List.map_append]; rfl)
   have HG1 := hide (show (l.map Sg.p)[j]? = some (l[j]'(by have := HL.out; omega)).p by rw [List.getElem?_map, hlk]; rfl)
   have HG2 := hide (show (k.map Sg.p)[j]? = some (k[j]'(by have := HK.out; omega)).p by rw [List.getElem?_map, hkk]; rfl)
   generalize l[j]'(_) = x at hlk hc1 HOX HT1 HG1
   generalize k[j]'(_) = y at hkk hc2 HOY HT2 HG2
   obtain ⟨⟨A1, ca1, l1⟩, ⟨A2, ca2, l2⟩, ⟨A3, ca3, l3⟩, ⟨A4, ca4, l4⟩, ⟨A5, ca5, l5⟩⟩ := x
   obtain ⟨⟨B1, cb1, k1⟩, ⟨B2, cb2, k2⟩, ⟨B3, cb3, k3⟩, ⟨B4, cb4, k4⟩, ⟨B5, cb5, k5⟩⟩ := y
   clear hlk hkk
   have HS := hide (St.init wr NoB)
   obtain ⟨x0, x1, x2, x3, x4⟩ := hc1 _ HB.out
   have M0 := True.intro
   go_upto_region 6 with (clear M0; refine wl_storeC rfl rfl (HS.out.alloc _ _) 0 rfl (vs := [.slice A1 l1.length ca1, .slice A2 l2.length ca2, .slice A3 l3.length ca3, .slice A4 l4.length ca4, .slice A5 l5.length ca5]) szSigned (Nat.le_refl _) rfl rfl one5 ?_; intro w5 hS5; have HS := hide hS5; clear hS5)
   clear x0 x1 x2 x3 x4
   obtain ⟨y0, y1, y2, y3, y4⟩ := hc2 _ (bnx HB.out HS.out.below)
   have M0 := True.intro
   go_upto_region 7 with (clear M0; refine wl_storeC rfl rfl (HS.out.alloc _ _) 0 rfl (vs := [.slice B1 k1.length cb1, .slice B2 k2.length cb2, .slice B3 k3.length cb3, .slice B4 k4.length cb4, .slice B5 k5.length cb5]) szSigned (Nat.le_refl _) rfl rfl one5 ?_; intro w6 hS5; have HS := hide hS5; clear hS5)
   clear y0 y1 y2 y3 y4 hc1 hc2
   have HBW := hide (bnx HB.out HS.out.below)
   have x0 : _ = some (Value.slice A1 l1.length ca1) := HS.out.cell 1 rfl 0
   have x1 : _ = some (Value.slice A2 l2.length ca2) := HS.out.cell 1 rfl 1
   have x2 : _ = some (Value.slice A3 l3.length ca3) := HS.out.cell 1 rfl 2
   have x3 : _ = some (Value.slice A4 l4.length ca4) := HS.out.cell 1 rfl 3
   have x4 : _ = some (Value.slice A5 l5.length ca5) := HS.out.cell 1 rfl 4
   have HEA1 : Hid (Rd w6 (.slice A1 l1.length ca1) 1 l1.length (bvs l1)) := hide (HOX.out.on HBW.out).b
   have HEA2 : Hid (Rd w6 (.slice A2 l2.length ca2) 1 l2.length (bvs l2)) := hide (HOX.out.on HBW.out).n
   have HEA3 : Hid (Rd w6 (.slice A3 l3.length ca3) 1 l3.length (bvs l3)) := hide (HOX.out.on HBW.out).s
   have HEA4 : Hid (Rd w6 (.slice A4 l4.length ca4) 1 l4.length (bvs l4)) := hide (HOX.out.on HBW.out).k
   have HEA5 : Hid (Rd w6 (.slice A5 l5.length ca5) 1 l5.length (bvs l5)) := hide (HOX.out.on HBW.out).v
   have y0 : _ = some (Value.slice B1 k1.length cb1) := HS.out.cell 0 rfl 0
   have y1 : _ = some (Value.slice B2 k2.length cb2) := HS.out.cell 0 rfl 1
   have y2 : _ = some (Value.slice B3 k3.length cb3) := HS.out.cell 0 rfl 2
   have y3 : _ = some (Value.slice B4 k4.length cb4) := HS.out.cell 0 rfl 3
   have y4 : _ = some (Value.slice B5 k5.length cb5) := HS.out.cell 0 rfl 4
   have HEB1 : Hid (Rd w6 (.slice B1 k1.length cb1) 1 k1.length (bvs k1)) := hide (HOY.out.on HBW.out).b
   have HEB2 : Hid (Rd w6 (.slice B2 k2.length cb2) 1 k2.length (bvs k2)) := hide (HOY.out.on HBW.out).n
   have HEB3 : Hid (Rd w6 (.slice B3 k3.length cb3) 1 k3.length (bvs k3)) := hide (HOY.out.on HBW.out).s
   have HEB4 : Hid (Rd w6 (.slice B4 k4.length cb4) 1 k4.length (bvs k4)) := hide (HOY.out.on HBW.out).k
   have HEB5 : Hid (Rd w6 (.slice B5 k5.length cb5) 1 k5.length (bvs k5)) := hide (HOY.out.on HBW.out).v
   cases eb : sameSp ⟨l1, l2, l3, l4, l5⟩ ⟨k1, k2, k3, k4, k5⟩ with
   | false =>
    go_wp2_with (go_at_call 56; (with_reducible refine (sameSg_core _ _ _ _ _ _ _ _ _ _ _ _ _ _ _ _ _ _ _ _ _ _ _ _ _ _ _ _ _ _ _ _ _ _ _ _ _ _ _ _ _ HEA1.out HEA2.out HEA3.out HEA4.out HEA5.out HEB1.out HEB2.out HEB3.out HEB4.out HEB5.out).mono ?_); rintro e w7 ⟨rfl, hb⟩; rw [eb]; have HS := hide (HS.out.call hb))
    go_ret
    exact ⟨congrArg (fun b => Ending.returned (.bool b)) (sameSl_no (fun h => sameSp_not eb (by
     have h1 := HG1.out
     rw [h, HG2.out] at h1
     exact (Option.some.inj h1).symm))).symm, bnx HB.out HS.out.below⟩
   | true =>
    have HEQ := hide (sameSp_of eb)
    go_wp2_with (go_at_call 56; (with_reducible refine (sameSg_core _ _ _ _ _ _ _ _ _ _ _ _ _ _ _ _ _ _ _ _ _ _ _ _ _ _ _ _ _ _ _ _ _ _ _ _ _ _ _ _ _ HEA1.out HEA2.out HEA3.out HEA4.out HEA5.out HEB1.out HEB2.out HEB3.out HEB4.out HEB5.out).mono ?_); rintro e w7 ⟨rfl, hb⟩; rw [eb]; have HS := hide (HS.out.call hb))
    go_roundw
    case rel => exact ⟨j + 1, by omega, by go_num, (by rw [HT1.out, HT2.out, HPR.out]; exact congrArg (fun z => List.map Sg.p (List.take j k) ++ [z]) HEQ.out), bnx HB.out HS.out.below⟩
    case measure => (simp [intOf]) <;> omega
  ·obtain rfl : j = n := by omega
   have d0 : decide ((j : Int) < (j : Int)) = false := by simp
   have d0' : decide (j < j) = false := by simp
   have hp := HPR.out
   rw [List.take_of_length_le (by rw [HL.out]; omega), List.take_of_length_le (by rw [HK.out]; omega)] at hp
   have HP := hide hp
   clear hp
   go_wp2_with fail
   go_ret
   exact ⟨congrArg (fun b => Ending.returned (.bool b)) (sameSl_yes HP.out).symm, HB.out⟩
end Go.Proofs.YtnohmgpmmhlloaaGreatDoor
