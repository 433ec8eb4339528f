/-
 Joined of texts of mine, in build order: E5, D1, Lift, Opg, Oq, D2, E6, Lm, E7. Each says what it proves at its own head.
-/
import Derived.Deep.DeepCutAuto
import Derived.ProofKit
import Derived.OpenShut
import Derived.SizedLaws
import Derived.Carry
import Derived.Deep.Fields
import Derived.Deep.Slices
import Derived.ShutString
import Derived.Test.YtnohmgpmmhlloaaGreatDoorRows
import Derived.LaidMore
import Derived.Stop.Joined
import Derived.Test.YtnohmgpmmhlloaaGreatDoorCards
import Derived.Test.YtnohmgpmmhlloaaGreatDoorTie
import Derived.SevenTiedAt
import Derived.Test.YtnohmgpmmhlloaaGreatDoorQi
set_option linter.unusedSimpArgs false
set_option linter.unusedVariables false
set_option maxRecDepth 100000
set_option maxHeartbeats 25600000

namespace Go.Proofs.YtnohmgpmmhlloaaGreatDoor.S6
set_option maxRecDepth 100000
open Go.RowKit
set_option linter.unusedSimpArgs false
def Lng (m1 m2 m3 n : Nat) (l : List Sg) : Prop := m1 ≤ 140737488351232 ∧ m2 ≤ 140737488351232 ∧ m3 ≤ 140737488351232 ∧ n ≤ 140737488351232 ∧ ∀ x ∈ l, x.b.b.length ≤ 140737488351232 ∧ x.n.b.length ≤ 140737488351232 ∧ x.s.b.length ≤ 140737488351232 ∧ x.k.b.length ≤ 140737488351232 ∧ x.v.b.length ≤ 140737488351232
theorem lightQ {bb : Bool} (A1 A2 A3 A : Option Addr) (m1 m2 m3 n c1 c2 c3 c : Nat) (l1 l2 l3 : List UInt8) (l : List Sg) (w : World) (h : TkIn0 w A1 A2 A3 A m1 m2 m3 n c1 c2 c3 c l1 l2 l3 l) (hb : Lng m1 m2 m3 n l) (hz : lightB ⟨l1, l.map Sg.p, l2, l3⟩ = bb) :
  Calls Tryz.prog 23 #[.agg #[.slice A1 m1 c1, .slice A n c, .slice A2 m2 c2, .slice A3 m3 c3]] w fun e w' => e = .returned (.bool bb) ∧ Below w.heap.size w w' := by
 subst hz
 obtain ⟨b1, b2, b3, b4, b5⟩ := hb
 exact light_any A1 A2 A3 A m1 m2 m3 n c1 c2 c3 c l1 l2 l3 l w h.h1 h.h2 h.h3 h.h b1 b2 b3 b4 b5 h.r
section
variable {w0 w : World} {M : Nat → Prop} {H : List Chunk} {p : Tp} {B1 X B2 B3 V1 Y V2 V3 : Option Addr} {m1 d1 n x m2 d2 m3 d3 M1 e1 N y M2 e2 M3 e3 : Nat}
theorem sameR_laid (hS : St w0 M w H) (hL : Laid H p B1 m1 d1 X n x B2 m2 d2 B3 m3 d3) (hL2 : Laid H p V1 M1 e1 Y N y V2 M2 e2 V3 M3 e3) (hn : n ≤ 1000) (hN : N ≤ 1000) :
  Calls Tryz.prog 14 #[.agg #[.slice B1 m1 d1, .slice X n x, .slice B2 m2 d2, .slice B3 m3 d3], .agg #[.slice V1 M1 e1, .slice Y N y, .slice V2 M2 e2, .slice V3 M3 e3]] w fun e w' => e = .returned (.bool true) ∧ Below w.heap.size w w' := by
 obtain ⟨zs, hz, hi⟩ := laid_in0 hS hL
 obtain ⟨ys, hy, hj⟩ := laid_in0 hS hL2
 exact sameRQ _ _ _ _ _ _ _ _ _ _ _ _ _ _ _ _ _ _ _ _ _ _ _ _ _ _ _ _ _ _ _ _ w hi hj hn hN (sameTp_yes (by rw [hz, hy]))
theorem same_mix {A1 A2 A3 A : Option Addr} {q1 q2 q3 q c1 c2 c3 c : Nat} {l1 l2 l3 : List UInt8} {l : List Sg} (hS : St w0 M w H) (hL : Laid H p B1 m1 d1 X n x B2 m2 d2 B3 m3 d3) (hp : ⟨l1, l.map Sg.p, l2, l3⟩ = p) (ht : TkIn0 w A1 A2 A3 A q1 q2 q3 q c1 c2 c3 c l1 l2 l3 l) (hn : n ≤ 1000) (hN : q ≤ 1000) :
  Calls Tryz.prog 22 #[.agg #[.slice B1 m1 d1, .slice X n x, .slice B2 m2 d2, .slice B3 m3 d3], .agg #[.slice A1 q1 c1, .slice A q c, .slice A2 q2 c2, .slice A3 q3 c3]] w fun e w' => e = .returned (.bool true) ∧ Below w.heap.size w w' := by
 obtain ⟨zs, hz, hi⟩ := laid_in0 hS hL
 exact sameQ _ _ _ _ _ _ _ _ _ _ _ _ _ _ _ _ _ _ _ _ _ _ _ _ _ _ _ _ _ _ _ _ w hi ht hn hN (sameTp_yes (by rw [← hp]; rw [← hp] at hz; rw [hz]))
end
theorem EncK.two {p : Tp} {ec q : Nat} {L : List UInt8} (h : EncK p ec q L) : (ec = 0 ∧ L = encL p ∧ Tiny p) ∨ ec = 1 := by
 cases h with
 | ok q ht hq hq2 => exact .inl ⟨rfl, rfl, ht⟩
 | bad h => exact .inr rfl
theorem chainReads_walk (A1 A2 A3 A : Option Addr) (m1 m2 m3 n c1 c2 c3 c : Nat) (l1 l2 l3 : List UInt8) (l : List Sg) (B1 B2 B3 B : Option Addr) (p1 p2 p3 m d1 d2 d3 d : Nat) (k1 k2 k3 : List UInt8) (k : List Sg) (Ar : Option Addr) (nr cr : Nat) (lr : List UInt8) (w : World) (hA : TkIn0 w A1 A2 A3 A m1 m2 m3 n c1 c2 c3 c l1 l2 l3 l) (hbA : Lng m1 m2 m3 n l) (hB : TkIn0 w B1 B2 B3 B p1 p2 p3 m d1 d2 d3 d k1 k2 k3 k) (hbB : Lng p1 p2 p3 m k) (hlr : lr.length = nr) (hrr : Rd w (.slice Ar nr cr) 1 nr (bvs lr)) :
  Calls Tryz.prog 5 #[.agg #[.slice A1 m1 c1, .slice A n c, .slice A2 m2 c2, .slice A3 m3 c3], .agg #[.slice B1 p1 d1, .slice B m d, .slice B2 p2 d2, .slice B3 p3 d3], .slice Ar nr cr] w fun e w' => e = .returned (.bool true) ∧ Below w.heap.size w w' := by
 have hS0 := ((St.init w NoB).alloc #[.slice A1 m1 c1, .slice A n c, .slice A2 m2 c2, .slice A3 m3 c3] 26).alloc #[.slice B1 p1 d1, .slice B m d, .slice B2 p2 d2, .slice B3 p3 d3] 26
 rw [size_alloc1] at hS0
 have HS := hide hS0
 have HA := hide hA
 have HB := hide hB
 have HBA := hide hbA
 have HBB := hide hbB
 have HLR := hide hlr
 have HRR := hide hrr
 clear hS0 hA hB hbA hbB hlr hrr
 have t0 : _ = some (Value.slice A1 m1 c1) := HS.out.cell 1 rfl 0
 have t1 : _ = some (Value.slice A n c) := HS.out.cell 1 rfl 1
 have t2 : _ = some (Value.slice A2 m2 c2) := HS.out.cell 1 rfl 2
 have t3 : _ = some (Value.slice A3 m3 c3) := HS.out.cell 1 rfl 3
 have u0 : _ = some (Value.slice B1 p1 d1) := HS.out.cell 0 rfl 0
 have u1 : _ = some (Value.slice B m d) := HS.out.cell 0 rfl 1
 have u2 : _ = some (Value.slice B2 p2 d2) := HS.out.cell 0 rfl 2
 have u3 : _ = some (Value.slice B3 p3 d3) := HS.out.cell 0 rfl 3
 obtain ⟨la, hla⟩ : ∃ b, lightB ⟨l1, l.map Sg.p, l2, l3⟩ = b := ⟨_, rfl⟩
 obtain ⟨lu, hlu⟩ : ∃ b, lightB ⟨k1, k.map Sg.p, k2, k3⟩ = b := ⟨_, rfl⟩
 have HLA := hide hla
 have HLU := hide hlu
 cases la with
 | false =>
  clear hla hlu
  go_enter Tryz.func5, Tryz.ntmps5
  have KK0 := True.intro
  go_wp2_with (first
   | (clear KK0; go_at_call 23; (with_reducible refine (lightQ A1 A2 A3 A m1 m2 m3 n c1 c2 c3 c l1 l2 l3 l _ (HA.out.on HS.out.below) HBA.out HLA.out).mono ?_); rintro e wl ⟨rfl, hb⟩; have HS := hide (HS.out.call hb); have t0 : _ = some (Value.slice A1 m1 c1) := HS.out.cell 1 rfl 0; have t1 : _ = some (Value.slice A n c) := HS.out.cell 1 rfl 1; have t2 : _ = some (Value.slice A2 m2 c2) := HS.out.cell 1 rfl 2; have t3 : _ = some (Value.slice A3 m3 c3) := HS.out.cell 1 rfl 3; have u0 : _ = some (Value.slice B1 p1 d1) := HS.out.cell 0 rfl 0; have u1 : _ = some (Value.slice B m d) := HS.out.cell 0 rfl 1; have u2 : _ = some (Value.slice B2 p2 d2) := HS.out.cell 0 rfl 2; have u3 : _ = some (Value.slice B3 p3 d3) := HS.out.cell 0 rfl 3; have KK1 := True.intro)
   | (go_at_call 8; (with_reducible refine (awake24_any _).mono ?_); rintro e wy ⟨rfl, hb⟩; have HS := hide (HS.out.call hb)))
  go_ret
  exact ⟨rfl, HS.out.below⟩
 | true =>
 cases lu with
 | false =>
  clear hla hlu
  go_enter Tryz.func5, Tryz.ntmps5
  have KK0 := True.intro
  go_wp2_with (first
   | (clear KK1; go_at_call 23; (with_reducible refine (lightQ B1 B2 B3 B p1 p2 p3 m d1 d2 d3 d k1 k2 k3 k _ (HB.out.on HS.out.below) HBB.out HLU.out).mono ?_); rintro e wm ⟨rfl, hb⟩; have HS := hide (HS.out.call hb); have t0 : _ = some (Value.slice A1 m1 c1) := HS.out.cell 1 rfl 0; have t1 : _ = some (Value.slice A n c) := HS.out.cell 1 rfl 1; have t2 : _ = some (Value.slice A2 m2 c2) := HS.out.cell 1 rfl 2; have t3 : _ = some (Value.slice A3 m3 c3) := HS.out.cell 1 rfl 3; have u0 : _ = some (Value.slice B1 p1 d1) := HS.out.cell 0 rfl 0; have u1 : _ = some (Value.slice B m d) := HS.out.cell 0 rfl 1; have u2 : _ = some (Value.slice B2 p2 d2) := HS.out.cell 0 rfl 2; have u3 : _ = some (Value.slice B3 p3 d3) := HS.out.cell 0 rfl 3; have KK2 := True.intro)
   | (clear KK0; go_at_call 23; (with_reducible refine (lightQ A1 A2 A3 A m1 m2 m3 n c1 c2 c3 c l1 l2 l3 l _ (HA.out.on HS.out.below) HBA.out HLA.out).mono ?_); rintro e wl ⟨rfl, hb⟩; have HS := hide (HS.out.call hb); have t0 : _ = some (Value.slice A1 m1 c1) := HS.out.cell 1 rfl 0; have t1 : _ = some (Value.slice A n c) := HS.out.cell 1 rfl 1; have t2 : _ = some (Value.slice A2 m2 c2) := HS.out.cell 1 rfl 2; have t3 : _ = some (Value.slice A3 m3 c3) := HS.out.cell 1 rfl 3; have u0 : _ = some (Value.slice B1 p1 d1) := HS.out.cell 0 rfl 0; have u1 : _ = some (Value.slice B m d) := HS.out.cell 0 rfl 1; have u2 : _ = some (Value.slice B2 p2 d2) := HS.out.cell 0 rfl 2; have u3 : _ = some (Value.slice B3 p3 d3) := HS.out.cell 0 rfl 3; have KK1 := True.intro)
   | (go_at_call 8; (with_reducible refine (awake24_any _).mono ?_); rintro e wy ⟨rfl, hb⟩; have HS := hide (HS.out.call hb)))
  go_ret
  exact ⟨rfl, HS.out.below⟩
 | true =>
 by_cases h5 : 500 < nr
 ·have q5 : decide ((500 : Int) < (nr : Int)) = true := by simp; omega
  clear h5 hla hlu
  go_enter Tryz.func5, Tryz.ntmps5
  have KK0 := True.intro
  go_wp2_with (first
   | (clear KK1; go_at_call 23; (with_reducible refine (lightQ B1 B2 B3 B p1 p2 p3 m d1 d2 d3 d k1 k2 k3 k _ (HB.out.on HS.out.below) HBB.out HLU.out).mono ?_); rintro e wm ⟨rfl, hb⟩; have HS := hide (HS.out.call hb); have t0 : _ = some (Value.slice A1 m1 c1) := HS.out.cell 1 rfl 0; have t1 : _ = some (Value.slice A n c) := HS.out.cell 1 rfl 1; have t2 : _ = some (Value.slice A2 m2 c2) := HS.out.cell 1 rfl 2; have t3 : _ = some (Value.slice A3 m3 c3) := HS.out.cell 1 rfl 3; have u0 : _ = some (Value.slice B1 p1 d1) := HS.out.cell 0 rfl 0; have u1 : _ = some (Value.slice B m d) := HS.out.cell 0 rfl 1; have u2 : _ = some (Value.slice B2 p2 d2) := HS.out.cell 0 rfl 2; have u3 : _ = some (Value.slice B3 p3 d3) := HS.out.cell 0 rfl 3; have KK2 := True.intro)
   | (clear KK0; go_at_call 23; (with_reducible refine (lightQ A1 A2 A3 A m1 m2 m3 n c1 c2 c3 c l1 l2 l3 l _ (HA.out.on HS.out.below) HBA.out HLA.out).mono ?_); rintro e wl ⟨rfl, hb⟩; have HS := hide (HS.out.call hb); have t0 : _ = some (Value.slice A1 m1 c1) := HS.out.cell 1 rfl 0; have t1 : _ = some (Value.slice A n c) := HS.out.cell 1 rfl 1; have t2 : _ = some (Value.slice A2 m2 c2) := HS.out.cell 1 rfl 2; have t3 : _ = some (Value.slice A3 m3 c3) := HS.out.cell 1 rfl 3; have u0 : _ = some (Value.slice B1 p1 d1) := HS.out.cell 0 rfl 0; have u1 : _ = some (Value.slice B m d) := HS.out.cell 0 rfl 1; have u2 : _ = some (Value.slice B2 p2 d2) := HS.out.cell 0 rfl 2; have u3 : _ = some (Value.slice B3 p3 d3) := HS.out.cell 0 rfl 3; have KK1 := True.intro)
   | (go_at_call 8; (with_reducible refine (awake24_any _).mono ?_); rintro e wy ⟨rfl, hb⟩; have HS := hide (HS.out.call hb)))
  go_ret
  exact ⟨rfl, HS.out.below⟩
 have q5 : decide ((500 : Int) < (nr : Int)) = false := by simp; omega
 obtain ⟨i1, i2⟩ := light_iff hla
 obtain ⟨j1, j2⟩ := light_iff hlu
 have tn := light_tiny hla
 obtain ⟨ec, q, L, hek⟩ := encK_of hla
 have HSM := hide (show ∀ x ∈ l, x.p.sm from fun x hx => by
  obtain ⟨a1, a2, a3, a4, a5⟩ := tn _ (List.mem_map_of_mem hx)
  exact ⟨by omega, by omega, by omega, by omega, by omega⟩)
 replace i1 : (l.map Sg.p).length ≤ 12 := i1
 replace j1 : (k.map Sg.p).length ≤ 12 := j1
 replace i2 : l1.length + l2.length + l3.length + totL (l.map Sg.p) ≤ 5000 := i2
 rw [List.length_map, HA.out.h] at i1
 rw [List.length_map, HB.out.h] at j1
 rw [HA.out.h1] at i2
 have HEK := hide hek
 have HQQ := hide hek.len
 have HM15 := hide (show m1 ≤ 10000 by omega)
 have HM16 := hide (show m1 ≤ 1000000 by omega)
 have HR5 := hide (show nr ≤ 65536 by omega)
 have HN1 := hide (show n ≤ 1000 by omega)
 have HN2 := hide (show m ≤ 1000 by omega)
 obtain ⟨⟨rc, p⟩, hz⟩ : ∃ r : Rz, decRz lr l1 = r := ⟨_, rfl⟩
 have h8 : p.l.length ≤ 8 := by have := dec_l8 lr l1; rw [hz] at this; exact this
 obtain ⟨bb, hbb⟩ : ∃ b, sameTp ⟨l1, l.map Sg.p, l2, l3⟩ ⟨k1, k.map Sg.p, k2, k3⟩ = b := ⟨_, rfl⟩
 have HSB := hide hbb
 have HZ := hide hz
 obtain ⟨M1, hM1⟩ : ∃ m, p.r.length = m := ⟨_, rfl⟩
 obtain ⟨N, hN⟩ : ∃ m, p.l.length = m := ⟨_, rfl⟩
 obtain ⟨M2, hM2⟩ : ∃ m, p.e.length = m := ⟨_, rfl⟩
 obtain ⟨M3, hM3⟩ : ∃ m, p.z.length = m := ⟨_, rfl⟩
 have HN8 := hide (show N ≤ 1000 by omega)
 have HM1 := hide hM1
 have HN := hide hN
 have HM2 := hide hM2
 have HM3 := hide hM3
 clear hla hlu tn hek h8 hz hbb hM1 hN hM2 hM3 j2 i2 h5
 go_enter Tryz.func5, Tryz.ntmps5
 have KK0 := True.intro
 go_upto_region 3 with (first
  | (clear KK1; go_at_call 23; (with_reducible refine (lightQ B1 B2 B3 B p1 p2 p3 m d1 d2 d3 d k1 k2 k3 k _ (HB.out.on HS.out.below) HBB.out HLU.out).mono ?_); rintro e wm ⟨rfl, hb⟩; have HS := hide (HS.out.call hb); have t0 : _ = some (Value.slice A1 m1 c1) := HS.out.cell 1 rfl 0; have t1 : _ = some (Value.slice A n c) := HS.out.cell 1 rfl 1; have t2 : _ = some (Value.slice A2 m2 c2) := HS.out.cell 1 rfl 2; have t3 : _ = some (Value.slice A3 m3 c3) := HS.out.cell 1 rfl 3; have u0 : _ = some (Value.slice B1 p1 d1) := HS.out.cell 0 rfl 0; have u1 : _ = some (Value.slice B m d) := HS.out.cell 0 rfl 1; have u2 : _ = some (Value.slice B2 p2 d2) := HS.out.cell 0 rfl 2; have u3 : _ = some (Value.slice B3 p3 d3) := HS.out.cell 0 rfl 3; have KK2 := True.intro)
  | (clear KK0; go_at_call 23; (with_reducible refine (lightQ A1 A2 A3 A m1 m2 m3 n c1 c2 c3 c l1 l2 l3 l _ (HA.out.on HS.out.below) HBA.out HLA.out).mono ?_); rintro e wl ⟨rfl, hb⟩; have HS := hide (HS.out.call hb); have t0 : _ = some (Value.slice A1 m1 c1) := HS.out.cell 1 rfl 0; have t1 : _ = some (Value.slice A n c) := HS.out.cell 1 rfl 1; have t2 : _ = some (Value.slice A2 m2 c2) := HS.out.cell 1 rfl 2; have t3 : _ = some (Value.slice A3 m3 c3) := HS.out.cell 1 rfl 3; have u0 : _ = some (Value.slice B1 p1 d1) := HS.out.cell 0 rfl 0; have u1 : _ = some (Value.slice B m d) := HS.out.cell 0 rfl 1; have u2 : _ = some (Value.slice B2 p2 d2) := HS.out.cell 0 rfl 2; have u3 : _ = some (Value.slice B3 p3 d3) := HS.out.cell 0 rfl 3; have KK1 := True.intro))
 clear KK2 q5
 have KK0 := True.intro
 go_upto_region 8 with (first
  | (clear KK6; go_at_call 28; (with_reducible refine (ids_any A1 A2 A3 A m1 m2 m3 n c1 c2 c3 c l _ HA.out.h HN1.out HSM.out (HA.out.r.below HS.out.below) (HA.out.on HS.out.below).ok).mono ?_); rintro e w10 ⟨IX, ix, qs, G7, rfl, hql, hqb, hqm, hS7⟩; have HQL := hide hql; have HQB := hide hqb; have HQM := hide hqm; have HS := hide (St.rot _ _ (HS.out.join hS7)); clear hql hqb hqm hS7; have KK7 := True.intro)
  | (clear KK5; refine wl_storeC rfl rfl (HS.out.alloc _ _) 0 rfl (vs := [.slice V1 M1 f1, .slice Z N z, .slice V2 M2 f2, .slice V3 M3 f3]) szToken (Nat.le_refl _) rfl rfl one4 ?_; intro w9 hS9; have HS : Hid (St w NoB w9 (.cells w8.heap.size #[.slice V1 M1 f1, .slice Z N z, .slice V2 M2 f2, .slice V3 M3 f3] 26 :: .cells w6.heap.size #[.slice U1 M1 e1, .slice Y N y, .slice U2 M2 e2, .slice U3 M3 e3] 26 :: .row (.slice Bf q df) 5 1 q (bvs L) :: .row (.slice Be q de) 5 1 q (bvs L) :: .cells (w.heap.size + 1) #[.slice B1 p1 d1, .slice B m d, .slice B2 p2 d2, .slice B3 p3 d3] 26 :: .cells w.heap.size #[.slice A1 m1 c1, .slice A n c, .slice A2 m2 c2, .slice A3 m3 c3] 26 :: (G5 ++ G6))) := hide hS9; clear hS9; have t0 : _ = some (Value.slice A1 m1 c1) := HS.out.cell 5 rfl 0; have t1 : _ = some (Value.slice A n c) := HS.out.cell 5 rfl 1; have t2 : _ = some (Value.slice A2 m2 c2) := HS.out.cell 5 rfl 2; have t3 : _ = some (Value.slice A3 m3 c3) := HS.out.cell 5 rfl 3; have KK6 := True.intro)
  | (clear KK4; go_at_call 27; (with_reducible refine (decodeR_inS _ HLR.out HR5.out HA.out.h1 HM15.out (HRR.out.below HS.out.below) (HA.out.r1.below HS.out.below) HZ.out HM1.out HN.out HM2.out HM3.out).mono ?_); rintro e w8 ⟨V1, f1, Z, z, V2, f2, V3, f3, G6, rfl, hL6, hS6⟩; have HL6 := hide hL6; have HS := hide (St.rot _ _ (HS.out.join hS6)); clear hL6 hS6; have KK5 := True.intro)
  | (clear KK3; refine wl_storeC rfl rfl (HS.out.alloc _ _) 0 rfl (vs := [.slice U1 M1 e1, .slice Y N y, .slice U2 M2 e2, .slice U3 M3 e3]) szToken (Nat.le_refl _) rfl rfl one4 ?_; intro w7 hS7; have HS : Hid (St w NoB w7 (.cells w6.heap.size #[.slice U1 M1 e1, .slice Y N y, .slice U2 M2 e2, .slice U3 M3 e3] 26 :: .row (.slice Bf q df) 5 1 q (bvs L) :: .row (.slice Be q de) 5 1 q (bvs L) :: .cells (w.heap.size + 1) #[.slice B1 p1 d1, .slice B m d, .slice B2 p2 d2, .slice B3 p3 d3] 26 :: .cells w.heap.size #[.slice A1 m1 c1, .slice A n c, .slice A2 m2 c2, .slice A3 m3 c3] 26 :: G5)) := hide hS7; clear hS7; have t0 : _ = some (Value.slice A1 m1 c1) := HS.out.cell 4 rfl 0; have t1 : _ = some (Value.slice A n c) := HS.out.cell 4 rfl 1; have t2 : _ = some (Value.slice A2 m2 c2) := HS.out.cell 4 rfl 2; have t3 : _ = some (Value.slice A3 m3 c3) := HS.out.cell 4 rfl 3; have KK4 := True.intro)
  | (clear KK2; go_at_call 26; (with_reducible refine (decode_inS _ HLR.out HR5.out HA.out.h1 HM16.out (HRR.out.below HS.out.below) (HA.out.r1.below HS.out.below) HZ.out HM1.out HN.out HM2.out HM3.out).mono ?_); rintro e w6 ⟨U1, e1, Y, y, U2, e2, U3, e3, G5, rfl, hL5, hS5⟩; have HL5 := hide hL5; have HS := hide (St.rot _ _ (HS.out.join hS5)); clear hL5 hS5; have KK3 := True.intro)
  | (clear KK1; go_at_call 25; (with_reducible refine (encodeRQ A1 A2 A3 A m1 m2 m3 n c1 c2 c3 c l1 l2 l3 l _ (HA.out.on HS.out.below) HEK.out).mono ?_); rintro e w5 ⟨Bf, df, rfl, hb, ho⟩; have HS := hide (HS.out.row hb ho); clear ho hb; have t0 : _ = some (Value.slice A1 m1 c1) := HS.out.cell 3 rfl 0; have t1 : _ = some (Value.slice A n c) := HS.out.cell 3 rfl 1; have t2 : _ = some (Value.slice A2 m2 c2) := HS.out.cell 3 rfl 2; have t3 : _ = some (Value.slice A3 m3 c3) := HS.out.cell 3 rfl 3; have KK2 := True.intro)
  | (clear KK0; go_at_call 24; (with_reducible refine (encodeQ A1 A2 A3 A m1 m2 m3 n c1 c2 c3 c l1 l2 l3 l _ (HA.out.on HS.out.below) HEK.out).mono ?_); rintro e w4 ⟨Be, de, rfl, hb, ho⟩; have HS := hide (HS.out.row hb ho); clear ho hb; have t0 : _ = some (Value.slice A1 m1 c1) := HS.out.cell 2 rfl 0; have t1 : _ = some (Value.slice A n c) := HS.out.cell 2 rfl 1; have t2 : _ = some (Value.slice A2 m2 c2) := HS.out.cell 2 rfl 2; have t3 : _ = some (Value.slice A3 m3 c3) := HS.out.cell 2 rfl 3; have KK1 := True.intro))
 have HS : Hid (St w NoB w10 (.cells w8.heap.size #[.slice V1 M1 f1, .slice Z N z, .slice V2 M2 f2, .slice V3 M3 f3] 26 :: .cells w6.heap.size #[.slice U1 M1 e1, .slice Y N y, .slice U2 M2 e2, .slice U3 M3 e3] 26 :: .row (.slice Bf q df) 5 1 q (bvs L) :: .row (.slice Be q de) 5 1 q (bvs L) :: .cells (w.heap.size + 1) #[.slice B1 p1 d1, .slice B m d, .slice B2 p2 d2, .slice B3 p3 d3] 26 :: .cells w.heap.size #[.slice A1 m1 c1, .slice A n c, .slice A2 m2 c2, .slice A3 m3 c3] 26 :: ((G5 ++ G6) ++ (.row (.slice IX n ix) 22 1 n (qs.flatMap PcV.cells) :: G7)))) := HS
 generalize w8.heap.size = db at HS ⊢
 generalize w6.heap.size = cb at HS ⊢
 have hg5 : ∀ ch ∈ G5, ch ∈ (G5 ++ G6) ++ (.row (.slice IX n ix) 22 1 n (qs.flatMap PcV.cells) :: G7) := fun _ hc => List.mem_append_left _ (List.mem_append_left _ hc)
 have hg6 : ∀ ch ∈ G6, ch ∈ (G5 ++ G6) ++ (.row (.slice IX n ix) 22 1 n (qs.flatMap PcV.cells) :: G7) := fun _ hc => List.mem_append_left _ (List.mem_append_right _ hc)
 have hg7 : Chunk.row (.slice IX n ix) 22 1 n (qs.flatMap PcV.cells) ∈ (G5 ++ G6) ++ (.row (.slice IX n ix) 22 1 n (qs.flatMap PcV.cells) :: G7) := List.mem_append_right _ (List.mem_cons_self ..)
 have hg8 : ∀ ch ∈ G7, ch ∈ (G5 ++ G6) ++ (.row (.slice IX n ix) 22 1 n (qs.flatMap PcV.cells) :: G7) := fun _ hc => List.mem_append_right _ (List.mem_cons_of_mem _ hc)
 have HLC := HL5.out.mono hg5
 have HLD := HL6.out.mono hg6
 have HQN := fun q hq => hg8 _ (HQM.out q hq)
 generalize (G5 ++ G6) ++ (.row (.slice IX n ix) 22 1 n (qs.flatMap PcV.cells) :: G7) = G at HS HLC HLD HQN hg7
 clear hg5 hg6 hg8 HL5 HL6 HQM KK7 t0 t1 t2 t3 u0 u1 u2 u3
 have hcons : ∀ ch ∈ G, ch ∈ (.cells db #[.slice V1 M1 f1, .slice Z N z, .slice V2 M2 f2, .slice V3 M3 f3] 26 :: .cells cb #[.slice U1 M1 e1, .slice Y N y, .slice U2 M2 e2, .slice U3 M3 e3] 26 :: .row (.slice Bf q df) 5 1 q (bvs L) :: .row (.slice Be q de) 5 1 q (bvs L) :: .cells (w.heap.size + 1) #[.slice B1 p1 d1, .slice B m d, .slice B2 p2 d2, .slice B3 p3 d3] 26 :: .cells w.heap.size #[.slice A1 m1 c1, .slice A n c, .slice A2 m2 c2, .slice A3 m3 c3] 26 :: G : List Chunk) := fun _ hc => by (iterate 6 apply List.mem_cons_of_mem); exact hc
 have HLC := hide (HLC.mono hcons)
 have HLD := hide (HLD.mono hcons)
 have HQN := hide (fun q hq => hcons _ (HQN q hq))
 have HIM := hide (hcons _ hg7)
 clear hcons hg7
 refine wp_region_T [(0, 1), (1, 0), (2, 1), (3, 0), (4, 1), (5, 1), (6, 1), (7, 1), (8, 1), (9, 1), (10, 1), (11, 0), (12, 0), (13, 2), (14, 1), (15, 1), (16, 1), (17, 1), (18, 1), (19, 1), (20, 1), (21, 1), (22, 0), (23, 0), (25, 0), (26, 0), (24, 2), (27, 2), (28, 1), (29, 1), (30, 1), (31, 1), (32, 1), (33, 1), (34, 0), (35, 1), (36, 1), (37, 1)] (by kernel_rfl) (by kernel_rfl) (fun _ _ _ _ h => h) ?_
 have HS := hide HS.out.drew
 generalize World.drew _ = w3 at HS ⊢
 have x0 : _ = some (Value.slice V1 M1 f1) := HS.out.cell 0 rfl 0
 have x1 : _ = some (Value.slice Z N z) := HS.out.cell 0 rfl 1
 have x2 : _ = some (Value.slice V2 M2 f2) := HS.out.cell 0 rfl 2
 have x3 : _ = some (Value.slice V3 M3 f3) := HS.out.cell 0 rfl 3
 have y0 : _ = some (Value.slice U1 M1 e1) := HS.out.cell 1 rfl 0
 have y1 : _ = some (Value.slice Y N y) := HS.out.cell 1 rfl 1
 have y2 : _ = some (Value.slice U2 M2 e2) := HS.out.cell 1 rfl 2
 have y3 : _ = some (Value.slice U3 M3 e3) := HS.out.cell 1 rfl 3
 have u0 : _ = some (Value.slice B1 p1 d1) := HS.out.cell 4 rfl 0
 have u1 : _ = some (Value.slice B m d) := HS.out.cell 4 rfl 1
 have u2 : _ = some (Value.slice B2 p2 d2) := HS.out.cell 4 rfl 2
 have u3 : _ = some (Value.slice B3 p3 d3) := HS.out.cell 4 rfl 3
 have t0 : _ = some (Value.slice A1 m1 c1) := HS.out.cell 5 rfl 0
 have t1 : _ = some (Value.slice A n c) := HS.out.cell 5 rfl 1
 have t2 : _ = some (Value.slice A2 m2 c2) := HS.out.cell 5 rfl 2
 have t3 : _ = some (Value.slice A3 m3 c3) := HS.out.cell 5 rfl 3
 have cv1 := fun x (hx : From w3 x) => run_str (P := Tryz.prog) Tryz.underlying22 Tryz.underlying5 Tryz.underlying9 ((HS.out.rd 3 rfl).below hx)
 have cv2 := fun x (hx : From w3 x) => run_str (P := Tryz.prog) Tryz.underlying22 Tryz.underlying5 Tryz.underlying9 ((HS.out.rd 2 rfl).below hx)
 have KK0 := True.intro
 go_wp2_with (first
  | (clear KK2; go_at_call 14; (with_reducible refine (sameRQ A1 A2 A3 A m1 m2 m3 n c1 c2 c3 c l1 l2 l3 l B1 B2 B3 B p1 p2 p3 m d1 d2 d3 d k1 k2 k3 k _ (HA.out.on HS.out.below) (HB.out.on HS.out.below) HN1.out HN2.out HSB.out).mono ?_); rintro e wc ⟨rfl, hb⟩; have HS := hide (HS.out.call hb); have t0 : _ = some (Value.slice A1 m1 c1) := HS.out.cell 5 rfl 0; have t1 : _ = some (Value.slice A n c) := HS.out.cell 5 rfl 1; have t2 : _ = some (Value.slice A2 m2 c2) := HS.out.cell 5 rfl 2; have t3 : _ = some (Value.slice A3 m3 c3) := HS.out.cell 5 rfl 3; have KK3 := True.intro)
  | (clear KK1; go_at_call 22; (with_reducible refine (sameQ A1 A2 A3 A m1 m2 m3 n c1 c2 c3 c l1 l2 l3 l B1 B2 B3 B p1 p2 p3 m d1 d2 d3 d k1 k2 k3 k _ (HA.out.on HS.out.below) (HB.out.on HS.out.below) HN1.out HN2.out HSB.out).mono ?_); rintro e wb ⟨rfl, hb⟩; have HS := hide (HS.out.call hb); have u0 : _ = some (Value.slice B1 p1 d1) := HS.out.cell 4 rfl 0; have u1 : _ = some (Value.slice B m d) := HS.out.cell 4 rfl 1; have u2 : _ = some (Value.slice B2 p2 d2) := HS.out.cell 4 rfl 2; have u3 : _ = some (Value.slice B3 p3 d3) := HS.out.cell 4 rfl 3; have t0 : _ = some (Value.slice A1 m1 c1) := HS.out.cell 5 rfl 0; have t1 : _ = some (Value.slice A n c) := HS.out.cell 5 rfl 1; have t2 : _ = some (Value.slice A2 m2 c2) := HS.out.cell 5 rfl 2; have t3 : _ = some (Value.slice A3 m3 c3) := HS.out.cell 5 rfl 3; have KK2 := True.intro)
  | (clear KK0; go_at_call 14; (with_reducible refine (sameR_laid HS.out HLC.out HLD.out HN8.out HN8.out).mono ?_); rintro e wa ⟨rfl, hb⟩; have HS := hide (HS.out.call hb); have u0 : _ = some (Value.slice B1 p1 d1) := HS.out.cell 4 rfl 0; have u1 : _ = some (Value.slice B m d) := HS.out.cell 4 rfl 1; have u2 : _ = some (Value.slice B2 p2 d2) := HS.out.cell 4 rfl 2; have u3 : _ = some (Value.slice B3 p3 d3) := HS.out.cell 4 rfl 3; have t0 : _ = some (Value.slice A1 m1 c1) := HS.out.cell 5 rfl 0; have t1 : _ = some (Value.slice A n c) := HS.out.cell 5 rfl 1; have t2 : _ = some (Value.slice A2 m2 c2) := HS.out.cell 5 rfl 2; have t3 : _ = some (Value.slice A3 m3 c3) := HS.out.cell 5 rfl 3; have KK1 := True.intro)
  | (refine wpT_nil ?_)   | ((with_reducible refine fromT_refl ?_); (try simp only [Act.put, nq1, nq2, nq3, nq4, nq5, nq6]))   | ((with_reducible refine fromT_mk (by assumption) ?_); (try simp only [Act.put, nq1, nq2, nq3, nq4, nq5, nq6]))   | (refine wpT_pure (v := ?_) rfl rfl ?_ ?_; rotate_left; (intro wx; go_simp; try go_bits) <;> (with_reducible rfl); (try simp only [Act.put, nq1, nq2, nq3, nq4, nq5, nq6]))   | (refine wpT_load (v := ?_) rfl rfl rfl ?_ ?_; rotate_left; (go_simp; try go_bits) <;> (with_reducible rfl); (try simp only [Act.put, nq1, nq2, nq3, nq4, nq5, nq6]))   | (refine wpT_read (v := ?_) rfl rfl ?_ ?_; rotate_left; (intro wx hx; go_simp; try go_bits) <;> (with_reducible rfl); (try simp only [Act.put, nq1, nq2, nq3, nq4, nq5, nq6]))   | (refine wpT_call rfl rfl ?_; intro K hK)   | (refine wpT_late rfl rfl ?_; intro K hK)   | (refine wpT_any rfl rfl ?_; intro K hK)   | (refine wpT_skip rfl rfl ?_; (try simp only [Act.put, nq1, nq2, nq3, nq4, nq5, nq6])))
 go_loopw [100] (fun iv wr => ∃ (i : Nat), i ≤ n ∧ iv = .int .i64 (i : Int) ∧ Hid (St w NoB wr (.cells db #[.slice V1 M1 f1, .slice Z N z, .slice V2 M2 f2, .slice V3 M3 f3] 26 :: .cells cb #[.slice U1 M1 e1, .slice Y N y, .slice U2 M2 e2, .slice U3 M3 e3] 26 :: .row (.slice Bf q df) 5 1 q (bvs L) :: .row (.slice Be q de) 5 1 q (bvs L) :: .cells (w.heap.size + 1) #[.slice B1 p1 d1, .slice B m d, .slice B2 p2 d2, .slice B3 p3 d3] 26 :: .cells w.heap.size #[.slice A1 m1 c1, .slice A n c, .slice A2 m2 c2, .slice A3 m3 c3] 26 :: G))) (fun iv _ => n - (intOf iv).toNat)
 case atStart => exact ⟨0, by omega, rfl, HS⟩
 case round =>
  clear HS x0 x1 x2 x3 y0 y1 y2 y3 t0 t1 t2 t3 u0 u1 u2 u3 cv1 cv2
  obtain ⟨i, hi, rfl, HSR⟩ := hrel
  by_cases hlt : i < n
  ·have z0 : decide ((i : Int) < (n : Int)) = true := by simp; omega
   have z0' : decide (i < n) = true := by simp; omega
   have im : (i : Int) < (n : Int) := by omega
   obtain ⟨qe, hqe⟩ : ∃ q, qs[i]? = some q := ⟨qs[i]'(by rw [HQL.out]; exact hlt), List.getElem?_eq_getElem _⟩
   obtain ⟨ze, hze⟩ : ∃ q, l[i]? = some q := ⟨l[i]'(by rw [HA.out.h]; exact hlt), List.getElem?_eq_getElem _⟩
   have hbs : qe.b = ze.s.b := by
    have h1 : (qs.map PcV.b)[i]? = some qe.b := by rw [List.getElem?_map, hqe]; rfl
    rw [HQB.out, List.getElem?_map, hze] at h1
    injection h1 with h1
    exact h1.symm
   obtain ⟨ib, io, hI, hc⟩ := rd_cell (row_rd HSR.out HIM.out) (pcs_get hqe)
   have HQ1 := hide (show Rd wr (.slice qe.A qe.b.length qe.c) 1 qe.b.length (bvs qe.b) from row_rd HSR.out (HQN.out qe (List.mem_of_getElem? hqe)))
   obtain ⟨xb, xo, hX, hb9, hc9⟩ := sg_at HA.out.r hze
   obtain ⟨g0, g1, g2, g3, g4⟩ := hc9 _ HSR.out.below
   have HZ1 := hide (show Rd wr (.slice ze.s.A ze.s.b.length ze.s.c) 1 ze.s.b.length (bvs ze.s.b) from ((HA.out.on HSR.out.below).ok _ (List.mem_of_getElem? hze)).s)
   clear hc9 g0 g1 g3 g4 hqe hze
   obtain ⟨E1, h1, y1⟩ := qe
   generalize ze.s = zs at hbs g2 HZ1
   obtain ⟨E2, h2, y2⟩ := zs
   replace hbs : y1 = y2 := hbs
   subst hbs
   replace g2 : wr.cell? ⟨xb, xo + i * 5 + 2, none⟩ = some (.slice E2 y1.length h2) := g2
   have HQ1 : Hid (Rd wr (.slice E1 y1.length h1) 1 y1.length (bvs y1)) := HQ1
   have HZ1 : Hid (Rd wr (.slice E2 y1.length h2) 1 y1.length (bvs y1)) := HZ1
   subst hI
   subst hX
   have HS : Hid (St w NoB wr (.cells db #[.slice V1 M1 f1, .slice Z N z, .slice V2 M2 f2, .slice V3 M3 f3] 26 :: .cells cb #[.slice U1 M1 e1, .slice Y N y, .slice U2 M2 e2, .slice U3 M3 e3] 26 :: .row (.slice Bf q df) 5 1 q (bvs L) :: .row (.slice Be q de) 5 1 q (bvs L) :: .cells (w.heap.size + 1) #[.slice B1 p1 d1, .slice B m d, .slice B2 p2 d2, .slice B3 p3 d3] 26 :: .cells w.heap.size #[.slice A1 m1 c1, .slice (some ⟨xb, xo, none⟩) n c, .slice A2 m2 c2, .slice A3 m3 c3] 26 :: G)) := HSR
   go_upto_region 13 with fail
   refine wp_region_T [(0, 1), (1, 0), (2, 1), (3, 0), (4, 1), (5, 1), (6, 1), (7, 0), (8, 0), (9, 1)] (by kernel_rfl) (by kernel_rfl) (fun _ _ _ _ h => h) ?_
   have HS := hide HS.out.drew
   have t1 : _ = some (Value.slice (some ⟨xb, xo, none⟩) n c) := HS.out.cell 5 rfl 1
   have g2 : wr.drew.cell? ⟨xb, xo + i * 5 + 2, none⟩ = some (.slice E2 y1.length h2) := g2
   have HQ1 : Hid (Rd wr.drew (.slice E1 y1.length h1) 1 y1.length (bvs y1)) := hide (HQ1.out.below ((Below.refl _ _).drew))
   have HZ1 : Hid (Rd wr.drew (.slice E2 y1.length h2) 1 y1.length (bvs y1)) := hide (HZ1.out.below ((Below.refl _ _).drew))
   generalize wr.drew = w3 at HS t1 g2 HQ1 HZ1 ⊢
   have cv1 := fun x (hx : From w3 x) => run_str (P := Tryz.prog) Tryz.underlying22 Tryz.underlying5 Tryz.underlying9 (HQ1.out.below hx)
   have cv2 := fun x (hx : From w3 x) => run_str (P := Tryz.prog) Tryz.underlying22 Tryz.underlying5 Tryz.underlying9 (HZ1.out.below hx)
   go_wp2_with (first | (refine wpT_nil ?_)   | ((with_reducible refine fromT_refl ?_); (try simp only [Act.put, nq1, nq2, nq3, nq4, nq5, nq6]))   | ((with_reducible refine fromT_mk (by assumption) ?_); (try simp only [Act.put, nq1, nq2, nq3, nq4, nq5, nq6]))   | (refine wpT_pure (v := ?_) rfl rfl ?_ ?_; rotate_left; (intro wx; go_simp; try go_bits) <;> (with_reducible rfl); (try simp only [Act.put, nq1, nq2, nq3, nq4, nq5, nq6]))   | (refine wpT_load (v := ?_) rfl rfl rfl ?_ ?_; rotate_left; (go_simp; try go_bits) <;> (with_reducible rfl); (try simp only [Act.put, nq1, nq2, nq3, nq4, nq5, nq6]))   | (refine wpT_read (v := ?_) rfl rfl ?_ ?_; rotate_left; (intro wx hx; go_simp; try go_bits) <;> (with_reducible rfl); (try simp only [Act.put, nq1, nq2, nq3, nq4, nq5, nq6]))   | (refine wpT_call rfl rfl ?_; intro K hK)   | (refine wpT_late rfl rfl ?_; intro K hK)   | (refine wpT_any rfl rfl ?_; intro K hK)   | (refine wpT_skip rfl rfl ?_; (try simp only [Act.put, nq1, nq2, nq3, nq4, nq5, nq6])))
   exact ⟨⟨i + 1, by omega, by first | go_num | omega, HS⟩, by first | go_num | omega | (simp only [intOf]; omega)⟩
  ·obtain rfl : i = n := by omega
   have z0 : decide ((i : Int) < (i : Int)) = false := by simp
   have z0' : decide (i < i) = false := by simp
   have HS := HSR
   have t0 : _ = some (Value.slice A1 m1 c1) := HS.out.cell 5 rfl 0
   have t1 : _ = some (Value.slice A i c) := HS.out.cell 5 rfl 1
   have t2 : _ = some (Value.slice A2 m2 c2) := HS.out.cell 5 rfl 2
   have t3 : _ = some (Value.slice A3 m3 c3) := HS.out.cell 5 rfl 3
   refine HEK.out.two.elim (fun hk => ?yes) (fun hk => ?no)
   case no =>
    subst hk
    go_wp2_with (go_at_call 8; (with_reducible refine (awake24_any _).mono ?_); rintro e wy ⟨rfl, hb⟩; have HS := hide (HS.out.call hb))
    go_ret
    exact ⟨rfl, HS.out.below⟩
   case yes =>
    obtain ⟨rfl, hL, ht⟩ := hk
    obtain ⟨P, hP⟩ : ∃ P : Tp, ⟨l1, l.map Sg.p, l2, l3⟩ = P := ⟨_, rfl⟩
    have HDZ := hide (show decRz L l1 = ⟨0, P⟩ by rw [hL, ← hP]; exact dec_enc ⟨l1, l.map Sg.p, l2, l3⟩ ht)
    have HP := hide hP
    have HP1 := hide (show P.r.length = m1 by rw [← hP]; exact HA.out.h1)
    have HP2 := hide (show P.l.length = i by rw [← hP]; exact (List.length_map ..).trans HA.out.h)
    have HP3 := hide (show P.e.length = m2 by rw [← hP]; exact HA.out.h2)
    have HP4 := hide (show P.z.length = m3 by rw [← hP]; exact HA.out.h3)
    clear hL ht hP
    have KK0 := True.intro
    go_wp2_with (first
     | (clear KK3; go_at_call 8; (with_reducible refine (awake24_any _).mono ?_); rintro e wy ⟨rfl, hb⟩; have HS := hide (HS.out.call hb))
     | (clear KK2; go_at_call 22; (with_reducible refine (same_mix HS.out HLX.out HP.out (HA.out.on HS.out.below) HN1.out HN1.out).mono ?_); rintro e wb ⟨rfl, hb⟩; have HS := hide (HS.out.call hb); have KK3 := True.intro)
     | (clear KK1; refine wl_storeC rfl rfl (HS.out.alloc _ _) 0 rfl (vs := [.slice W1 m1 g1, .slice O i o, .slice W2 m2 g2, .slice W3 m3 g3]) szToken (Nat.le_refl _) rfl rfl one4 ?_; intro w7 hS7; have HS : Hid (St w NoB w7 (.cells w6.heap.size #[.slice W1 m1 g1, .slice O i o, .slice W2 m2 g2, .slice W3 m3 g3] 26 :: .cells db #[.slice V1 M1 f1, .slice Z N z, .slice V2 M2 f2, .slice V3 M3 f3] 26 :: .cells cb #[.slice U1 M1 e1, .slice Y N y, .slice U2 M2 e2, .slice U3 M3 e3] 26 :: .row (.slice Bf q df) 5 1 q (bvs L) :: .row (.slice Be q de) 5 1 q (bvs L) :: .cells (w.heap.size + 1) #[.slice B1 p1 d1, .slice B m d, .slice B2 p2 d2, .slice B3 p3 d3] 26 :: .cells w.heap.size #[.slice A1 m1 c1, .slice A i c, .slice A2 m2 c2, .slice A3 m3 c3] 26 :: (G ++ G8))) := hide hS7; clear hS7; have HLX := hide (HL8.out.mono (G' := .cells w6.heap.size #[.slice W1 m1 g1, .slice O i o, .slice W2 m2 g2, .slice W3 m3 g3] 26 :: .cells db #[.slice V1 M1 f1, .slice Z N z, .slice V2 M2 f2, .slice V3 M3 f3] 26 :: .cells cb #[.slice U1 M1 e1, .slice Y N y, .slice U2 M2 e2, .slice U3 M3 e3] 26 :: .row (.slice Bf q df) 5 1 q (bvs L) :: .row (.slice Be q de) 5 1 q (bvs L) :: .cells (w.heap.size + 1) #[.slice B1 p1 d1, .slice B m d, .slice B2 p2 d2, .slice B3 p3 d3] 26 :: .cells w.heap.size #[.slice A1 m1 c1, .slice A i c, .slice A2 m2 c2, .slice A3 m3 c3] 26 :: (G ++ G8)) (fun _ hc => by (iterate 7 apply List.mem_cons_of_mem); exact List.mem_append_right _ hc)); generalize w6.heap.size = xbb at HS HLX ⊢; have x0 : _ = some (Value.slice W1 m1 g1) := HS.out.cell 0 rfl 0; have x1 : _ = some (Value.slice O i o) := HS.out.cell 0 rfl 1; have x2 : _ = some (Value.slice W2 m2 g2) := HS.out.cell 0 rfl 2; have x3 : _ = some (Value.slice W3 m3 g3) := HS.out.cell 0 rfl 3; have t0 : _ = some (Value.slice A1 m1 c1) := HS.out.cell 6 rfl 0; have t1 : _ = some (Value.slice A i c) := HS.out.cell 6 rfl 1; have t2 : _ = some (Value.slice A2 m2 c2) := HS.out.cell 6 rfl 2; have t3 : _ = some (Value.slice A3 m3 c3) := HS.out.cell 6 rfl 3; have KK2 := True.intro)
     | (clear KK0; go_at_call 26; (with_reducible refine (decode_inS _ HQQ.out.1 HQQ.out.2 HA.out.h1 HM16.out (HS.out.rd 3 rfl) (HA.out.r1.below HS.out.below) HDZ.out HP1.out HP2.out HP3.out HP4.out).mono ?_); rintro e w6 ⟨W1, g1, O, o, W2, g2, W3, g3, G8, rfl, hL8, hS8⟩; have HL8 := hide hL8; have HS := hide (St.rot _ _ (HS.out.join hS8)); clear hL8 hS8; have KK1 := True.intro))
    go_ret
    exact ⟨rfl, HS.out.below⟩
end Go.Proofs.YtnohmgpmmhlloaaGreatDoor.S6

namespace Go.Proofs.YtnohmgpmmhlloaaGreatDoor
open Go.RowKit
set_option linter.unusedSimpArgs false
end Go.Proofs.YtnohmgpmmhlloaaGreatDoor

namespace Go.Proofs.YtnohmgpmmhlloaaGreatDoor
open Go.ChangeShapes Go.WideShapes Go.ChangeAt Go.RowKit Go.Deep
open Go.ChangeMaps (open_string shut_string)

section
variable {H : Type} {enc : TypeId × Value → H} {P : Program}

theorem trodAll_below (hl : laidOutB P = true) {W W' : World} (hb : Below W.heap.size W W') : ∀ (ts : List TypeId) (vs : List Value) (ds : List (DataW H)) (ps : List MemPlace),
  (ts.all fun t => P.readableRec t && decide (t < P.types.size)) = true → DataW.TrodAll enc P W 0 (fun _ => true) true ts vs ds ps → DataW.TrodAll enc P W' 0 (fun b => decide (b < W.heap.size)) true ts vs ds ps
 | [], vs, ds, ps, _, h => by
  obtain ⟨rfl, rfl, rfl⟩ := trodAll_nil h
  exact rfl
 | t :: ts, vs, ds, ps, hts, h => by
  obtain ⟨v, vs', d, ds', p, q, rfl, rfl, rfl, hd, hr⟩ := trodAll_cons h
  simp only [List.all_cons, Bool.and_eq_true, decide_eq_true_eq] at hts
  obtain ⟨⟨k1, k2⟩, k3⟩ := hts
  have lt : ∀ x ∈ p, x.block < W.heap.size := by
   obtain ⟨m, hm⟩ := hd
   exact DataW.trod_lt m _ _ _ hm
  exact ⟨p, q, Below.trod hl k1 k2 hd hb lt, trodAll_below hl hb ts vs' ds' q (by simpa using k3) hr, rfl⟩
theorem trodAll_length : ∀ (ts : List TypeId) {w : World} {base : Nat} {spare : Nat → Bool} {held : Bool} (vs : List Value) (ds : List (DataW H)) (ps : List MemPlace), DataW.TrodAll enc P w base spare held ts vs ds ps → ds.length = ts.length
 | [], _, _, _, _, vs, ds, ps, h => by
  obtain ⟨rfl, rfl, rfl⟩ := trodAll_nil h
  rfl
 | t :: ts, _, _, _, _, vs, ds, ps, h => by
  obtain ⟨v, vs', d, ds', p, q, rfl, rfl, rfl, hd, hr⟩ := trodAll_cons h
  rw [List.length_cons, List.length_cons, trodAll_length ts vs' ds' q hr]

structure Told (P : Program) (enc : TypeId × Value → H) (W : World) (ts : List TypeId) (args : Array Value) (ds : List (DataW H)) (p : List MemPlace) : Prop where
 trod : DataW.TrodAll enc P W 0 (fun _ => true) true ts args.toList ds p
 ok : ∃ base, ∀ (j : Nat) (t : TypeId) (v : Value), ts.toArray[j]? = some t → args[j]? = some v → Value.okWide P W .any base t v
 size : (DataW.weightsEach P ts ds).all (· ≤ reachBytes) = true
end

section
variable {H : Type} {enc : TypeId × Value → H} {P : Program} {W : World}

theorem open_bytes {t e : TypeId} {fuel : Nat} {a : Option Addr} {len cap : Nat} {x : DataW H × List MemPlace} (ht : P.underlying t = some (.slice e)) (he : P.underlying e = some (.int .u8)) (hC : P.cellsOf e = 1) (hB : P.bytesOf e = 1)
  (h : DataW.trod enc P W 0 (fun _ => true) true fuel t [.slice a len cap] = some x) :
  ∃ l : List UInt8, l.length = len ∧ Rd W (.slice a len cap) 1 len (bvs l) ∧ ((∀ n ∈ x.1.weights P t, n ≤ reachBytes) → len ≤ 140737488351232) := by
 rcases open_ints ht he hC h with ⟨hcs, hx⟩ | ⟨ad, len', cap', zs, hcs, _, hl, hm, hz, hx, hcell, hwz⟩
 ·simp only [List.cons.injEq, and_true, Value.slice.injEq] at hcs
  obtain ⟨rfl, rfl, rfl⟩ := hcs
  exact ⟨[], rfl, rd_nil W 1, fun _ => by omega⟩
 ·simp only [List.cons.injEq, and_true, Value.slice.injEq] at hcs
  obtain ⟨rfl, rfl, rfl⟩ := hcs
  simp only [if_true] at hz
  refine ⟨(zs.take len).map fun z => UInt8.ofNat z.toNat, by simp; omega, ⟨some ad, cap, rfl, by rw [length_bvs]; simp; omega, hl, hm, (fun hn => by cases hn), fun b o sp hA => ?_⟩, fun hw => ?_⟩
  case refine_2 =>
   have := hw ((len + (cap - len)) * 1) (by rw [hx]; simp [DataW.weights, ht, lits, hB]; omega)
   simp only [reachBytes] at this
   omega
  injection hA with hA
  subst hA
  have hsp : ∀ j, j < zs.length → sp = none := fun j hj => by
   have h0 := hcell 0 (by omega)
   simpa [Addr.add] using World.cell?_spot h0
  refine ⟨fun hn => hsp 0 (by omega), fun j u hu => ?_⟩
  have hj : j < len := by
   have := (List.getElem?_eq_some_iff.1 hu).1
   rw [length_bvs] at this
   simp at this
   omega
  obtain rfl := hsp 0 (by omega)
  have hc := hcell j (by omega)
  rw [Addr.add_lit] at hc
  rw [hc, ← hu]
  have hjz : j < zs.length := by omega
  simp only [bvs, List.getElem?_map, List.getElem?_take, if_pos hj, List.getElem?_eq_getElem hjz, List.getD_eq_getElem?_getD, Option.map_some, Option.getD_some, bv, UInt8.toNat_ofNat']
  have hwf := hwz _ (List.getElem_mem hjz)
  simp [Lit.wf, IntKind.min, IntKind.max, IntKind.signed, IntKind.bits] at hwf
  congr 2
  omega

theorem weightsAll_mem {e : TypeId} : ∀ {ds : List (DataW H)} {d : DataW H} {n : Nat}, d ∈ ds → n ∈ d.weights P e → n ∈ DataW.weightsAll P e ds
 | _ :: _, _, _, .head _, hn => by simp only [DataW.weightsAll, List.mem_append]; exact .inl hn
 | _ :: _, _, _, .tail _ hd, hn => by simp only [DataW.weightsAll, List.mem_append]; exact .inr (weightsAll_mem hd hn)

theorem flat_at {α β : Type} (f : α → List β) (m : Nat) (hm : ∀ a, (f a).length = m) : ∀ (l : List α) (k j : Nat) (a : α), l[k]? = some a → j < m → (l.flatMap f)[k * m + j]? = (f a)[j]?
 | [], k, j, a, h, _ => by simp at h
 | x :: l, 0, j, a, h, hj => by
  simp only [List.getElem?_cons_zero, Option.some.injEq] at h
  subst h
  rw [List.flatMap_cons, Nat.zero_mul, Nat.zero_add, List.getElem?_append_left (by rw [hm]; exact hj)]
 | x :: l, k + 1, j, a, h, hj => by
  rw [List.flatMap_cons, List.getElem?_append_right (by rw [hm]; rw [Nat.succ_mul]; omega), hm, show (k + 1) * m + j - m = k * m + j from by rw [Nat.succ_mul]; omega]
  exact flat_at f m hm l k j a (by simpa using h) hj
theorem flat_len {α β : Type} (f : α → List β) (m : Nat) (hm : ∀ a, (f a).length = m) (l : List α) : (l.flatMap f).length = l.length * m := by
 induction l with
 | nil => simp
 | cons x l ih => rw [List.flatMap_cons, List.length_append, hm, ih, List.length_cons, Nat.succ_mul]; omega

theorem open_rows {α : Type} (f : α → List Value) {size bytes : Nat} (hf : ∀ p, (f p).length = size) (hpos : 0 < size) (OK : α → Prop) {t e : TypeId} {fuel : Nat} {a : Option Addr} {len cap : Nat} {x : DataW H × List MemPlace}
  (ht : P.underlying t = some (.slice e)) (hC : P.cellsOf e = size) (hB : P.bytesOf e = bytes)
  (hread : ∀ n cs y, DataW.trod enc P W 0 (fun _ => true) true n e cs = some y → ∃ p, cs = f p ∧ ((∀ n ∈ y.1.weights P e, n ≤ reachBytes) → OK p))
  (h : DataW.trod enc P W 0 (fun _ => true) true fuel t [.slice a len cap] = some x) :
  ∃ ps : List α, ps.length = len ∧ Rd W (.slice a len cap) size len (ps.flatMap f) ∧ ((∀ n ∈ x.1.weights P t, n ≤ reachBytes) → (∀ p ∈ ps, OK p) ∧ len * bytes ≤ 140737488351232) := by
 rcases open_slice ht h with ⟨hcs, hx⟩ | ⟨ad, len', cap', m, n, D, Pl, hcs, _, hl, hm, hmm, hx, hi⟩
 ·simp only [List.cons.injEq, and_true, Value.slice.injEq] at hcs
  obtain ⟨rfl, rfl, rfl⟩ := hcs
  exact ⟨[], rfl, rd_nil W size, fun _ => ⟨(fun p hp => by cases hp), by omega⟩⟩
 ·simp only [List.cons.injEq, and_true, Value.slice.injEq] at hcs
  obtain ⟨rfl, rfl, rfl⟩ := hcs
  simp only [if_true] at hmm
  obtain rfl : cap = m := hmm.symm
  have key : ∀ k, k ≤ len → ∃ ps : List α, ps.length = k ∧ ∀ i p, ps[i]? = some p → (∀ j u, (f p)[j]? = some u → W.cell? ((ad.add (i * size)).add j) = some u) ∧ ((∀ n ∈ (D i).weights P e, n ≤ reachBytes) → OK p) := by
   intro k
   induction k with
   | zero => exact fun _ => ⟨[], rfl, fun i p hp => by simp at hp⟩
   | succ k ih =>
    intro hk
    obtain ⟨ps, hps, hall⟩ := ih (by omega)
    obtain ⟨cs', h1, h2⟩ := hi k (by omega)
    obtain ⟨p, rfl, hok⟩ := hread n cs' _ h2
    rw [hC] at h1
    obtain ⟨_, _, hat⟩ := World.cells?_some h1
    refine ⟨ps ++ [p], by simp [hps], fun i q hq => ?_⟩
    rw [List.getElem?_append] at hq
    split at hq
    ·exact hall i q hq
    ·have hik : i = k := by
      have := (List.getElem?_eq_some_iff.1 hq).1
      simp at this
      omega
     subst hik
     have hpq : p = q := by
      rw [hps, Nat.sub_self] at hq
      simpa using hq
     subst hpq
     refine ⟨fun j u hu => ?_, hok⟩
     have hj : j < size := by rw [← hf p]; exact (List.getElem?_eq_some_iff.1 hu).1
     rw [hat j hj, hu]
  obtain ⟨ps, hps, hall⟩ := key len (Nat.le_refl _)
  have hadd : ∀ i j : Nat, (ad.add i).add j = ad.add (i + j) := by
   intro i j
   unfold Addr.add
   by_cases hi : i = 0 <;> by_cases hj : j = 0 <;> simp [hi, hj, Nat.add_assoc]
  have hcell : ∀ q u, (ps.flatMap f)[q]? = some u → W.cell? (ad.add q) = some u := by
   intro q u hu
   have hq : q < len * size := by
    have := (List.getElem?_eq_some_iff.1 hu).1
    rwa [flat_len f size hf, hps] at this
   have hd : q / size < ps.length := by rw [hps]; exact Nat.div_lt_of_lt_mul (by rw [Nat.mul_comm]; exact hq)
   have hr : q % size < size := Nat.mod_lt _ hpos
   have hqe : q / size * size + q % size = q := by rw [Nat.mul_comm]; exact Nat.div_add_mod q size
   have h3 := hall (q / size) ps[q / size] (List.getElem?_eq_getElem hd)
   have h4 := flat_at f size hf ps (q / size) (q % size) ps[q / size] (List.getElem?_eq_getElem hd) hr
   rw [hqe, hu] at h4
   have h5 := h3.1 (q % size) u h4.symm
   rwa [hadd, hqe] at h5
  refine ⟨ps, hps, ⟨some ad, cap, rfl, by rw [flat_len f size hf, hps], hl, hm, (fun hn => by cases hn), fun b o sp hA => ?_⟩, fun hw => ⟨fun p hp => ?_, ?_⟩⟩
  ·injection hA with hA
   subst hA
   have hsp : ∀ q u, (ps.flatMap f)[q]? = some u → sp = none := fun q u hu => by
    have hlt := (List.getElem?_eq_some_iff.1 hu).1
    have h0 := hcell 0 _ (List.getElem?_eq_getElem (by omega))
    simpa [Addr.add] using World.cell?_spot h0
   refine ⟨fun hn => hsp 0 _ (List.getElem?_eq_getElem (by rw [flat_len f size hf, hps]; omega)), fun j u hu => ?_⟩
   have hc := hcell j u hu
   obtain rfl := hsp j u hu
   rwa [Addr.add_lit] at hc
  ·obtain ⟨i, hlt, rfl⟩ := List.getElem_of_mem hp
   refine (hall i _ (List.getElem?_eq_getElem hlt)).2 fun n hn => hw n ?_
   rw [hx]
   simp only [DataW.weights, ht, List.mem_cons, List.mem_append]
   exact .inr (.inl (weightsAll_mem (List.mem_map.2 ⟨i, by simp; omega, rfl⟩) hn))
  ·have := hw ((len + (cap - len)) * bytes) (by rw [hx]; simp [DataW.weights, ht, hB])
   simp only [reachBytes] at this
   exact Nat.le_trans (Nat.mul_le_mul_right bytes (Nat.le_add_right len (cap - len))) this
end
end Go.Proofs.YtnohmgpmmhlloaaGreatDoor

namespace Go.Proofs.YtnohmgpmmhlloaaGreatDoor
open Go.ChangeShapes Go.WideShapes Go.ChangeAt Go.RowKit Go.Deep

section
variable {H : Type} {enc : TypeId × Value → H} {P : Program} {w W : World} {base : Nat} {spare : Nat → Bool} {held : Bool}
end
end Go.Proofs.YtnohmgpmmhlloaaGreatDoor

namespace Go.Proofs.YtnohmgpmmhlloaaGreatDoor
open Go.ChangeShapes Go.WideShapes Go.ChangeAt Go.RowKit

theorem own : ownKnob Tryz.prog.godebug = none := by kernel_rfl
theorem laidOut : laidOutB Tryz.prog = true := by kernel_rfl
theorem cellsU8 : Tryz.prog.cellsOf 5 = 1 := by kernel_rfl
theorem bytesU8 : Tryz.prog.bytesOf 5 = 1 := by kernel_rfl
end Go.Proofs.YtnohmgpmmhlloaaGreatDoor

namespace Go.Proofs.YtnohmgpmmhlloaaGreatDoor
open Go.ChangeShapes Go.WideShapes Go.ChangeAt Go.RowKit
theorem cellsBs : Tryz.prog.cellsOf 22 = 1 := by kernel_rfl
section
variable {H : Type} {enc : TypeId × Value → H} {W : World}
end
end Go.Proofs.YtnohmgpmmhlloaaGreatDoor

namespace Go.Proofs.YtnohmgpmmhlloaaGreatDoor
open Go.ChangeShapes Go.WideShapes Go.ChangeAt Go.RowKit
theorem cellsSg : Tryz.prog.cellsOf 32 = 5 := by kernel_rfl
theorem bytesSg : Tryz.prog.bytesOf 32 = 120 := by kernel_rfl
theorem cellsSgs : Tryz.prog.cellsOf 24 = 1 := by kernel_rfl
theorem cellsTok : Tryz.prog.cellsOf 26 = 4 := by kernel_rfl
def SgLng (x : Sg) : Prop := x.b.b.length ≤ 140737488351232 ∧ x.n.b.length ≤ 140737488351232 ∧ x.s.b.length ≤ 140737488351232 ∧ x.k.b.length ≤ 140737488351232 ∧ x.v.b.length ≤ 140737488351232
def TkArg (W : World) (v : Value) : Prop := ∃ (A1 A2 A3 A : Option Addr) (m1 m2 m3 n c1 c2 c3 c : Nat) (l1 l2 l3 : List UInt8) (l : List Sg), v = .agg #[.slice A1 m1 c1, .slice A n c, .slice A2 m2 c2, .slice A3 m3 c3] ∧ S6.TkIn0 W A1 A2 A3 A m1 m2 m3 n c1 c2 c3 c l1 l2 l3 l ∧ S6.Lng m1 m2 m3 n l
section
variable {H : Type} {enc : TypeId × Value → H} {W : World}
theorem pc_open {n : Nat} {c : Value} {y : DataW H × List MemPlace} (h : DataW.trod enc Tryz.prog W 0 (fun _ => true) true n 22 [c] = some y) :
  ∃ p : PcV, c = .slice p.A p.b.length p.c ∧ PcOK W p ∧ ((∀ n ∈ y.1.weights Tryz.prog 22, n ≤ reachBytes) → p.b.length ≤ 140737488351232) := by
 obtain ⟨A, len, cap, hc⟩ : ∃ A len cap, [c] = [Value.slice A len cap] := by
  rcases DataW.trod_slice Tryz.underlying22 h with ⟨e, _⟩ | ⟨a, l, c, _, _, _, _, e, _⟩ <;> exact ⟨_, _, _, e⟩
 rw [hc] at h
 simp only [List.cons.injEq, and_true] at hc
 subst hc
 obtain ⟨l, rfl, hr, hs⟩ := open_bytes Tryz.underlying22 Tryz.underlying5 cellsU8 bytesU8 h
 exact ⟨⟨A, cap, l⟩, rfl, hr, hs⟩
theorem sg_read (n : Nat) (cs : List Value) (y : DataW H × List MemPlace) (h : DataW.trod enc Tryz.prog W 0 (fun _ => true) true n 32 cs = some y) :
  ∃ x : Sg, cs = x.cells ∧ ((∀ n ∈ y.1.weights Tryz.prog 32, n ≤ reachBytes) → SgOK W x ∧ SgLng x) := by
 obtain ⟨xs, n', hn', hy, hlen, hxl, hf⟩ := DataW.trod_struct Tryz.underlying32 h
 rw [cellsSg] at hlen
 match cs, hlen with
 | [c0, c1, c2, c3, c4], _ =>
  match xs, hxl with
  | [y0, y1, y2, y3, y4], _ =>
   have t0 : DataW.trod enc Tryz.prog W 0 (fun _ => true) true n' 22 [c0] = some y0 := by simpa [cellsBs] using hf 0 _ rfl
   have t1 : DataW.trod enc Tryz.prog W 0 (fun _ => true) true n' 22 [c1] = some y1 := by simpa [cellsBs] using hf 1 _ rfl
   have t2 : DataW.trod enc Tryz.prog W 0 (fun _ => true) true n' 22 [c2] = some y2 := by simpa [cellsBs] using hf 2 _ rfl
   have t3 : DataW.trod enc Tryz.prog W 0 (fun _ => true) true n' 22 [c3] = some y3 := by simpa [cellsBs] using hf 3 _ rfl
   have t4 : DataW.trod enc Tryz.prog W 0 (fun _ => true) true n' 22 [c4] = some y4 := by simpa [cellsBs] using hf 4 _ rfl
   obtain ⟨q0, rfl, o0, s0⟩ := pc_open t0
   obtain ⟨q1, rfl, o1, s1⟩ := pc_open t1
   obtain ⟨q2, rfl, o2, s2⟩ := pc_open t2
   obtain ⟨q3, rfl, o3, s3⟩ := pc_open t3
   obtain ⟨q4, rfl, o4, s4⟩ := pc_open t4
   refine ⟨⟨q0, q1, q2, q3, q4⟩, rfl, fun hw => ?_⟩
   rw [hy] at hw
   simp only [DataW.weights, Tryz.underlying32, List.map_cons, List.map_nil, DataW.weightsEach, List.mem_append] at hw
   exact ⟨⟨o0, o1, o2, o3, o4⟩, s0 fun n hn => hw n (.inl hn), s1 fun n hn => hw n (.inr (.inl hn)), s2 fun n hn => hw n (.inr (.inr (.inl hn))), s3 fun n hn => hw n (.inr (.inr (.inr (.inl hn)))), s4 fun n hn => hw n (.inr (.inr (.inr (.inr (.inl hn)))))⟩
theorem open_token {v : Value} {d : DataW H} {ps : List MemPlace} {r : Reach} {b0 : Nat} (hok : Value.okWide Tryz.prog W r b0 26 v) (h : DataW.Trod enc Tryz.prog W 0 (fun _ => true) true 26 v d ps)
  (hw : ∀ n ∈ d.weights Tryz.prog 26, n ≤ reachBytes) : TkArg W v := by
 obtain ⟨cs, rfl, _⟩ := okWide_struct Tryz.underlying26 hok
 obtain ⟨fuel, hf0⟩ := h
 replace hf0 : DataW.trod enc Tryz.prog W 0 (fun _ => true) true fuel 26 cs.toList = some (d, ps) := hf0
 obtain ⟨xs, n', hn', hy, hlen, hxl, hf⟩ := DataW.trod_struct Tryz.underlying26 hf0
 replace hy := (Prod.mk.inj hy).1
 rw [cellsTok] at hlen
 generalize hcs : cs.toList = L at hlen hf
 clear hf0
 match L, hlen with
 | [v0, v1, v2, v3], _ =>
  match xs, hxl with
  | [y0, y1, y2, y3], _ =>
   have t0 : DataW.trod enc Tryz.prog W 0 (fun _ => true) true n' 22 [v0] = some y0 := by simpa [cellsBs] using hf 0 _ rfl
   have t1 : DataW.trod enc Tryz.prog W 0 (fun _ => true) true n' 24 [v1] = some y1 := by simpa [cellsBs, cellsSgs] using hf 1 _ rfl
   have t2 : DataW.trod enc Tryz.prog W 0 (fun _ => true) true n' 22 [v2] = some y2 := by simpa [cellsBs, cellsSgs] using hf 2 _ rfl
   have t3 : DataW.trod enc Tryz.prog W 0 (fun _ => true) true n' 22 [v3] = some y3 := by simpa [cellsBs, cellsSgs] using hf 3 _ rfl
   obtain ⟨q0, rfl, o0, s0⟩ := pc_open t0
   obtain ⟨q2, rfl, o2, s2⟩ := pc_open t2
   obtain ⟨q3, rfl, o3, s3⟩ := pc_open t3
   obtain ⟨A, len, cap, hc⟩ : ∃ A len cap, [v1] = [Value.slice A len cap] := by
    rcases DataW.trod_slice Tryz.underlying24 t1 with ⟨e, _⟩ | ⟨a, l, c, _, _, _, _, e, _⟩ <;> exact ⟨_, _, _, e⟩
   rw [hc] at t1
   simp only [List.cons.injEq, and_true] at hc
   subst hc
   obtain ⟨l, hl, hr, hk⟩ := open_rows Sg.cells (fun _ => rfl) (by decide) (fun x => SgOK W x ∧ SgLng x) Tryz.underlying24 cellsSg bytesSg sg_read t1
   rw [hy] at hw
   simp only [DataW.weights, Tryz.underlying26, List.map_cons, List.map_nil, DataW.weightsEach, List.mem_append] at hw
   replace s0 := s0 fun n hn => hw n (.inl hn)
   obtain ⟨h4, h5⟩ := hk fun n hn => hw n (.inr (.inl hn))
   replace s2 := s2 fun n hn => hw n (.inr (.inr (.inl hn)))
   replace s3 := s3 fun n hn => hw n (.inr (.inr (.inr (.inl hn))))
   refine ⟨q0.A, q2.A, q3.A, A, _, _, _, len, q0.c, q2.c, q3.c, cap, q0.b, q2.b, q3.b, l, ?_, ⟨rfl, rfl, rfl, hl, o0, o2, o3, hr, fun x hx => (h4 x hx).1⟩, s0, s2, s3, by omega, fun x hx => (h4 x hx).2⟩
   exact congrArg Value.agg (by rw [← Array.toArray_toList (xs := cs), hcs])
end
theorem chainReads_nat (v0 v1 : Value) (Ar : Option Addr) (nr cr : Nat) (lr : List UInt8) (w : World) (h0 : TkArg w v0) (h1 : TkArg w v1) (hlr : lr.length = nr) (hrr : Rd w (.slice Ar nr cr) 1 nr (bvs lr)) :
  Calls Tryz.prog 5 #[v0, v1, .slice Ar nr cr] w fun e w' => e = .returned (.bool true) ∧ Below w.heap.size w w' := by
 obtain ⟨A1, A2, A3, A, m1, m2, m3, n, c1, c2, c3, c, l1, l2, l3, l, rfl, hA, hbA⟩ := h0
 obtain ⟨B1, B2, B3, B, p1, p2, p3, m, d1, d2, d3, d, k1, k2, k3, k, rfl, hB, hbB⟩ := h1
 exact S6.chainReads_walk A1 A2 A3 A m1 m2 m3 n c1 c2 c3 c l1 l2 l3 l B1 B2 B3 B p1 p2 p3 m d1 d2 d3 d k1 k2 k3 k Ar nr cr lr w hA hbA hB hbB hlr hrr
end Go.Proofs.YtnohmgpmmhlloaaGreatDoor

namespace Go.Proofs.YtnohmgpmmhlloaaGreatDoor
open Go.ChangeShapes Go.WideShapes Go.ChangeAt Go.RowKit Go.Deep

theorem lift_laid {C : Checked} (own : ownKnob C.prog.godebug = none) {os : Os} (started : os.Started) {f : FuncId} {fn : Func} (noInit : C.prog.inits.idxOf? f = none) (hfn : C.prog.funcs[f]? = some fn)
  {s : ChangeSpec} (hvars : s.vars = []) (hbare : s.plain.varTypes C.prog = []) {tb : TypeId} (hres : fn.resultTypes = #[tb]) (hbool : C.prog.underlying tb = some .bool) (hl : laidOutB C.prog = true)
  (hts : (fn.params.toList.all fun t => C.prog.readableRec t && decide (t < C.prog.types.size)) = true) {l : List (String × DataW Unit)}
  {H : Type} {enc : TypeId × Value → H} (hspec : ∀ (ds : List (DataW H)), ds.length = fn.params.toList.length → (s.fn H ds).results = [.lit (.bool true)] ∧ (s.fn H ds).args = ds ∧ (s.fn H ds).vars = [])
  (witness : ∃ (w : World) (tape : Tape) (i : Input), w.os = os ∧ (w.forCall tape i).Shaped C.prog ∧ i.vars = [] ∧ Input.okWide C.prog (w.forCall tape i) .any w.heap.size f i ∧
   ((s.pre enc C.prog fn [] false (w.forCall tape i).memory i.args ∧ laidMetH C.prog l (w.forCall tape i).memory) ∧ sizedMet enc C.prog fn (OpenSpec.ofChange s) false (w.forCall tape i).memory i.args) ∧ Assume.holds {} C.prog (lone (Frame.enter C.prog f i.args .normal) [] (w.forCall tape i)))
  (walk : ∀ (W : World) (args : Array Value) (ds : List (DataW H)) (p : List MemPlace), Told C.prog enc W fn.params.toList args ds p → laidMetH C.prog l W →
   Calls C.prog f args W fun e W' => e = .returned (.bool true) ∧ Below W.heap.size W W') :
  ReturnsInHanded {} C os f .any (fun w args => (s.pre enc C.prog fn [] false w args ∧ laidMetH C.prog l w) ∧ sizedMet enc C.prog fn (OpenSpec.ofChange s) false w args) (s.post enc C.prog fn false true false false) := by
 refine returnsInHanded_of_change_and (C := C) (X := fun w _ => laidMetH C.prog l w) (fun _ _ _ hh h => h.of_heap hh) own started noInit hfn witness ?_
 intro W base args ds gs before hval hW _ hsz hL _
 have hW' := hW
 obtain ⟨p, q, hA, hV, rfl, hfz, hnd⟩ := hW
 rw [hvars] at hV
 obtain ⟨rfl, rfl⟩ := trodVars_none hV
 have hlen := trodAll_length fn.params.toList args.toList ds p hA
 obtain ⟨s1, s2, s3⟩ := hspec ds hlen
 refine (walk W args ds p ⟨hA, ⟨base, fun j t v ht hv => hval j t v (by simpa using ht) hv⟩, by rw [hbare] at hsz; simpa using hsz⟩ hL).mono fun e W' ⟨he, bel⟩ => ?_
 subst he
 refine ⟨_, rfl, ds, [], _, [], p, [], hW', ?_, ?_, ?_, bel.frame _, fun h => by cases h⟩
 ·rw [List.append_nil, s1, hres]
  exact trodAll_mk1 (shut_bool hbool _)
 ·rw [List.append_nil, s2]
  exact trodAll_below hl bel _ _ _ _ hts hA
 ·rw [List.append_nil, s3, hvars]
  exact rfl

def LL : List (String × DataW Unit) := [("math/bits.deBruijn32tab", Rows.laid_math_bits_deBruijn32tab), ("math/bits.deBruijn64tab", Rows.laid_math_bits_deBruijn64tab), ("internal/strconv.uint64pow10", Rows.laid_internal_strconv_uint64pow10), ("strconv.ErrRange", Rows.laid_strconv_ErrRange), ("strconv.ErrSyntax", Rows.laid_strconv_ErrSyntax)]
theorem door_met (os : Os) (args : Array Value) : laidMetH Tryz.prog LL ((World.doorLaid Tryz.prog 400 os).forCall (fun _ _ => 0) ⟨#[], args, []⟩).memory := by
 rw [MakeChecks.laidMetH_plain _ _ _ (by kernel_rfl)]
 exact laidMet_of_run' 8 (by kernel_rfl) (by kernel_rfl)
end Go.Proofs.YtnohmgpmmhlloaaGreatDoor

namespace Go.Proofs.YtnohmgpmmhlloaaGreatDoor
open Go.ChangeShapes Go.WideShapes Go.ChangeAt Go.RowKit

theorem chainReads_lifted (os : Os) (started : os.Started) (H : Type) (enc : TypeId × Value → H) :
  ReturnsInHanded {} Tryz.checked os 5 .any (fun w args => (Rows.chainReadsSpec.pre enc Tryz.prog Tryz.f5 [] false w args ∧ laidMetH Tryz.prog LL w) ∧ sizedMet enc Tryz.prog Tryz.f5 (OpenSpec.ofChange Rows.chainReadsSpec) false w args) (Rows.chainReadsSpec.post enc Tryz.prog Tryz.f5 false true false false) := by
 refine lift_laid (C := Tryz.checked) own started (by kernel_rfl) Tryz.func5 rfl rfl (tb := 4) (by kernel_rfl) Tryz.underlying4 laidOut (by kernel_rfl) (l := LL) ?_
  (ChangeSpec.witness_shaped (enc := enc) (C := Tryz.checked) (os := os) (X := fun w _ => laidMetH Tryz.prog LL w) false (World.doorLaid Tryz.prog 400 os) #[.agg #[.slice none 0 0, .slice none 0 0, .slice none 0 0, .slice none 0 0], .agg #[.slice none 0 0, .slice none 0 0, .slice none 0 0, .slice none 0 0], .slice none 0 0] 8 rfl (World.shaped_of_RefB (by kernel_rfl) (by kernel_rfl)) (by kernel_rfl) (by kernel_rfl) (by kernel_rfl) (door_met os _)) ?_
 ·intro ds hds
  rw [Tryz.params5] at hds
  match ds, hds with
  | [d0, d1, d2], _ => exact ⟨rfl, rfl, rfl⟩
 ·intro W args ds p hT hL
  obtain ⟨hA, ⟨base, hok⟩, hsz⟩ := hT
  rw [Tryz.params5] at hA hok hsz
  obtain ⟨v0, v1, v2, d0, d1, d2, p0, p1, p2, rfl, rfl, rfl, h0, h1, h2⟩ := trodAll_three hA
  have tk0 := open_token (hok 0 26 v0 rfl rfl) h0 (fun n hn => by
   have := List.all_eq_true.1 hsz n (DataW.weights_mem_each (j := 0) rfl rfl n hn)
   simpa using this)
  have tk1 := open_token (hok 1 26 v1 rfl rfl) h1 (fun n hn => by
   have := List.all_eq_true.1 hsz n (DataW.weights_mem_each (j := 1) rfl rfl n hn)
   simpa using this)
  obtain ⟨a2, len2, cap2, rfl⟩ := okWide_slice Tryz.underlying22 (hok 2 22 v2 rfl rfl)
  obtain ⟨fuel2, hf2⟩ := h2
  obtain ⟨l2, rfl, r2, s2⟩ := open_bytes Tryz.underlying22 Tryz.underlying5 cellsU8 bytesU8 (show DataW.trod enc Tryz.prog W 0 (fun _ => true) true fuel2 22 [.slice a2 len2 cap2] = some (d2, p2) from hf2)
  replace s2 := s2 (fun n hn => by
   have := List.all_eq_true.1 hsz n (DataW.weights_mem_each (j := 2) rfl rfl n hn)
   simpa using this)
  exact chainReads_nat _ _ a2 _ cap2 l2 W tk0 tk1 rfl r2

theorem chainReads_over : Rows.chainReadsRow.holds Tryz.pinned (OpenSpec.ofChange Rows.chainReadsSpec) :=
 OpenClaim.holds_of_wide 5 Tryz.f5 rfl rfl rfl rfl rfl rfl rfl ⟨rfl, rfl, rfl, rfl, rfl⟩ rfl rfl rfl rfl rfl (by kernel_rfl) Tryz.func5 (by kernel_rfl)
  (of_decide_eq_true (by kernel_rfl)) (by unfold Func.isWrapper; first | (rw [if_pos (by decide +kernel)]; kernel_rfl) | (rw [if_neg (by decide +kernel)]; exact ⟨rfl, rfl⟩))
  (fun os started H enc _ => chainReads_lifted os started H enc)

theorem chainReads_proved : Rows.ChainReadsCardSaid :=
 Claim7.holds_tied_plain_at .later [] [.data, .data, .data, .sentinel, .sentinel] true (true, "5307a9007335d7c83d3ec3980db5ef60e9a38f7de7da356abba6370d761985cc") true
  chainReads_over (fun _ h => by cases h) (by kernel_rfl) (fun _ h => by cases h) chainReads_row_tie rfl ⟨rfl, rfl⟩ (by kernel_rfl) rfl
  (fun f fn hf hfn => by
   obtain rfl : f = 5 := Option.some.inj ((show Tryz.prog.funcNamed "viaticum/viaticumlaw24.ChainReads" = some 5 by kernel_rfl).symm.trans hf) |>.symm
   obtain rfl : fn = Tryz.f5 := (Option.some.inj (Tryz.func5.symm.trans hfn)).symm
   exact ⟨by kernel_rfl, fun j t ht => by
    rw [Tryz.params5] at ht
    have hm : t ∈ ([26, 26, 22] : List TypeId) := by
     have := Array.mem_of_getElem? ht
     simpa using this
    have hall : (([26, 26, 22] : List TypeId).all fun u => !Tryz.prog.wantsStandIn u) = true := by kernel_rfl
    have := List.all_eq_true.1 hall t hm
    exact (show Tryz.prog.wantsStandIn t = false by simpa using this)⟩)
  (by kernel_rfl)
#print axioms chainReads_proved
end Go.Proofs.YtnohmgpmmhlloaaGreatDoor
