/-
 Joined of texts of mine,in build order: Md,Oa,Ob,Oc,Od,Oe,Of,Og,Oh,C5,C7,Pw12,Pw13,D5,D6,D7,D8. Each says what it proves at its own head.
-/
import Derived.Test.YtnohmgpmmhlloaaGreatDoorYk
set_option linter.unusedSimpArgs false
set_option linter.unusedVariables false
set_option maxRecDepth 100000
set_option maxHeartbeats 25600000
namespace Go.Proofs.YtnohmgpmmhlloaaGreatDoor
open Go.RowKit
theorem beq_dec (a b:List UInt8):(a==b)=decide (a=b):=by
 by_cases h:a=b
 ·subst h
  rw[beq_self_eq_true,decide_eq_true rfl]
 ·rw[decide_eq_false h]
  exact beq_eq_false_iff_ne.2 h
theorem half_len (l:List UInt8):((S1.shaL l).take 32).length=32:=by rw[List.length_take,S1.shaL_len];rfl
theorem shaRB {A:Option Addr}{n c:Nat}{l:List UInt8}(w:World)(hl:l.length=n)(hm:n≤3000)(hr:Rd w (.slice A n c) 1 n (bvs l)):Calls Tryz.prog 103 #[.slice A n c] w (BN 64 w (S1.shaL l)):=S1.shaR_any A n c l w hl hm hr
theorem redRB {A:Option Addr}{n c:Nat}{l:List UInt8}(w:World)(hl:l.length=n)(hn:n≤64)(hr:Rd w (.slice A n c) 1 n (bvs l)):Calls Tryz.prog 104 #[.slice A n c] w (BN 32 w (S3.redL l)):=S3.reduceR A n c l w hl hn hr
theorem clampRB {A:Option Addr}{c:Nat}{l:List UInt8}(w:World)(hl:l.length=32)(hr:Rd w (.slice A 32 c) 1 32 (bvs l)):Calls Tryz.prog 102 #[.slice A 32 c] w (BN 32 w (S3.clampL l)):=
 (S3.clamp_walkR A c l w hl hr).mono fun _ _ h=>bn_of (by rw[S3.clampL_len,hl]) h
theorem mayRB {A:Option Addr}{n c:Nat}{l:List UInt8}{b:Bool}(w:World)(hm:S3.mayS l=b)(hl:l.length=n)(hr:Rd w (.slice A n c) 1 n (bvs l)):Calls Tryz.prog 116 #[.slice A n c] w fun e w'=>e=.returned (.bool b)∧Below w.heap.size w w':=by
 subst hm
 exact S3.mayR A n c l w hl hr
theorem join_any (A:Option Addr)(n c:Nat)(ps:List PcV)(w:World)(hn:ps.length=n)(hm:(cO ps).length≤900000)(hr:Rd w (.slice A n c) 1 n (ps.flatMap PcV.cells))(hp:∀p∈ps,iX w p) :
  Calls Tryz.prog 105 #[.slice A n c] w (BN (cO ps).length w (cO ps)):=by
 have HR:=aA hr
 have HE:=aA hp
 have HL:=aA hn
 have HM:=aA hm
 have HM2:=aA (allL_le ps)
 have hnm:n≤maxLen:=hr.le
 unfold maxLen at hnm
 have HSN:=aA ((St.init w NoB).row (Below.refl _ _) (World.ownsRow_nil _ _ _ _):St w NoB w [.row (.slice none 0 0) 5 1 0 []])
 clear hr hp hn hm
 go_enter Tryz.func105,Tryz.ntmps105
 go_wp2_with fail
 go_loopw [3,8] (fun v3 iv wr=>∃(k m:Nat) (X:Option Addr) (x:Nat),k≤n∧iv=.int .i64 (k:Int)∧v3=.slice X m x∧m=(cO (ps.take k)).length∧Hid (St w NoB wr [.row (.slice X m x) 5 1 m (bvs (cO (ps.take k)))])) (fun _ iv _=>n - (intOf iv).toNat)
 case atStart=>exact⟨0,0,none,0,An,rfl,rfl,rfl,HSN⟩
 case round =>
  clear HSN
  obtain⟨k,m,X,x,hk,rfl,rfl,hmm,HS⟩:=hrel
  by_cases hlt:k<n
  ·obtain⟨p,hp⟩:∃p,ps[k]?=some p:=⟨ps[k]'El,gE _⟩
   obtain⟨b,o,hA,hc⟩:=rd_cell (HR.out.st HS.out) (pcs_get hp)
   subst hA
   have HT:=aA (cR hp)
   have HP:=aA (show Rd w (.slice p.A p.b.length p.c) 1 p.b.length (bvs p.b) from HE.out p (mG hp))
   have dk:decide ((k:Int)<(n:Int))=true:=A9
   have dk2:decide (k<n)=true:=A9
   have ik:(k:Int)<(n:Int):=An
   have HB:=aA (show m+p.b.length≤4294967296 by
    have h1:=HM2.out (k+1)
    have h2:=HM.out
    rw[cR hp,List.length_append,←hmm] at h1
    omega)
   have HMM:=aA hmm
   clear hp hmm
   go_wp2_with (at_builtin;refine cQ rfl rfl tyB8 HS.out 0 rfl rfl rfl (HP.out.st HS.out) (bD _) HB.out Bz ?_;intro Az cz wz hS2;simp only[List.set_cons_zero] at hS2;rw[←cK,←HT.out] at hS2;have HS2:=aA hS2;clear hS2)
   go_roundw
   case rel=>exact⟨k+1,m+p.b.length,Az,cz,An,Cg,rfl,by rw[HT.out,List.length_append,HMM.out],HS2⟩
   case measure=>(simp[intOf])<;>omega
  ·obtain rfl:k=n:=by omega
   rw[List.take_of_length_le Dp] at HS hmm
   clear hlt hk
   have dk:decide ((k:Int)<(k:Int))=false:=B0
   have HMM:=aA hmm
   clear hmm
   go_wp2_with fail
   go_ret
   rw[←HMM.out]
   exact⟨X,x,rfl,HS.out.below,HS.out.ownsRow 0 rfl⟩
theorem join3 {A1 A2 A3:Option Addr}{m1 m2 m3 c1 c2 c3:Nat}{x1 x2 x3:List UInt8}(w:World)(h1:x1.length=m1)(h2:x2.length=m2)(h3:x3.length=m3)(hm:m1+(m2+m3)≤900000)(r1:Rd w (.slice A1 m1 c1) 1 m1 (bvs x1))(r2:Rd w (.slice A2 m2 c2) 1 m2 (bvs x2))(r3:Rd w (.slice A3 m3 c3) 1 m3 (bvs x3)) :
  Calls Tryz.prog 105 #[.slice (some ⟨w.heap.size,0,none⟩) 3 3] (w.alloc (.cells #[.slice A1 m1 c1,.slice A2 m2 c2,.slice A3 m3 c3] 22)) (BN (m1+(m2+m3)) (w.alloc (.cells #[.slice A1 m1 c1,.slice A2 m2 c2,.slice A3 m3 c3] 22)) (x1++(x2++x3))):=by
 obtain⟨ps,p1,p2,p3,p4⟩:=three_ps (o:=.cells #[.slice A1 m1 c1,.slice A2 m2 c2,.slice A3 m3 c3] 22) h1 h2 h3 r1 r2 r3
 have:=join_any _ 3 3 ps _ p1 Es Fr p4
 rw[p2,dK h1 h2 h3] at this
 exact this
theorem pubR_32 (A:Option Addr)(c:Nat)(l:List UInt8)(w:World)(hl:l.length=32)(hr:Rd w (.slice A 32 c) 1 32 (bvs l)):Calls Tryz.prog 46 #[.slice A 32 c] w (BN 32 w (cA l)):=by
 have HS:=aA (St.init w NoB)
 have HR:=aA hr
 have HL:=aA hl
 have HV:=aA (show cA l=packL (tmE Bp (mulV (keyA l))) from rfl)
 clear hr hl
 go_enter Tryz.func46,Tryz.ntmps46
 have M0:=True.intro
 go_wp2_with (first|(clear M4;go_at_call 99;(with_reducible refine(packQ32 _ hz2).mono ?_);rintro e wy ⟨Bp,dp,rfl,hb,ho⟩;have HS:=aA (HS.out.row hb ho);clear ho;have M5:=True.intro)|(clear M3;go_at_call 100;(with_reducible refine(timesQ _ _ _ _ _ hz1 (keyA_len _) An (HS.out.rd 0 rfl)).mono ?_);rintro e wy ⟨z2,hz2,rfl,hb⟩;have HS:=aA (HS.out.call hb);have M4:=True.intro)|(clear M2;go_at_call 102;(with_reducible refine(clampRB _ (half_len _) HR1.out).mono ?_);rintro e wy ⟨Bc,dc,rfl,hb,ho⟩;have HS:=aA (HS.out.row hb ho);clear ho;have M3:=True.intro)|(clear M1;go_at_call 103;(with_reducible refine(shaRB _ HL.out An (HR.out.below HS.out.below)).mono ?_);rintro e wy ⟨B,d,rfl,hb,ho⟩;obtain⟨bs,os,rfl,hcd,hr1,hr2⟩:=rd_halves (S1.shaL_len _) (rd_own ho);have hcd2:(64:Int)≤(d:Int):=An;have hcd3:(32:Int)≤(d:Int):=An;have hcd4:¬d=32:=An;have HR1:=aA hr1;clear hr1 hr2;have HS:=aA (HS.out.call hb);have M2:=True.intro)|(clear M0;go_at_call 101;(with_reducible refine(baseQ _).mono ?_);rintro e wy ⟨z1,hz1,rfl,hb⟩;have HS:=aA (HS.out.call hb);have M1:=True.intro))
 go_ret
 rw[HV.out]
 exact⟨_,_,rfl,HS.out.below,HS.out.ownsRow 0 rfl⟩
theorem enBaseMd (args:Array Value)(w:World):(callFunc 101 args).run Tryz.prog w=.ok (.enter 101 args) w:=Bt
theorem enTimesMd (args:Array Value)(w:World):(callFunc 100 args).run Tryz.prog w=.ok (.enter 100 args) w:=Bt
theorem enNegMd (args:Array Value)(w:World):(callFunc 119 args).run Tryz.prog w=.ok (.enter 119 args) w:=Bt
theorem enPlusMd (args:Array Value)(w:World):(callFunc 118 args).run Tryz.prog w=.ok (.enter 118 args) w:=Bt
theorem enPackMd (args:Array Value)(w:World):(callFunc 99 args).run Tryz.prog w=.ok (.enter 99 args) w:=Bt
theorem eV (A B C:Option Addr)(n c1 m c2 k c3:Nat)(p x g:List UInt8)(w:World)(hp:p.length=n)(hx:x.length=m)(hg:g.length=k)(hn:n≤900)(hm:n+m≤2900)
  (hrp:Rd w (.slice A n c1) 1 n (bvs p))(hrx:Rd w (.slice B m c2) 1 m (bvs x))(hrg:Rd w (.slice C k c3) 1 k (bvs g)) :
  Calls Tryz.prog 72 #[.slice A n c1,.slice B m c2,.slice C k c3] w fun e w'=>e=.returned (.bool (dX p x g))∧Below w.heap.size w w':=by
 have HS:=aA (St.init w NoB)
 have HRP:=aA hrp
 have HRX:=aA hrx
 have HLP:=aA hp
 have HLX:=aA hx
 by_cases h64:k=64
 ·subst h64
  obtain⟨b,o,rfl,hc64,hr1,hr2⟩:=rd_halves hg hrg
  have HR1:=aA hr1
  have HR2:=aA hr2
  have HL1:=aA (show(g.take 32).length=32 by rw[List.length_take,hg];rfl)
  have HL2:=aA (show(g.drop 32).length=32 by rw[List.length_drop,hg])
  have hcc:(64:Int)≤(c3:Int):=An
  have hcc2:(32:Int)≤(c3:Int):=An
  have hcc4:¬c3=32:=An
  cases hmy:S3.mayS (g.drop 32) with
  | false =>
   have HMY:=aA hmy
   have HV:=aA (show dX p x g=false by
    cases hf:cB p with
    | none=>exact ver_none hf
    | some P=>exact ver_may hf hmy)
   clear hrp hrx hrg hp hx hg hmy hr1 hr2
   go_enter Tryz.func72,Tryz.ntmps72
   have M0:=True.intro
   go_wp2_with (first|(clear M0;go_at_call 116;(with_reducible refine(mayRB _ HMY.out HL2.out (HR2.out.below HS.out.below)).mono ?_);rintro e wy ⟨rfl,hb⟩;have HS:=aA (HS.out.call hb);have M1:=True.intro))
   go_ret
   exact⟨Ey,HS.out.below⟩
  | true =>
   have HMY:=aA hmy
   cases hf:cB p with
   | none =>
    have HF:=aA hf
    have HV:=aA (ver_none (m:=x) (g:=g) hf)
    clear hrp hrx hrg hp hx hg hf hmy hr1 hr2
    go_enter Tryz.func72,Tryz.ntmps72
    have M0:=True.intro
    go_wp2_with (first|(clear M3;refine wl_storeR rfl rfl rfl rfl HS.out rowQ .head (by first|exact arr_zQ|exact QtN.arr ‹_›) (by first|exact QtN.arr ‹_›|exact arr_zQ) ?_;intro wz hS9;have HS:=aA hS9;clear hS9;(try refine nm ?_);have M4:=True.intro)|(clear M2;refine wl_allocR rfl rfl HS.out newQ ?_;intro gp wz hS9;have HS:=aA hS9;clear hS9;(try refine nm ?_);have M3:=True.intro)|(clear M1;go_at_call 117;(with_reducible refine(unpack_none _ HF.out HLP.out (HRP.out.below HS.out.below)).mono ?_);rintro e wy ⟨zp,hzp,rfl,hb⟩;have HS:=aA (HS.out.call hb);have M2:=True.intro)|(clear M0;go_at_call 116;(with_reducible refine(mayRB _ HMY.out HL2.out (HR2.out.below HS.out.below)).mono ?_);rintro e wy ⟨rfl,hb⟩;have HS:=aA (HS.out.call hb);have M1:=True.intro))
    go_ret
    exact⟨Ey,HS.out.below⟩
   | some P =>
    have HF:=aA hf
    have HV:=aA (ver_right (m:=x) hf hg hmy)
    clear hrp hrx hrg hp hx hg hf hmy hr1 hr2
    go_enter Tryz.func72,Tryz.ntmps72
    have M0:=True.intro
    go_upto_region 7 with(first|(clear M6;go_at_call 104;(with_reducible refine(redRB _ (S1.shaL_len _) Bz (HS.out.rd 0 rfl)).mono ?_);rintro e wy ⟨Bh,dh,rfl,hb,ho⟩;have HS:=aA (HS.out.row hb ho);clear ho;have M7:=True.intro)|(clear M5;go_at_call 103;(with_reducible refine(shaRB _ (dK HL1.out HLP.out HLX.out) An (HS.out.rd 0 rfl)).mono ?_);rintro e wy ⟨Bs3,ds3,rfl,hb,ho⟩;have HS:=aA (HS.out.row hb ho);clear ho;have M6:=True.intro)|(clear M4;go_at_call 105;(with_reducible refine(join3 _ HL1.out HLP.out HLX.out An (HR1.out.below HS.out.below) (HRP.out.below HS.out.below) (HRX.out.below HS.out.below)).mono ?_);rintro e wy ⟨Bj3,dj3,rfl,hb,ho⟩;have HS:=aA ((HS.out.skip _).row hb ho);clear ho;have M5:=True.intro)|(clear M3;refine wl_storeR rfl rfl rfl rfl HS.out rowQ .head (by first|exact arr_zQ|exact QtN.arr ‹_›) (by first|exact QtN.arr ‹_›|exact arr_zQ) ?_;intro wz hS9;have HS:=aA hS9;clear hS9;(try refine nm ?_);have M4:=True.intro)|(clear M2;refine wl_allocR rfl rfl HS.out newQ ?_;intro gp wz hS9;have HS:=aA hS9;clear hS9;(try refine nm ?_);have M3:=True.intro)|(clear M1;go_at_call 117;(with_reducible refine(unpack_some _ HF.out HLP.out (HRP.out.below HS.out.below)).mono ?_);rintro e wy ⟨zp,hzp,rfl,hb⟩;have HS:=aA (HS.out.call hb);have M2:=True.intro)|(clear M0;go_at_call 116;(with_reducible refine(mayRB _ HMY.out HL2.out (HR2.out.below HS.out.below)).mono ?_);rintro e wy ⟨rfl,hb⟩;have HS:=aA (HS.out.call hb);have M1:=True.intro))
    have HS:=aA HS.out.drew
    refine aD [(1,1),(2,1),(4,0),(6,1),(11,1),(12,1),(13,0),(0,2),(3,2),(5,2),(7,2),(8,2),(9,2),(10,0),(14,1),(15,1)] Bt Bt (fun _ _ _ _ h=>h) ?_
    (refine pT (v:=?_) rfl rfl ?_);(try refine nm ?_)
    (refine pT (v:=?_) rfl rfl ?_);(try refine nm ?_)
    refine aF rfl rfl rfl rfl HS.out (.tail _ (.tail _ (.tail _ (.head _)))) rowQ (.all (QtN.arr hzp)) ?_;(try refine nm ?_)
    (refine pT (v:=?_) rfl rfl ?_);(try refine nm ?_)
    (refine pT (v:=?_) rfl rfl ?_);(try refine nm ?_)
    (refine pT (v:=?_) rfl rfl ?_);(try refine nm ?_)
    have cvo:=fun x (hx:aC _ x)=>aY (P:=Tryz.prog) Tryz.underlying22 Tryz.underlying5 Tryz.underlying9 ((HR1.out.below HS.out.below).below hx)
    (refine rT (v:=?_) rfl rfl ?_);(try refine nm ?_)
    clear cvo
    refine aJ rfl rfl rfl enBaseMd rfl (baseQ _) ?_;rintro e wy ⟨z1,hz1,rfl,hb⟩;refine⟨_,rfl,hb,?_⟩;have HS:=aA (HS.out.call hb);(try refine nm ?_)
    refine aJ rfl rfl rfl enTimesMd rfl (timesQ _ _ _ _ _ hz1 HL2.out An (HR2.out.below HS.out.below)) ?_;rintro e wy ⟨z2,hz2,rfl,hb⟩;refine⟨_,rfl,hb,?_⟩;have HS:=aA (HS.out.call hb);(try refine nm ?_)
    refine aJ rfl rfl rfl enNegMd rfl (negQ _ hzp) ?_;rintro e wy ⟨z3,hz3,rfl,hb⟩;refine⟨_,rfl,hb,?_⟩;have HS:=aA (HS.out.call hb);(try refine nm ?_)
    refine aJ rfl rfl rfl enTimesMd rfl (timesQ _ _ _ _ _ hz3 (fO _) An (HS.out.rd 0 rfl)) ?_;rintro e wy ⟨z4,hz4,rfl,hb⟩;refine⟨_,rfl,hb,?_⟩;have HS:=aA (HS.out.call hb);(try refine nm ?_)
    refine aJ rfl rfl rfl enPlusMd rfl (plusQ _ hz2 hz4) ?_;rintro e wy ⟨z5,hz5,rfl,hb⟩;refine⟨_,rfl,hb,?_⟩;have HS:=aA (HS.out.call hb);(try refine nm ?_)
    refine aJ rfl rfl rfl enPackMd rfl (packQ32 _ hz5) ?_;rintro e wy ⟨Bw,dw,rfl,hb,ho⟩;refine⟨_,rfl,hb,?_⟩;have HS:=aA (HS.out.row hb ho);have cv1:=fun x (hx:aC wy x)=>aY (P:=Tryz.prog) Tryz.underlying22 Tryz.underlying5 Tryz.underlying9 ((HS.out.rd 0 rfl).below hx);clear ho;(try refine nm ?_)
    (refine rT (v:=?_) rfl rfl ?_);(try refine nm ?_)
    (refine pT (v:=?_) rfl rfl ?_);(try refine nm ?_)
    (refine pT (v:=?_) rfl rfl ?_);(try refine nm ?_)
    refine wpT_nil ?_
    go_wp2_with fail
    go_ret
    refine⟨?_,HS.out.below⟩
    rw[HV.out]
    unfold rightL
    rw[tmE_neg,beq_dec]
    rfl
 ·have HV:=aA (show dX p x g=false by
   cases hf:cB p with
   | none=>exact ver_none hf
   | some P=>exact ver_long hf (by rw[hg];exact h64))
  have d1:((k:Int) !=64)=true:=A9
  have d2:decide ((k:Int)=64)=false:=A9
  clear hrp hrx hrg hp hx hg h64
  go_enter Tryz.func72,Tryz.ntmps72
  go_wp2_with fail
  go_ret
  exact⟨Ey,HS.out.below⟩
theorem join23_any (A:Option Addr)(n c:Nat)(ps:List PcV)(w:World)(hn:ps.length=n)(hm:(cO ps).length≤900000)(hr:Rd w (.slice A n c) 1 n (ps.flatMap PcV.cells))(hp:∀p∈ps,iX w p) :
  Calls Tryz.prog 45 #[.slice A n c] w (BN (cO ps).length w (cO ps)):=by
 have HR:=aA hr
 have HE:=aA hp
 have HL:=aA hn
 have HM:=aA hm
 have HM2:=aA (allL_le ps)
 have hnm:n≤maxLen:=hr.le
 unfold maxLen at hnm
 have HSN:=aA ((St.init w NoB).row (Below.refl _ _) (World.ownsRow_nil _ _ _ _):St w NoB w [.row (.slice none 0 0) 5 1 0 []])
 clear hr hp hn hm
 go_enter Tryz.func45,Tryz.ntmps45
 go_wp2_with fail
 go_loopw [3,8] (fun v3 iv wr=>∃(k m:Nat) (X:Option Addr) (x:Nat),k≤n∧iv=.int .i64 (k:Int)∧v3=.slice X m x∧m=(cO (ps.take k)).length∧Hid (St w NoB wr [.row (.slice X m x) 5 1 m (bvs (cO (ps.take k)))])) (fun _ iv _=>n - (intOf iv).toNat)
 case atStart=>exact⟨0,0,none,0,An,rfl,rfl,rfl,HSN⟩
 case round =>
  clear HSN
  obtain⟨k,m,X,x,hk,rfl,rfl,hmm,HS⟩:=hrel
  by_cases hlt:k<n
  ·obtain⟨p,hp⟩:∃p,ps[k]?=some p:=⟨ps[k]'El,gE _⟩
   obtain⟨b,o,hA,hc⟩:=rd_cell (HR.out.st HS.out) (pcs_get hp)
   subst hA
   have HT:=aA (cR hp)
   have HP:=aA (show Rd w (.slice p.A p.b.length p.c) 1 p.b.length (bvs p.b) from HE.out p (mG hp))
   have dk:decide ((k:Int)<(n:Int))=true:=A9
   have dk2:decide (k<n)=true:=A9
   have ik:(k:Int)<(n:Int):=An
   have HB:=aA (show m+p.b.length≤4294967296 by
    have h1:=HM2.out (k+1)
    have h2:=HM.out
    rw[cR hp,List.length_append,←hmm] at h1
    omega)
   have HMM:=aA hmm
   clear hp hmm
   go_wp2_with (at_builtin;refine cQ rfl rfl tyB8 HS.out 0 rfl rfl rfl (HP.out.st HS.out) (bD _) HB.out Bz ?_;intro Az cz wz hS2;simp only[List.set_cons_zero] at hS2;rw[←cK,←HT.out] at hS2;have HS2:=aA hS2;clear hS2)
   go_roundw
   case rel=>exact⟨k+1,m+p.b.length,Az,cz,An,Cg,rfl,by rw[HT.out,List.length_append,HMM.out],HS2⟩
   case measure=>(simp[intOf])<;>omega
  ·obtain rfl:k=n:=by omega
   rw[List.take_of_length_le Dp] at HS hmm
   clear hlt hk
   have dk:decide ((k:Int)<(k:Int))=false:=B0
   have HMM:=aA hmm
   clear hmm
   go_wp2_with fail
   go_ret
   rw[←HMM.out]
   exact⟨X,x,rfl,HS.out.below,HS.out.ownsRow 0 rfl⟩
theorem join23_2 {A1 A2:Option Addr}{m1 m2 c1 c2:Nat}{x1 x2:List UInt8}(w:World)(h1:x1.length=m1)(h2:x2.length=m2)(hm:m1+m2≤900000)(r1:Rd w (.slice A1 m1 c1) 1 m1 (bvs x1))(r2:Rd w (.slice A2 m2 c2) 1 m2 (bvs x2)) :
  Calls Tryz.prog 45 #[.slice (some ⟨w.heap.size,0,none⟩) 2 2] (w.alloc (.cells #[.slice A1 m1 c1,.slice A2 m2 c2] 22)) (BN (m1+m2) (w.alloc (.cells #[.slice A1 m1 c1,.slice A2 m2 c2] 22)) (x1++x2)):=by
 obtain⟨ps,p1,p2,p3,p4⟩:=two_ps (o:=.cells #[.slice A1 m1 c1,.slice A2 m2 c2] 22) h1 h2 r1 r2
 have:=join23_any _ 2 2 ps _ p1 Er Fq p4
 rw[p2,len_add h1 h2] at this
 exact this
theorem join23_3 {A1 A2 A3:Option Addr}{m1 m2 m3 c1 c2 c3:Nat}{x1 x2 x3:List UInt8}(w:World)(h1:x1.length=m1)(h2:x2.length=m2)(h3:x3.length=m3)(hm:m1+(m2+m3)≤900000)(r1:Rd w (.slice A1 m1 c1) 1 m1 (bvs x1))(r2:Rd w (.slice A2 m2 c2) 1 m2 (bvs x2))(r3:Rd w (.slice A3 m3 c3) 1 m3 (bvs x3)) :
  Calls Tryz.prog 45 #[.slice (some ⟨w.heap.size,0,none⟩) 3 3] (w.alloc (.cells #[.slice A1 m1 c1,.slice A2 m2 c2,.slice A3 m3 c3] 22)) (BN (m1+(m2+m3)) (w.alloc (.cells #[.slice A1 m1 c1,.slice A2 m2 c2,.slice A3 m3 c3] 22)) (x1++(x2++x3))):=by
 obtain⟨ps,p1,p2,p3,p4⟩:=three_ps (o:=.cells #[.slice A1 m1 c1,.slice A2 m2 c2,.slice A3 m3 c3] 22) h1 h2 h3 r1 r2 r3
 have:=join23_any _ 3 3 ps _ p1 Es Fr p4
 rw[p2,dK h1 h2 h3] at this
 exact this
theorem join23_1 {A1:Option Addr}{m1 c1:Nat}{x1:List UInt8}(w:World)(h1:x1.length=m1)(hm:m1≤900000)(r1:Rd w (.slice A1 m1 c1) 1 m1 (bvs x1)) :
  Calls Tryz.prog 45 #[.slice (some ⟨w.heap.size,0,none⟩) 1 1] (w.alloc (.cells #[.slice A1 m1 c1] 22)) (BN m1 (w.alloc (.cells #[.slice A1 m1 c1] 22)) x1):=by
 have hb:Below w.heap.size w (w.alloc (.cells #[.slice A1 m1 c1] 22)):=(Below.refl _ _).alloc (Nat.le_refl _) _
 have hal:cO [PcV.mk A1 c1 x1]=x1:=by simp[cO]
 have:=join23_any (some ⟨w.heap.size,0,none⟩) 1 1 [PcV.mk A1 c1 x1] _ rfl (by rw[hal,h1];exact hm) (by subst h1;exact iO w [.slice A1 x1.length c1] 22 1 1 rfl Bz) (fun p hp=>by
  obtain rfl:=List.mem_singleton.1 hp
  subst h1
  exact r1.below hb)
 rw[hal,h1] at this
 exact this
theorem seed23_yes (A:Option Addr)(c:Nat)(w:World):Calls Tryz.prog 44 #[.slice A 32 c] w fun e w'=>e=.returned (.bool true)∧w=w':=by
 go_enter Tryz.func44,Tryz.ntmps44
 go_wp2_with fail
 go_ret
 exact⟨rfl,rfl⟩
theorem seed23_no (A:Option Addr)(n c:Nat)(w:World)(hn:n≠32):Calls Tryz.prog 44 #[.slice A n c] w fun e w'=>e=.returned (.bool false)∧w=w':=by
 have q0:((n:Int)==32)=false:=A9
 have q1:decide ((n:Int)=32)=false:=A9
 have q2:¬(n:Int)=32:=An
 clear hn
 go_enter Tryz.func44,Tryz.ntmps44
 go_wp2_with fail
 go_ret
 exact⟨rfl,rfl⟩
theorem message23_core (A1:Option Addr)(n1 c1:Nat)(l1:List UInt8)(A2:Option Addr)(n2 c2:Nat)(l2:List UInt8)(A3:Option Addr)(n3 c3:Nat)(l3:List UInt8)(A4:Option Addr)(n4 c4:Nat)(l4:List UInt8)(A5:Option Addr)(n5 c5:Nat)(l5:List UInt8)(w:World)(hl1:l1.length=n1)(hn1:n1≤70000)(hr1:Rd w (.slice A1 n1 c1) 1 n1 (bvs l1))(hl2:l2.length=n2)(hn2:n2≤70000)(hr2:Rd w (.slice A2 n2 c2) 1 n2 (bvs l2))(hl3:l3.length=n3)(hn3:n3≤70000)(hr3:Rd w (.slice A3 n3 c3) 1 n3 (bvs l3))(hl4:l4.length=n4)(hn4:n4≤70000)(hr4:Rd w (.slice A4 n4 c4) 1 n4 (bvs l4))(hl5:l5.length=n5)(hn5:n5≤70000)(hr5:Rd w (.slice A5 n5 c5) 1 n5 (bvs l5)) :
  Calls Tryz.prog 48 #[.agg #[.slice A1 n1 c1,.slice A2 n2 c2,.slice A3 n3 c3,.slice A4 n4 c4,.slice A5 n5 c5]] w (BN (n1+(n5+n2)) w (l1++(l5++l2))):=by
 have hS0:=(St.init w NoB).alloc #[.slice A1 n1 c1,.slice A2 n2 c2,.slice A3 n3 c3,.slice A4 n4 c4,.slice A5 n5 c5] 32
 have HS:=aA hS0
 clear hS0
 have HR1:=aA hr1
 have HL1:=aA hl1
 have HR2:=aA hr2
 have HL2:=aA hl2
 have HR3:=aA hr3
 have HL3:=aA hl3
 have HR4:=aA hr4
 have HL4:=aA hl4
 have HR5:=aA hr5
 have HL5:=aA hl5
 clear hr1 hl1 hr2 hl2 hr3 hl3 hr4 hl4 hr5 hl5
 go_enter Tryz.func48,Tryz.ntmps48
 go_upto_region 1 with fail
 generalize World.alloc w _=wb at HS ⊢
 have t1:=HS.out.cell 0 rfl 0
 have t2:=HS.out.cell 0 rfl 1
 have t3:=HS.out.cell 0 rfl 2
 have t4:=HS.out.cell 0 rfl 3
 have t5:=HS.out.cell 0 rfl 4
 go_wp2_with (go_at_call 45;(with_reducible refine(join23_3 _ HL1.out HL5.out HL2.out An (HR1.out.below HS.out.below) (HR5.out.below HS.out.below) (HR2.out.below HS.out.below)).mono ?_);rintro e wy ⟨B,d,rfl,hb,ho⟩;have HS:=aA ((HS.out.skip _).row hb ho);clear ho)
 go_ret
 exact⟨_,_,rfl,HS.out.below,HS.out.ownsRow 0 rfl⟩
noncomputable def sameTp (x y:Tp):Bool:=@decide (x=y) (Classical.propDecidable _)
theorem sameTp_yes {x y:Tp}(h:x=y):sameTp x y=true:=@decide_eq_true _ (Classical.propDecidable _) h
theorem dC {x y:Tp}(h:x≠y):sameTp x y=false:=@decide_eq_false _ (Classical.propDecidable _) h
theorem eq_of_b {a b:List UInt8}(h:(a==b)=true):a=b:=Cb
theorem gF {a b:List UInt8}(h:(a==b)=false):a≠b:=Cb
theorem eqB_any (A B:Option Addr)(n m c d:Nat)(l k:List UInt8)(b:Bool)(w:World)(hb:(l==k)=b)(hr1:Rd w (.slice A n c) 1 n (bvs l))(hr2:Rd w (.slice B m d) 1 m (bvs k)) :
  Calls Tryz.prog 54 #[.slice A n c,.slice B m d] w fun e w'=>e=.returned (.bool b)∧w=w':=by
 have cv1:=aY (P:=Tryz.prog) Tryz.underlying22 Tryz.underlying5 Tryz.underlying9 hr1
 have cv2:=aY (P:=Tryz.prog) Tryz.underlying22 Tryz.underlying5 Tryz.underlying9 hr2
 clear hr1 hr2
 go_enter Tryz.func54,Tryz.ntmps54
 go_wp2_with fail
 go_ret
 exact⟨rfl,rfl⟩
theorem sameR_tok (A1 A2 A3 A B1 B2 B3 B:Option Addr)(m1 m2 m3 n c1 c2 c3 c p1 p2 p3 m d1 d2 d3 d:Nat)(l1 l2 l3 k1 k2 k3:List UInt8)(l k:List Sg)(w:World)(hl:l.length=n)(hk:k.length=m)(hn:n≤1000)(hm:m≤1000)
  (ha1:Rd w (.slice A1 m1 c1) 1 m1 (bvs l1))(ha2:Rd w (.slice A2 m2 c2) 1 m2 (bvs l2))(ha3:Rd w (.slice A3 m3 c3) 1 m3 (bvs l3))(ha:Rd w (.slice A n c) 5 n (aN l))(hx:∀x∈l,SgOK w x)
  (hb1:Rd w (.slice B1 p1 d1) 1 p1 (bvs k1))(hb2:Rd w (.slice B2 p2 d2) 1 p2 (bvs k2))(hb3:Rd w (.slice B3 p3 d3) 1 p3 (bvs k3))(hb:Rd w (.slice B m d) 5 m (aN k))(hy:∀x∈k,SgOK w x) :
  Calls Tryz.prog 14 #[.agg #[.slice A1 m1 c1,.slice A n c,.slice A2 m2 c2,.slice A3 m3 c3],.agg #[.slice B1 p1 d1,.slice B m d,.slice B2 p2 d2,.slice B3 p3 d3]] w (fun e w'=>e=.returned (.bool (sameTp ⟨l1,l.map Sg.p,l2,l3⟩ ⟨k1,k.map Sg.p,k2,k3⟩))∧Below w.heap.size w w'):=by
 have hS0:=((St.init w NoB).alloc #[.slice A1 m1 c1,.slice A n c,.slice A2 m2 c2,.slice A3 m3 c3] 26).alloc #[.slice B1 p1 d1,.slice B m d,.slice B2 p2 d2,.slice B3 p3 d3] 26
 rw[size_alloc1] at hS0
 have HS:=aA hS0
 clear hS0
 have HA1:=aA (ha1.below HS.out.below)
 have HA2:=aA (ha2.below HS.out.below)
 have HA3:=aA (ha3.below HS.out.below)
 have HA:=aA (ha.below HS.out.below)
 have HB1:=aA (hb1.below HS.out.below)
 have HB2:=aA (hb2.below HS.out.below)
 have HB3:=aA (hb3.below HS.out.below)
 have HB:=aA (hb.below HS.out.below)
 have HX:=aA (fun x hm=>(hx x hm).on HS.out.below)
 have HY:=aA (fun x hm=>(hy x hm).on HS.out.below)
 have HL:=aA hl
 have HK:=aA hk
 clear ha1 ha2 ha3 ha hx hb1 hb2 hb3 hb hy hl hk
 have ta0:_=some (Value.slice A1 m1 c1):=HS.out.cell 1 rfl 0
 have ta1:_=some (Value.slice A n c):=HS.out.cell 1 rfl 1
 have ta2:_=some (Value.slice A2 m2 c2):=HS.out.cell 1 rfl 2
 have ta3:_=some (Value.slice A3 m3 c3):=HS.out.cell 1 rfl 3
 have tb0:_=some (Value.slice B1 p1 d1):=HS.out.cell 0 rfl 0
 have tb1:_=some (Value.slice B m d):=HS.out.cell 0 rfl 1
 have tb2:_=some (Value.slice B2 p2 d2):=HS.out.cell 0 rfl 2
 have tb3:_=some (Value.slice B3 p3 d3):=HS.out.cell 0 rfl 3
 have cvA1:=aY (P:=Tryz.prog) Tryz.underlying22 Tryz.underlying5 Tryz.underlying9 HA1.out
 have cvA2:=aY (P:=Tryz.prog) Tryz.underlying22 Tryz.underlying5 Tryz.underlying9 HA2.out
 have cvA3:=aY (P:=Tryz.prog) Tryz.underlying22 Tryz.underlying5 Tryz.underlying9 HA3.out
 have cvB1:=aY (P:=Tryz.prog) Tryz.underlying22 Tryz.underlying5 Tryz.underlying9 HB1.out
 have cvB2:=aY (P:=Tryz.prog) Tryz.underlying22 Tryz.underlying5 Tryz.underlying9 HB2.out
 have cvB3:=aY (P:=Tryz.prog) Tryz.underlying22 Tryz.underlying5 Tryz.underlying9 HB3.out
 cases e1:(l1==k1) with
 | false =>
  have f1:(l1 !=k1)=true:=by rw[bne,e1];rfl
  go_enter Tryz.func14,Tryz.ntmps14
  go_wp2_with fail
  go_ret
  exact⟨congrArg (fun b=>Ending.returned (.bool b)) (dC (fun h=>gF e1 (congrArg Tp.r h))).symm,HS.out.below⟩
 | true =>
  have f1:(l1 !=k1)=false:=by rw[bne,e1];rfl
  cases e2:(l2==k2) with
  | false =>
   have f2:(l2 !=k2)=true:=by rw[bne,e2];rfl
   go_enter Tryz.func14,Tryz.ntmps14
   go_wp2_with fail
   go_ret
   exact⟨congrArg (fun b=>Ending.returned (.bool b)) (dC (fun h=>gF e2 (congrArg Tp.e h))).symm,HS.out.below⟩
  | true =>
   have f2:(l2 !=k2)=false:=by rw[bne,e2];rfl
   cases e3:(l3==k3) with
   | false =>
    have f3:(l3 !=k3)=true:=by rw[bne,e3];rfl
    go_enter Tryz.func14,Tryz.ntmps14
    go_wp2_with fail
    go_ret
    exact⟨congrArg (fun b=>Ending.returned (.bool b)) (dC (fun h=>gF e3 (congrArg Tp.z h))).symm,HS.out.below⟩
   | true =>
    have f3:(l3 !=k3)=false:=by rw[bne,e3];rfl
    by_cases h1:n≠m
    ·have d1:((n:Int) !=(m:Int))=true:=by simp;omega
     have d2:(n !=m)=true:=A9
     have HNE:=aA (show(l.map Sg.p)≠(k.map Sg.p) from fun h=>by
      have:=congrArg List.length h
      rw[List.length_map,List.length_map,HL.out,HK.out] at this
      exact h1 this)
     clear h1
     go_enter Tryz.func14,Tryz.ntmps14
     go_wp2_with fail
     go_ret
     exact⟨congrArg (fun b=>Ending.returned (.bool b)) (dC (fun h=>HNE.out (congrArg Tp.l h))).symm,HS.out.below⟩
    obtain rfl:n=m:=Decidable.not_not.1 h1
    have HE:=aA (And.intro (eq_of_b e1) (And.intro (eq_of_b e2) (eq_of_b e3)))
    clear h1 hm
    go_enter Tryz.func14,Tryz.ntmps14
    go_wp2_with fail
    clear e1 e2 e3 f1 f2 f3 cvA1 cvA2 cvA3 cvB1 cvB2 cvB3 ta0 ta2 ta3 tb0 tb2 tb3
    generalize World.alloc (World.alloc w _) _=wb at HS HA HB HX HY ta1 tb1 ⊢
    go_loopw [45] (fun iv wr=>∃(j:Nat),j≤n∧iv=.int .i64 (j:Int)∧(l.take j).map Sg.p=(k.take j).map Sg.p∧Hid (Below wb.heap.size wb wr)) (fun iv _=>n - (intOf iv).toNat)
    case atStart=>exact⟨0,An,rfl,rfl,Below.refl _ _⟩
    case round =>
     obtain⟨j,hj,rfl,hpr,HB0⟩:=hrel
     have HPR:=aA hpr
     clear hpr
     by_cases hlt:j<n
     ·have d0:decide ((j:Int)<(n:Int))=true:=by simp;omega
      have d0':decide (j<n)=true:=A9
      have jn:(j:Int)<(n:Int):=An
      have hlk:l[j]?=some (l[j]'Ca):=gE _
      have hkk:k[j]?=some (k[j]'(by have:=HK.out;omega)):=gE _
      obtain⟨b1,o1,rfl,h8,hc1⟩:=sg_at HA.out hlk
      obtain⟨b2,o2,rfl,h9,hc2⟩:=sg_at HB.out hkk
      have HOX:=aA (HX.out _ (mG hlk))
      have HOY:=aA (HY.out _ (mG hkk))
      have HT1:=aA (show(l.take (j+1)).map Sg.p=(l.take j).map Sg.p++[(l[j]'Ca).p] by rw[List.take_add_one,hlk,List.map_append];rfl)
      have HT2:=aA (show(k.take (j+1)).map Sg.p=(k.take j).map Sg.p++[(k[j]'(by have:=HK.out;omega)).p] by rw[List.take_add_one,hkk,List.map_append];rfl)
      have HG1:=aA (show(l.map Sg.p)[j]?=some (l[j]'Ca).p by rw[List.getElem?_map,hlk];rfl)
      have HG2:=aA (show(k.map Sg.p)[j]?=some (k[j]'(by have:=HK.out;omega)).p by rw[List.getElem?_map,hkk];rfl)
      generalize l[j]'(_)=x at hlk hc1 HOX HT1 HG1
      generalize k[j]'(_)=y at hkk hc2 HOY HT2 HG2
      obtain⟨⟨A1',ca1,l1'⟩,⟨A2',ca2,l2'⟩,⟨A3',ca3,l3'⟩,⟨A4',ca4,l4'⟩,⟨A5',ca5,l5'⟩⟩:=x
      obtain⟨⟨B1',cb1,k1'⟩,⟨B2',cb2,k2'⟩,⟨B3',cb3,k3'⟩,⟨B4',cb4,k4'⟩,⟨B5',cb5,k5'⟩⟩:=y
      clear hlk hkk
      have HS1:=aA (HS.out.call HB0.out)
      have ta1:_=some (Value.slice _ n c):=HS1.out.cell 1 rfl 1
      have tb1:_=some (Value.slice _ n d):=HS1.out.cell 0 rfl 1
      obtain⟨x0,x1,x2,x3,x4⟩:=hc1 _ HB0.out
      have HW:=aA (St.init wr NoB)
      have M0:=True.intro
      go_upto_region 6 with(clear M0;refine wl_storeC rfl rfl (HW.out.alloc _ _) 0 rfl (vs:=[.slice A1' l1'.length ca1,.slice A2' l2'.length ca2,.slice A3' l3'.length ca3,.slice A4' l4'.length ca4,.slice A5' l5'.length ca5]) szSigned (Nat.le_refl _) rfl rfl fE ?_;intro w5 hS5;have HW:=aA hS5;clear hS5)
      clear x0 x1 x2 x3 x4 ta1 tb1
      have HS2:=aA (HS1.out.call HW.out.below)
      have tb1:_=some (Value.slice _ n d):=HS2.out.cell 0 rfl 1
      obtain⟨y0,y1,y2,y3,y4⟩:=hc2 _ (bnx HB0.out HW.out.below)
      have M0:=True.intro
      go_upto_region 7 with(clear M0;refine wl_storeC rfl rfl (HW.out.alloc _ _) 0 rfl (vs:=[.slice B1' k1'.length cb1,.slice B2' k2'.length cb2,.slice B3' k3'.length cb3,.slice B4' k4'.length cb4,.slice B5' k5'.length cb5]) szSigned (Nat.le_refl _) rfl rfl fE ?_;intro w6 hS5;have HW:=aA hS5;clear hS5)
      clear y0 y1 y2 y3 y4 hc1 hc2 tb1
      have HBW:=aA (bnx HB0.out HW.out.below)
      have x0:_=some (Value.slice A1' l1'.length ca1):=HW.out.cell 1 rfl 0
      have x1:_=some (Value.slice A2' l2'.length ca2):=HW.out.cell 1 rfl 1
      have x2:_=some (Value.slice A3' l3'.length ca3):=HW.out.cell 1 rfl 2
      have x3:_=some (Value.slice A4' l4'.length ca4):=HW.out.cell 1 rfl 3
      have x4:_=some (Value.slice A5' l5'.length ca5):=HW.out.cell 1 rfl 4
      have cwA1:=aY (P:=Tryz.prog) Tryz.underlying22 Tryz.underlying5 Tryz.underlying9 (show Rd w6 (.slice A1' l1'.length ca1) 1 l1'.length (bvs l1') from(HOX.out.on HBW.out).b)
      have cwA2:=aY (P:=Tryz.prog) Tryz.underlying22 Tryz.underlying5 Tryz.underlying9 (show Rd w6 (.slice A2' l2'.length ca2) 1 l2'.length (bvs l2') from(HOX.out.on HBW.out).n)
      have cwA3:=aY (P:=Tryz.prog) Tryz.underlying22 Tryz.underlying5 Tryz.underlying9 (show Rd w6 (.slice A3' l3'.length ca3) 1 l3'.length (bvs l3') from(HOX.out.on HBW.out).s)
      have cwA4:=aY (P:=Tryz.prog) Tryz.underlying22 Tryz.underlying5 Tryz.underlying9 (show Rd w6 (.slice A4' l4'.length ca4) 1 l4'.length (bvs l4') from(HOX.out.on HBW.out).k)
      have cwA5:=aY (P:=Tryz.prog) Tryz.underlying22 Tryz.underlying5 Tryz.underlying9 (show Rd w6 (.slice A5' l5'.length ca5) 1 l5'.length (bvs l5') from(HOX.out.on HBW.out).v)
      have y0:_=some (Value.slice B1' k1'.length cb1):=HW.out.cell 0 rfl 0
      have y1:_=some (Value.slice B2' k2'.length cb2):=HW.out.cell 0 rfl 1
      have y2:_=some (Value.slice B3' k3'.length cb3):=HW.out.cell 0 rfl 2
      have y3:_=some (Value.slice B4' k4'.length cb4):=HW.out.cell 0 rfl 3
      have y4:_=some (Value.slice B5' k5'.length cb5):=HW.out.cell 0 rfl 4
      have cwB1:=aY (P:=Tryz.prog) Tryz.underlying22 Tryz.underlying5 Tryz.underlying9 (show Rd w6 (.slice B1' k1'.length cb1) 1 k1'.length (bvs k1') from(HOY.out.on HBW.out).b)
      have cwB2:=aY (P:=Tryz.prog) Tryz.underlying22 Tryz.underlying5 Tryz.underlying9 (show Rd w6 (.slice B2' k2'.length cb2) 1 k2'.length (bvs k2') from(HOY.out.on HBW.out).n)
      have cwB3:=aY (P:=Tryz.prog) Tryz.underlying22 Tryz.underlying5 Tryz.underlying9 (show Rd w6 (.slice B3' k3'.length cb3) 1 k3'.length (bvs k3') from(HOY.out.on HBW.out).s)
      have cwB4:=aY (P:=Tryz.prog) Tryz.underlying22 Tryz.underlying5 Tryz.underlying9 (show Rd w6 (.slice B4' k4'.length cb4) 1 k4'.length (bvs k4') from(HOY.out.on HBW.out).k)
      have cwB5:=aY (P:=Tryz.prog) Tryz.underlying22 Tryz.underlying5 Tryz.underlying9 (show Rd w6 (.slice B5' k5'.length cb5) 1 k5'.length (bvs k5') from(HOY.out.on HBW.out).v)
      cases g1:(l1'==k1') with
      | false =>
       have f1:(l1' !=k1')=true:=by rw[bne,g1];rfl
       go_wp2_with fail
       go_ret
       exact⟨congrArg (fun b=>Ending.returned (.bool b)) (dC (fun h=>gF g1 (congrArg Sp.b (by
        have h1:=HG1.out
        rw[show l.map Sg.p=k.map Sg.p from congrArg Tp.l h,HG2.out] at h1
        exact(Option.some.inj h1).symm:Sp.mk l1' l2' l3' l4' l5'=Sp.mk k1' k2' k3' k4' k5')))).symm,bnx HS.out.below HBW.out⟩
      | true =>
       have f1:(l1' !=k1')=false:=by rw[bne,g1];rfl
       cases g2:(l2'==k2') with
       | false =>
        have f2:(l2' !=k2')=true:=by rw[bne,g2];rfl
        go_wp2_with fail
        go_ret
        exact⟨congrArg (fun b=>Ending.returned (.bool b)) (dC (fun h=>gF g2 (congrArg Sp.n (by
         have h1:=HG1.out
         rw[show l.map Sg.p=k.map Sg.p from congrArg Tp.l h,HG2.out] at h1
         exact(Option.some.inj h1).symm:Sp.mk l1' l2' l3' l4' l5'=Sp.mk k1' k2' k3' k4' k5')))).symm,bnx HS.out.below HBW.out⟩
       | true =>
        have f2:(l2' !=k2')=false:=by rw[bne,g2];rfl
        cases g3:(l3'==k3') with
        | false =>
         have f3:(l3' !=k3')=true:=by rw[bne,g3];rfl
         go_wp2_with fail
         go_ret
         exact⟨congrArg (fun b=>Ending.returned (.bool b)) (dC (fun h=>gF g3 (congrArg Sp.s (by
          have h1:=HG1.out
          rw[show l.map Sg.p=k.map Sg.p from congrArg Tp.l h,HG2.out] at h1
          exact(Option.some.inj h1).symm:Sp.mk l1' l2' l3' l4' l5'=Sp.mk k1' k2' k3' k4' k5')))).symm,bnx HS.out.below HBW.out⟩
        | true =>
         have f3:(l3' !=k3')=false:=by rw[bne,g3];rfl
         cases g4:(l4'==k4') with
         | false =>
          have f4:(l4' !=k4')=true:=by rw[bne,g4];rfl
          go_wp2_with fail
          go_ret
          exact⟨congrArg (fun b=>Ending.returned (.bool b)) (dC (fun h=>gF g4 (congrArg Sp.k (by
           have h1:=HG1.out
           rw[show l.map Sg.p=k.map Sg.p from congrArg Tp.l h,HG2.out] at h1
           exact(Option.some.inj h1).symm:Sp.mk l1' l2' l3' l4' l5'=Sp.mk k1' k2' k3' k4' k5')))).symm,bnx HS.out.below HBW.out⟩
         | true =>
          have f4:(l4' !=k4')=false:=by rw[bne,g4];rfl
          cases g5:(l5'==k5') with
          | false =>
           have f5:(l5' !=k5')=true:=by rw[bne,g5];rfl
           go_wp2_with fail
           go_ret
           exact⟨congrArg (fun b=>Ending.returned (.bool b)) (dC (fun h=>gF g5 (congrArg Sp.v (by
            have h1:=HG1.out
            rw[show l.map Sg.p=k.map Sg.p from congrArg Tp.l h,HG2.out] at h1
            exact(Option.some.inj h1).symm:Sp.mk l1' l2' l3' l4' l5'=Sp.mk k1' k2' k3' k4' k5')))).symm,bnx HS.out.below HBW.out⟩
          | true =>
           have f5:(l5' !=k5')=false:=by rw[bne,g5];rfl
           have HEQ:=aA (show Sp.mk l1' l2' l3' l4' l5'=Sp.mk k1' k2' k3' k4' k5' by rw[eq_of_b g1,eq_of_b g2,eq_of_b g3,eq_of_b g4,eq_of_b g5])
           go_wp2_with fail
           go_roundw
           case rel=>exact⟨j+1,An,Cg,(by rw[HT1.out,HT2.out,HPR.out];exact congrArg (fun z=>List.map Sg.p (List.take j k)++[z]) HEQ.out),HBW.out⟩
           case measure=>(simp[intOf])<;>omega
     ·obtain rfl:j=n:=by omega
      have d0:decide ((j:Int)<(j:Int))=false:=B0
      have d0':decide (j<j)=false:=B0
      have hp:=HPR.out
      rw[List.take_of_length_le Dp,List.take_of_length_le (by rw[HK.out];omega)] at hp
      have HP:=aA hp
      clear hp
      go_wp2_with fail
      go_ret
      exact⟨congrArg (fun b=>Ending.returned (.bool b)) (sameTp_yes (by rw[HE.out.1,HE.out.2.1,HE.out.2.2,HP.out])).symm,bnx HS.out.below HB0.out⟩
def Tp.few (p:Tp):Prop:=p.r.length≤200∧p.e.length≤200∧p.z.length≤200∧p.l.length≤100∧∀x∈p.l,x.b.length≤900∧x.n.length≤900∧x.s.length≤900∧x.k.length≤900∧x.v.length≤900
theorem Tp.few.sm {p:Tp}(h:p.few):p.sm:=by
 obtain⟨h1,h2,h3,h4,h5⟩:=h
 exact⟨An,An,An,An,fun x hx=>by obtain⟨a,b,c,d,e⟩:=h5 x hx;exact⟨An,An,An,An,An⟩⟩
theorem few_mem {p:Tp}{zs:List Sg}(h:p.few)(hz:zs.map Sg.p=p.l):∀x∈zs,x.b.b.length≤900∧x.n.b.length≤900∧x.s.b.length≤900∧x.k.b.length≤900∧x.v.b.length≤900:=fun x hx=>h.2.2.2.2 x.p (by rw[←hz];exact List.mem_map_of_mem hx)
section
variable {w0 w : World} {M : Nat → Prop} {H : List Chunk} {p : Tp} {B1 X B2 B3 : Option Addr} {m1 d1 n x m2 d2 m3 d3 : Nat} {V1 Y V2 V3 : Option Addr} {M1 e1 N y M2 e2 M3 e3 : Nat}
theorem seal_in {r:Rz}(hS:St w0 M w H)(hL:Laid H p B1 m1 d1 X n x B2 m2 d2 B3 m3 d3)(hsm:p.few)(hr:sealRz p=r)(h1:r.p.r.length=M1)(h2:r.p.l.length=N)(h3:r.p.e.length=M2)(h4:r.p.z.length=M3) :
  Calls Tryz.prog 19 #[.agg #[.slice B1 m1 d1,.slice X n x,.slice B2 m2 d2,.slice B3 m3 d3]] w (TkS w r.c r.p M1 N M2 M3):=by
 obtain⟨zs,a1,a2,a3,a4,a5,r1,r2,r3,r4,hok⟩:=hL.open hS
 obtain⟨pr,pl,pe,pz⟩:=p
 subst a2
 have hn:n≤100:=by have:=hsm.2.2.2.1;rw[List.length_map] at this;omega
 have h:=seal_any B1 B2 B3 X m1 m2 m3 n d1 d2 d3 x pr pe pz zs w a3 a4 a5 a1 hn (by have:=hsm.1;rw[←a3];exact Nat.le_trans this Bz) (by have:=hsm.2.2.1;rw[←a5];exact Nat.le_trans this Bz) (sm_mem hsm.sm rfl) (fun x hx=>by obtain⟨a,b,c,d,e⟩:=few_mem hsm rfl x hx;exact⟨An,An,An,An,An⟩) r1 r2 r3 r4 hok
 rw[hr] at h
 exact h.mono fun _ _ h=>tkS_of h h1 h2 h3 h4
end
theorem eO {w0 w:World}{M:Nat→Prop}{H:List Chunk}{v:Value}{e:TypeId}{size n:Nat}{xs:List Value}(h:St w0 M w H)(hm:Chunk.row v e size n xs∈H):Rd w v size n xs:=by
 obtain⟨i,hi⟩:=List.getElem?_of_mem hm
 exact h.rd i hi
end Go.Proofs.YtnohmgpmmhlloaaGreatDoor
namespace Go.Proofs.YtnohmgpmmhlloaaGreatDoor.S6
open Go.RowKit
def tkC (last:Nat)(f:FdV):Nat:=
 if f.whole=false∨f.num<last∨(f.num=last∧f.num≠1) then 3
 else if f.num=1 then match sgB f.b with
  | .bad k=>k
  | .ok _=>0
 else if f.num=2 then 0
 else if f.num=3 then 0
 else 3
theorem sgB_k {b:List UInt8}{k:Nat}(h:sgB b=.bad k):k=2∨k=3:=by
 unfold sgB at h
 cases hf:fds b with
 | bad j=>rw[hf] at h;injection h with h;subst h;exact fW b _ hf
 | ok fs =>
  rw[hf] at h
  replace h:(match sgR fs with|none=>SgQ.bad 3|some x=>SgQ.ok x)=.bad k:=h
  cases hs:sgR fs with
  | none=>rw[hs] at h;injection h with h;exact .inr h.symm
  | some x=>rw[hs] at h;cases h
theorem tkF_bad {last k:Nat}{f:FdV}(h:tkC last f=k)(hk:k≠0)(t:Tp)(fs:List FdV):tkF last t (f::fs)=⟨k,tp0⟩:=by
 unfold tkC at h
 unfold tkF
 split at h
 ·rename_i h1
  rw[if_pos h1,←h]
 ·rename_i h1
  rw[if_neg h1]
  split at h
  ·rename_i h2
   rw[if_pos h2]
   cases hs:sgB f.b with
   | bad j=>rw[hs] at h;rw[←h]
   | ok x=>rw[hs] at h;exact absurd h.symm hk
  ·rename_i h2
   rw[if_neg h2]
   split at h
   ·exact absurd h.symm hk
   ·rename_i h3
    rw[if_neg h3]
    split at h
    ·exact absurd h.symm hk
    ·rename_i h4
     rw[if_neg h4,←h]
theorem takes_form (g:Nat)(X:Option Addr)(nb xc fn last:Nat)(num:Nat)(wh:Bool)(w:World)(h:wh=false∨num<last∨(num=last∧num≠1)) :
  Calls Tryz.prog 65 #[.pointer (some ⟨g,0,none⟩),.agg #[.int .i64 (num:Int),.bool wh,.int .u64 (fn:Int),.slice X nb xc],.int .i64 (last:Int)] w fun e w'=>e=.returned (.int .i64 3)∧Below w.heap.size w w':=by
 have HS:=aA ((St.init w NoB).alloc #[.int .i64 (num:Int),.bool wh,.int .u64 (fn:Int),.slice X nb xc] 93)
 have t0:_=some (Value.int .i64 (num:Int)):=HS.out.cell 0 rfl 0
 have t1:_=some (Value.bool wh):=HS.out.cell 0 rfl 1
 have h':wh=false∨(wh=true∧num<last)∨(wh=true∧num=last∧num≠1):=by
  cases wh
  ·exact .inl rfl
  ·rcases h with h|h|h
   ·cases h
   ·exact .inr (.inl ⟨rfl,h⟩)
   ·exact .inr (.inr ⟨rfl,h⟩)
 clear h
 rcases h' with rfl|⟨rfl,h⟩|⟨rfl,rfl,h⟩
 ·go_enter Tryz.func65,Tryz.ntmps65
  go_wp2_with fail
  go_ret
  exact⟨rfl,HS.out.below⟩
 ·have d1:decide ((num:Int)<(last:Int))=true:=by simp;omega
  have d1':decide (num<last)=true:=A9
  go_enter Tryz.func65,Tryz.ntmps65
  go_wp2_with fail
  go_ret
  exact⟨rfl,HS.out.below⟩
 ·have d3:((num:Int) !=1)=true:=by simp;omega
  have d3':decide ((num:Int)=1)=false:=A9
  go_enter Tryz.func65,Tryz.ntmps65
  go_wp2_with fail
  go_ret
  exact⟨rfl,HS.out.below⟩
theorem takes_other (g:Nat)(X:Option Addr)(nb xc fn last:Nat)(num:Nat)(w:World)(h:3<num)(h2:¬num<last)(h3:num≠last) :
  Calls Tryz.prog 65 #[.pointer (some ⟨g,0,none⟩),.agg #[.int .i64 (num:Int),.bool true,.int .u64 (fn:Int),.slice X nb xc],.int .i64 (last:Int)] w fun e w'=>e=.returned (.int .i64 3)∧Below w.heap.size w w':=by
 have HS:=aA ((St.init w NoB).alloc #[.int .i64 (num:Int),.bool true,.int .u64 (fn:Int),.slice X nb xc] 93)
 have t0:_=some (Value.int .i64 (num:Int)):=HS.out.cell 0 rfl 0
 have t1:_=some (Value.bool true):=HS.out.cell 0 rfl 1
 have d1:decide ((num:Int)<(last:Int))=false:=A9
 have d1':decide (num<last)=false:=A9
 have d2:((num:Int)==(last:Int))=false:=A9
 have d2':decide ((num:Int)=(last:Int))=false:=A9
 have d2'':decide (num=last)=false:=A9
 have d2b:(num==last)=false:=A9
 have e1:((num:Int)==1)=false:=A9
 have e1':decide ((num:Int)=1)=false:=A9
 have e2:((num:Int)==2)=false:=A9
 have e2':decide ((num:Int)=2)=false:=A9
 have e3:((num:Int)==3)=false:=A9
 have e3':decide ((num:Int)=3)=false:=A9
 clear h h2 h3
 go_enter Tryz.func65,Tryz.ntmps65
 go_wp2_with fail
 go_ret
 exact⟨rfl,HS.out.below⟩
section
variable {w0 w : World} {M : Nat → Prop} {H : List Chunk}
theorem takes_seed (g:Nat)(X:Option Addr)(nb xc fn last:Nat)(r:Value)(Y:Option Addr)(n y:Nat)(e z:Value)(h:last<2)(hS:St w0 M w (.cells g #[r,.slice Y n y,e,z] 26::H)) :
  Calls Tryz.prog 65 #[.pointer (some ⟨g,0,none⟩),.agg #[.int .i64 2,.bool true,.int .u64 (fn:Int),.slice X nb xc],.int .i64 (last:Int)] w fun e9 w'=>e9=.returned (.int .i64 0)∧St w0 M w' (.cells g #[r,.slice Y n y,.slice X nb xc,z] 26::H):=by
 have HS:=aA (hS.alloc #[.int .i64 2,.bool true,.int .u64 (fn:Int),.slice X nb xc] 93)
 have t0:_=some (Value.int .i64 2):=HS.out.cell 0 rfl 0
 have t1:_=some (Value.bool true):=HS.out.cell 0 rfl 1
 have t3:_=some (Value.slice X nb xc):=HS.out.cell 0 rfl 3
 have q:_=some _:=HS.out.cell 1 rfl 2
 have f:=HS.out.free 1 rfl 2
 clear hS
 rcases(show last=0∨last=1 by omega) with rfl|rfl
 all_goals
  go_enter Tryz.func65,Tryz.ntmps65
  go_wp2_with fail
  go_ret
  exact⟨rfl,(HS.out.setCell 1 rfl 2 (.slice X nb xc)).tail⟩
theorem takes_seal (g:Nat)(X:Option Addr)(nb xc fn last:Nat)(r:Value)(Y:Option Addr)(n y:Nat)(e z:Value)(h:last<3)(hS:St w0 M w (.cells g #[r,.slice Y n y,e,z] 26::H)) :
  Calls Tryz.prog 65 #[.pointer (some ⟨g,0,none⟩),.agg #[.int .i64 3,.bool true,.int .u64 (fn:Int),.slice X nb xc],.int .i64 (last:Int)] w fun e9 w'=>e9=.returned (.int .i64 0)∧St w0 M w' (.cells g #[r,.slice Y n y,e,.slice X nb xc] 26::H):=by
 have HS:=aA (hS.alloc #[.int .i64 3,.bool true,.int .u64 (fn:Int),.slice X nb xc] 93)
 have t0:_=some (Value.int .i64 3):=HS.out.cell 0 rfl 0
 have t1:_=some (Value.bool true):=HS.out.cell 0 rfl 1
 have t3:_=some (Value.slice X nb xc):=HS.out.cell 0 rfl 3
 have q:_=some _:=HS.out.cell 1 rfl 3
 have f:=HS.out.free 1 rfl 3
 clear hS
 rcases(show last=0∨last=1∨last=2 by omega) with rfl|rfl|rfl
 all_goals
  go_enter Tryz.func65,Tryz.ntmps65
  go_wp2_with fail
  go_ret
  exact⟨rfl,(HS.out.setCell 1 rfl 3 (.slice X nb xc)).tail⟩
def SgX (G:List Chunk)(kk:Nat)(y:Sg):SgQ→Prop
 | .ok x=>kk=0∧y.p=x∧SgIn G y
 | .bad k=>kk=k
theorem sgX_of {w w':World}{q:SgQ}{e:Ending}(h:SgD w q e w'):∃(y:Sg) (G:List Chunk) (kk:Nat),e=.returned (.tuple #[y.val,.int .i64 (kk:Int)])∧SgX G kk y q∧St w NoB w' G:=by
 cases q with
 | ok x =>
  obtain⟨y,G,h1,h2,h3,h4⟩:=h
  exact⟨y,G,0,h1,⟨rfl,h2,h3⟩,h4⟩
 | bad k =>
  obtain⟨h1,h2⟩:=h
  exact⟨⟨pc0,pc0,pc0,pc0,pc0⟩,[],k,h1,rfl,(St.init w NoB).call h2⟩
theorem takes_blk (g:Nat)(X:Option Addr)(nb xc fn last:Nat)(r:Value)(Y:Option Addr)(n y:Nat)(zs:List Sg)(e z:Value)(fb:List UInt8)(hl:fb.length=nb)(hn:nb≤65536)(hn2:n≤100000)(hlast:last≤1)(hr:Rd w (.slice X nb xc) 1 nb (bvs fb))(hS:St w0 M w (.cells g #[r,.slice Y n y,e,z] 26::.row (.slice Y n y) 32 5 n (aN zs)::H)) :
  Calls Tryz.prog 65 #[.pointer (some ⟨g,0,none⟩),.agg #[.int .i64 1,.bool true,.int .u64 (fn:Int),.slice X nb xc],.int .i64 (last:Int)] w fun e9 w'=>∃Y' y' yy G kk,e9=.returned (.int .i64 (kk:Nat))∧SgX G kk yy (sgB fb)∧St w0 M w' (.cells g #[r,.slice Y' (n+1) y',e,z] 26::.row (.slice Y' (n+1) y') 32 5 (n+1) (aN (zs++[yy]))::(H++G)):=by
 have HS:=aA (hS.alloc #[.int .i64 1,.bool true,.int .u64 (fn:Int),.slice X nb xc] 93)
 have HR:=aA (hr.below (((Below.refl w.heap.size w).alloc (Nat.le_refl _) (.cells #[.int .i64 1,.bool true,.int .u64 (fn:Int),.slice X nb xc] 93))))
 have HC:=aA (signedOf_any X nb xc fb _ hl hn HR.out)
 have t0:_=some (Value.int .i64 1):=HS.out.cell 0 rfl 0
 have t1:_=some (Value.bool true):=HS.out.cell 0 rfl 1
 have t3:_=some (Value.slice X nb xc):=HS.out.cell 0 rfl 3
 clear hS hr HR hl hn
 rcases(show last=0∨last=1 by omega) with rfl|rfl
 all_goals
  go_enter Tryz.func65,Tryz.ntmps65
  have M0:=True.intro
  go_upto_region 7 with(first
   |(clear M1;refine wl_storeC rfl rfl (HS.out.alloc _ _) 0 rfl (vs:=[.slice E1 y1.length f1,.slice E2 y2.length f2,.slice E3 y3.length f3,.slice E4 y4.length f4,.slice E5 y5.length f5]) szSigned (Nat.le_refl _) rfl rfl fE ?_;intro w5 hS5;have HS5:=aA hS5;clear hS5;have M2:=True.intro)
   |(clear M0;go_at_call 114;(with_reducible refine HC.out.mono ?_);rintro e9 w2 h2;obtain⟨⟨⟨E1,f1,y1⟩,⟨E2,f2,y2⟩,⟨E3,f3,y3⟩,⟨E4,f4,y4⟩,⟨E5,f5,y5⟩⟩,G,kk,rfl,hX,hS2⟩:=sgX_of h2;rw[Sg.val_eq];have HS:=aA (St.rot _ _ (HS.out.join hS2));have HX:=aA hX;clear hS2 hX h2;have M1:=True.intro))
  have HS:Hid (St w0 M w5 (.cells w2.heap.size #[.slice E1 y1.length f1,.slice E2 y2.length f2,.slice E3 y3.length f3,.slice E4 y4.length f4,.slice E5 y5.length f5] 32::.cells w.heap.size #[.int .i64 1,.bool true,.int .u64 (fn:Int),.slice X nb xc] 93::.cells g #[r,.slice Y n y,e,z] 26::.row (.slice Y n y) 32 5 n (aN zs)::(H++G))):=HS5
  clear HS5
  refine fZ (.op 0 1 (.op 1 1 (.op 2 1 (.op 3 1 (.op 4 0 (.op 5 2 (.op 6 2 (.op 7 3 (.op 8 1 (.op 9 1 (.op 10 4 (.nil)))))))))))) Bt Bt (fun _ _ _ _ h=>h) ?_
  have HS:=aA HS.out.drew
  generalize w5.drew=w6 at HS ⊢
  have t2:_=some (Value.slice Y n y):=HS.out.cell 2 rfl 1
  have s1:_=some (Value.slice E1 y1.length f1):=HS.out.cell 0 rfl 0
  have s2:_=some (Value.slice E2 y2.length f2):=HS.out.cell 0 rfl 1
  have s3:_=some (Value.slice E3 y3.length f3):=HS.out.cell 0 rfl 2
  have s4:_=some (Value.slice E4 y4.length f4):=HS.out.cell 0 rfl 3
  have s5:_=some (Value.slice E5 y5.length f5):=HS.out.cell 0 rfl 4
  have hbA:=(Below.refl w6.heap.size w6).alloc (Nat.le_refl _) (.cells #[.slice E1 y1.length f1,.slice E2 y2.length f2,.slice E3 y3.length f3,.slice E4 y4.length f4,.slice E5 y5.length f5] 32)
  have M0:=True.intro
  go_wp2_with (first
   |(clear M0;refine wpS_late rfl rfl ?_;intro K hK;refine gU rfl tySg (HS.out.skip _) 3 rfl rfl rfl (iO _ [.slice E1 y1.length f1,.slice E2 y2.length f2,.slice E3 y3.length f3,.slice E4 y4.length f4,.slice E5 y5.length f5] 32 5 1 rfl Bz) fE An Bz ?_;intro A7 c7 w7 hS7;have HS:=aA hS7;clear hS7;have q8:_=some (Value.slice Y n y):=HS.out.cell 2 rfl 1;have g8:=HS.out.free 2 rfl 1;have M1:=True.intro)
   |(refine bC ?_)|((with_reducible refine fromT_refl ?_);(try refine nm ?_))|((with_reducible refine aE Df ?_);(try refine nm ?_))|(refine wpS_pure (v:=?_) rfl rfl ?_ ?_;rotate_left;(intro wx;go_simp;try go_bits)<;>(with_reducible rfl);(try refine nm ?_))|(refine wpS_load (v:=?_) rfl rfl rfl ?_ ?_;rotate_left;(go_simp;try go_bits)<;>(with_reducible rfl);(try refine nm ?_))|(refine wpS_read (v:=?_) rfl rfl ?_ ?_;rotate_left;(intro wx hx;go_simp;try go_bits)<;>(with_reducible rfl);(try refine nm ?_))|(refine aQ rfl rfl ?_;intro K hK)|(refine wpS_late rfl rfl ?_;intro K hK)|(refine wpS_any rfl rfl ?_;intro K hK)|(refine wpS_skip rfl rfl ?_;(try refine nm ?_)))
  have HS:=aA (HS.out.setCell 2 rfl 1 (.slice A7 (n+1) c7))
  go_ret
  refine⟨A7,c7,⟨⟨E1,f1,y1⟩,⟨E2,f2,y2⟩,⟨E3,f3,y3⟩,⟨E4,f4,y4⟩,⟨E5,f5,y5⟩⟩,G,kk,rfl,HX.out,?_⟩
  rw[sgCells_app]
  exact HS.out.tail.tail
end
theorem st_front {w0 w:World}{M:Nat→Prop}{A B:List Chunk}(h:St w0 M w (A++B)):St w0 M w A:=by
 have key:∀(i:Nat) (c:Chunk),A[i]?=some c→(A++B)[i]?=some c:=fun i c hc=>by
  rw[List.getElem?_append_left (List.getElem?_eq_some_iff.1 hc).1]
  exact hc
 exact⟨h.ext,fun i c hc=>h.sat i c (key i c hc),fun i c k hc=>h.own i c k (key i c hc),fun i j c d k hij hc hd=>h.apart i j c d k hij (key i c hc) (key j d hd)⟩
section
variable {w0 w : World} {M : Nat → Prop} {H : List Chunk}
theorem takes_bad (g:Nat)(f:FdL)(last kk:Nat)(r:Value)(Y:Option Addr)(n y:Nat)(zs:List Sg)(e z:Value)(hc:tkC last f.f=kk)(hk:kk≠0)(hn:n≤100000)(hb:f.f.b.length≤65536)(hf:FdL.chunk f∈H)(hS:St w0 M w (.cells g #[r,.slice Y n y,e,z] 26::.row (.slice Y n y) 32 5 n (aN zs)::H)) :
  Calls Tryz.prog 65 #[.pointer (some ⟨g,0,none⟩),.agg #[.int .i64 (f.f.num:Int),.bool f.f.whole,.int .u64 (f.f.n:Int),.slice f.A f.f.b.length f.c],.int .i64 (last:Int)] w fun e9 w'=>e9=.returned (.int .i64 (kk:Int))∧St w0 M w' H:=by
 obtain⟨⟨num,wh,fn,b⟩,X,xc⟩:=f
 have hr:Rd w (.slice X b.length xc) 1 b.length (bvs b):=ch_ok (p:=⟨X,xc,b⟩) hS (mC _ (mC _ hf))
 by_cases h1:wh=false∨num<last∨(num=last∧num≠1)
 ·obtain rfl:kk=3:=by rw[←hc];exact if_pos h1
  refine(takes_form g X b.length xc fn last num wh w h1).mono ?_
  rintro e9 w' ⟨rfl,h⟩
  exact⟨rfl,(hS.call h).tail.tail⟩
 ·have hw:wh=true:=by cases wh;exact absurd (.inl rfl) h1;rfl
  subst hw
  have hnl:¬num<last:=fun h=>h1 (.inr (.inl h))
  have hne:num≠last∨num=1:=by
   by_cases h:num=last
   ·by_cases h2:num=1
    ·exact .inr h2
    ·exact absurd (.inr (.inr ⟨h,h2⟩)) h1
   ·exact .inl h
  replace hc:(if num=1 then (match sgB b with|.bad k=>k|.ok _=>0) else if num=2 then 0 else if num=3 then 0 else 3)=kk:=by rw[←hc];exact(if_neg h1).symm
  by_cases h2:num=1
  ·subst h2
   rw[if_pos rfl] at hc
   refine(takes_blk g X b.length xc fn last r Y n y zs e z b rfl hb hn An hr hS).mono ?_
   rintro e9 w' ⟨Y',y',yy,G,kk',rfl,hX,hS'⟩
   cases hs:sgB b with
   | ok x=>rw[hs] at hc;exact absurd hc.symm hk
   | bad k =>
    rw[hs] at hc hX
    obtain rfl:k=kk:=hc
    obtain rfl:kk'=k:=hX
    exact⟨rfl,st_front hS'.tail.tail⟩
  ·rw[if_neg h2] at hc
   by_cases h3:num=2
   ·rw[if_pos h3] at hc;exact absurd hc.symm hk
   ·rw[if_neg h3] at hc
    by_cases h4:num=3
    ·rw[if_pos h4] at hc;exact absurd hc.symm hk
    ·rw[if_neg h4] at hc
     subst hc
     have h5:num≠last:=by rcases hne with h|h;exact h;exact absurd h h2
     refine(takes_other g X b.length xc fn last num w An hnl h5).mono ?_
     rintro e9 w' ⟨rfl,h⟩
     exact⟨rfl,(hS.call h).tail.tail⟩
structure TkHd (H:List Chunk)(zs:List Sg)(e z:PcV):Prop where
 l:∀y∈zs,SgIn H y
 e:e.ch∈H
 z:z.ch∈H
theorem takes_good (g:Nat)(f:FdL)(last:Nat)(r:Value)(Y:Option Addr)(n y:Nat)(zs:List Sg)(e z:PcV)(root:List UInt8)(fs:List FdV)(hc:tkC last f.f=0)(hn:n≤100000)(hb:f.f.b.length≤65536)(K:List Chunk)(hK:∀c∈K,c∈H)(hf:FdL.chunk f∈K)(hz:zs.length=n)(hH:TkHd K zs e z)(hS:St w0 M w (.cells g #[r,.slice Y n y,e.v,z.v] 26::.row (.slice Y n y) 32 5 n (aN zs)::H)) :
  Calls Tryz.prog 65 #[.pointer (some ⟨g,0,none⟩),.agg #[.int .i64 (f.f.num:Int),.bool f.f.whole,.int .u64 (f.f.n:Int),.slice f.A f.f.b.length f.c],.int .i64 (last:Int)] w fun e9 w'=>∃Y' n' y' zs' e' z' G,e9=.returned (.int .i64 0)∧St w0 M w' (.cells g #[r,.slice Y' n' y',PcV.v e',PcV.v z'] 26::.row (.slice Y' n' y') 32 5 n' (aN zs')::(H++G))∧zs'.length=n'∧n'≤n+1∧TkHd (K++G) zs' e' z'∧tkF last ⟨root,zs.map Sg.p,e.b,z.b⟩ (f.f::fs)=tkF f.f.num ⟨root,zs'.map Sg.p,e'.b,z'.b⟩ fs:=by
 obtain⟨⟨num,wh,fn,b⟩,X,xc⟩:=f
 have hr:Rd w (.slice X b.length xc) 1 b.length (bvs b):=ch_ok (p:=⟨X,xc,b⟩) hS (mC _ (mC _ (hK _ hf)))
 have h1:¬(wh=false∨num<last∨(num=last∧num≠1)):=fun h=>by
  rw[show tkC last ⟨num,wh,fn,b⟩=3 from if_pos h] at hc
  cases hc
 have hw:wh=true:=by cases wh;exact absurd (.inl rfl) h1;rfl
 subst hw
 have hnl:¬num<last:=fun h=>h1 (.inr (.inl h))
 have hne:num≠last∨num=1:=by
  by_cases h:num=last
  ·by_cases h2:num=1
   ·exact .inr h2
   ·exact absurd (.inr (.inr ⟨h,h2⟩)) h1
  ·exact .inl h
 replace hc:(if num=1 then (match sgB b with|.bad k=>k|.ok _=>0) else if num=2 then 0 else if num=3 then 0 else 3)=0:=Eq.trans (Eq.symm (if_neg h1)) hc
 have hF:∀t:Tp,tkF last t (⟨num,true,fn,b⟩::fs)=(if num=1 then match sgB b with
   | .bad k=>⟨k,tp0⟩
   | .ok x=>tkF 1 ⟨t.r,t.l++[x],t.e,t.z⟩ fs
  else if num=2 then tkF 2 ⟨t.r,t.l,b,t.z⟩ fs
  else if num=3 then tkF 3 ⟨t.r,t.l,t.e,b⟩ fs
  else ⟨3,tp0⟩):=fun t=>by
  rw[tkF]
  exact if_neg h1
 rw[hF]
 by_cases h2:num=1
 ·subst h2
  rw[if_pos rfl] at hc
  refine(takes_blk g X b.length xc fn last r Y n y zs e.v z.v b rfl hb hn An hr hS).mono ?_
  rintro e9 w' ⟨Y',y',yy,G,kk',rfl,hX,hS'⟩
  cases hs:sgB b with
  | bad k =>
   rw[hs] at hc
   have:=sgB_k hs
   replace hc:k=0:=hc
   omega
  | ok x =>
   rw[hs] at hX
   obtain⟨rfl,hp,hG⟩:=hX
   refine⟨Y',n+1,y',zs++[yy],e,z,G,rfl,hS',by rw[List.length_append,hz];rfl,Nat.le_refl _,⟨fun v hv=>?_,List.mem_append_left _ hH.e,List.mem_append_left _ hH.z⟩,?_⟩
   ·rcases List.mem_append.1 hv with h|h
    ·exact(hH.l v h).mono fun c hc=>List.mem_append_left _ hc
    ·rw[List.mem_singleton.1 h]
     exact hG.mono fun c hc=>List.mem_append_right _ hc
   ·rw[if_pos rfl,List.map_append,←hp]
    rfl
 ·rw[if_neg h2] at hc
  by_cases h3:num=2
  ·subst h3
   refine(takes_seed g X b.length xc fn last r Y n y e.v z.v (by rcases hne with h|h<;>omega) hS).mono ?_
   rintro e9 w' ⟨rfl,h⟩
   refine⟨Y,n,y,zs,⟨X,xc,b⟩,z,[],rfl,Fd,hz,Nat.le_succ _,?_,?_⟩
   ·rw[List.append_nil]
    exact⟨hH.l,hf,hH.z⟩
   ·rw[if_neg h2,if_pos rfl]
  ·rw[if_neg h3] at hc
   by_cases h4:num=3
   ·subst h4
    refine(takes_seal g X b.length xc fn last r Y n y e.v z.v (by rcases hne with h|h<;>omega) hS).mono ?_
    rintro e9 w' ⟨rfl,h⟩
    refine⟨Y,n,y,zs,e,⟨X,xc,b⟩,[],rfl,Fd,hz,Nat.le_succ _,?_,?_⟩
    ·rw[List.append_nil]
     exact⟨hH.l,hH.e,hf⟩
    ·rw[if_neg h2,if_neg h3,if_pos rfl]
   ·rw[if_neg h4] at hc
    cases hc
end
theorem dec_bad {raw root:List UInt8}{k:Nat}(h:fds raw=.bad k):decRz raw root=⟨k,tp0⟩:=by unfold decRz;rw[h]
theorem dec_ok {raw root:List UInt8}{fs:List FdV}{r:Rz}(h:fds raw=.ok fs)(h2:tkF 0 ⟨root,[],[],[]⟩ fs=r):decRz raw root=if r.c≠0 then ⟨r.c,tp0⟩ else if r.p.l.length=0∨8<r.p.l.length then ⟨3,tp0⟩ else ⟨0,r.p⟩:=by
 unfold decRz
 rw[h]
 show(if (tkF 0 ⟨root,[],[],[]⟩ fs).c≠0 then _ else _)=_
 rw[h2]
theorem dec_perm (a b c d e f:Chunk)(H:List Chunk):(a::b::c::d::e::f::H).Perm (c::a::d::e::f::b::H):=by
 have h1:(a::b::c::d::e::f::H).Perm (c::a::b::d::e::f::H):=(List.Perm.cons a (List.Perm.swap c b _)).trans (List.Perm.swap c a _)
 refine h1.trans (List.Perm.cons c (List.Perm.cons a ?_))
 exact(List.Perm.swap d b _).trans (List.Perm.cons d ((List.Perm.swap e b _).trans (List.Perm.cons e (List.Perm.swap f b _))))
theorem decode_any (A Ar:Option Addr)(n c nr cr:Nat)(raw root:List UInt8)(w:World)(hl:raw.length=n)(hn:n≤65536)(hlr:root.length=nr)(hnr:nr≤1000000)(hr:Rd w (.slice A n c) 1 n (bvs raw))(hrr:Rd w (.slice Ar nr cr) 1 nr (bvs root)) :
  Calls Tryz.prog 26 #[.slice A n c,.slice Ar nr cr] w (TkQ w (decRz raw root)):=by
 have HS:=aA ((St.init w NoB).alloc #[.slice none 0 0,.slice none 0 0,.slice none 0 0,.slice none 0 0] 26)
 have HRR:=aA hrr
 have HLR:=aA hlr
 have HF:=fields_walk _ A c raw An (hl▸hr.st HS.out)
 rw[hl] at HF
 cases hf:fds raw with
 | bad k =>
  have HD:=aA (dec_bad (root:=root) hf)
  rw[hf] at HF
  have HC:=aA HF
  have hk:k=2∨k=3:=fW raw k hf
  have d0:((k:Int) !=0)=true:=A9
  have d0':decide ((k:Int)=0)=false:=A9
  clear HF hr hk hrr hlr hl
  go_enter Tryz.func26,Tryz.ntmps26
  have M0:=True.intro
  go_wp2_with (first
   |(clear M2;refine wl_storeC rfl rfl (HS.out.alloc _ _) 0 rfl (vs:=[.slice Br nr dr,.slice none 0 0,.slice none 0 0,.slice none 0 0]) szToken (Nat.le_refl _) rfl rfl dR ?_;intro w5 hS5;have HS:=aA hS5;clear hS5;have M3:=True.intro)
   |(clear M1;go_at_call 33;(with_reducible refine(bY _ HLR.out An (HRR.out.below HS.out.below)).mono ?_);rintro e w3 ⟨Br,dr,rfl,hb,ho⟩;have HS:=aA (HS.out.row hb ho);clear ho hb;have M2:=True.intro)
   |(clear M0;go_at_call 64;(with_reducible refine HC.out.mono ?_);rintro e w2 ⟨rfl,hb⟩;have HS:=aA (HS.out.call hb);clear hb;have M1:=True.intro))
  refine wp_loop_rounds 1 ?_
  rw[rounds_succ]
  go_wp2_with (refine wl_storeC rfl rfl HS.out 2 rfl (vs:=[.slice none 0 0,.slice none 0 0,.slice none 0 0,.slice none 0 0]) szToken (Nat.le_refl _) rfl rfl dR ?_;intro w7 hS7;have HS7:=aA hS7;clear hS7)
  refine bodyPost_ret (aB rfl _ _ w.heap.size _ _ _ _ rfl (HS7.out.heap 2 rfl) Tryz.underlying26 rfl Bt) rfl ?_
  rw[HD.out]
  exact gO ⟨rfl,HS7.out.below⟩
 | ok fs =>
  rw[hf] at HF
  have HC:=aA HF
  have HFS:=aA hf
  clear HF hr hf hrr hlr
  go_enter Tryz.func26,Tryz.ntmps26
  have M0:=True.intro
  go_upto_region 3 with(first
   |(clear M2;refine wl_storeC rfl rfl (HS.out.alloc _ _) 0 rfl (vs:=[.slice Br nr dr,.slice none 0 0,.slice none 0 0,.slice none 0 0]) szToken (Nat.le_refl _) rfl rfl dR ?_;intro w5 hS5;have HS5:=aA hS5;clear hS5;have M3:=True.intro)
   |(clear M1;go_at_call 33;(with_reducible refine(bY _ HLR.out An (HRR.out.below HS.out.below)).mono ?_);rintro e w3 ⟨Br,dr,rfl,hb,ho⟩;have HS:=aA (HS.out.row hb ho);clear ho hb;have M2:=True.intro)
   |(clear M0;go_at_call 64;(with_reducible refine HC.out.mono ?_);rintro e w2 ⟨xs,B,d,rfl,hx,hS2⟩;have HS:Hid (St w NoB w2 (.cells w.heap.size #[.slice none 0 0,.slice none 0 0,.slice none 0 0,.slice none 0 0] 26::.row (.slice B xs.length d) 93 4 xs.length (aP xs)::aV xs)):=aA (St.rot _ [_] (HS.out.join hS2));have HX:=aA hx;clear hS2 hx;have M1:=True.intro))
  obtain⟨m,hm⟩:∃m,xs.length=m:=⟨_,rfl⟩
  rw[hm] at HS5 ⊢
  have HM:=aA hm
  have hm6:m≤65536:=by
   have h1:=fds_len raw fs HFS.out
   rw[←HX.out,List.length_map,hm] at h1
   omega
  have HFB:Hid (∀x∈xs,x.f.b.length≤65536):=aA (fun x hx=>by
   have:=((fds_inv raw.length raw fs (Nat.le_refl _) An HFS.out).2 x.f (by rw[←HX.out];exact List.mem_map_of_mem hx)).2
   omega)
  have HSL:Hid (St w NoB w5 (.cells w3.heap.size #[.slice Br nr dr,.slice none 0 0,.slice none 0 0,.slice none 0 0] 26::.row (.slice none 0 0) 32 5 0 []::.row (.slice Br nr dr) 5 1 nr (bvs root)::.cells w.heap.size #[.slice none 0 0,.slice none 0 0,.slice none 0 0,.slice none 0 0] 26::.row (.slice B m d) 93 4 m (aP xs)::(pc0.ch::aV xs))):=aA (by
   have h1:=(HS5.out.row (Below.refl _ _) (World.ownsRow_nil _ _ 5 1)).row (Below.refl _ _) (World.ownsRow_nil _ _ 32 5)
   exact h1.perm (dec_perm _ _ _ _ _ _ _))
  generalize w3.heap.size=gt at HSL HS5 ⊢
  clear HS5 HS hm
  go_wp2_with fail
  go_loopw [7,9,22] (fun ev lv iv wr=>∃(k last cnt:Nat) (X:Option Addr) (x:Nat) (zs:List Sg) (e z:PcV) (G:List Chunk),k≤m∧iv=.int .i64 (k:Int)∧lv=.int .i64 (last:Int)∧ev=.int .i64 0∧cnt≤k∧Hid (zs.length=cnt)∧Hid (TkHd G zs e z)∧Hid (∀x∈xs,FdL.chunk x∈G)∧Hid (tkF 0 ⟨root,[],[],[]⟩ fs=tkF last ⟨root,zs.map Sg.p,e.b,z.b⟩ ((xs.drop k).map FdL.f))∧Hid (St w NoB wr (.cells gt #[.slice Br nr dr,.slice X cnt x,e.v,z.v] 26::.row (.slice X cnt x) 32 5 cnt (aN zs)::.row (.slice Br nr dr) 5 1 nr (bvs root)::.cells w.heap.size #[.slice none 0 0,.slice none 0 0,.slice none 0 0,.slice none 0 0] 26::.row (.slice B m d) 93 4 m (aP xs)::G))) (fun _ _ i _=>(m - intOf i).toNat)
  case atStart=>exact⟨0,0,0,none,0,[],pc0,pc0,_,An,rfl,rfl,rfl,An,rfl,⟨fun y hy=>absurd hy List.not_mem_nil,List.mem_cons_self ..,List.mem_cons_self ..⟩,(fun x hx=>mC _ Ev),(by rw[←HX.out];rfl),HSL⟩
  case round =>
   clear HSL
   obtain⟨k,last,cnt,X,x,zs,ez,zz,G,hk,rfl,rfl,rfl,hcnt,HZ,HH,HG,HT,HS⟩:=hrel
   by_cases hlt:k<m
   ·have e0:decide ((k:Int)<(m:Int))=true:=by simp;omega
    have e0':decide (k<m)=true:=A9
    have kn:(k:Int)<(m:Int):=An
    have kl:k<xs.length:=Et
    have hlk:xs[k]?=some xs[k]:=gE kl
    obtain⟨b,o,rfl,hb8,hc⟩:=fC (HS.out.rd 4 rfl) hlk
    obtain⟨k0,k1,k2,k3⟩:=hc _ (Below.refl _ _)
    have HDK:=aA (show(xs.drop k).map FdL.f=xs[k].f::(xs.drop (k+1)).map FdL.f by rw[List.drop_eq_getElem_cons kl];rfl)
    have HYB:=aA (HFB.out _ (List.getElem_mem kl))
    have HYG:=aA (HG.out _ (List.getElem_mem kl))
    generalize xs[k]=y at k0 k1 k2 k3 HDK HYB HYG
    rw[HDK.out] at HT
    clear hc hlk kl
    go_upto_region 7 with(refine wl_storeC rfl rfl (HS.out.alloc _ _) 0 rfl (vs:=[.int .i64 (y.f.num:Int),.bool y.f.whole,.int .u64 (y.f.n:Int),.slice y.A y.f.b.length y.c]) szField (Nat.le_refl _) rfl rfl oneF ?_;intro w5 hS5;have HS5:Hid (St w NoB w5 (.cells gt #[.slice Br nr dr,.slice X cnt x,ez.v,zz.v] 26::.row (.slice X cnt x) 32 5 cnt (aN zs)::(.cells wr.heap.size #[.int .i64 (y.f.num:Int),.bool y.f.whole,.int .u64 (y.f.n:Int),.slice y.A y.f.b.length y.c] 93::.row (.slice Br nr dr) 5 1 nr (bvs root)::.cells w.heap.size #[.slice none 0 0,.slice none 0 0,.slice none 0 0,.slice none 0 0] 26::.row (.slice (some ⟨b,o,none⟩) m d) 93 4 m (aP xs)::G))):=aA (hS5.perm ((List.Perm.swap _ _ _).trans (List.Perm.cons _ (List.Perm.swap _ _ _))));clear hS5)
    have q0:_=some (Value.int .i64 (y.f.num:Int)):=HS5.out.cell 2 rfl 0
    have q1:_=some (Value.bool y.f.whole):=HS5.out.cell 2 rfl 1
    have q2:_=some (Value.int .u64 (y.f.n:Int)):=HS5.out.cell 2 rfl 2
    have q3:_=some (Value.slice y.A y.f.b.length y.c):=HS5.out.cell 2 rfl 3
    clear k0 k1 k2 k3 HS
    by_cases hc:tkC last y.f=0
    ·have HW:=aA (takes_good gt y last (.slice Br nr dr) X cnt x zs ez zz root ((xs.drop (k+1)).map FdL.f) hc An HYB.out G (fun c h=>by (iterate 4 apply mC);exact h) HYG.out HZ.out HH.out HS5.out)
     clear hc
     go_wp2_with (go_at_call 65;(with_reducible refine HW.out.mono ?_);rintro e9 w6 ⟨X2,n2,x2,zs2,e2,z2,G2,rfl,hS6,hz2,hn2,hH2,hT2⟩;have HS6:=aA hS6;have HZ2:=aA hz2;have HH2:=aA hH2;have HT2:=aA (HT.out.trans hT2);clear hS6 hz2 hH2 hT2 q0 q1 q2 q3;have q0:_=some (Value.int .i64 (y.f.num:Int)):=HS6.out.cell 2 rfl 0)
     go_roundw
     case rel=>exact⟨k+1,y.f.num,n2,X2,x2,zs2,e2,z2,G++G2,An,Cg,rfl,rfl,An,HZ2,HH2,aA (fun x hx=>List.mem_append_left _ (HG.out x hx)),HT2,aA (St.cut [_,_] _ _ HS6.out)⟩
     case measure=>(simp[intOf])<;>omega
    ·obtain⟨kk,hkk⟩:∃kk,tkC last y.f=kk:=⟨_,rfl⟩
     have hk0:kk≠0:=by rw[←hkk];exact hc
     have HW:=aA (takes_bad gt y last kk (.slice Br nr dr) X cnt x zs ez.v zz.v hkk hk0 An HYB.out (by (iterate 4 apply mC);exact HYG.out) HS5.out)
     have HD:=aA ((dec_ok HFS.out (HT.out.trans (tkF_bad hkk hk0 _ _))).trans (if_pos hk0))
     have d0:((kk:Int) !=0)=true:=A9
     have d0':decide ((kk:Int)=0)=false:=A9
     clear hc hkk
     have M0:=True.intro
     go_wp2_with (first
      |(clear M1;refine wl_storeC rfl rfl HS6.out 2 rfl (vs:=[.slice none 0 0,.slice none 0 0,.slice none 0 0,.slice none 0 0]) szToken (Nat.le_refl _) rfl rfl dR ?_;intro w7 hS7;have HS7:=aA hS7;clear hS7)
      |(clear M0;go_at_call 65;(with_reducible refine HW.out.mono ?_);rintro e9 w6 ⟨rfl,hS6⟩;have HS6:=aA hS6;clear hS6 q0 q1 q2 q3;have M1:=True.intro))
     refine bodyPost_ret (aB rfl _ _ w.heap.size _ _ _ _ rfl (HS7.out.heap 2 rfl) Tryz.underlying26 rfl Bt) rfl ?_
     rw[HD.out]
     exact gO ⟨rfl,HS7.out.below⟩
   ·obtain rfl:k=m:=by omega
    have e0:decide ((k:Int)<(k:Int))=false:=B0
    have e0':decide (k<k)=false:=B0
    obtain⟨E1,f1,y1⟩:=ez
    obtain⟨E2,f2,y2⟩:=zz
    have ht:tkF 0 ⟨root,[],[],[]⟩ fs=⟨0,⟨root,zs.map Sg.p,y1,y2⟩⟩:=by rw[HT.out,List.drop_of_length_le Eu];rfl
    have HD:=aA (dec_ok HFS.out ht)
    clear ht HT
    have t0:_=some (Value.slice Br nr dr):=HS.out.cell 0 rfl 0
    have t1:_=some (Value.slice X cnt x):=HS.out.cell 0 rfl 1
    have t2:_=some (Value.slice E1 y1.length f1):=HS.out.cell 0 rfl 2
    have t3:_=some (Value.slice E2 y2.length f2):=HS.out.cell 0 rfl 3
    by_cases h0:cnt=0∨8<cnt
    ·have HDD:=aA (HD.out.trans ((if_neg B0).trans (if_pos (show(zs.map Sg.p).length=0∨8<(zs.map Sg.p).length by rw[List.length_map,HZ.out];exact h0))))
     rcases h0 with rfl|h0
     ·go_wp2_with (refine wl_storeC rfl rfl HS.out 3 rfl (vs:=[.slice none 0 0,.slice none 0 0,.slice none 0 0,.slice none 0 0]) szToken (Nat.le_refl _) rfl rfl dR ?_;intro w7 hS7;have HS7:=aA hS7;clear hS7)
      refine bodyPost_ret (aB rfl _ _ w.heap.size _ _ _ _ rfl (HS7.out.heap 3 rfl) Tryz.underlying26 rfl Bt) rfl ?_
      rw[HDD.out]
      exact gO ⟨rfl,HS7.out.below⟩
     ·have d1:((cnt:Int)==0)=false:=by simp;omega
      have d1':decide ((cnt:Int)=0)=false:=A9
      have d2:decide ((8:Int)<(cnt:Int))=true:=A9
      have d2':decide (8<cnt)=true:=A9
      go_wp2_with (refine wl_storeC rfl rfl HS.out 3 rfl (vs:=[.slice none 0 0,.slice none 0 0,.slice none 0 0,.slice none 0 0]) szToken (Nat.le_refl _) rfl rfl dR ?_;intro w7 hS7;have HS7:=aA hS7;clear hS7)
      refine bodyPost_ret (aB rfl _ _ w.heap.size _ _ _ _ rfl (HS7.out.heap 3 rfl) Tryz.underlying26 rfl Bt) rfl ?_
      rw[HDD.out]
      exact gO ⟨rfl,HS7.out.below⟩
    ·have HDD:=aA (HD.out.trans ((if_neg B0).trans (if_neg (show ¬((zs.map Sg.p).length=0∨8<(zs.map Sg.p).length) by rw[List.length_map,HZ.out];exact h0))))
     have d1:((cnt:Int)==0)=false:=A9
     have d1':decide ((cnt:Int)=0)=false:=A9
     have d2:decide ((8:Int)<(cnt:Int))=false:=A9
     have d2':decide (8<cnt)=false:=A9
     go_wp2_with (refine wl_storeC rfl rfl HS.out 3 rfl (vs:=[.slice Br nr dr,.slice X cnt x,.slice E1 y1.length f1,.slice E2 y2.length f2]) szToken (Nat.le_refl _) rfl rfl dR ?_;intro w7 hS7;have HS7:=aA hS7;clear hS7)
     refine bodyPost_ret (aB rfl _ _ w.heap.size _ _ _ _ rfl (HS7.out.heap 3 rfl) Tryz.underlying26 rfl Bt) rfl ?_
     rw[HDD.out]
     refine⟨⟨⟨Br,dr,root⟩,X,x,zs,⟨E1,f1,y1⟩,⟨E2,f2,y2⟩⟩,_,?_,rfl,⟨pc_ch HLR.out 2 rfl,?_,fun v hv c hc=>?_,?_,?_⟩,HS7.out⟩
     ·rw[Tk.val_eq]
      simp only[HLR.out,HZ.out]
      rfl
     ·show Chunk.row (.slice X zs.length x) _ 5 zs.length _∈_
      rw[HZ.out]
      exact mG (i:=1) rfl
     ·have hc:=HH.out.l v hv c hc
      show c∈_::_::_::_::_::G
      (iterate 5 apply mC)
      exact hc
     ·show _∈_::_::_::_::_::G
      (iterate 5 apply mC)
      exact HH.out.e
     ·show _∈_::_::_::_::_::G
      (iterate 5 apply mC)
      exact HH.out.z
def RvPage (w:World)(l:List UInt8):VR→Ending→World→Prop
 | .ok v rest,e,w'=>w'=w∧W64 v∧∃k:Nat,k≤l.length∧rest=l.drop k∧e=.returned (.tuple #[.int .u64 (v:Int),.int .i64 (k:Int),.int .i64 0])
 | .bad j,e,w'=>w'=w∧e=.returned (.tuple #[.int .u64 0,.int .i64 0,.int .i64 (j:Int)])
theorem or_step' (k acc x:Nat)(hk:k≤9)(hx:x<256)(h9:k=9→x≤1)(ha:acc<2^(7*k)) :
  bits .or .u64 (acc:Int) (IntKind.u64.wrap (IntKind.u64.wrap (bits .and .u8 (x:Int) 127)*2^(7*k)))=((acc+x%128*2^(7*k):Nat):Int)∧W64 (acc+x%128*2^(7*k))∧acc+x%128*2^(7*k)<2^(7*(k+1)):=by
 have e1:bits .and .u8 (x:Int) 127=((x%128:Nat):Int):=by
  have:=u8_and_nat x 127 hx An
  rw[nat_mask7] at this
  exact this
 have hp:0<2^(7*k):=Nat.two_pow_pos _
 have hm:x%128*2^(7*k)≤127*2^(7*k):=Nat.mul_le_mul_right _ An
 have hlt:x%128*2^(7*k)+2^(7*k)≤18446744073709551616:=by
  by_cases h:k=9
  ·have h1:=h9 h
   have h2:2^(7*k)=9223372036854775808:=by rw[h]
   rw[h2]
   omega
  ·have h2:2^(7*k)≤2^56:=Nat.pow_le_pow_right An An
   have h3:(2:Nat)^56=72057594037927936:=rfl
   rw[h3] at h2
   omega
 have e2:(IntKind.u64.wrap ((x%128:Nat):Int))=((x%128:Nat):Int):=Cl
 have e3:IntKind.u64.wrap (((x%128:Nat):Int)*2^(7*k))=((x%128*2^(7*k):Nat):Int):=by
  rw[show(((x%128:Nat):Int)*2^(7*k))=((x%128*2^(7*k):Nat):Int) from by simp,IntKind.wrap_u64]
  omega
 rw[e1,e2,e3,u64_or_nat _ _ An An,Nat.or_comm,nat_join (7*k) _ _ (Nat.mul_mod_left _ _) ha]
 refine⟨by rw[Nat.add_comm],by unfold W64;omega,?_⟩
 rw[show 7*(k+1)=7*k+7 from by omega,Nat.pow_add]
 omega
theorem pvarint_walk (w:World)(A:Option Addr)(c:Nat)(l:List UInt8)(hl:l.length≤1000000)(hrd:Rd w (.slice A l.length c) 1 l.length (bvs l)) :
  Calls Tryz.prog 153 #[.slice A l.length c] w (RvPage w l (rv l)):=by
 go_enter Tryz.func153,Tryz.ntmps153
 go_wp2_with fail
 go_loop [5,10] (fun n i=>∃k acc:Nat,i=.int .i64 k∧n=.int .u64 acc∧k≤9∧k≤l.length∧acc<2^(7*k)∧rvF (l.drop k) k acc=rv l) (fun _ i=>10 - (intOf i).toNat)
 case atStart=>exact⟨0,0,rfl,rfl,An,An,B0,by rw[rv_eq];rfl⟩
 case round =>
  obtain⟨k,acc,rfl,rfl,hk,hkl,hacc,hrv⟩:=hrel
  have HA:=aA hacc
  have HV:=aA hrv
  clear hacc hrv
  by_cases hlt:k<l.length
  ·rcases hrd.cases with⟨_,h0,_⟩|⟨b,o,sp,c',hA,hb,_,_,_,hsp,hcl⟩
   ·omega
   injection hA with hA _ hc'
   subst hA hc'
   obtain rfl:sp=none:=hsp An
   have hcx:w.cell? ⟨b,o+k,none⟩=some (.int .u8 (l[k].toNat:Int)):=hcl k _ (by simp[bvs,bv,gE hlt])
   have hxl:l[k].toNat<256:=UInt8.toNat_lt _
   obtain⟨x,hx⟩:∃x,x=l[k].toNat:=⟨_,rfl⟩
   rw[←hx] at hcx hxl
   have HX:=aA hx
   clear hx hcl hsp
   have hge:decide ((k:Int)<(l.length:Int))=true:=A9
   go_upto_region 5 with fail
   go_cut [28] (fun s wx=>s=.bool (badB k x)∧wx=w)
   case first =>
    have e9:((k:Int)==9)=decide (k=9):=Ez
    have e1:decide (1<(x:Int))=decide (1<x):=Ez
    have e0:decide (0<(k:Int))=decide (0<k):=E0
    have ez:((x:Int)==0)=decide (x=0):=E0
    have ez':(x==0)=decide (x=0):=E0
    have ew:badB k x=((decide (k=9)&&decide (1<x))||(decide (0<k)&&decide (x=0))):=by unfold badB;rfl
    cases h9:decide (k=9)<;>cases h1:decide (1<x)<;>cases h0:decide (0<k)<;>cases hx0:decide (x=0)
    all_goals (rw[h9] at e9;rw[h1] at e1;rw[h0] at e0;rw[hx0] at ez ez';rw[h9,h1,h0,hx0] at ew;have EW:=aA ew;clear ew h9)
    all_goals go_wp2_with fail
    all_goals (go_meet;refine⟨?_,rfl⟩;rw[EW.out];rfl)
   case rest =>
    obtain⟨rfl,rfl⟩:=hcut
    cases hbad:badB k x
    ·obtain⟨o1,o2,o3⟩:=or_step' k acc x hk hxl (bad_nine k x hk hbad) HA.out
     have O2:=aA o2
     have O3:=aA o3
     clear o2 o3
     by_cases h128:x<128
     ·have HR:=aA (rv_ok l k acc x hlt HX.out hbad h128 HV.out)
      have hv:(acc:Int)+(x:Int)%128*2^(7*k)=((acc+x*2^(7*k):Nat):Int):=by
       have:(x:Int)%128=x:=by omega
       rw[this]
       simp
      have O:=O2.out
      rw[show x%128=x from by omega] at O
      have HV':=aA hv
      have HO:=aA O
      clear hv O
      go_wp2_with fail
      go_ret3
      rw[HR.out]
      exact⟨rfl,HO.out,k+1,An,rfl,congrArg (fun z=>Ending.returned (Value.tuple #[Value.int .u64 z,Value.int .i64 ((k+1:Nat):Int),Value.int .i64 0])) HV'.out⟩
     ·have HR:=aA (rv_on l k acc x hlt HX.out hbad h128 HV.out)
      have h9:=bad_nine k x hk hbad
      have hv:(acc:Int)+(x:Int)%128*2^(7*k)=((acc+(x - 128)*2^(7*k):Nat):Int):=by
       have:(x:Int)%128=((x - 128:Nat):Int):=by omega
       rw[this]
       simp
      have O:=O3.out
      rw[show x%128=x - 128 from by omega] at O
      have HV':=aA hv
      have HO:=aA O
      have H9:=aA h9
      clear hv O h9
      go_wp2_with fail
      go_round
      case rel=>exact⟨k+1,acc+(x - 128)*2^(7*k),Cg,congrArg (Value.int .u64) HV'.out,by have:=H9.out;omega,An,HO.out,HR.out⟩
      case measure=>simp[intOf];omega
    ·have HR:=aA (rv_bad l k acc x hlt HX.out hbad HV.out)
     go_wp2_with fail
     go_ret3
     rw[HR.out]
     exact⟨rfl,rfl⟩
  ·have hge:decide ((k:Int)<(l.length:Int))=false:=by simp;omega
   have HR:=aA (rv_end l k acc hlt HV.out)
   go_wp2_with fail
   go_ret3
   rw[HR.out]
   exact⟨rfl,rfl⟩
theorem tyR:RowTy Tryz.prog 100 102 4 48:=fQ (z:=.agg #[.int .i64 0,.bool false,.int .u64 0,.slice none 0 0]) Bt Bt Bt Bz
@[irreducible] def noTag (tag:Nat):Bool:=(decide (tag%8≠0)&&decide (tag%8≠2))||decide (tag/8<1)||decide (100<tag/8)
theorem noTag_yes (tag:Nat)(h:noTag tag=true):¬((tag%8=0∨tag%8=2)∧mayB (numF tag)=true):=by
 unfold noTag at h
 unfold mayB numF
 simp at h ⊢
 omega
theorem noTag_no (tag:Nat)(h:noTag tag=false):(tag%8=0∨tag%8=2)∧mayB (numF tag)=true∧numF tag=tag/8:=by
 unfold noTag at h
 unfold mayB numF
 simp at h ⊢
 omega
theorem page_cut {A':Option Addr}{c':Nat}{r rest:List UInt8}{k:Nat}(hk:k≤r.length)(h:rest=r.drop k)(kd:IntKind) :
  ∃A1 a1,(∀W,(Instr.sliceAt 22 (.slice A' r.length c') (some (.int kd (k:Int))) none none).run Tryz.prog W=.ok (.slice A1 rest.length a1) W)∧CutR A' c' r A1 a1 rest:=by
 refine⟨cutA A' c' k,c' - k,fun W=>?_,?_⟩
 ·rw[h,List.length_drop]
  exact run_cut Tryz.underlying22 cellU8 infoU8 kd A' r.length c' k hk W
 ·rw[h]
  exact cutR A' c' r k hk
theorem fd_bads2 (l:List UInt8)(tag k:Nat)(rest:List UInt8)(h:rv l=.ok tag rest)(h0:tag%8=0∨tag%8=2)(hm:mayB (numF tag)=true)(h2:rv rest=.bad k):fd l=.bad k:=by
 rcases h0 with h0|h0
 ·exact iD l tag k rest h h0 hm h2
 ·exact fJ l tag k rest h h0 hm (rw_bad rest k h2)
section
variable {P : Program} {w0 w : World} {M : Nat → Prop} {H : List Chunk}
theorem wl_appendB {ops:Array Oper}{rest:List Oper}{o:Oper}{a:Act}{Q:Exit→Act→World→Prop}(hgd:o.guard=none){s x:Operand}{t e e':TypeId}{size bytes b:Nat}
  (ho:o.op=.call { callee:=.builtin .append,args:=#[s,x],argTypes:=#[t,t] })(T:RowTy P t e size bytes)
  (hS:St w0 M w H)(hb:w.heap.size=b)(k:Nat){v:Value}{n:Nat}{xs:List Value}(hk:H[k]?=some (.row v e size n xs))(hs:a.eval s=v)
  {m:Nat}{us:List Value}(hx:a.eval x=.slice (some ⟨b,0,none⟩) m m)(hm:us.length=m*size)(h1:∀u∈us,u.oneCell'=true)(hlen:n+m≤4294967296)(hby:bytes≤32768)
  (h:∀A' c' w',St w0 M w' (H.set k (.row (.slice A' (n+m) c') e size (n+m) (xs++us)))→wpList P ops Q rest (a.put o.dst (.slice A' (n+m) c')) w'):wpList P ops Q (o::rest) a (w.alloc (.cells us.toArray e')):=by
 subst hb
 exact wl_appendN hgd ho T hS k hk hs hx hm h1 hlen hby h
end
def PageRel (w:World)(A:Option Addr)(c:Nat)(l:List UInt8)(left:Nat)(b v:Value)(wr:World):Prop:=
 ∃(xs:List FdL) (r:List UInt8) (B:Option Addr) (d:Nat) (A':Option Addr) (c':Nat),v=.slice B xs.length d∧b=.slice A' r.length c'∧left=r.length∧xs.length+r.length≤l.length ∧
  St w NoB wr (.row (.slice B xs.length d) 102 4 xs.length (aP xs)::aV xs)∧CutR A c l A' c' r∧fds l=(fds r).pre (xs.map FdL.f)
theorem pfields_walk (w:World)(A:Option Addr)(c:Nat)(l:List UInt8)(hl:l.length≤65536)(hr:Rd w (.slice A l.length c) 1 l.length (bvs l)) :
  Calls Tryz.prog 115 #[.slice A l.length c] w (ResF 102 w (fds l)):=by
 have hle:decide (65536<(l.length:Int))=false:=A9
 have HR:=aA hr
 have HS:=aA ((St.init w NoB).row (Below.refl _ _) (World.ownsRow_nil w w.heap.size 102 4))
 clear hr
 go_enter Tryz.func115,Tryz.ntmps115
 go_wp2_with fail
 go_loopg [0,4] (l.length) (fun left b v wr=>PageRel w A c l left b v wr)
 case atStart=>exact⟨[],l,none,0,A,c,rfl,rfl,rfl,B0,HS.out,fun _ h=>h,(FsR.pre_nil _).symm⟩
 case round =>
  obtain⟨xs,r,B,d,A',c',rfl,rfl,rfl,hxl,hS,hcr,hfd⟩:=hrel
  by_cases hr0:r=[]
  ·subst hr0
   rw[fds_nil] at hfd
   have hd0:decide ((0:Int)<(([]:List UInt8).length:Int))=false:=rfl
   have HF:=aA hfd
   have HX:=aA hxl
   clear hfd hxl
   go_wp2_with fail
   go_ret2
   rw[HF.out]
   exact⟨xs,B,d,rfl,by simp[FsR.pre],hS⟩
  ·have hpos:0<r.length:=List.length_pos_iff.2 hr0
   have hd0:decide ((0:Int)<(r.length:Int))=true:=A9
   have V:=pvarint_walk wr A' c' r An (hcr wr (HR.out.st hS))
   cases hv:rv r with
   | bad k =>
    have HF:=aA (show fds l=.bad k by rw[hfd,iT r k hr0 (fd_bad r k hv)];rfl)
    have hk:=gA r k hv
    have hk2:((k:Int) !=0)=true:=E6
    rw[hv] at V
    have VV:=aA V
    clear V hfd hv hk hxl
    go_wp2_with (go_at_call 153;refine VV.out.mono ?_;rintro e w2 ⟨rfl,rfl⟩)
    go_ret2
    rw[HF.out]
    exact⟨rfl,hS.below⟩
   | ok tag rest =>
    have hlr:=fP r tag rest hv
    rw[hv] at V
    have VV:=aA V
    have HX:=aA hxl
    have HFD:=aA hfd
    have HV:=aA hv
    clear V hfd hv hxl
    go_upto_region 10 with(go_at_call 153;refine VV.out.mono ?_;rintro e w2 ⟨rfl,hw,kk,hkk,hrest,rfl⟩;obtain⟨A1,a1,hct,hcr1⟩:=page_cut (A':=A') (c':=c') hkk hrest .i64;clear hrest)
    clear hct hkk VV
    obtain⟨k8,hk8⟩:∃k8,k8=tag%8:=⟨_,rfl⟩
    have ha:=and7 tag hw
    rw[←hk8] at ha
    have hcr2:=hcr.trans hcr1
    clear hcr hcr1
    go_cut [8,46] (fun s t wx=>s=.int .u64 (k8:Int)∧t=.bool (noTag tag)∧wx=w2)
    case first =>
     have e0:((k8:Int)==0)=decide (k8=0):=E0
     have e0':((k8:Int) !=0)=!decide (k8=0):=by rw[bne,e0]
     have e2:((k8:Int)==2)=decide (k8=2):=Ez
     have e2':((k8:Int) !=2)=!decide (k8=2):=by rw[bne,e2]
     have l1:decide ((tag:Int)/8<1)=decide (tag/8<1):=Ez
     have l2:decide (100<(tag:Int)/8)=decide (100<tag/8):=Ez
     have ew:noTag tag=((!decide (k8=0)&&!decide (k8=2))||decide (tag/8<1)||decide (100<tag/8)):=by unfold noTag;rw[hk8,decide_not,decide_not]
     have HK:=aA hk8
     have HW:=aA hw
     clear hk8 hw
     cases h0:decide (k8=0)<;>cases h2:decide (k8=2)<;>cases h1:decide (tag/8<1)<;>cases h100:decide (100<tag/8)
     all_goals (rw[h0] at e0 e0';rw[h2] at e2 e2';rw[h1] at l1;rw[h100] at l2;rw[h0,h2,h1,h100] at ew;have EW:=aA ew;clear ew h0 h2 h1 h100)
     all_goals go_wp2_with fail
     all_goals (go_meet;refine⟨congrArg (Value.int .u64) ha,?_,rfl⟩;rw[EW.out];rfl)
    case rest =>
     obtain⟨rfl,rfl,rfl⟩:=hcut
     cases hno:noTag tag
     ·obtain⟨n1,n2,n3⟩:=noTag_no tag hno
      have V2:=fun wq (hq:Below w.heap.size w wq)=>pvarint_walk wq A1 a1 rest Fc (hcr2 wq (HR.out.below hq))
      have hnum:((numF tag:Nat):Int)=(tag:Int)/8:=by rw[n3];omega
      have hlo:0≤(tag:Int)/8:=An
      have hhi:(tag:Int)/8≤100:=by have:=mayB_of _ n2;omega
      have HN:=aA hnum
      have HS2:=aA hS
      have HK:=aA hk8
      clear hnum n3 ha hS hno hk8
      cases h2:decide (k8=2)
      ·have e2:((k8:Int)==2)=false:=by rw[←h2,Bool.eq_iff_iff];simp;omega
       have hk0:tag%8=0:=by have:=HK.out;simp at h2;omega
       clear h2
       cases hv2:rv rest with
       | bad j =>
        have HF:=aA (show fds l=.bad j by rw[HFD.out,iT r j hr0 (fd_bads2 r tag j rest HV.out n1 n2 hv2)];rfl)
        have hj:=gA rest j hv2
        have hj2:((j:Int) !=0)=true:=by rcases hj with rfl|rfl<;>rfl
        rw[hv2] at V2
        have VV2:=aA V2
        clear V2 hv2 hj n1 n2 hk0
        go_wp2_with (go_at_call 153;refine(VV2.out _ (HS2.out.skip _).below).mono ?_;rintro e w3 ⟨rfl,rfl⟩)
        go_ret2
        rw[HF.out]
        exact⟨rfl,(HS2.out.skip _).below⟩
       | ok n r2 =>
        have HF:=aA (show fds l=(fds r2).pre ((xs.map FdL.f)++[⟨numF tag,false,n,[]⟩]) by rw[HFD.out,fds_ok r _ r2 hr0 (fd_num r tag n rest r2 HV.out hk0 n2 hv2),FsR.pre_pre])
        have hlr2:=fP rest n r2 hv2
        rw[hv2] at V2
        have VV2:=aA V2
        clear V2 hv2 n1 n2 hk0
        go_wp2_with (first
         |(go_at_call 153;refine(VV2.out _ (HS2.out.skip _).below).mono ?_;rintro e w3 ⟨he3,hw3,kk2,hkk2,hrest2,rfl⟩;subst he3;obtain⟨A2,a2,hct,hcr3⟩:=page_cut (A':=A1) (c':=a1) hkk2 hrest2 .i64;clear hrest2)
         |(at_builtin;refine wl_appendB rfl rfl tyR (HS2.out.skip _) (size_alloc1 _ _) 0 rfl rfl (us:=[_,_,_,_]) rfl rfl ?_ ?_ Bz ?_;(intro u hu;simp only[List.mem_cons,List.not_mem_nil,or_false] at hu;rcases hu with rfl|rfl|rfl|rfl<;>rfl);(have:=HX.out;omega);intro B3 d3 w3 hS3))
        go_roundg (r2.length)
        case rel =>
         refine⟨xs++[⟨⟨numF tag,false,n,[]⟩,none,0⟩],r2,B3,d3,A2,a2,B0,rfl,rfl,?_,?_,hcr2.trans hcr3,?_⟩
         ·have:=HX.out
          simp only[List.length_append,List.length_singleton]
          omega
         ·rw[cellsF_snoc,iW,List.length_append,List.length_singleton]
          have hS4:=(hS3.row (Below.refl _ _) (World.ownsRow_nil _ _ 5 1)).swap
          unfold FdL.cells FdL.chunk
          rw[HN.out]
          exact hS4
         ·rw[HF.out,List.map_append]
          rfl
        case measure=>omega
      ·have e2:((k8:Int)==2)=true:=by rw[←h2,Bool.eq_iff_iff];simp;omega
       have hk0:tag%8=2:=by have:=HK.out;simp at h2;omega
       clear h2
       cases hv2:rv rest with
       | bad j =>
        have HF:=aA (show fds l=.bad j by rw[HFD.out,iT r j hr0 (fd_bads2 r tag j rest HV.out n1 n2 hv2)];rfl)
        have hj:=gA rest j hv2
        have hj2:((j:Int) !=0)=true:=by rcases hj with rfl|rfl<;>rfl
        rw[hv2] at V2
        have VV2:=aA V2
        clear V2 hv2 hj n1 n2 hk0
        go_wp2_with (go_at_call 153;refine(VV2.out _ (HS2.out.skip _).below).mono ?_;rintro e w3 ⟨rfl,rfl⟩)
        go_ret2
        rw[HF.out]
        exact⟨rfl,(HS2.out.skip _).below⟩
       | ok n r2 =>
        have hlr2:=fP rest n r2 hv2
        by_cases hn:n≤r2.length
        ·have HF:=aA (show fds l=(fds (r2.drop n)).pre ((xs.map FdL.f)++[⟨numF tag,true,0,r2.take n⟩]) by rw[HFD.out,fds_ok r _ _ hr0 (fd_raw r tag rest _ _ HV.out hk0 n2 (rw_ok rest n r2 hv2 hn)),FsR.pre_pre])
         rw[hv2] at V2
         have VV2:=aA V2
         have hn':decide ((r2.length:Int)<(n:Int))=false:=A9
         have hlr:n≤4294967296:=Fc
         have hl64:r2.length≤1000000:=Fc
         clear V2 hv2 n1 n2 hk0
         go_wp2_with (first
          |(go_at_call 153;refine(VV2.out _ (HS2.out.skip _).below).mono ?_;rintro e w3 ⟨he3,hw3,kk2,hkk2,hrest2,rfl⟩;subst he3;obtain⟨A2,a2,hct,hcr3⟩:=page_cut (A':=A1) (c':=a1) hkk2 hrest2 .i64;clear hrest2;have hq:=(fun W (hW:Below w.heap.size w W)=>(hcr2.trans hcr3) W (HR.out.below hW));have hcap:r2.length≤a2:=(by obtain⟨_,_,e,_,h,_⟩:=hq _ HS2.out.below;injection e with _ _ e;omega);obtain⟨A3,a3,hct2,hcr4⟩:=page_cut (A':=A2) (c':=a2) hn rfl .u64)
          |(at_builtin;refine bJ rfl rfl tyB (HS2.out.alloc _ _) rfl rfl (rd_take (hq _ (HS2.out.alloc _ _).below) n hn) (bD _) hlr Bz ?_;intro B2 d2 w4 hS4;have f3:=hS4.free 1 rfl 3;have q0:w4.cell? ⟨wc.heap.size,0,none⟩=some (.int .i64 ((tag:Int)/8)):=hS4.cell 1 rfl 0;have q1:w4.cell? ⟨wc.heap.size,1,none⟩=some (.bool true):=hS4.cell 1 rfl 1;have q2:w4.cell? ⟨wc.heap.size,2,none⟩=some (.int .u64 0):=hS4.cell 1 rfl 2;have q3:w4.cell? ⟨wc.heap.size,3,none⟩=some (.slice none 0 0):=hS4.cell 1 rfl 3)
          |(at_builtin;refine wl_appendB rfl rfl tyR (hS4.setCell 1 rfl 3 (.slice B2 n d2)) (b:=w4.heap.size) B0 2 rfl rfl (us:=[_,_,_,_]) rfl rfl ?_ ?_ Bz ?_;(intro u hu;simp only[List.mem_cons,List.not_mem_nil,or_false] at hu;rcases hu with rfl|rfl|rfl|rfl<;>rfl);(have:=HX.out;omega);intro B3 d3 w5 hS5))
         go_roundg ((r2.drop n).length)
         case rel =>
          have hlt:(r2.take n).length=n:=Cm
          refine⟨xs++[⟨⟨numF tag,true,0,r2.take n⟩,B2,d2⟩],r2.drop n,B3,d3,A3,a3,B0,by rw[List.length_drop],rfl,?_,?_,(hcr2.trans hcr3).trans hcr4,?_⟩
          ·have:=HX.out
           simp only[List.length_append,List.length_singleton,List.length_drop]
           omega
          ·rw[cellsF_snoc,iW,List.length_append,List.length_singleton]
           have hS6:=hS5.rot3.swap12.mid2
           unfold FdL.cells FdL.chunk
           rw[HN.out,hlt]
           exact hS6
          ·rw[HF.out,List.map_append]
           rfl
         case measure=>rw[List.length_drop];omega
        ·have HF:=aA (show fds l=.bad 2 by rw[HFD.out,iT r 2 hr0 (fJ r tag 2 rest HV.out hk0 n2 (rw_short rest n r2 hv2 hn))];rfl)
         rw[hv2] at V2
         have VV2:=aA V2
         have hn':decide ((r2.length:Int)<(n:Int))=true:=A9
         have hl64:r2.length≤1000000:=Fc
         clear V2 hv2 n1 n2 hk0
         go_wp2_with (go_at_call 153;refine(VV2.out _ (HS2.out.skip _).below).mono ?_;rintro e w3 ⟨he3,hw3,kk2,hkk2,hrest2,rfl⟩;subst he3;obtain⟨A2,a2,hct,hcr3⟩:=page_cut (A':=A1) (c':=a1) hkk2 hrest2 .i64;clear hrest2)
         go_ret2
         rw[HF.out]
         exact⟨rfl,(HS2.out.skip _).below⟩
     ·have HF:=aA (show fds l=.bad 3 by rw[HFD.out,iT r 3 hr0 (fd_no r tag rest HV.out (noTag_yes tag hno))];rfl)
      go_wp2_with fail
      go_ret2
      rw[HF.out]
      exact⟨rfl,hS.below⟩
section
variable {w0 w : World} {M : Nat → Prop} {H : List Chunk}
theorem fail_0 (g k:Nat)(hS:St w0 M w (.cells g #[.pointer none,.int .i64 0] 99::H)) :
  Calls Tryz.prog 69 #[.pointer (some ⟨g,0,none⟩),.int .i64 (k:Int)] w fun e w'=>e=.returned (.tuple #[])∧St w0 M w' (.cells g #[.pointer none,.int .i64 (k:Int)] 99::H):=by
 have t1:_=some (Value.int .i64 0):=hS.cell 0 rfl 1
 have f1:=hS.free 0 rfl 1
 have HS:=aA hS
 clear hS
 go_enter Tryz.func69,Tryz.ntmps69
 go_wp2_with fail
 go_end0
 exact⟨rfl,HS.out.setCell 0 rfl 1 (.int .i64 (k:Int))⟩
theorem fail_k (g k j:Nat)(hj:j≠0)(hS:St w0 M w (.cells g #[.pointer none,.int .i64 (j:Int)] 99::H)) :
  Calls Tryz.prog 69 #[.pointer (some ⟨g,0,none⟩),.int .i64 (k:Int)] w fun e w'=>e=.returned (.tuple #[])∧St w0 M w' (.cells g #[.pointer none,.int .i64 (j:Int)] 99::H):=by
 have t1:_=some (Value.int .i64 (j:Int)):=hS.cell 0 rfl 1
 have HS:=aA hS
 have d1:((j:Int)==0)=false:=A9
 have d1':decide ((j:Int)=0)=false:=A9
 clear hS hj
 go_enter Tryz.func69,Tryz.ntmps69
 go_wp2_with fail
 go_end0
 exact⟨rfl,HS.out⟩
theorem rfields_bad (g:Nat)(A:Option Addr)(n c:Nat)(l:List UInt8)(k:Nat)(hl:l.length=n)(hn:n≤65536)(hf:fds l=.bad k)(hr:Rd w (.slice A n c) 1 n (bvs l))(hS:St w0 M w (.cells g #[.pointer none,.int .i64 0] 99::H)) :
  Calls Tryz.prog 66 #[.pointer (some ⟨g,0,none⟩),.slice A n c] w fun e w'=>e=.returned (.slice none 0 0)∧St w0 M w' (.cells g #[.pointer none,.int .i64 (k:Int)] 99::H):=by
 have HF:=pfields_walk w A c l An (hl▸hr)
 rw[hl,hf] at HF
 have HC:=aA HF
 have hk:k=2∨k=3:=fW l k hf
 have d0:((k:Int) !=0)=true:=A9
 have d0':decide ((k:Int)=0)=false:=A9
 have t1:_=some (Value.int .i64 0):=hS.cell 0 rfl 1
 have HS:=aA hS
 clear HF hr hk hS hf hl
 go_enter Tryz.func66,Tryz.ntmps66
 have M0:=True.intro
 go_wp2_with (first
  |(clear M1;go_at_call 69;(with_reducible refine(fail_0 g k HS.out).mono ?_);rintro e w3 ⟨rfl,hS3⟩;have HS:=aA hS3;clear hS3;have M2:=True.intro)
  |(clear M0;go_at_call 115;(with_reducible refine HC.out.mono ?_);rintro e w2 ⟨rfl,hb⟩;have HS:=aA (HS.out.call hb);clear hb;have M1:=True.intro))
 go_ret
 exact⟨rfl,HS.out⟩
theorem rfields_ok (g:Nat)(A:Option Addr)(n c:Nat)(l:List UInt8)(fs:List FdV)(hl:l.length=n)(hn:n≤65536)(hf:fds l=.ok fs)(hr:Rd w (.slice A n c) 1 n (bvs l))(hS:St w0 M w (.cells g #[.pointer none,.int .i64 0] 99::H)) :
  Calls Tryz.prog 66 #[.pointer (some ⟨g,0,none⟩),.slice A n c] w fun e w'=>∃(xs:List FdL) (B:Option Addr) (d:Nat),e=.returned (.slice B xs.length d)∧xs.map FdL.f=fs∧St w0 M w' (.cells g #[.pointer none,.int .i64 0] 99::(H++(.row (.slice B xs.length d) 102 4 xs.length (aP xs)::aV xs))):=by
 have HF:=pfields_walk w A c l An (hl▸hr)
 rw[hl,hf] at HF
 have HC:=aA HF
 have t1:_=some (Value.int .i64 0):=hS.cell 0 rfl 1
 have HS:=aA hS
 clear HF hr hS hf hl
 go_enter Tryz.func66,Tryz.ntmps66
 go_wp2_with (go_at_call 115;(with_reducible refine HC.out.mono ?_);rintro e w2 ⟨xs,B,d,rfl,hx,hS2⟩;have HS2:=aA (St.rot _ _ (HS.out.join hS2));clear hS2)
 go_ret
 exact⟨xs,B,d,rfl,hx,HS2.out⟩
end
theorem szField6:(Tryz.prog.info? 102).map (·.size)=some 4:=Bt
section
variable {w0 w : World} {M : Nat → Prop} {H : List Chunk}
theorem fits_a (KA:ByteArray)(nk kb:Nat)(g:Nat)(B:Option Addr)(m d k j:Nat)(xs:List FdL)(x:FdL)(hk:xs[k]?=some x)(hkm:k<m)(hj:x.f.num=j+1)(hkb:kb=50∨kb=51)(hix:j<nk→∀W,(Instr.index 9 (.string KA) (.int .i64 (j:Int))).run Tryz.prog W=.ok (.int .u8 (kb:Int)) W)(hjn:j<nk)(hw:x.f.whole=true)(h0:k=0)(hrow:Chunk.row (.slice B m d) 102 4 m (aP xs)∈H)(hm:m≤65536)(hnk:nk≤100)(hsz:KA.size=nk)(hS:St w0 M w (.cells g #[.pointer none,.int .i64 0] 99::H)) :
  Calls Tryz.prog 67 #[.pointer (some ⟨g,0,none⟩),.slice B m d,.int .i64 (k:Int),.string KA] w fun e w'=>e=.returned (.bool true)∧St w0 M w' (.cells g #[.pointer none,.int .i64 0] 99::H):=by
 obtain⟨b,o,rfl,hb8,hc⟩:=fC (eO hS (mC _ hrow)) hk
 obtain⟨k0,k1,k2',k3⟩:=hc _ (Below.refl _ _)
 obtain⟨⟨num,whole,fn,fb⟩,X,xc⟩:=x
 replace hj:num=j+1:=hj
 replace hw:whole=true:=hw
 subst hj hw
 have t1:_=some (Value.int .i64 0):=hS.cell 0 rfl 1
 have kn:(k:Int)<(m:Int):=An
 have HS:=aA hS
 have d1:decide ((nk:Int)<(j:Int)+1)=false:=Fe
 have HIX:=hix hjn
 have d30:((kb:Int) !=49)=true:=Ff
 have jb:(j:Int)<100:=An
 have z0:decide ((0:Int)<(k:Int))=false:=Fe
 have z0':decide (0<k)=false:=Fe
 clear hc hS h0 hix hkb
 go_enter Tryz.func67,Tryz.ntmps67
 go_upto_region 2 with(refine wl_storeC rfl rfl (HS.out.alloc _ _) 0 rfl (vs:=[.int .i64 ((j+1:Nat):Int),.bool true,.int .u64 (fn:Int),.slice X fb.length xc]) szField6 (Nat.le_refl _) rfl rfl oneF ?_;intro w5 hS5;have HS5:=aA hS5;clear hS5)
 have t1:_=some (Value.int .i64 0):=HS5.out.cell 1 rfl 1
 go_upto_region 4 with fail
 refine aD [(0,1),(1,0),(2,1),(3,1),(4,1),(5,1),(6,1),(7,1),(8,0),(9,1),(10,1),(11,1),(12,1),(13,0),(14,1),(15,1),(16,1),(17,1),(18,1),(19,1),(20,1),(21,1),(22,1),(23,1),(24,1),(25,0),(26,1),(27,0),(28,1),(29,1),(30,1),(31,1),(32,1),(33,1),(34,1),(35,0),(36,1),(37,0),(38,1),(39,1),(40,1),(41,1),(42,0),(43,1),(44,1),(45,1),(46,1),(47,1),(48,1),(49,1)] Bt Bt (fun _ _ _ _ h=>h) ?_
 have HS:=aA HS5.out.drew
 generalize w5.drew=w6 at HS ⊢
 have s0:_=some (Value.int .i64 ((j+1:Nat):Int)):=HS.out.cell 0 rfl 0
 have s1:_=some (Value.bool true):=HS.out.cell 0 rfl 1
 go_wp2_with (first|(refine wpT_nil ?_)|((with_reducible refine fromT_refl ?_);(try refine nm ?_))|((with_reducible refine aE Df ?_);(try refine nm ?_))|(refine aI (v:=?_) rfl rfl ?_ ?_;rotate_left;(intro wx;go_simp;try go_bits)<;>(with_reducible rfl);(try refine nm ?_))|(refine aK (v:=?_) rfl rfl rfl ?_ ?_;rotate_left;(go_simp;try go_bits)<;>(with_reducible rfl);(try refine nm ?_))|(refine aL (v:=?_) rfl rfl ?_ ?_;rotate_left;(intro wx hx;go_simp;try go_bits)<;>(with_reducible rfl);(try refine nm ?_))|(refine aM rfl rfl ?_;intro K hK)|(refine wpT_late rfl rfl ?_;intro K hK)|(refine wpT_any rfl rfl ?_;intro K hK)|(refine wpT_skip rfl rfl ?_;(try refine nm ?_)))
 go_ret
 exact⟨rfl,HS.out.tail⟩
theorem fits_b (KA:ByteArray)(nk kb:Nat)(g:Nat)(B:Option Addr)(m d k j:Nat)(xs:List FdL)(x:FdL)(hk:xs[k]?=some x)(hkm:k<m)(hj:x.f.num=j+1)(hkb:kb=50∨kb=51)(hix:j<nk→∀W,(Instr.index 9 (.string KA) (.int .i64 (j:Int))).run Tryz.prog W=.ok (.int .u8 (kb:Int)) W)(hjn:j<nk)(hw:x.f.whole=true)(p:FdL)(last:Nat)(k2:Nat)(hk2:k=k2+1)(hp:xs[k2]?=some p)(hpl:p.f.num=last)(hlt:last<j+1)(hrow:Chunk.row (.slice B m d) 102 4 m (aP xs)∈H)(hm:m≤65536)(hnk:nk≤100)(hsz:KA.size=nk)(hS:St w0 M w (.cells g #[.pointer none,.int .i64 0] 99::H)) :
  Calls Tryz.prog 67 #[.pointer (some ⟨g,0,none⟩),.slice B m d,.int .i64 (k:Int),.string KA] w fun e w'=>e=.returned (.bool true)∧St w0 M w' (.cells g #[.pointer none,.int .i64 0] 99::H):=by
 subst hk2
 obtain⟨b,o,rfl,hb8,hc⟩:=fC (eO hS (mC _ hrow)) hk
 obtain⟨k0,k1,k2',k3⟩:=hc _ (Below.refl _ _)
 obtain⟨⟨num,whole,fn,fb⟩,X,xc⟩:=x
 replace hj:num=j+1:=hj
 replace hw:whole=true:=hw
 subst hj hw
 have t1:_=some (Value.int .i64 0):=hS.cell 0 rfl 1
 have kn:((k2:Int)+1:Int)<(m:Int):=An
 have HS:=aA hS
 have d1:decide ((nk:Int)<(j:Int)+1)=false:=Fe
 have HIX:=hix hjn
 have d30:((kb:Int) !=49)=true:=Ff
 have jb:(j:Int)<100:=An
 have z0:decide ((0:Int)<(k2:Int)+1)=true:=Fe
 have en:(k2:Int)+1 - 1=(k2:Int):=An
 have nn:(k2:Int)<(m:Int):=An
 have hlb:(last:Int)<1000:=An
 have e1:decide ((j:Int)+1<(last:Int))=false:=Fe
 have e2:((last:Int)==(j:Int)+1)=false:=Fe
 have e2':decide ((last:Int)=(j:Int)+1)=false:=Fe
 clear hc hS hix hkb hlt
 go_enter Tryz.func67,Tryz.ntmps67
 go_upto_region 2 with(refine wl_storeC rfl rfl (HS.out.alloc _ _) 0 rfl (vs:=[.int .i64 ((j+1:Nat):Int),.bool true,.int .u64 (fn:Int),.slice X fb.length xc]) szField6 (Nat.le_refl _) rfl rfl oneF ?_;intro w5 hS5;have HS5:=aA hS5;clear hS5)
 have t1:_=some (Value.int .i64 0):=HS5.out.cell 1 rfl 1
 go_upto_region 4 with fail
 refine aD [(0,1),(1,0),(2,1),(3,1),(4,1),(5,1),(6,1),(7,1),(8,0),(9,1),(10,1),(11,1),(12,1),(13,0),(14,1),(15,1),(16,1),(17,1),(18,1),(19,1),(20,1),(21,1),(22,1),(23,1),(24,1),(25,0),(26,1),(27,0),(28,1),(29,1),(30,1),(31,1),(32,1),(33,1),(34,1),(35,0),(36,1),(37,0),(38,1),(39,1),(40,1),(41,1),(42,0),(43,1),(44,1),(45,1),(46,1),(47,1),(48,1),(49,1)] Bt Bt (fun _ _ _ _ h=>h) ?_
 have HS:=aA HS5.out.drew
 generalize w5.drew=w6 at HS ⊢
 have s0:_=some (Value.int .i64 ((j+1:Nat):Int)):=HS.out.cell 0 rfl 0
 have s1:_=some (Value.bool true):=HS.out.cell 0 rfl 1
 obtain⟨b2,o2,he2,hb9,hc9⟩:=fC (eO HS.out (mC _ (mC _ hrow))) hp
 obtain⟨p0,_,_,_⟩:=hc9 _ (Below.refl _ _)
 injection he2 with he2
 injection he2 with he2 he3
 subst he2 he3
 rw[hpl] at p0
 clear hc9 hp hpl
 go_wp2_with (first|(refine wpT_nil ?_)|((with_reducible refine fromT_refl ?_);(try refine nm ?_))|((with_reducible refine aE Df ?_);(try refine nm ?_))|(refine aI (v:=?_) rfl rfl ?_ ?_;rotate_left;(intro wx;go_simp;try go_bits)<;>(with_reducible rfl);(try refine nm ?_))|(refine aK (v:=?_) rfl rfl rfl ?_ ?_;rotate_left;(go_simp;try go_bits)<;>(with_reducible rfl);(try refine nm ?_))|(refine aL (v:=?_) rfl rfl ?_ ?_;rotate_left;(intro wx hx;go_simp;try go_bits)<;>(with_reducible rfl);(try refine nm ?_))|(refine aM rfl rfl ?_;intro K hK)|(refine wpT_late rfl rfl ?_;intro K hK)|(refine wpT_any rfl rfl ?_;intro K hK)|(refine wpT_skip rfl rfl ?_;(try refine nm ?_)))
 go_ret
 exact⟨rfl,HS.out.tail⟩
theorem fits_c (KA:ByteArray)(nk kb:Nat)(g:Nat)(B:Option Addr)(m d k j:Nat)(xs:List FdL)(x:FdL)(hk:xs[k]?=some x)(hkm:k<m)(hj:x.f.num=j+1)(hkb:kb=50∨kb=51)(hix:j<nk→∀W,(Instr.index 9 (.string KA) (.int .i64 (j:Int))).run Tryz.prog W=.ok (.int .u8 (kb:Int)) W)(hjn:j<nk)(hw:x.f.whole=true)(p:FdL)(last:Nat)(k2:Nat)(hk2:k=k2+1)(hp:xs[k2]?=some p)(hpl:p.f.num=last)(hlt:last=j+1)(hkk:kb=51)(hrow:Chunk.row (.slice B m d) 102 4 m (aP xs)∈H)(hm:m≤65536)(hnk:nk≤100)(hsz:KA.size=nk)(hS:St w0 M w (.cells g #[.pointer none,.int .i64 0] 99::H)) :
  Calls Tryz.prog 67 #[.pointer (some ⟨g,0,none⟩),.slice B m d,.int .i64 (k:Int),.string KA] w fun e w'=>e=.returned (.bool true)∧St w0 M w' (.cells g #[.pointer none,.int .i64 0] 99::H):=by
 subst hk2
 obtain⟨b,o,rfl,hb8,hc⟩:=fC (eO hS (mC _ hrow)) hk
 obtain⟨k0,k1,k2',k3⟩:=hc _ (Below.refl _ _)
 obtain⟨⟨num,whole,fn,fb⟩,X,xc⟩:=x
 replace hj:num=j+1:=hj
 replace hw:whole=true:=hw
 subst hj hw
 have t1:_=some (Value.int .i64 0):=hS.cell 0 rfl 1
 have kn:((k2:Int)+1:Int)<(m:Int):=An
 have HS:=aA hS
 have d1:decide ((nk:Int)<(j:Int)+1)=false:=Fe
 have HIX:=hix hjn
 have d30:((kb:Int) !=49)=true:=Ff
 have jb:(j:Int)<100:=An
 have z0:decide ((0:Int)<(k2:Int)+1)=true:=Fe
 have en:(k2:Int)+1 - 1=(k2:Int):=An
 have nn:(k2:Int)<(m:Int):=An
 have hlb:(last:Int)<1000:=An
 have e1:decide ((j:Int)+1<(last:Int))=false:=Fe
 have e2:((last:Int)==(j:Int)+1)=true:=Fe
 have e2':decide ((last:Int)=(j:Int)+1)=true:=Fe
 have e3:((kb:Int) !=51)=false:=by subst hkk;rfl
 clear hc hS hix hkb hkk hlt
 go_enter Tryz.func67,Tryz.ntmps67
 go_upto_region 2 with(refine wl_storeC rfl rfl (HS.out.alloc _ _) 0 rfl (vs:=[.int .i64 ((j+1:Nat):Int),.bool true,.int .u64 (fn:Int),.slice X fb.length xc]) szField6 (Nat.le_refl _) rfl rfl oneF ?_;intro w5 hS5;have HS5:=aA hS5;clear hS5)
 have t1:_=some (Value.int .i64 0):=HS5.out.cell 1 rfl 1
 go_upto_region 4 with fail
 refine aD [(0,1),(1,0),(2,1),(3,1),(4,1),(5,1),(6,1),(7,1),(8,0),(9,1),(10,1),(11,1),(12,1),(13,0),(14,1),(15,1),(16,1),(17,1),(18,1),(19,1),(20,1),(21,1),(22,1),(23,1),(24,1),(25,0),(26,1),(27,0),(28,1),(29,1),(30,1),(31,1),(32,1),(33,1),(34,1),(35,0),(36,1),(37,0),(38,1),(39,1),(40,1),(41,1),(42,0),(43,1),(44,1),(45,1),(46,1),(47,1),(48,1),(49,1)] Bt Bt (fun _ _ _ _ h=>h) ?_
 have HS:=aA HS5.out.drew
 generalize w5.drew=w6 at HS ⊢
 have s0:_=some (Value.int .i64 ((j+1:Nat):Int)):=HS.out.cell 0 rfl 0
 have s1:_=some (Value.bool true):=HS.out.cell 0 rfl 1
 obtain⟨b2,o2,he2,hb9,hc9⟩:=fC (eO HS.out (mC _ (mC _ hrow))) hp
 obtain⟨p0,_,_,_⟩:=hc9 _ (Below.refl _ _)
 injection he2 with he2
 injection he2 with he2 he3
 subst he2 he3
 rw[hpl] at p0
 clear hc9 hp hpl
 go_wp2_with (first|(refine wpT_nil ?_)|((with_reducible refine fromT_refl ?_);(try refine nm ?_))|((with_reducible refine aE Df ?_);(try refine nm ?_))|(refine aI (v:=?_) rfl rfl ?_ ?_;rotate_left;(intro wx;go_simp;try go_bits)<;>(with_reducible rfl);(try refine nm ?_))|(refine aK (v:=?_) rfl rfl rfl ?_ ?_;rotate_left;(go_simp;try go_bits)<;>(with_reducible rfl);(try refine nm ?_))|(refine aL (v:=?_) rfl rfl ?_ ?_;rotate_left;(intro wx hx;go_simp;try go_bits)<;>(with_reducible rfl);(try refine nm ?_))|(refine aM rfl rfl ?_;intro K hK)|(refine wpT_late rfl rfl ?_;intro K hK)|(refine wpT_any rfl rfl ?_;intro K hK)|(refine wpT_skip rfl rfl ?_;(try refine nm ?_)))
 go_ret
 exact⟨rfl,HS.out.tail⟩
end
section
variable {w0 w : World} {M : Nat → Prop} {H : List Chunk}
theorem fail_3 (g:Nat)(hS:St w0 M w (.cells g #[.pointer none,.int .i64 0] 99::H)) :
  Calls Tryz.prog 69 #[.pointer (some ⟨g,0,none⟩),.int .i64 3] w fun e w'=>e=.returned (.tuple #[])∧St w0 M w' (.cells g #[.pointer none,.int .i64 3] 99::H):=fail_0 g 3 hS
theorem iU (g j:Nat)(hj:j≠0)(hS:St w0 M w (.cells g #[.pointer none,.int .i64 (j:Int)] 99::H)) :
  Calls Tryz.prog 69 #[.pointer (some ⟨g,0,none⟩),.int .i64 3] w fun e w'=>e=.returned (.tuple #[])∧St w0 M w' (.cells g #[.pointer none,.int .i64 (j:Int)] 99::H):=fail_k g 3 j hj hS
theorem fits_n1 (KA:ByteArray)(nk kb:Nat)(g:Nat)(B:Option Addr)(m d k j:Nat)(xs:List FdL)(x:FdL)(hk:xs[k]?=some x)(hkm:k<m)(hj:x.f.num=j+1)(hjn:nk<j+1)(hj9:j≤100)(hrow:Chunk.row (.slice B m d) 102 4 m (aP xs)∈H)(hm:m≤65536)(hnk:nk≤100)(hsz:KA.size=nk)(hS:St w0 M w (.cells g #[.pointer none,.int .i64 0] 99::H)) :
  Calls Tryz.prog 67 #[.pointer (some ⟨g,0,none⟩),.slice B m d,.int .i64 (k:Int),.string KA] w fun e w'=>e=.returned (.bool false)∧St w0 M w' (.cells g #[.pointer none,.int .i64 3] 99::H):=by
 obtain⟨b,o,rfl,hb8,hc⟩:=fC (eO hS (mC _ hrow)) hk
 obtain⟨k0,k1,k2',k3⟩:=hc _ (Below.refl _ _)
 obtain⟨⟨num,whole,fn,fb⟩,X,xc⟩:=x
 replace hj:num=j+1:=hj
 subst hj
 have t1:_=some (Value.int .i64 0):=hS.cell 0 rfl 1
 have kn:(k:Int)<(m:Int):=An
 have HS:=aA hS
 have d1:decide ((nk:Int)<(j:Int)+1)=true:=Fe
 have jb:(j:Int)≤100:=An
 clear hc hS hjn
 go_enter Tryz.func67,Tryz.ntmps67
 go_upto_region 2 with(refine wl_storeC rfl rfl (HS.out.alloc _ _) 0 rfl (vs:=[.int .i64 ((j+1:Nat):Int),.bool whole,.int .u64 (fn:Int),.slice X fb.length xc]) szField6 (Nat.le_refl _) rfl rfl oneF ?_;intro w5 hS5;have HS5:=aA hS5;clear hS5)
 have t1:_=some (Value.int .i64 0):=HS5.out.cell 1 rfl 1
 go_upto_region 4 with fail
 refine aD [(0,1),(1,0),(2,1),(3,1),(4,1),(5,1),(6,1),(7,1),(8,0),(9,1),(10,1),(11,1),(12,1),(13,0),(14,1),(15,1),(16,1),(17,1),(18,1),(19,1),(20,1),(21,1),(22,1),(23,1),(24,1),(25,0),(26,1),(27,0),(28,1),(29,1),(30,1),(31,1),(32,1),(33,1),(34,1),(35,0),(36,1),(37,0),(38,1),(39,1),(40,1),(41,1),(42,0),(43,1),(44,1),(45,1),(46,1),(47,1),(48,1),(49,1)] Bt Bt (fun _ _ _ _ h=>h) ?_
 have HS:=aA HS5.out.drew
 generalize w5.drew=w6 at HS ⊢
 have s0:_=some (Value.int .i64 ((j+1:Nat):Int)):=HS.out.cell 0 rfl 0
 have s1:_=some (Value.bool whole):=HS.out.cell 0 rfl 1
 go_wp2_with (first
  |(go_at_call 69;(with_reducible refine(fail_3 g HS.out.swap).mono ?_);rintro e w7 ⟨rfl,hS7⟩;have HS7:=aA hS7;clear hS7)
  |(refine wpT_nil ?_)|((with_reducible refine fromT_refl ?_);(try refine nm ?_))|((with_reducible refine aE Df ?_);(try refine nm ?_))|(refine aI (v:=?_) rfl rfl ?_ ?_;rotate_left;(intro wx;go_simp;try go_bits)<;>(with_reducible rfl);(try refine nm ?_))|(refine aK (v:=?_) rfl rfl rfl ?_ ?_;rotate_left;(go_simp;try go_bits)<;>(with_reducible rfl);(try refine nm ?_))|(refine aL (v:=?_) rfl rfl ?_ ?_;rotate_left;(intro wx hx;go_simp;try go_bits)<;>(with_reducible rfl);(try refine nm ?_))|(refine aM rfl rfl ?_;intro K hK)|(refine wpT_late rfl rfl ?_;intro K hK)|(refine wpT_any rfl rfl ?_;intro K hK)|(refine wpT_skip rfl rfl ?_;(try refine nm ?_)))
 go_ret
 exact⟨rfl,HS7.out.swap.tail⟩
theorem fits_n2 (KA:ByteArray)(nk kb:Nat)(g:Nat)(B:Option Addr)(m d k j:Nat)(xs:List FdL)(x:FdL)(hk:xs[k]?=some x)(hkm:k<m)(hj:x.f.num=j+1)(hkb:kb=50∨kb=51)(hix:j<nk→∀W,(Instr.index 9 (.string KA) (.int .i64 (j:Int))).run Tryz.prog W=.ok (.int .u8 (kb:Int)) W)(hjn:j<nk)(hw:x.f.whole=false)(hrow:Chunk.row (.slice B m d) 102 4 m (aP xs)∈H)(hm:m≤65536)(hnk:nk≤100)(hsz:KA.size=nk)(hS:St w0 M w (.cells g #[.pointer none,.int .i64 0] 99::H)) :
  Calls Tryz.prog 67 #[.pointer (some ⟨g,0,none⟩),.slice B m d,.int .i64 (k:Int),.string KA] w fun e w'=>e=.returned (.bool false)∧St w0 M w' (.cells g #[.pointer none,.int .i64 3] 99::H):=by
 obtain⟨b,o,rfl,hb8,hc⟩:=fC (eO hS (mC _ hrow)) hk
 obtain⟨k0,k1,k2',k3⟩:=hc _ (Below.refl _ _)
 obtain⟨⟨num,whole,fn,fb⟩,X,xc⟩:=x
 replace hj:num=j+1:=hj
 replace hw:whole=false:=hw
 subst hj hw
 have t1:_=some (Value.int .i64 0):=hS.cell 0 rfl 1
 have kn:(k:Int)<(m:Int):=An
 have HS:=aA hS
 have d1:decide ((nk:Int)<(j:Int)+1)=false:=Fe
 have HIX:=hix hjn
 have d30:((kb:Int) !=49)=true:=Ff
 have jb:(j:Int)<100:=An
 clear hc hS hix hkb
 go_enter Tryz.func67,Tryz.ntmps67
 go_upto_region 2 with(refine wl_storeC rfl rfl (HS.out.alloc _ _) 0 rfl (vs:=[.int .i64 ((j+1:Nat):Int),.bool false,.int .u64 (fn:Int),.slice X fb.length xc]) szField6 (Nat.le_refl _) rfl rfl oneF ?_;intro w5 hS5;have HS5:=aA hS5;clear hS5)
 have t1:_=some (Value.int .i64 0):=HS5.out.cell 1 rfl 1
 go_upto_region 4 with fail
 refine aD [(0,1),(1,0),(2,1),(3,1),(4,1),(5,1),(6,1),(7,1),(8,0),(9,1),(10,1),(11,1),(12,1),(13,0),(14,1),(15,1),(16,1),(17,1),(18,1),(19,1),(20,1),(21,1),(22,1),(23,1),(24,1),(25,0),(26,1),(27,0),(28,1),(29,1),(30,1),(31,1),(32,1),(33,1),(34,1),(35,0),(36,1),(37,0),(38,1),(39,1),(40,1),(41,1),(42,0),(43,1),(44,1),(45,1),(46,1),(47,1),(48,1),(49,1)] Bt Bt (fun _ _ _ _ h=>h) ?_
 have HS:=aA HS5.out.drew
 generalize w5.drew=w6 at HS ⊢
 have s0:_=some (Value.int .i64 ((j+1:Nat):Int)):=HS.out.cell 0 rfl 0
 have s1:_=some (Value.bool false):=HS.out.cell 0 rfl 1
 go_wp2_with (first
  |(go_at_call 69;(with_reducible refine(fail_3 g HS.out.swap).mono ?_);rintro e w7 ⟨rfl,hS7⟩;have HS7:=aA hS7;clear hS7)
  |(refine wpT_nil ?_)|((with_reducible refine fromT_refl ?_);(try refine nm ?_))|((with_reducible refine aE Df ?_);(try refine nm ?_))|(refine aI (v:=?_) rfl rfl ?_ ?_;rotate_left;(intro wx;go_simp;try go_bits)<;>(with_reducible rfl);(try refine nm ?_))|(refine aK (v:=?_) rfl rfl rfl ?_ ?_;rotate_left;(go_simp;try go_bits)<;>(with_reducible rfl);(try refine nm ?_))|(refine aL (v:=?_) rfl rfl ?_ ?_;rotate_left;(intro wx hx;go_simp;try go_bits)<;>(with_reducible rfl);(try refine nm ?_))|(refine aM rfl rfl ?_;intro K hK)|(refine wpT_late rfl rfl ?_;intro K hK)|(refine wpT_any rfl rfl ?_;intro K hK)|(refine wpT_skip rfl rfl ?_;(try refine nm ?_)))
 go_ret
 exact⟨rfl,HS7.out.swap.tail⟩
theorem fits_n3 (KA:ByteArray)(nk kb:Nat)(g:Nat)(B:Option Addr)(m d k j:Nat)(xs:List FdL)(x:FdL)(hk:xs[k]?=some x)(hkm:k<m)(hj:x.f.num=j+1)(hkb:kb=50∨kb=51)(hix:j<nk→∀W,(Instr.index 9 (.string KA) (.int .i64 (j:Int))).run Tryz.prog W=.ok (.int .u8 (kb:Int)) W)(hjn:j<nk)(hw:x.f.whole=true)(p:FdL)(last:Nat)(k2:Nat)(hk2:k=k2+1)(hp:xs[k2]?=some p)(hpl:p.f.num=last)(hlt:j+1<last)(hl9:last≤100)(hrow:Chunk.row (.slice B m d) 102 4 m (aP xs)∈H)(hm:m≤65536)(hnk:nk≤100)(hsz:KA.size=nk)(hS:St w0 M w (.cells g #[.pointer none,.int .i64 0] 99::H)) :
  Calls Tryz.prog 67 #[.pointer (some ⟨g,0,none⟩),.slice B m d,.int .i64 (k:Int),.string KA] w fun e w'=>e=.returned (.bool false)∧St w0 M w' (.cells g #[.pointer none,.int .i64 3] 99::H):=by
 subst hk2
 obtain⟨b,o,rfl,hb8,hc⟩:=fC (eO hS (mC _ hrow)) hk
 obtain⟨k0,k1,k2',k3⟩:=hc _ (Below.refl _ _)
 obtain⟨⟨num,whole,fn,fb⟩,X,xc⟩:=x
 replace hj:num=j+1:=hj
 replace hw:whole=true:=hw
 subst hj hw
 have t1:_=some (Value.int .i64 0):=hS.cell 0 rfl 1
 have kn:((k2:Int)+1:Int)<(m:Int):=An
 have HS:=aA hS
 have d1:decide ((nk:Int)<(j:Int)+1)=false:=Fe
 have HIX:=hix hjn
 have d30:((kb:Int) !=49)=true:=Ff
 have jb:(j:Int)<100:=An
 have z0:decide ((0:Int)<(k2:Int)+1)=true:=Fe
 have en:(k2:Int)+1 - 1=(k2:Int):=An
 have nn:(k2:Int)<(m:Int):=An
 have hlb:(last:Int)<1000:=An
 have e1:decide ((j:Int)+1<(last:Int))=true:=Fe
 clear hc hS hix hkb hlt
 go_enter Tryz.func67,Tryz.ntmps67
 go_upto_region 2 with(refine wl_storeC rfl rfl (HS.out.alloc _ _) 0 rfl (vs:=[.int .i64 ((j+1:Nat):Int),.bool true,.int .u64 (fn:Int),.slice X fb.length xc]) szField6 (Nat.le_refl _) rfl rfl oneF ?_;intro w5 hS5;have HS5:=aA hS5;clear hS5)
 have t1:_=some (Value.int .i64 0):=HS5.out.cell 1 rfl 1
 go_upto_region 4 with fail
 refine aD [(0,1),(1,0),(2,1),(3,1),(4,1),(5,1),(6,1),(7,1),(8,0),(9,1),(10,1),(11,1),(12,1),(13,0),(14,1),(15,1),(16,1),(17,1),(18,1),(19,1),(20,1),(21,1),(22,1),(23,1),(24,1),(25,0),(26,1),(27,0),(28,1),(29,1),(30,1),(31,1),(32,1),(33,1),(34,1),(35,0),(36,1),(37,0),(38,1),(39,1),(40,1),(41,1),(42,0),(43,1),(44,1),(45,1),(46,1),(47,1),(48,1),(49,1)] Bt Bt (fun _ _ _ _ h=>h) ?_
 have HS:=aA HS5.out.drew
 generalize w5.drew=w6 at HS ⊢
 have s0:_=some (Value.int .i64 ((j+1:Nat):Int)):=HS.out.cell 0 rfl 0
 have s1:_=some (Value.bool true):=HS.out.cell 0 rfl 1
 obtain⟨b2,o2,he2,hb9,hc9⟩:=fC (eO HS.out (mC _ (mC _ hrow))) hp
 obtain⟨p0,_,_,_⟩:=hc9 _ (Below.refl _ _)
 injection he2 with he2
 injection he2 with he2 he3
 subst he2 he3
 rw[hpl] at p0
 clear hc9 hp hpl
 go_wp2_with (first
  |(go_at_call 69;(with_reducible refine(fail_3 g HS.out.swap).mono ?_);rintro e w7 ⟨rfl,hS7⟩;have HS7:=aA hS7;clear hS7)
  |(refine wpT_nil ?_)|((with_reducible refine fromT_refl ?_);(try refine nm ?_))|((with_reducible refine aE Df ?_);(try refine nm ?_))|(refine aI (v:=?_) rfl rfl ?_ ?_;rotate_left;(intro wx;go_simp;try go_bits)<;>(with_reducible rfl);(try refine nm ?_))|(refine aK (v:=?_) rfl rfl rfl ?_ ?_;rotate_left;(go_simp;try go_bits)<;>(with_reducible rfl);(try refine nm ?_))|(refine aL (v:=?_) rfl rfl ?_ ?_;rotate_left;(intro wx hx;go_simp;try go_bits)<;>(with_reducible rfl);(try refine nm ?_))|(refine aM rfl rfl ?_;intro K hK)|(refine wpT_late rfl rfl ?_;intro K hK)|(refine wpT_any rfl rfl ?_;intro K hK)|(refine wpT_skip rfl rfl ?_;(try refine nm ?_)))
 go_ret
 exact⟨rfl,HS7.out.swap.tail⟩
theorem fits_n4 (KA:ByteArray)(nk kb:Nat)(g:Nat)(B:Option Addr)(m d k j:Nat)(xs:List FdL)(x:FdL)(hk:xs[k]?=some x)(hkm:k<m)(hj:x.f.num=j+1)(hkb:kb=50∨kb=51)(hix:j<nk→∀W,(Instr.index 9 (.string KA) (.int .i64 (j:Int))).run Tryz.prog W=.ok (.int .u8 (kb:Int)) W)(hjn:j<nk)(hw:x.f.whole=true)(p:FdL)(last:Nat)(k2:Nat)(hk2:k=k2+1)(hp:xs[k2]?=some p)(hpl:p.f.num=last)(hlt:last=j+1)(hkk:kb=50)(hrow:Chunk.row (.slice B m d) 102 4 m (aP xs)∈H)(hm:m≤65536)(hnk:nk≤100)(hsz:KA.size=nk)(hS:St w0 M w (.cells g #[.pointer none,.int .i64 0] 99::H)) :
  Calls Tryz.prog 67 #[.pointer (some ⟨g,0,none⟩),.slice B m d,.int .i64 (k:Int),.string KA] w fun e w'=>e=.returned (.bool false)∧St w0 M w' (.cells g #[.pointer none,.int .i64 3] 99::H):=by
 subst hk2
 obtain⟨b,o,rfl,hb8,hc⟩:=fC (eO hS (mC _ hrow)) hk
 obtain⟨k0,k1,k2',k3⟩:=hc _ (Below.refl _ _)
 obtain⟨⟨num,whole,fn,fb⟩,X,xc⟩:=x
 replace hj:num=j+1:=hj
 replace hw:whole=true:=hw
 subst hj hw
 have t1:_=some (Value.int .i64 0):=hS.cell 0 rfl 1
 have kn:((k2:Int)+1:Int)<(m:Int):=An
 have HS:=aA hS
 have d1:decide ((nk:Int)<(j:Int)+1)=false:=Fe
 have HIX:=hix hjn
 have d30:((kb:Int) !=49)=true:=Ff
 have jb:(j:Int)<100:=An
 have z0:decide ((0:Int)<(k2:Int)+1)=true:=Fe
 have en:(k2:Int)+1 - 1=(k2:Int):=An
 have nn:(k2:Int)<(m:Int):=An
 have hlb:(last:Int)<1000:=An
 have e1:decide ((j:Int)+1<(last:Int))=false:=Fe
 have e2:((last:Int)==(j:Int)+1)=true:=Fe
 have e2':decide ((last:Int)=(j:Int)+1)=true:=Fe
 have e3:((kb:Int) !=51)=true:=by subst hkk;rfl
 clear hc hS hix hkb hkk hlt
 go_enter Tryz.func67,Tryz.ntmps67
 go_upto_region 2 with(refine wl_storeC rfl rfl (HS.out.alloc _ _) 0 rfl (vs:=[.int .i64 ((j+1:Nat):Int),.bool true,.int .u64 (fn:Int),.slice X fb.length xc]) szField6 (Nat.le_refl _) rfl rfl oneF ?_;intro w5 hS5;have HS5:=aA hS5;clear hS5)
 have t1:_=some (Value.int .i64 0):=HS5.out.cell 1 rfl 1
 go_upto_region 4 with fail
 refine aD [(0,1),(1,0),(2,1),(3,1),(4,1),(5,1),(6,1),(7,1),(8,0),(9,1),(10,1),(11,1),(12,1),(13,0),(14,1),(15,1),(16,1),(17,1),(18,1),(19,1),(20,1),(21,1),(22,1),(23,1),(24,1),(25,0),(26,1),(27,0),(28,1),(29,1),(30,1),(31,1),(32,1),(33,1),(34,1),(35,0),(36,1),(37,0),(38,1),(39,1),(40,1),(41,1),(42,0),(43,1),(44,1),(45,1),(46,1),(47,1),(48,1),(49,1)] Bt Bt (fun _ _ _ _ h=>h) ?_
 have HS:=aA HS5.out.drew
 generalize w5.drew=w6 at HS ⊢
 have s0:_=some (Value.int .i64 ((j+1:Nat):Int)):=HS.out.cell 0 rfl 0
 have s1:_=some (Value.bool true):=HS.out.cell 0 rfl 1
 obtain⟨b2,o2,he2,hb9,hc9⟩:=fC (eO HS.out (mC _ (mC _ hrow))) hp
 obtain⟨p0,_,_,_⟩:=hc9 _ (Below.refl _ _)
 injection he2 with he2
 injection he2 with he2 he3
 subst he2 he3
 rw[hpl] at p0
 clear hc9 hp hpl
 go_wp2_with (first
  |(go_at_call 69;(with_reducible refine(fail_3 g HS.out.swap).mono ?_);rintro e w7 ⟨rfl,hS7⟩;have HS7:=aA hS7;clear hS7)
  |(refine wpT_nil ?_)|((with_reducible refine fromT_refl ?_);(try refine nm ?_))|((with_reducible refine aE Df ?_);(try refine nm ?_))|(refine aI (v:=?_) rfl rfl ?_ ?_;rotate_left;(intro wx;go_simp;try go_bits)<;>(with_reducible rfl);(try refine nm ?_))|(refine aK (v:=?_) rfl rfl rfl ?_ ?_;rotate_left;(go_simp;try go_bits)<;>(with_reducible rfl);(try refine nm ?_))|(refine aL (v:=?_) rfl rfl ?_ ?_;rotate_left;(intro wx hx;go_simp;try go_bits)<;>(with_reducible rfl);(try refine nm ?_))|(refine aM rfl rfl ?_;intro K hK)|(refine wpT_late rfl rfl ?_;intro K hK)|(refine wpT_any rfl rfl ?_;intro K hK)|(refine wpT_skip rfl rfl ?_;(try refine nm ?_)))
 go_ret
 exact⟨rfl,HS7.out.swap.tail⟩
end
theorem ix5 (j:Nat)(h:j<5)(W:World):(Instr.index 9 (.string ⟨#[50,50,50,50,50]⟩) (.int .i64 (j:Int))).run Tryz.prog W=.ok (.int .u8 ((50:Nat):Int)) W:=by
 rcases(show j=0∨j=1∨j=2∨j=3∨j=4 by omega) with rfl|rfl|rfl|rfl|rfl<;>kernel_rfl
def kb3 (j:Nat):Nat:=if j=0 then 51 else 50
theorem ix3 (j:Nat)(h:j<3)(W:World):(Instr.index 9 (.string ⟨#[51,50,50]⟩) (.int .i64 (j:Int))).run Tryz.prog W=.ok (.int .u8 (kb3 j:Int)) W:=by
 rcases(show j=0∨j=1∨j=2 by omega) with rfl|rfl|rfl<;>kernel_rfl
theorem kb3_or (j:Nat):kb3 j=50∨kb3 j=51:=by
 unfold kb3
 split
 ·exact .inr rfl
 ·exact .inl rfl
section
variable {w0 w : World} {M : Nat → Prop} {H : List Chunk}
theorem fits5_yes (g:Nat)(B:Option Addr)(m d k last:Nat)(xs:List FdL)(x:FdL)(hk:xs[k]?=some x)(hkm:k<m)(h1:1≤x.f.num)(h100:x.f.num≤100)(hl:(k=0∧last=0)∨∃k2 p,k=k2+1∧xs[k2]?=some p∧p.f.num=last)(hl9:last≤100)(hrow:Chunk.row (.slice B m d) 102 4 m (aP xs)∈H)(hm:m≤65536)(hS:St w0 M w (.cells g #[.pointer none,.int .i64 0] 99::H))(hw:x.f.whole=true)(h5:x.f.num≤5)(hlt:last<x.f.num) :
  Calls Tryz.prog 67 #[.pointer (some ⟨g,0,none⟩),.slice B m d,.int .i64 (k:Int),.string ⟨#[50,50,50,50,50]⟩] w (fun e w'=>e=.returned (.bool true)∧St w0 M w' (.cells g #[.pointer none,.int .i64 0] 99::H)):=by
 obtain⟨j,hj⟩:∃j,x.f.num=j+1:=⟨x.f.num - 1,An⟩
 rcases hl with⟨h0,_⟩|⟨k2,p,hk2,hp,hpl⟩
 ·exact fits_a _ 5 50 g B m d k j xs x hk hkm hj (.inl rfl) (fun h W=>ix5 j h W) An hw h0 hrow hm Bz rfl hS
 ·exact fits_b _ 5 50 g B m d k j xs x hk hkm hj (.inl rfl) (fun h W=>ix5 j h W) An hw p last k2 hk2 hp hpl An hrow hm Bz rfl hS
theorem fits5_no (g:Nat)(B:Option Addr)(m d k last:Nat)(xs:List FdL)(x:FdL)(hk:xs[k]?=some x)(hkm:k<m)(h1:1≤x.f.num)(h100:x.f.num≤100)(hl:(k=0∧last=0)∨∃k2 p,k=k2+1∧xs[k2]?=some p∧p.f.num=last)(hl9:last≤100)(hrow:Chunk.row (.slice B m d) 102 4 m (aP xs)∈H)(hm:m≤65536)(hS:St w0 M w (.cells g #[.pointer none,.int .i64 0] 99::H))(hno:¬(x.f.whole=true∧x.f.num≤5∧last<x.f.num)) :
  Calls Tryz.prog 67 #[.pointer (some ⟨g,0,none⟩),.slice B m d,.int .i64 (k:Int),.string ⟨#[50,50,50,50,50]⟩] w (fun e w'=>e=.returned (.bool false)∧St w0 M w' (.cells g #[.pointer none,.int .i64 3] 99::H)):=by
 obtain⟨j,hj⟩:∃j,x.f.num=j+1:=⟨x.f.num - 1,An⟩
 by_cases h5:x.f.num≤5
 ·cases hw:x.f.whole with
  | false=>exact fits_n2 _ 5 50 g B m d k j xs x hk hkm hj (.inl rfl) (fun h W=>ix5 j h W) An hw hrow hm Bz rfl hS
  | true =>
   rcases hl with⟨h0,h00⟩|⟨k2,p,hk2,hp,hpl⟩
   ·exact absurd ⟨hw,h5,An⟩ hno
   ·by_cases hlt:last=j+1
    ·exact fits_n4 _ 5 50 g B m d k j xs x hk hkm hj (.inl rfl) (fun h W=>ix5 j h W) An hw p last k2 hk2 hp hpl hlt rfl hrow hm Bz rfl hS
    ·exact fits_n3 _ 5 50 g B m d k j xs x hk hkm hj (.inl rfl) (fun h W=>ix5 j h W) An hw p last k2 hk2 hp hpl (by
      by_cases h:last<x.f.num
      ·exact absurd ⟨hw,h5,h⟩ hno
      ·omega) hl9 hrow hm Bz rfl hS
 ·exact fits_n1 _ 5 50 g B m d k j xs x hk hkm hj An An hrow hm Bz rfl hS
theorem fits3_yes (g:Nat)(B:Option Addr)(m d k last:Nat)(xs:List FdL)(x:FdL)(hk:xs[k]?=some x)(hkm:k<m)(h1:1≤x.f.num)(h100:x.f.num≤100)(hl:(k=0∧last=0)∨∃k2 p,k=k2+1∧xs[k2]?=some p∧p.f.num=last)(hl9:last≤100)(hrow:Chunk.row (.slice B m d) 102 4 m (aP xs)∈H)(hm:m≤65536)(hS:St w0 M w (.cells g #[.pointer none,.int .i64 0] 99::H))(hno:¬(x.f.whole=false∨x.f.num<last∨(x.f.num=last∧x.f.num≠1)))(h3:x.f.num≤3) :
  Calls Tryz.prog 67 #[.pointer (some ⟨g,0,none⟩),.slice B m d,.int .i64 (k:Int),.string ⟨#[51,50,50]⟩] w (fun e w'=>e=.returned (.bool true)∧St w0 M w' (.cells g #[.pointer none,.int .i64 0] 99::H)):=by
 obtain⟨j,hj⟩:∃j,x.f.num=j+1:=⟨x.f.num - 1,An⟩
 have hw:x.f.whole=true:=by
  cases h:x.f.whole
  ·exact absurd (.inl h) hno
  ·rfl
 have hnl:¬x.f.num<last:=fun h=>hno (.inr (.inl h))
 rcases hl with⟨h0,_⟩|⟨k2,p,hk2,hp,hpl⟩
 ·exact fits_a _ 3 (kb3 j) g B m d k j xs x hk hkm hj (kb3_or j) (fun h W=>ix3 j h W) An hw h0 hrow hm Bz rfl hS
 ·by_cases he:x.f.num=last
  ·have h1':x.f.num=1:=by
    by_cases h:x.f.num=1
    ·exact h
    ·exact absurd (.inr (.inr ⟨he,h⟩)) hno
   exact fits_c _ 3 (kb3 j) g B m d k j xs x hk hkm hj (kb3_or j) (fun h W=>ix3 j h W) An hw p last k2 hk2 hp hpl An (by unfold kb3;rw[if_pos An]) hrow hm Bz rfl hS
  ·exact fits_b _ 3 (kb3 j) g B m d k j xs x hk hkm hj (kb3_or j) (fun h W=>ix3 j h W) An hw p last k2 hk2 hp hpl An hrow hm Bz rfl hS
theorem fits3_no (g:Nat)(B:Option Addr)(m d k last:Nat)(xs:List FdL)(x:FdL)(hk:xs[k]?=some x)(hkm:k<m)(h1:1≤x.f.num)(h100:x.f.num≤100)(hl:(k=0∧last=0)∨∃k2 p,k=k2+1∧xs[k2]?=some p∧p.f.num=last)(hl9:last≤100)(hrow:Chunk.row (.slice B m d) 102 4 m (aP xs)∈H)(hm:m≤65536)(hS:St w0 M w (.cells g #[.pointer none,.int .i64 0] 99::H))(hno:¬(¬(x.f.whole=false∨x.f.num<last∨(x.f.num=last∧x.f.num≠1))∧x.f.num≤3)) :
  Calls Tryz.prog 67 #[.pointer (some ⟨g,0,none⟩),.slice B m d,.int .i64 (k:Int),.string ⟨#[51,50,50]⟩] w (fun e w'=>e=.returned (.bool false)∧St w0 M w' (.cells g #[.pointer none,.int .i64 3] 99::H)):=by
 obtain⟨j,hj⟩:∃j,x.f.num=j+1:=⟨x.f.num - 1,An⟩
 by_cases h3:x.f.num≤3
 ·have hbad:x.f.whole=false∨x.f.num<last∨(x.f.num=last∧x.f.num≠1):=Classical.byContradiction fun h=>hno ⟨h,h3⟩
  cases hw:x.f.whole with
  | false=>exact fits_n2 _ 3 (kb3 j) g B m d k j xs x hk hkm hj (kb3_or j) (fun h W=>ix3 j h W) An hw hrow hm Bz rfl hS
  | true =>
   rcases hl with⟨h0,h00⟩|⟨k2,p,hk2,hp,hpl⟩
   ·rcases hbad with h|h|h
    ·rw[hw] at h;cases h
    ·omega
    ·omega
   ·by_cases hlt:last=j+1
    ·have hne:x.f.num≠1:=by
      rcases hbad with h|h|h
      ·rw[hw] at h;cases h
      ·omega
      ·exact h.2
     exact fits_n4 _ 3 (kb3 j) g B m d k j xs x hk hkm hj (kb3_or j) (fun h W=>ix3 j h W) An hw p last k2 hk2 hp hpl hlt (by unfold kb3;rw[if_neg An]) hrow hm Bz rfl hS
    ·exact fits_n3 _ 3 (kb3 j) g B m d k j xs x hk hkm hj (kb3_or j) (fun h W=>ix3 j h W) An hw p last k2 hk2 hp hpl (by
      rcases hbad with h|h|h
      ·rw[hw] at h;cases h
      ·omega
      ·omega) hl9 hrow hm Bz rfl hS
 ·exact fits_n1 _ 3 (kb3 j) g B m d k j xs x hk hkm hj An An hrow hm Bz rfl hS
end
end Go.Proofs.YtnohmgpmmhlloaaGreatDoor.S6
