/-
 Proved: the statement ChainBent, as its row and its card say it: bytes of a token that was issued, with some changed, are read and verified as the page has it. No conditions beyond the card's own.
 Joined of texts of mine, in build order: F1, F2, F3, Lift, Opg, Oq, F4, Lm, F5.
-/
import Derived.Deep.DeepCutAuto
import Derived.ProofKit
import Derived.OpenShut
import Derived.SizedLaws
import Derived.Carry
import Derived.Deep.Fields
import Derived.Deep.Slices
import Derived.ShutString
import Derived.Test.YtnohmgpmmhlloaaGreatDoorRows
import Derived.LaidMore
import Derived.Stop.Joined
import Derived.Test.YtnohmgpmmhlloaaGreatDoorCards
import Derived.Test.YtnohmgpmmhlloaaGreatDoorTie
import Derived.SevenTiedAt
import Derived.Test.YtnohmgpmmhlloaaGreatDoorYm
set_option linter.unusedSimpArgs false
set_option linter.unusedVariables false
set_option maxRecDepth 100000
set_option maxHeartbeats 25600000
namespace Go.Proofs.YtnohmgpmmhlloaaGreatDoor
open Go.RowKit
theorem bne_no {K y:List UInt8}(h:K≠y):(K==y)=false:=beq_eq_false_iff_ne.2 h
theorem verifyR24_any (A1 A2 A3 A:Option Addr)(m1 m2 m3 n c1 c2 c3 c:Nat)(l1 l2 l3:List UInt8)(l:List Sg)(w:World)(hl1:l1.length=m1)(hl2:l2.length=m2)(hl3:l3.length=m3)(hl:l.length=n+1)(hn:n≤7)(hm1:m1≤660)(hm2:m2≤660)(hm3:m3≤660)
  (hr1:Rd w (.slice A1 m1 c1) 1 m1 (bvs l1))(hr2:Rd w (.slice A2 m2 c2) 1 m2 (bvs l2))(hr3:Rd w (.slice A3 m3 c3) 1 m3 (bvs l3))(hr:Rd w (.slice A (n+1) c) 5 (n+1) (aN l))(hok:∀x∈l,SgOK w x)(hs:∀x∈l,x.b.b.length≤660∧x.n.b.length≤660∧x.s.b.length≤660∧x.k.b.length≤660∧x.v.b.length≤660) :
  Calls Tryz.prog 30 #[.agg #[.slice A1 m1 c1,.slice A (n+1) c,.slice A2 m2 c2,.slice A3 m3 c3]] w fun e w'=>e=.returned (.int .i64 (verT ⟨l1,l.map Sg.p,l2,l3⟩:Nat))∧Below w.heap.size w w':=by
 have HS:=aA ((St.init w NoB).alloc #[.slice A1 m1 c1,.slice A (n+1) c,.slice A2 m2 c2,.slice A3 m3 c3] 26)
 subst hl1
 have hnl:n<l.length:=An
 have hz:l[n]?=some l[n]:=gE hnl
 have HZ:=aA hz
 have hv:verT ⟨l1,l.map Sg.p,l2,l3⟩=if verF l1 true (l.map Sg.p)≠0 then verF l1 true (l.map Sg.p) else if endOK ⟨l1,l.map Sg.p,l2,l3⟩ l[n].p=true then 0 else 9:=by
  unfold verT
  rw[show(Tp.l ⟨l1,l.map Sg.p,l2,l3⟩).getLast?=some l[n].p from last_map hl hz]
  show(if 8<(l.map Sg.p).length then 4 else _)=_
  rw[if_neg (by rw[List.length_map];omega)]
 have HE:Hid (∀x:Sp,endOK ⟨l1,l.map Sg.p,l2,l3⟩ x=if 0<m2 then decide (m3=0)&&(decide (m2=32)&&decide (cA l2=x.n)) else dX x.n (x.b++(x.n++x.s)) l3):=aA (fun x=>by rw[←hl2,←hl3];rfl)
 have hnn:(∀x∈l,SgOK w x)∧True:=⟨hok,trivial⟩
 generalize l[n]=zl at HZ hv
 generalize hvt:verT ⟨l1,l.map Sg.p,l2,l3⟩=res at hv ⊢
 clear hvt
 have HV:=aA hv
 have HL:=aA hl
 have HR:=aA hr
 have HR1:=aA hr1
 have HR2:=aA hr2
 have HR3:=aA hr3
 have HL2:=aA hl2
 have HL3:=aA hl3
 have HOK:=aA hok
 have HSS:=aA hs
 have d1:(((n+1:Nat):Int)==0)=false:=A9
 have d1':decide (((n+1:Nat):Int)=0)=false:=A9
 have d2:decide ((8:Int)<((n+1:Nat):Int))=false:=A9
 have d2':decide (8<n+1)=false:=A9
 have d2b:decide ((8:Int)<(n:Int)+1)=false:=A9
 have d1b:(((n:Int)+1)==0)=false:=A9
 have d1c:decide ((n:Int)+1=0)=false:=A9
 have t0:_=some (Value.slice A1 l1.length c1):=HS.out.cell 0 rfl 0
 have t1:_=some (Value.slice A (n+1) c):=HS.out.cell 0 rfl 1
 clear hz hnl hv hl hr hl2 hl3 hr2 hr3 hok hs hnn
 go_enter Tryz.func30,Tryz.ntmps30
 go_wp2_with fail
 go_loopw [3,20] (fun bv iv wr=>∃(k:Nat) (B:Option Addr) (d:Nat) (y:List UInt8),k≤n+1∧iv=.int .i64 (k:Int)∧bv=.slice B y.length d∧y.length≤660∧Hid (verF l1 true (l.map Sg.p)=verF y (k==0) ((l.drop k).map Sg.p))∧Hid (Rd w (.slice B y.length d) 1 y.length (bvs y))∧Hid (St w NoB wr [.cells w.heap.size #[.slice A1 l1.length c1,.slice A (n+1) c,.slice A2 m2 c2,.slice A3 m3 c3] 26])) (fun _ i _=>(n+1 - intOf i).toNat)
 case atStart=>exact⟨0,A1,c1,l1,An,rfl,rfl,hm1,rfl,aA hr1,HS⟩
 case round =>
  clear HS t0 t1 hr1
  obtain⟨k,B,d,y,hk,rfl,rfl,hy,HF,HB,HS⟩:=hrel
  by_cases hlt:k<n+1
  ·have e0:decide ((k:Int)<(n:Int)+1)=true:=by simp;omega
   have e0':decide (k<n+1)=true:=A9
   have kn:(k:Int)<(n:Int)+1:=An
   have kl:k<l.length:=Ca
   have hlk:l[k]?=some l[k]:=gE kl
   obtain⟨b,o,rfl,hb8,hc⟩:=sg_at HR.out hlk
   obtain⟨k0,k1,k2,k3,k4⟩:=hc _ HS.out.below
   have HOX:=aA (HOK.out l[k] (List.getElem_mem kl))
   have HSX:=aA (HSS.out l[k] (List.getElem_mem kl))
   have HD:=aA (show(l.drop k).map Sg.p=l[k].p::(l.drop (k+1)).map Sg.p by rw[List.drop_eq_getElem_cons kl];rfl)
   generalize l[k]=x at k0 k1 k2 k3 k4 HOX HSX HD
   rw[HD.out,verF_cons _ _ _ _ (Nat.le_trans HSX.out.1 Bz)] at HF
   obtain⟨⟨E1,f1,y1⟩,⟨E2,f2,y2⟩,⟨E3,f3,y3⟩,⟨E4,f4,y4⟩,⟨E5,f5,y5⟩⟩:=x
   obtain⟨b1,b2,b3,b4,b5⟩:=(show y1.length≤660∧y2.length≤660∧y3.length≤660∧y4.length≤660∧y5.length≤660 from HSX.out)
   have HE1:Hid (Rd w (.slice E1 y1.length f1) 1 y1.length (bvs y1)):=aA HOX.out.b
   have HE2:Hid (Rd w (.slice E2 y2.length f2) 1 y2.length (bvs y2)):=aA HOX.out.n
   have HE3:Hid (Rd w (.slice E3 y3.length f3) 1 y3.length (bvs y3)):=aA HOX.out.s
   have HE4:Hid (Rd w (.slice E4 y4.length f4) 1 y4.length (bvs y4)):=aA HOX.out.k
   have HE5:Hid (Rd w (.slice E5 y5.length f5) 1 y5.length (bvs y5)):=aA HOX.out.v
   obtain⟨fs,hf⟩:∃b,(k==0)=b:=⟨_,rfl⟩
   obtain⟨z1,z2,z3⟩:=zz8 k
   rw[hf] at z1 z2 z3
   rw[hf] at HF
   have z4:=hf
   clear hc hlk kl HOX HSX hf
   go_upto_region 9 with(refine wl_storeC rfl rfl (HS.out.alloc _ _) 0 rfl (vs:=[.slice E1 y1.length f1,.slice E2 y2.length f2,.slice E3 y3.length f3,.slice E4 y4.length f4,.slice E5 y5.length f5]) szSigned (Nat.le_refl _) rfl rfl fE ?_;intro w5 hS5;have HS5:=aA hS5;clear hS5)
   have HS:Hid (St w NoB w5 (.cells wr.heap.size #[.slice E1 y1.length f1,.slice E2 y2.length f2,.slice E3 y3.length f3,.slice E4 y4.length f4,.slice E5 y5.length f5] 32::.cells w.heap.size #[.slice A1 l1.length c1,.slice (some ⟨b,o,none⟩) (n+1) c,.slice A2 m2 c2,.slice A3 m3 c3] 26::[])):=HS5
   clear HS5
   have q0:_=some (Value.slice E1 y1.length f1):=HS.out.cell 0 rfl 0
   have q1:_=some (Value.slice E2 y2.length f2):=HS.out.cell 0 rfl 1
   have q2:_=some (Value.slice E3 y3.length f3):=HS.out.cell 0 rfl 2
   have q3:_=some (Value.slice E4 y4.length f4):=HS.out.cell 0 rfl 3
   have q4:_=some (Value.slice E5 y5.length f5):=HS.out.cell 0 rfl 4
   have HM:=aA (dK (rfl:y1.length=_) (rfl:y5.length=_) (rfl:y2.length=_))
   have HM2:=aA (len_add (rfl:y1.length=_) (rfl:y.length=_))
   replace HF:Hid (verF l1 true (l.map Sg.p)=if blkOK y fs ⟨y1,y2,y3,y4,y5⟩=true then verF y2 false ((l.drop (k+1)).map Sg.p) else 9):=HF
   have g1:decide ((65536:Int)<(y1.length:Int))=false:=A9
   have g1':decide (65536<y1.length)=false:=A9
   have hbk:=blkOK_eq y fs y1 y2 y3 y4 y5
   generalize blkOK y fs ⟨y1,y2,y3,y4,y5⟩=bk at HF hbk
   cases b1:dX y (y1++(y5++y2)) y3 with
   | false =>
    have B1:=aA b1
    rw[b1,Bool.false_and] at hbk
    subst hbk
    have HR9:Hid (res=9):=aA Fg
    clear b1
    go_upto_region 11 with fail
    refine aD [(0,1),(1,0),(3,1),(4,0),(2,2),(5,2),(6,1)] Bt Bt (fun _ _ _ _ h=>h) ?_
    have HS:=aA HS.out.drew
    clear q0 q1 q2 q3 q4
    generalize w5.drew=w6 at HS ⊢
    have q0:_=some (Value.slice E1 y1.length f1):=HS.out.cell 0 rfl 0
    have q1:_=some (Value.slice E2 y2.length f2):=HS.out.cell 0 rfl 1
    have q2:_=some (Value.slice E3 y3.length f3):=HS.out.cell 0 rfl 2
    have q3:_=some (Value.slice E4 y4.length f4):=HS.out.cell 0 rfl 3
    have q4:_=some (Value.slice E5 y5.length f5):=HS.out.cell 0 rfl 4
    have KK0:=True.intro
    go_wp2_with (first
     |(clear KK1;go_at_call 72;(with_reducible refine(eV _ _ _ _ _ _ _ _ _ _ _ _ _ rfl HM.out rfl An An (HB.out.below HS.out.below) (HS.out.rd 0 rfl) (HE3.out.below HS.out.below)).mono ?_);rintro e wv ⟨rfl,hb⟩;rw[B1.out];have HS:=aA (HS.out.call hb).tail;clear q0 q1 q2 q3 q4;have q0:_=some (Value.slice E1 y1.length f1):=HS.out.cell 0 rfl 0;have q1:_=some (Value.slice E2 y2.length f2):=HS.out.cell 0 rfl 1;have q2:_=some (Value.slice E3 y3.length f3):=HS.out.cell 0 rfl 2;have q3:_=some (Value.slice E4 y4.length f4):=HS.out.cell 0 rfl 3;have q4:_=some (Value.slice E5 y5.length f5):=HS.out.cell 0 rfl 4;have KK2:=True.intro)
     |(clear KK0;go_at_call 48;(with_reducible refine(message23_core _ _ _ _ _ _ _ _ _ _ _ _ _ _ _ _ _ _ _ _ _ rfl An (HE1.out.below HS.out.below) rfl An (HE2.out.below HS.out.below) rfl An (HE3.out.below HS.out.below) rfl An (HE4.out.below HS.out.below) rfl An (HE5.out.below HS.out.below)).mono ?_);rintro e wm ⟨Bm,dm,rfl,hb,ho⟩;have HS:=aA (HS.out.row hb ho);clear ho q0 q1 q2 q3 q4;have q0:_=some (Value.slice E1 y1.length f1):=HS.out.cell 1 rfl 0;have q1:_=some (Value.slice E2 y2.length f2):=HS.out.cell 1 rfl 1;have q2:_=some (Value.slice E3 y3.length f3):=HS.out.cell 1 rfl 2;have q3:_=some (Value.slice E4 y4.length f4):=HS.out.cell 1 rfl 3;have q4:_=some (Value.slice E5 y5.length f5):=HS.out.cell 1 rfl 4;have KK1:=True.intro)
     |(refine wpT_nil ?_)|((with_reducible refine fromT_refl ?_);(try refine nm ?_))|((with_reducible refine aE Df ?_);(try refine nm ?_))|(refine aI (v:=?_) rfl rfl ?_ ?_;rotate_left;(intro wx;go_simp;try go_bits)<;>(with_reducible rfl);(try refine nm ?_))|(refine aK (v:=?_) rfl rfl rfl ?_ ?_;rotate_left;(go_simp;try go_bits)<;>(with_reducible rfl);(try refine nm ?_))|(refine aL (v:=?_) rfl rfl ?_ ?_;rotate_left;(intro wx hx;go_simp;try go_bits)<;>(with_reducible rfl);(try refine nm ?_))|(refine aM rfl rfl ?_;intro K hK)|(refine wpT_late rfl rfl ?_;intro K hK)|(refine wpT_any rfl rfl ?_;intro K hK)|(refine wpT_skip rfl rfl ?_;(try refine nm ?_)))
    go_ret
    rw[HR9.out]
    exact⟨rfl,HS.out.below⟩
   | true =>
    have B1:=aA b1
    rw[b1,Bool.true_and] at hbk
    clear b1
    go_upto_region 11 with fail
    refine aD [(0,1),(1,0),(3,1),(4,0),(2,2),(5,2),(6,1)] Bt Bt (fun _ _ _ _ h=>h) ?_
    have HS:=aA HS.out.drew
    clear q0 q1 q2 q3 q4
    generalize w5.drew=w6 at HS ⊢
    have q0:_=some (Value.slice E1 y1.length f1):=HS.out.cell 0 rfl 0
    have q1:_=some (Value.slice E2 y2.length f2):=HS.out.cell 0 rfl 1
    have q2:_=some (Value.slice E3 y3.length f3):=HS.out.cell 0 rfl 2
    have q3:_=some (Value.slice E4 y4.length f4):=HS.out.cell 0 rfl 3
    have q4:_=some (Value.slice E5 y5.length f5):=HS.out.cell 0 rfl 4
    have KK0:=True.intro
    go_upto_region 13 with(first
     |(clear KK1;go_at_call 72;(with_reducible refine(eV _ _ _ _ _ _ _ _ _ _ _ _ _ rfl HM.out rfl An An (HB.out.below HS.out.below) (HS.out.rd 0 rfl) (HE3.out.below HS.out.below)).mono ?_);rintro e wv ⟨rfl,hb⟩;rw[B1.out];have HS:=aA (HS.out.call hb).tail;clear q0 q1 q2 q3 q4;have q0:_=some (Value.slice E1 y1.length f1):=HS.out.cell 0 rfl 0;have q1:_=some (Value.slice E2 y2.length f2):=HS.out.cell 0 rfl 1;have q2:_=some (Value.slice E3 y3.length f3):=HS.out.cell 0 rfl 2;have q3:_=some (Value.slice E4 y4.length f4):=HS.out.cell 0 rfl 3;have q4:_=some (Value.slice E5 y5.length f5):=HS.out.cell 0 rfl 4;have KK2:=True.intro)
     |(clear KK0;go_at_call 48;(with_reducible refine(message23_core _ _ _ _ _ _ _ _ _ _ _ _ _ _ _ _ _ _ _ _ _ rfl An (HE1.out.below HS.out.below) rfl An (HE2.out.below HS.out.below) rfl An (HE3.out.below HS.out.below) rfl An (HE4.out.below HS.out.below) rfl An (HE5.out.below HS.out.below)).mono ?_);rintro e wm ⟨Bm,dm,rfl,hb,ho⟩;have HS:=aA (HS.out.row hb ho);clear ho q0 q1 q2 q3 q4;have q0:_=some (Value.slice E1 y1.length f1):=HS.out.cell 1 rfl 0;have q1:_=some (Value.slice E2 y2.length f2):=HS.out.cell 1 rfl 1;have q2:_=some (Value.slice E3 y3.length f3):=HS.out.cell 1 rfl 2;have q3:_=some (Value.slice E4 y4.length f4):=HS.out.cell 1 rfl 3;have q4:_=some (Value.slice E5 y5.length f5):=HS.out.cell 1 rfl 4;have KK1:=True.intro)
     |(refine wpT_nil ?_)|((with_reducible refine fromT_refl ?_);(try refine nm ?_))|((with_reducible refine aE Df ?_);(try refine nm ?_))|(refine aI (v:=?_) rfl rfl ?_ ?_;rotate_left;(intro wx;go_simp;try go_bits)<;>(with_reducible rfl);(try refine nm ?_))|(refine aK (v:=?_) rfl rfl rfl ?_ ?_;rotate_left;(go_simp;try go_bits)<;>(with_reducible rfl);(try refine nm ?_))|(refine aL (v:=?_) rfl rfl ?_ ?_;rotate_left;(intro wx hx;go_simp;try go_bits)<;>(with_reducible rfl);(try refine nm ?_))|(refine aM rfl rfl ?_;intro K hK)|(refine wpT_late rfl rfl ?_;intro K hK)|(refine wpT_any rfl rfl ?_;intro K hK)|(refine wpT_skip rfl rfl ?_;(try refine nm ?_)))
    by_cases h0:y4.length+y5.length=0
    ·rw[decide_eq_true h0,Bool.true_or] at hbk
     subst hbk
     have d0:decide ((0:Int)<(y4.length:Int)+(y5.length:Int))=false:=A9
     have d0':decide (0<y4.length+y5.length)=false:=decide_eq_false An
     refine aD [(0,1),(1,0),(2,1),(3,1),(4,0),(5,1),(6,1),(7,1),(8,1),(9,1),(10,1),(11,1),(12,1),(13,0),(14,1),(15,0),(16,1),(19,1),(20,0),(17,2),(18,2),(21,2),(22,1),(23,1),(24,1)] Bt Bt (fun _ _ _ _ h=>h) ?_
     have HS:=aA HS.out.drew
     clear q0 q1 q2 q3 q4
     generalize wv.drew=wd at HS ⊢
     have q0:_=some (Value.slice E1 y1.length f1):=HS.out.cell 0 rfl 0
     have q1:_=some (Value.slice E2 y2.length f2):=HS.out.cell 0 rfl 1
     have q2:_=some (Value.slice E3 y3.length f3):=HS.out.cell 0 rfl 2
     have q3:_=some (Value.slice E4 y4.length f4):=HS.out.cell 0 rfl 3
     have q4:_=some (Value.slice E5 y5.length f5):=HS.out.cell 0 rfl 4
     go_wp2_with (first|(refine wpT_nil ?_)|((with_reducible refine fromT_refl ?_);(try refine nm ?_))|((with_reducible refine aE Df ?_);(try refine nm ?_))|(refine aI (v:=?_) rfl rfl ?_ ?_;rotate_left;(intro wx;go_simp;try go_bits)<;>(with_reducible rfl);(try refine nm ?_))|(refine aK (v:=?_) rfl rfl rfl ?_ ?_;rotate_left;(go_simp;try go_bits)<;>(with_reducible rfl);(try refine nm ?_))|(refine aL (v:=?_) rfl rfl ?_ ?_;rotate_left;(intro wx hx;go_simp;try go_bits)<;>(with_reducible rfl);(try refine nm ?_))|(refine aM rfl rfl ?_;intro K hK)|(refine wpT_late rfl rfl ?_;intro K hK)|(refine wpT_any rfl rfl ?_;intro K hK)|(refine wpT_skip rfl rfl ?_;(try refine nm ?_)))
     go_roundw
     case rel=>exact⟨k+1,E2,f2,y2,An,Cg,rfl,b2,aA (HF.out.trans ((if_pos rfl).trans rfl)),HE2,aA HS.out.tail⟩
     case measure=>(simp[intOf])<;>omega
    ·rw[decide_eq_false h0,Bool.false_or] at hbk
     have d0:decide ((0:Int)<(y4.length:Int)+(y5.length:Int))=true:=A9
     have d0':decide (0<y4.length+y5.length)=true:=A9
     cases fs with
     | true =>
      subst hbk
      have HR9:Hid (res=9):=aA Fg
      refine aD [(0,1),(1,0),(2,1),(3,1),(4,0),(5,1),(6,1),(7,1),(8,1),(9,1),(10,1),(11,1),(12,1),(13,0),(14,1),(15,0),(16,1),(19,1),(20,0),(17,2),(18,2),(21,2),(22,1),(23,1),(24,1)] Bt Bt (fun _ _ _ _ h=>h) ?_
      have HS:=aA HS.out.drew
      clear q0 q1 q2 q3 q4
      generalize wv.drew=wd at HS ⊢
      have q0:_=some (Value.slice E1 y1.length f1):=HS.out.cell 0 rfl 0
      have q1:_=some (Value.slice E2 y2.length f2):=HS.out.cell 0 rfl 1
      have q2:_=some (Value.slice E3 y3.length f3):=HS.out.cell 0 rfl 2
      have q3:_=some (Value.slice E4 y4.length f4):=HS.out.cell 0 rfl 3
      have q4:_=some (Value.slice E5 y5.length f5):=HS.out.cell 0 rfl 4
      go_wp2_with (first|(refine wpT_nil ?_)|((with_reducible refine fromT_refl ?_);(try refine nm ?_))|((with_reducible refine aE Df ?_);(try refine nm ?_))|(refine aI (v:=?_) rfl rfl ?_ ?_;rotate_left;(intro wx;go_simp;try go_bits)<;>(with_reducible rfl);(try refine nm ?_))|(refine aK (v:=?_) rfl rfl rfl ?_ ?_;rotate_left;(go_simp;try go_bits)<;>(with_reducible rfl);(try refine nm ?_))|(refine aL (v:=?_) rfl rfl ?_ ?_;rotate_left;(intro wx hx;go_simp;try go_bits)<;>(with_reducible rfl);(try refine nm ?_))|(refine aM rfl rfl ?_;intro K hK)|(refine wpT_late rfl rfl ?_;intro K hK)|(refine wpT_any rfl rfl ?_;intro K hK)|(refine wpT_skip rfl rfl ?_;(try refine nm ?_)))
      go_ret
      rw[HR9.out]
      exact⟨rfl,HS.out.below⟩
     | false =>
      cases b2:dX y4 (y1++y) y5 with
      | false =>
       have B2:=aA b2
       rw[b2] at hbk
       subst hbk
       have HR9:Hid (res=9):=aA Fg
       clear b2
       refine aD [(0,1),(1,0),(2,1),(3,1),(4,0),(5,1),(6,1),(7,1),(8,1),(9,1),(10,1),(11,1),(12,1),(13,0),(14,1),(15,0),(16,1),(19,1),(20,0),(17,2),(18,2),(21,2),(22,1),(23,1),(24,1)] Bt Bt (fun _ _ _ _ h=>h) ?_
       have HS:=aA HS.out.drew
       clear q0 q1 q2 q3 q4
       generalize wv.drew=wd at HS ⊢
       have q0:_=some (Value.slice E1 y1.length f1):=HS.out.cell 0 rfl 0
       have q1:_=some (Value.slice E2 y2.length f2):=HS.out.cell 0 rfl 1
       have q2:_=some (Value.slice E3 y3.length f3):=HS.out.cell 0 rfl 2
       have q3:_=some (Value.slice E4 y4.length f4):=HS.out.cell 0 rfl 3
       have q4:_=some (Value.slice E5 y5.length f5):=HS.out.cell 0 rfl 4
       have hbA:=(Below.refl wd.heap.size wd).alloc (Nat.le_refl _) (.cells #[.slice E1 y1.length f1,.slice B y.length d] 22)
       have KK0:=True.intro
       go_wp2_with (first
        |(clear KK1;go_at_call 72;(with_reducible refine(eV _ _ _ _ _ _ _ _ _ _ _ _ _ rfl HM2.out rfl An An (HE4.out.below HS.out.below) (HS.out.rd 0 rfl) (HE5.out.below HS.out.below)).mono ?_);rintro e wz ⟨rfl,hb⟩;rw[B2.out];have HS:=aA (HS.out.call hb).tail;clear q0 q1 q2 q3 q4;have q1:_=some (Value.slice E2 y2.length f2):=HS.out.cell 0 rfl 1;have KK2:=True.intro)
        |(clear KK0;go_at_call 45;(with_reducible refine(join23_2 _ rfl rfl An (HE1.out.below HS.out.below) (HB.out.below HS.out.below)).mono ?_);rintro e wm2 ⟨Bm2,dm2,rfl,hb,ho⟩;have HS:=aA ((HS.out.skip _).row hb ho);clear ho q0 q1 q2 q3 q4;have q0:_=some (Value.slice E1 y1.length f1):=HS.out.cell 1 rfl 0;have q1:_=some (Value.slice E2 y2.length f2):=HS.out.cell 1 rfl 1;have q2:_=some (Value.slice E3 y3.length f3):=HS.out.cell 1 rfl 2;have q3:_=some (Value.slice E4 y4.length f4):=HS.out.cell 1 rfl 3;have q4:_=some (Value.slice E5 y5.length f5):=HS.out.cell 1 rfl 4;have KK1:=True.intro)
        |(refine wpT_nil ?_)|((with_reducible refine fromT_refl ?_);(try refine nm ?_))|((with_reducible refine aE Df ?_);(try refine nm ?_))|(refine aI (v:=?_) rfl rfl ?_ ?_;rotate_left;(intro wx;go_simp;try go_bits)<;>(with_reducible rfl);(try refine nm ?_))|(refine aK (v:=?_) rfl rfl rfl ?_ ?_;rotate_left;(go_simp;try go_bits)<;>(with_reducible rfl);(try refine nm ?_))|(refine aL (v:=?_) rfl rfl ?_ ?_;rotate_left;(intro wx hx;go_simp;try go_bits)<;>(with_reducible rfl);(try refine nm ?_))|(refine aM rfl rfl ?_;intro K hK)|(refine wpT_late rfl rfl ?_;intro K hK)|(refine wpT_any rfl rfl ?_;intro K hK)|(refine wpT_skip rfl rfl ?_;(try refine nm ?_)))
       go_ret
       rw[HR9.out]
       exact⟨rfl,HS.out.below⟩
      | true =>
       have B2:=aA b2
       rw[b2] at hbk
       subst hbk
       clear b2
       rename_i b2
       refine aD [(0,1),(1,0),(2,1),(3,1),(4,0),(5,1),(6,1),(7,1),(8,1),(9,1),(10,1),(11,1),(12,1),(13,0),(14,1),(15,0),(16,1),(19,1),(20,0),(17,2),(18,2),(21,2),(22,1),(23,1),(24,1)] Bt Bt (fun _ _ _ _ h=>h) ?_
       have HS:=aA HS.out.drew
       clear q0 q1 q2 q3 q4
       generalize wv.drew=wd at HS ⊢
       have q0:_=some (Value.slice E1 y1.length f1):=HS.out.cell 0 rfl 0
       have q1:_=some (Value.slice E2 y2.length f2):=HS.out.cell 0 rfl 1
       have q2:_=some (Value.slice E3 y3.length f3):=HS.out.cell 0 rfl 2
       have q3:_=some (Value.slice E4 y4.length f4):=HS.out.cell 0 rfl 3
       have q4:_=some (Value.slice E5 y5.length f5):=HS.out.cell 0 rfl 4
       have hbA:=(Below.refl wd.heap.size wd).alloc (Nat.le_refl _) (.cells #[.slice E1 y1.length f1,.slice B y.length d] 22)
       have KK0:=True.intro
       go_wp2_with (first
        |(clear KK1;go_at_call 72;(with_reducible refine(eV _ _ _ _ _ _ _ _ _ _ _ _ _ rfl HM2.out rfl An An (HE4.out.below HS.out.below) (HS.out.rd 0 rfl) (HE5.out.below HS.out.below)).mono ?_);rintro e wz ⟨rfl,hb⟩;rw[B2.out];have HS:=aA (HS.out.call hb).tail;clear q0 q1 q2 q3 q4;have q1:_=some (Value.slice E2 y2.length f2):=HS.out.cell 0 rfl 1;have KK2:=True.intro)
        |(clear KK0;go_at_call 45;(with_reducible refine(join23_2 _ rfl rfl An (HE1.out.below HS.out.below) (HB.out.below HS.out.below)).mono ?_);rintro e wm2 ⟨Bm2,dm2,rfl,hb,ho⟩;have HS:=aA ((HS.out.skip _).row hb ho);clear ho q0 q1 q2 q3 q4;have q0:_=some (Value.slice E1 y1.length f1):=HS.out.cell 1 rfl 0;have q1:_=some (Value.slice E2 y2.length f2):=HS.out.cell 1 rfl 1;have q2:_=some (Value.slice E3 y3.length f3):=HS.out.cell 1 rfl 2;have q3:_=some (Value.slice E4 y4.length f4):=HS.out.cell 1 rfl 3;have q4:_=some (Value.slice E5 y5.length f5):=HS.out.cell 1 rfl 4;have KK1:=True.intro)
        |(refine wpT_nil ?_)|((with_reducible refine fromT_refl ?_);(try refine nm ?_))|((with_reducible refine aE Df ?_);(try refine nm ?_))|(refine aI (v:=?_) rfl rfl ?_ ?_;rotate_left;(intro wx;go_simp;try go_bits)<;>(with_reducible rfl);(try refine nm ?_))|(refine aK (v:=?_) rfl rfl rfl ?_ ?_;rotate_left;(go_simp;try go_bits)<;>(with_reducible rfl);(try refine nm ?_))|(refine aL (v:=?_) rfl rfl ?_ ?_;rotate_left;(intro wx hx;go_simp;try go_bits)<;>(with_reducible rfl);(try refine nm ?_))|(refine aM rfl rfl ?_;intro K hK)|(refine wpT_late rfl rfl ?_;intro K hK)|(refine wpT_any rfl rfl ?_;intro K hK)|(refine wpT_skip rfl rfl ?_;(try refine nm ?_)))
       go_roundw
       case rel=>exact⟨k+1,E2,f2,y2,An,Cg,rfl,b2,aA (HF.out.trans ((if_pos rfl).trans rfl)),HE2,aA HS.out.tail⟩
       case measure=>(simp[intOf])<;>omega
  ·obtain rfl:k=n+1:=by omega
   have e0:decide (((n+1:Nat):Int)<(n:Int)+1)=false:=B0
   have e0a:decide ((n:Int)+1<(n:Int)+1)=false:=B0
   have e0':decide (n+1<n+1)=false:=B0
   have HR0:Hid (res=if endOK ⟨l1,l.map Sg.p,l2,l3⟩ zl.p=true then 0 else 9):=aA (by
    rw[HV.out,HF.out,List.drop_of_length_le Em]
    rfl)
   rw[HE.out] at HR0
   obtain⟨b,o,rfl,hb8,hc⟩:=sg_at HR.out HZ.out
   obtain⟨k0,k1,k2,k3,k4⟩:=hc _ HS.out.below
   have hok:=HOK.out zl (mG HZ.out)
   have hs:=HSS.out zl (mG HZ.out)
   clear HZ hc
   obtain⟨⟨E1,f1,y1⟩,⟨E2,f2,y2⟩,⟨E3,f3,y3⟩,⟨E4,f4,y4⟩,⟨E5,f5,y5⟩⟩:=zl
   obtain⟨b1,b2,b3,b4,b5⟩:=(show y1.length≤660∧y2.length≤660∧y3.length≤660∧y4.length≤660∧y5.length≤660 from hs)
   have HE1:Hid (Rd w (.slice E1 y1.length f1) 1 y1.length (bvs y1)):=aA hok.b
   have HE2:Hid (Rd w (.slice E2 y2.length f2) 1 y2.length (bvs y2)):=aA hok.n
   have HE3:Hid (Rd w (.slice E3 y3.length f3) 1 y3.length (bvs y3)):=aA hok.s
   replace HR0:Hid (res=if (if 0<m2 then decide (m3=0)&&(decide (m2=32)&&decide (cA l2=y2)) else dX y2 (y1++(y2++y3)) l3)=true then 0 else 9):=HR0
   have HM:=aA (dK (rfl:y1.length=_) (rfl:y2.length=_) (rfl:y3.length=_))
   have t1:_=some (Value.slice (some ⟨b,o,none⟩) (n+1) c):=HS.out.cell 0 rfl 1
   have en:((n+1:Nat):Int) - 1=(n:Int):=An
   have en2:(n:Int)+1 - 1=(n:Int):=An
   have nn:(n:Int)<(n:Int)+1:=An
   have nn2:n<n+1:=An
   have nn3:decide ((n:Int)<(n:Int)+1)=true:=A9
   have nn4:decide (n<n+1)=true:=B0
   clear hok hs
   go_upto_region 18 with(refine wl_storeC rfl rfl (HS.out.alloc _ _) 0 rfl (vs:=[.slice E1 y1.length f1,.slice E2 y2.length f2,.slice E3 y3.length f3,.slice E4 y4.length f4,.slice E5 y5.length f5]) szSigned (Nat.le_refl _) rfl rfl fE ?_;intro w5 hS5;have HS5:=aA hS5;clear hS5)
   have HS:Hid (St w NoB w5 (.cells wr.heap.size #[.slice E1 y1.length f1,.slice E2 y2.length f2,.slice E3 y3.length f3,.slice E4 y4.length f4,.slice E5 y5.length f5] 32::.cells w.heap.size #[.slice A1 l1.length c1,.slice (some ⟨b,o,none⟩) (n+1) c,.slice A2 m2 c2,.slice A3 m3 c3] 26::[])):=HS5
   clear HS5 t1 k0 k1 k2 k3 k4 hb8 en en2 nn nn2 nn3 nn4
   have t2:_=some (Value.slice A2 m2 c2):=HS.out.cell 1 rfl 2
   by_cases h0:m2=0
   ·subst h0
    rw[if_neg (Nat.lt_irrefl 0)] at HR0
    cases bz:dX y2 (y1++(y2++y3)) l3
    all_goals
     have BZ:=aA bz
     rw[bz] at HR0
     clear bz
     go_upto_region 22 with fail
     refine aD [(0,1),(1,0),(2,1),(3,0),(4,1),(5,0),(6,1),(7,0),(10,1),(11,0),(8,2),(9,2),(12,2),(13,1)] Bt Bt (fun _ _ _ _ h=>h) ?_
     have HS:=aA HS.out.drew
     clear t2
     generalize w5.drew=w6 at HS ⊢
     have t3:_=some (Value.slice A3 m3 c3):=HS.out.cell 1 rfl 3
     have q0:_=some (Value.slice E1 y1.length f1):=HS.out.cell 0 rfl 0
     have q1:_=some (Value.slice E2 y2.length f2):=HS.out.cell 0 rfl 1
     have q2:_=some (Value.slice E3 y3.length f3):=HS.out.cell 0 rfl 2
     have hbA:=(Below.refl w6.heap.size w6).alloc (Nat.le_refl _) (.cells #[.slice E1 y1.length f1,.slice E2 y2.length f2,.slice E3 y3.length f3] 22)
     have KK0:=True.intro
     go_wp2_with (first
      |(clear KK1;go_at_call 72;(with_reducible refine(eV _ _ _ _ _ _ _ _ _ _ _ _ _ rfl HM.out HL3.out An An (HE2.out.below HS.out.below) (HS.out.rd 0 rfl) (HR3.out.below HS.out.below)).mono ?_);rintro e wv ⟨rfl,hb⟩;rw[BZ.out];have HS:=aA (HS.out.call hb);have KK2:=True.intro)
      |(clear KK0;go_at_call 45;(with_reducible refine(join23_3 _ rfl rfl rfl An (HE1.out.below HS.out.below) (HE2.out.below HS.out.below) (HE3.out.below HS.out.below)).mono ?_);rintro e wm ⟨Bm,dm,rfl,hb,ho⟩;have HS:=aA ((HS.out.skip _).row hb ho);clear ho;have KK1:=True.intro)
      |(refine wpT_nil ?_)|((with_reducible refine fromT_refl ?_);(try refine nm ?_))|((with_reducible refine aE Df ?_);(try refine nm ?_))|(refine aI (v:=?_) rfl rfl ?_ ?_;rotate_left;(intro wx;go_simp;try go_bits)<;>(with_reducible rfl);(try refine nm ?_))|(refine aK (v:=?_) rfl rfl rfl ?_ ?_;rotate_left;(go_simp;try go_bits)<;>(with_reducible rfl);(try refine nm ?_))|(refine aL (v:=?_) rfl rfl ?_ ?_;rotate_left;(intro wx hx;go_simp;try go_bits)<;>(with_reducible rfl);(try refine nm ?_))|(refine aM rfl rfl ?_;intro K hK)|(refine wpT_late rfl rfl ?_;intro K hK)|(refine wpT_any rfl rfl ?_;intro K hK)|(refine wpT_skip rfl rfl ?_;(try refine nm ?_)))
     go_ret
     rw[HR0.out]
     exact⟨rfl,HS.out.below⟩
   ·rw[if_pos (show 0<m2 by omega)] at HR0
    have g0:decide ((0:Int)<(m2:Int))=true:=A9
    have g0':decide (0<m2)=true:=A9
    go_upto_region 19 with fail
    refine aD [(0,1),(1,0),(2,1),(3,1),(4,1),(5,1),(6,0),(7,2),(8,1),(9,1),(10,1),(11,1),(12,0),(15,1),(16,0),(17,0),(13,2),(14,0),(18,1),(19,1)] Bt Bt (fun _ _ _ _ h=>h) ?_
    have HS:=aA HS.out.drew
    clear t2
    generalize w5.drew=w6 at HS ⊢
    have t2:_=some (Value.slice A2 m2 c2):=HS.out.cell 1 rfl 2
    have t3:_=some (Value.slice A3 m3 c3):=HS.out.cell 1 rfl 3
    have q1:_=some (Value.slice E2 y2.length f2):=HS.out.cell 0 rfl 1
    by_cases h3:m3=0
    ·subst h3
     by_cases h32:m2=32
     ·subst h32
      rw[decide_eq_true (rfl:0=0),decide_eq_true (rfl:32=32),Bool.true_and,Bool.true_and] at HR0
      obtain⟨kp,hK⟩:∃kp,cA l2=kp:=⟨_,rfl⟩
      rw[hK] at HR0
      have HP:=aA (fun W (hW:Rd W (.slice A2 32 c2) 1 32 (bvs l2))=>hK▸pubR_32 A2 c2 l2 W HL2.out hW)
      clear hK
      by_cases hq:kp=y2
      ·subst hq
       rw[decide_eq_true rfl] at HR0
       have cv2:=fun x (hx:aC w6 x)=>aY (P:=Tryz.prog) Tryz.underlying22 Tryz.underlying5 Tryz.underlying9 ((HE2.out.below HS.out.below).below hx)
       have KK0:=True.intro
       go_wp2_with (first
        |(clear KK0;go_at_call 46;(with_reducible refine(HP.out _ (HR2.out.below HS.out.below)).mono ?_);rintro e wp ⟨Bp,dp,rfl,hb,ho⟩;have HS:=aA (HS.out.row hb ho);clear ho q1;have q1:_=some (Value.slice E2 kp.length f2):=HS.out.cell 1 rfl 1;have cv1:=fun x (hx:aC wp x)=>aY (P:=Tryz.prog) Tryz.underlying22 Tryz.underlying5 Tryz.underlying9 ((HS.out.rd 0 rfl).below hx);clear cv2;have KK1:=True.intro)
        |(go_at_call 44;(with_reducible refine(seed23_yes _ _ _).mono ?_);rintro e wy ⟨rfl,rfl⟩;have hb:=Below.refl w6.heap.size w6)
        |(refine wpT_nil ?_)|((with_reducible refine fromT_refl ?_);(try refine nm ?_))|((with_reducible refine aE Df ?_);(try refine nm ?_))|(refine aI (v:=?_) rfl rfl ?_ ?_;rotate_left;(intro wx;go_simp;try go_bits)<;>(with_reducible rfl);(try refine nm ?_))|(refine aK (v:=?_) rfl rfl rfl ?_ ?_;rotate_left;(go_simp;try go_bits)<;>(with_reducible rfl);(try refine nm ?_))|(refine aL (v:=?_) rfl rfl ?_ ?_;rotate_left;(intro wx hx;go_simp;try go_bits)<;>(with_reducible rfl);(try refine nm ?_))|(refine aM rfl rfl ?_;intro K hK)|(refine wpT_late rfl rfl ?_;intro K hK)|(refine wpT_any rfl rfl ?_;intro K hK)|(refine wpT_skip rfl rfl ?_;(try refine nm ?_)))
       go_ret
       rw[HR0.out]
       exact⟨rfl,HS.out.below⟩
      ·rw[decide_eq_false hq] at HR0
       have hq2:=bne_no hq
       clear hq
       have cv2:=fun x (hx:aC w6 x)=>aY (P:=Tryz.prog) Tryz.underlying22 Tryz.underlying5 Tryz.underlying9 ((HE2.out.below HS.out.below).below hx)
       have KK0:=True.intro
       go_wp2_with (first
        |(clear KK0;go_at_call 46;(with_reducible refine(HP.out _ (HR2.out.below HS.out.below)).mono ?_);rintro e wp ⟨Bp,dp,rfl,hb,ho⟩;have HS:=aA (HS.out.row hb ho);clear ho q1;have q1:_=some (Value.slice E2 y2.length f2):=HS.out.cell 1 rfl 1;have cv1:=fun x (hx:aC wp x)=>aY (P:=Tryz.prog) Tryz.underlying22 Tryz.underlying5 Tryz.underlying9 ((HS.out.rd 0 rfl).below hx);clear cv2;have KK1:=True.intro)
        |(go_at_call 44;(with_reducible refine(seed23_yes _ _ _).mono ?_);rintro e wy ⟨rfl,rfl⟩;have hb:=Below.refl w6.heap.size w6)
        |(refine wpT_nil ?_)|((with_reducible refine fromT_refl ?_);(try refine nm ?_))|((with_reducible refine aE Df ?_);(try refine nm ?_))|(refine aI (v:=?_) rfl rfl ?_ ?_;rotate_left;(intro wx;go_simp;try go_bits)<;>(with_reducible rfl);(try refine nm ?_))|(refine aK (v:=?_) rfl rfl rfl ?_ ?_;rotate_left;(go_simp;try go_bits)<;>(with_reducible rfl);(try refine nm ?_))|(refine aL (v:=?_) rfl rfl ?_ ?_;rotate_left;(intro wx hx;go_simp;try go_bits)<;>(with_reducible rfl);(try refine nm ?_))|(refine aM rfl rfl ?_;intro K hK)|(refine wpT_late rfl rfl ?_;intro K hK)|(refine wpT_any rfl rfl ?_;intro K hK)|(refine wpT_skip rfl rfl ?_;(try refine nm ?_)))
       go_ret
       rw[HR0.out]
       exact⟨rfl,HS.out.below⟩
     ·rw[decide_eq_false h32,Bool.false_and,Bool.and_false] at HR0
      go_wp2_with (first
       |(go_at_call 44;(with_reducible refine(seed23_no _ _ _ _ h32).mono ?_);rintro e wy ⟨rfl,rfl⟩;have hb:=Below.refl w6.heap.size w6)
       |(refine wpT_nil ?_)|((with_reducible refine fromT_refl ?_);(try refine nm ?_))|((with_reducible refine aE Df ?_);(try refine nm ?_))|(refine aI (v:=?_) rfl rfl ?_ ?_;rotate_left;(intro wx;go_simp;try go_bits)<;>(with_reducible rfl);(try refine nm ?_))|(refine aK (v:=?_) rfl rfl rfl ?_ ?_;rotate_left;(go_simp;try go_bits)<;>(with_reducible rfl);(try refine nm ?_))|(refine aL (v:=?_) rfl rfl ?_ ?_;rotate_left;(intro wx hx;go_simp;try go_bits)<;>(with_reducible rfl);(try refine nm ?_))|(refine aM rfl rfl ?_;intro K hK)|(refine wpT_late rfl rfl ?_;intro K hK)|(refine wpT_any rfl rfl ?_;intro K hK)|(refine wpT_skip rfl rfl ?_;(try refine nm ?_)))
      go_ret
      rw[HR0.out]
      exact⟨rfl,HS.out.below⟩
    ·rw[decide_eq_false h3,Bool.false_and] at HR0
     have g3:decide ((0:Int)<(m3:Int))=true:=A9
     have g3':decide (0<m3)=true:=A9
     go_wp2_with (first|(refine wpT_nil ?_)|((with_reducible refine fromT_refl ?_);(try refine nm ?_))|((with_reducible refine aE Df ?_);(try refine nm ?_))|(refine aI (v:=?_) rfl rfl ?_ ?_;rotate_left;(intro wx;go_simp;try go_bits)<;>(with_reducible rfl);(try refine nm ?_))|(refine aK (v:=?_) rfl rfl rfl ?_ ?_;rotate_left;(go_simp;try go_bits)<;>(with_reducible rfl);(try refine nm ?_))|(refine aL (v:=?_) rfl rfl ?_ ?_;rotate_left;(intro wx hx;go_simp;try go_bits)<;>(with_reducible rfl);(try refine nm ?_))|(refine aM rfl rfl ?_;intro K hK)|(refine wpT_late rfl rfl ?_;intro K hK)|(refine wpT_any rfl rfl ?_;intro K hK)|(refine wpT_skip rfl rfl ?_;(try refine nm ?_)))
     go_ret
     rw[HR0.out]
     exact⟨rfl,HS.out.below⟩
end Go.Proofs.YtnohmgpmmhlloaaGreatDoor
namespace Go.Proofs.YtnohmgpmmhlloaaGreatDoor.S6
open Go.RowKit
def Sp.le (x:Sp)(q:Nat):Prop:=x.b.length≤q∧x.n.length≤q∧x.s.length≤q∧x.k.length≤q∧x.v.length≤q
structure TpLe (p:Tp)(q:Nat):Prop where
 r:p.r.length≤q
 e:p.e.length≤q
 z:p.z.length≤q
 l:∀x∈p.l,Sp.le x q
theorem tpLe0 (q:Nat):TpLe tp0 q:=⟨Nat.zero_le _,Nat.zero_le _,Nat.zero_le _,fun _ h=>absurd h List.not_mem_nil⟩
theorem look_le {q:Nat}{fs:List FdV}(h:∀f∈fs,f.b.length≤q)(j:Nat):(look fs j).length≤q:=by
 unfold look
 split
 ·rename_i f hf
  exact h f (List.mem_of_find?_eq_some hf)
 ·exact Nat.zero_le _
theorem sgB_le {q:Nat}{b:List UInt8}{x:Sp}(hb:b.length≤q)(hq:q≤65536)(h:sgB b=.ok x):Sp.le x q:=by
 unfold sgB at h
 cases hf:fds b with
 | bad k=>rw[hf] at h;cases h
 | ok fs =>
  rw[hf] at h
  have hl:∀f∈fs,f.b.length≤q:=fun f hm=>Nat.le_trans ((fds_inv b.length b fs (Nat.le_refl _) An hf).2 f hm).2 hb
  replace h:(match sgR fs with|none=>SgQ.bad 3|some x=>.ok x)=.ok x:=h
  cases hs:sgR fs with
  | none=>rw[hs] at h;cases h
  | some y =>
   rw[hs] at h
   injection h with h
   subst h
   unfold sgR at hs
   split at hs
   ·injection hs with hs
    subst hs
    exact⟨look_le hl 1,look_le hl 2,look_le hl 3,look_le hl 4,look_le hl 5⟩
   ·cases hs
theorem tkF_le {q:Nat}(hq:q≤65536):∀(fs:List FdV) (last:Nat) (t:Tp),(∀f∈fs,f.b.length≤q)→TpLe t q→TpLe (tkF last t fs).p q
 | [],_,_,_,ht=>ht
 | f::fs,last,t,h,ht=>by
  have hf:=h f (List.mem_cons_self ..)
  have hr:=fun g hg=>h g (mC f hg)
  unfold tkF
  split
  ·exact tpLe0 q
  ·split
   ·cases hs:sgB f.b with
    | bad k=>exact tpLe0 q
    | ok x =>
     refine tkF_le hq fs 1 _ hr ⟨ht.r,ht.e,ht.z,fun y hy=>?_⟩
     rcases List.mem_append.1 hy with hy|hy
     ·exact ht.l y hy
     ·obtain rfl:=List.mem_singleton.1 hy
      exact sgB_le hf hq hs
   ·split
    ·exact tkF_le hq fs 2 _ hr ⟨ht.r,hf,ht.z,ht.l⟩
    ·split
     ·exact tkF_le hq fs 3 _ hr ⟨ht.r,ht.e,hf,ht.l⟩
     ·exact tpLe0 q
theorem dec_le {q:Nat}{raw root:List UInt8}(hq:q≤65536)(hw:raw.length≤q)(hr:root.length≤q):TpLe (decRz raw root).p q∧((decRz raw root).c=0→0<(decRz raw root).p.l.length):=by
 unfold decRz
 cases hf:fds raw with
 | bad k=>exact⟨tpLe0 q,fun h=>by have:=fW raw k hf;replace h:k=0:=h;omega⟩
 | ok fs =>
  have hl:∀f∈fs,f.b.length≤q:=fun f hm=>Nat.le_trans ((fds_inv raw.length raw fs (Nat.le_refl _) An hf).2 f hm).2 hw
  have ht:=tkF_le hq fs 0 ⟨root,[],[],[]⟩ hl ⟨hr,Nat.zero_le _,Nat.zero_le _,fun _ h=>absurd h List.not_mem_nil⟩
  show TpLe (if _ then _ else if _ then _ else _:Rz).p q∧((if _ then _ else if _ then _ else _:Rz).c=0→0<(if _ then _ else if _ then _ else _:Rz).p.l.length)
  split
  ·rename_i h0
   exact⟨tpLe0 q,fun h=>absurd h h0⟩
  ·split
   ·exact⟨tpLe0 q,fun h=>absurd h Bz⟩
   ·exact⟨ht,fun _=>by show 0<(tkF 0 ⟨root,[],[],[]⟩ fs).p.l.length;omega⟩
structure BentT (root:List UInt8)(p:Tp):Prop where
 few:p.few
 r:p.r=root
 len:p.l.length=1
 tiny:Tiny p
 q:(encL p).length≤660
 pos:0<(encL p).length
theorem encL_pos {p:Tp}(h:p.l.length=1)(ht:Tiny p):0<(encL p).length:=by
 obtain⟨r,l,e,z⟩:=p
 obtain⟨x,rfl⟩:∃x,l=[x]:=List.length_eq_one_iff.1 h
 have h1:=tiny_enc (ht.l x (List.mem_singleton.2 rfl))
 have h2:=List.length_pos_iff.2 (putR_ne 1 (spEnc x) Bz An)
 unfold encL
 show 0<((blksL [x]++_)++_).length
 rw[List.length_append,List.length_append]
 unfold blksL
 rw[List.flatMap_cons,List.length_append]
 omega
theorem bent_of {root:List UInt8}{p:Tp}(hr:root.length≤200)(h1:p.r=root)(h2:p.l.length=1)(h5:∀x∈p.l,x.b.length≤200∧x.n.length≤32∧x.s.length≤64∧x.k.length≤32∧x.v.length≤64)(h6:p.e.length+p.z.length≤100):BentT root p:=by
 have ht:Tiny p:=⟨An,An,An,An,fun x hx=>by obtain⟨a,b,c,d,e⟩:=h5 x hx;exact⟨An,An,An,An,An⟩⟩
 refine⟨⟨by rw[h1];exact hr,An,An,An,fun x hx=>?_⟩,h1,h2,ht,?_,encL_pos h2 ht⟩
 ·obtain⟨a,b,c,d,e⟩:=h5 x hx
  exact⟨An,An,An,An,An⟩
 ·have:=encL_le p
  have:=tot_le p.l h5
  omega
theorem bent_issue {root first:List UInt8}{p:Tp}(h:GN root first 0 p)(hr:root.length≤200):BentT root p:=
 bent_of hr h.r h.len h.sm (by rw[h.good.e,h.good.z];decide)
theorem bent_seal {root first:List UInt8}{p:Tp}(h:GN root first 0 p)(hr:root.length≤200):∃p',sealRz p=⟨0,p'⟩∧BentT root p'∧p'.e.length=0∧p'.z.length=64:=by
 obtain⟨z,hz,hzn⟩:=h.good.last
 have h64:(sealK p z).z.length=64:=eW _ _
 refine⟨sealK p z,?_,bent_of hr h.r h.len h.sm (by rw[h64];show 0+64≤100;decide),rfl,h64⟩
 unfold sealRz
 rw[hz]
 show(if p.e.length≠32 then _ else _)=_
 rw[if_neg (by rw[h.good.e];omega)]
section
variable {w0 w : World} {M : Nat → Prop} {H : List Chunk} {p : Tp} {B1 X B2 B3 V1 Y V2 V3 : Option Addr} {m1 d1 n x m2 d2 m3 d3 M1 e1 N y M2 e2 M3 e3 : Nat}
theorem sameR_bent (hS:St w0 M w H)(hL:Laid H p B1 m1 d1 X n x B2 m2 d2 B3 m3 d3)(hL2:Laid H p V1 M1 e1 Y N y V2 M2 e2 V3 M3 e3)(hn:n≤1000)(hN:N≤1000) :
  Calls Tryz.prog 14 #[.agg #[.slice B1 m1 d1,.slice X n x,.slice B2 m2 d2,.slice B3 m3 d3],.agg #[.slice V1 M1 e1,.slice Y N y,.slice V2 M2 e2,.slice V3 M3 e3]] w fun e w'=>e=.returned (.bool true)∧Below w.heap.size w w':=by
 obtain⟨zs,hz,hi⟩:=laid_in0 hS hL
 obtain⟨ys,hy,hj⟩:=laid_in0 hS hL2
 exact sameRQ _ _ _ _ _ _ _ _ _ _ _ _ _ _ _ _ _ _ _ _ _ _ _ _ _ _ _ _ _ _ _ _ w hi hj hn hN (sameTp_yes (by rw[hz,hy]))
theorem verify_bent {c:Nat}(hS:St w0 M w H)(hL:Laid H p B1 m1 d1 X n x B2 m2 d2 B3 m3 d3)(ht:TpLe p 660)(h0:0<n)(h8:n≤8)(hc:verT p=c) :
  Calls Tryz.prog 29 #[.agg #[.slice B1 m1 d1,.slice X n x,.slice B2 m2 d2,.slice B3 m3 d3]] w fun e w'=>e=.returned (.int .i64 (c:Int))∧Below w.heap.size w w':=by
 obtain⟨zs,a1,a2,a3,a4,a5,r1,r2,r3,r4,hok⟩:=hL.open hS
 obtain⟨pr,pl,pe,pz⟩:=p
 subst a2
 obtain⟨k,rfl⟩:∃k,n=k+1:=⟨n - 1,An⟩
 have h:=verify24_any B1 B2 B3 X m1 m2 m3 k d1 d2 d3 x pr pe pz zs w a3 a4 a5 a1 An (by rw[←a3];exact Nat.le_trans ht.r Bz) (by rw[←a4];exact Nat.le_trans ht.e Bz) (by rw[←a5];exact Nat.le_trans ht.z Bz) r1 r2 r3 r4 hok (fun x hx=>by obtain⟨a,b,c,d,e⟩:=ht.l _ (List.mem_map_of_mem hx);exact⟨An,An,An,An,An⟩)
 rw[hc] at h
 exact h
theorem verifyR_bent {c:Nat}(hS:St w0 M w H)(hL:Laid H p B1 m1 d1 X n x B2 m2 d2 B3 m3 d3)(ht:TpLe p 660)(h0:0<n)(h8:n≤8)(hc:verT p=c) :
  Calls Tryz.prog 30 #[.agg #[.slice B1 m1 d1,.slice X n x,.slice B2 m2 d2,.slice B3 m3 d3]] w fun e w'=>e=.returned (.int .i64 (c:Int))∧Below w.heap.size w w':=by
 obtain⟨zs,a1,a2,a3,a4,a5,r1,r2,r3,r4,hok⟩:=hL.open hS
 obtain⟨pr,pl,pe,pz⟩:=p
 subst a2
 obtain⟨k,rfl⟩:∃k,n=k+1:=⟨n - 1,An⟩
 have h:=verifyR24_any B1 B2 B3 X m1 m2 m3 k d1 d2 d3 x pr pe pz zs w a3 a4 a5 a1 An (by rw[←a3];exact ht.r) (by rw[←a4];exact ht.e) (by rw[←a5];exact ht.z) r1 r2 r3 r4 hok (fun x hx=>ht.l _ (List.mem_map_of_mem hx))
 rw[hc] at h
 exact h
end
theorem idx_b (z:Int)(n:Nat)(h0:0<n)(hn:n≤1000000):∃j:Nat,j<n∧wrap64 ((IntKind.u64.wrap z).tmod (n:Int))=(j:Int):=by
 have h:=IntKind.wrap_u64 z
 refine⟨(z%18446744073709551616%n).toNat,?_,?_⟩
 ·have:=Int.emod_lt_of_pos (z%18446744073709551616) (show(0:Int)<n by omega)
  have:=Int.emod_nonneg (z%18446744073709551616) (show(n:Int)≠0 by omega)
  omega
 ·rw[h,Int.tmod_eq_emod_of_nonneg An]
  have h1:=Int.emod_lt_of_pos (z%18446744073709551616) (show(0:Int)<n by omega)
  have h2:=Int.emod_nonneg (z%18446744073709551616) (show(n:Int)≠0 by omega)
  rw[IntWalk.wrap64_in _ An]
  omega
theorem xor_b (a x:Nat)(ha:a<256)(hx:x<256):∃m:Nat,m<256∧bits .xor .u8 (a:Int) (x:Int)=(m:Int):=
 ⟨a ^^^ x,Nat.xor_lt_two_pow (n:=8) ha hx,u8_xor_nat a x ha hx⟩
theorem bvs_setb (l:List UInt8)(j m:Nat)(hm:m<256):(bvs l).set j (.int .u8 (m:Int))=bvs (l.set j (UInt8.ofNat m)):=by
 unfold bvs
 rw[List.map_set,bv,ofNat_toNat m hm]
theorem b_u8_1 (p:UInt8):((p.toNat:Int)+1)%256=((p+1).toNat:Int):=by
 rw[UInt8.toNat_add]
 have:(1:UInt8).toNat=1:=rfl
 omega
theorem b_seed_1 (p:UInt8)(w:World):Calls Tryz.prog 10 #[.int .u8 (((p.toNat:Int)+1)%256)] w (BN 32 w (seedW (p+1))):=by
 rw[b_u8_1]
 exact seed24_any (p+1) w
theorem rd_cutb {W:World}{A:Option Addr}{q d m:Nat}{L raw:List UInt8}(h:Rd W (.slice A q d) 1 q (bvs L))(hm:m≤q)(hr:L.take m=raw):Rd W (.slice A m d) 1 m (bvs raw):=hr▸rd_take h m hm
theorem root_rd {w0 w:World}{M:Nat→Prop}{H:List Chunk}{p:Tp}{B1 X B2 B3:Option Addr}{m1 d1 n x m2 d2 m3 d3:Nat}{root:List UInt8}(hS:St w0 M w H)(hL:Laid H p B1 m1 d1 X n x B2 m2 d2 B3 m3 d3)(hr:p.r=root):Rd w (.slice B1 m1 d1) 1 m1 (bvs root):=by
 obtain⟨zs,a1,a2,a3,a4,a5,r1,r2,r3,r4,hok⟩:=hL.open hS
 rw[←hr]
 exact r1
theorem chainBent_walk (p:UInt8)(A1:Option Addr)(n1 c1:Nat)(l1:List UInt8)(Ap:Option Addr)(np cp:Nat)(zs:List Int)(x:Nat)(cut:Int)(se:Bool)(w:World)
  (hl1:l1.length=n1)(hzs:zs.length=np)(hx:x<256)(hr1:Rd w (.slice A1 n1 c1) 1 n1 (bvs l1))(hrp:Rd w (.slice Ap np cp) 1 np (zs.map (Value.int .i64))) :
  Calls Tryz.prog 6 #[.int .u8 (p.toNat:Int),.slice A1 n1 c1,.slice Ap np cp,.int .u8 (x:Int),.int .i64 cut,.bool se] w fun e w'=>e=.returned (.bool true)∧Below w.heap.size w w':=by
 have HS:=aA (St.init w NoB)
 have HL1:=aA hl1
 have HZS:=aA hzs
 have HR1:=aA hr1
 have HRP:=aA hrp
 have hnp:np≤maxLen:=hrp.le
 unfold maxLen at hnp
 clear hl1 hzs hr1 hrp
 by_cases h1:100<n1
 ·have q1:decide ((100:Int)<(n1:Int))=true:=by simp;omega
  clear h1
  go_enter Tryz.func6,Tryz.ntmps6
  go_wp2_with (go_at_call 8;(with_reducible refine(awake24_any _).mono ?_);rintro e wy ⟨rfl,hb⟩;have HS:=aA (HS.out.call hb))
  go_ret
  exact⟨rfl,HS.out.below⟩
 have q1:decide ((100:Int)<(n1:Int))=false:=A9
 have SD0:=aA (fun w=>seed24_any p w)
 have SD1:=aA (fun w=>b_seed_1 p w)
 obtain⟨root,hroot⟩:∃r,cA (seedW p)=r:=⟨_,rfl⟩
 have HRL:=aA (show root.length=32 by rw[←hroot];exact cM _)
 have HG0:=aA (gn_issue (seedW p) (seedW (p+1)) l1 (fI _) (fI _) (by rw[HL1.out];omega))
 rw[hroot] at HG0
 clear hroot
 go_enter Tryz.func6,Tryz.ntmps6
 have KK0:=True.intro
 go_upto_region 4 with(first
  |(clear KK3;refine wl_storeC rfl rfl (HS.out.alloc _ _) 0 rfl (vs:=[.slice B1 32 d1,.slice X 1 s,.slice B2 32 d2,.slice B3 0 d3]) szToken (Nat.le_refl _) rfl rfl dR ?_;intro w7 hS7;have HS:=aA hS7;clear hS7;have KK4:=True.intro)
  |(clear KK2;go_at_call 9;(with_reducible refine(issue_in _ (fI _) (fI _) HL1.out An (HS.out.rd 1 rfl) (HS.out.rd 0 rfl) (HR1.out.below HS.out.below)).mono ?_);rintro e w6 ⟨B1,d1,X,s,B2,d2,B3,d3,G,rfl,hL,hS2⟩;have HL:=aA hL;have HS:=aA (St.rot _ _ (HS.out.join hS2));clear hL hS2;have KK3:=True.intro)
  |(clear KK1;go_at_call 10;(with_reducible refine(SD1.out _).mono ?_);rintro e wy ⟨b2,f2,rfl,hb,ho⟩;have HS:=aA (HS.out.row hb ho);clear ho hb;have KK2:=True.intro)
  |(clear KK0;go_at_call 10;(with_reducible refine(SD0.out _).mono ?_);rintro e wy ⟨b1,f1,rfl,hb,ho⟩;have HS:=aA (HS.out.row hb ho);clear ho hb;have KK1:=True.intro))
 generalize w6.heap.size=tb at HS ⊢
 have HS:Hid (St w NoB w7 (.cells tb #[.slice B1 32 d1,.slice X 1 s,.slice B2 32 d2,.slice B3 0 d3] 26::.row (.slice b2 32 f2) 5 1 32 (bvs (seedW (p+1)))::.row (.slice b1 32 f1) 5 1 32 (bvs (seedW p))::G)):=HS
 have HL:=aA (HL.out.mono (G':=.row (.slice b2 32 f2) 5 1 32 (bvs (seedW (p+1)))::.row (.slice b1 32 f1) 5 1 32 (bvs (seedW p))::G) (fun c hc=>mC _ (mC _ hc)))
 generalize .row (.slice b2 32 f2) 5 1 32 (bvs (seedW (p+1)))::.row (.slice b1 32 f1) 5 1 32 (bvs (seedW p))::G=G0 at HS HL
 generalize issueK (seedW p) (seedW (p+1)) l1=P at HL HG0
 have t0:_=some (Value.slice B1 32 d1):=HS.out.cell 0 rfl 0
 have t1:_=some (Value.slice X 1 s):=HS.out.cell 0 rfl 1
 have t2:_=some (Value.slice B2 32 d2):=HS.out.cell 0 rfl 2
 have t3:_=some (Value.slice B3 0 d3):=HS.out.cell 0 rfl 3
 clear SD0 SD1 KK4
 cases se
 case' true =>
  obtain⟨P2,hrz,hend,h23,h24⟩:=bent_seal HG0.out Fh
  have HFEW:=aA (bent_issue HG0.out Fh).few
  have HRZ:=aA hrz
  have HEND:=aA hend
  have H21:=aA (show P2.r.length=32 by rw[hend.r];exact HRL.out)
  have H23:=aA h23
  have H24:=aA h24
  clear hrz hend h23 h24
  have KK0:=True.intro
  go_upto_region 6 with(first
   |(clear KK1;refine wl_storeC rfl rfl HS.out 0 rfl (vs:=[.slice V1 32 e1,.slice Y 1 y,.slice V2 0 e2,.slice V3 64 e3]) szToken (Nat.le_refl _) rfl rfl dR ?_;intro wT hS9;have HS:=aA hS9;clear hS9;have KK2:=True.intro)
   |(clear KK0;go_at_call 19;(with_reducible refine(seal_in HS.out (HL.out.mono (fun c hc=>mC _ hc)) HFEW.out HRZ.out H21.out HEND.out.len H23.out H24.out).mono ?_);rintro e w8 ⟨V1,e1,Y,y,V2,e2,V3,e3,G2,rfl,hL2,hS2⟩;have HL2:=aA hL2;have HS:=aA (St.rot _ _ (HS.out.join hS2));clear hL2 hS2 t0 t1 t2 t3;have KK1:=True.intro))
  have HS:Hid (St w NoB wT (.cells tb #[.slice V1 32 e1,.slice Y 1 y,.slice V2 0 e2,.slice V3 64 e3] 26::(G0++G2))):=HS
  have HL:=aA (HL2.out.mono (G':=G0++G2) (fun c hc=>List.mem_append_right _ hc))
  generalize G0++G2=GT at HS HL
  obtain⟨me,hme⟩:∃q,q=0:=⟨_,rfl⟩
  obtain⟨mz,hmz⟩:∃q,q=64:=⟨_,rfl⟩
  have HS:Hid (St w NoB wT (.cells tb #[.slice V1 32 e1,.slice Y 1 y,.slice V2 me e2,.slice V3 mz e3] 26::GT)):=by subst hme hmz;exact HS
  have HL:Hid (Laid GT P2 V1 32 e1 Y 1 y V2 me e2 V3 mz e3):=by subst hme hmz;exact HL
  clear HL2 KK2 HRZ HFEW HG0 hme hmz H23 H24 H21
 case' false =>
  go_upto_region 6 with fail
  clear t0 t1 t2 t3
  obtain⟨me,hme⟩:∃q,q=32:=⟨_,rfl⟩
  obtain⟨mz,hmz⟩:∃q,q=0:=⟨_,rfl⟩
  have HEND:=aA (bent_issue HG0.out Fh)
  have HS:Hid (St w NoB w7 (.cells tb #[.slice B1 32 d1,.slice X 1 s,.slice B2 me d2,.slice B3 mz d3] 26::G0)):=by subst hme hmz;exact HS
  have HL:Hid (Laid G0 P B1 32 d1 X 1 s B2 me d2 B3 mz d3):=by subst hme hmz;exact HL
  clear hme hmz HG0
  generalize w7=wT at *
  generalize P=P2 at *
  generalize G0=GT at *
  generalize B1=V1 at *
  generalize d1=e1 at *
  generalize X=Y at *
  generalize s=y at *
  generalize B2=V2 at *
  generalize d2=e2 at *
  generalize B3=V3 at *
  generalize d3=e3 at *
 all_goals
  have t0:_=some (Value.slice V1 32 e1):=HS.out.cell 0 rfl 0
  have t1:_=some (Value.slice Y 1 y):=HS.out.cell 0 rfl 1
  have t2:_=some (Value.slice V2 me e2):=HS.out.cell 0 rfl 2
  have t3:_=some (Value.slice V3 mz e3):=HS.out.cell 0 rfl 3
  obtain⟨L,hLq⟩:∃L,encL P2=L:=⟨_,rfl⟩
  obtain⟨q,hq⟩:∃q,L.length=q:=⟨_,rfl⟩
  have HQE:=aA (show(encL P2).length=q by rw[hLq];exact hq)
  have HQ:=aA hq
  have hq6:q≤660:=by rw[←HQE.out];exact HEND.out.q
  have hq0:0<q:=by rw[←HQE.out];exact HEND.out.pos
  have HTI:=aA HEND.out.tiny
  have HRE:=aA HEND.out.r
  have HLE:=aA hLq
  have z0:((q:Int)==0)=false:=A9
  have z0':decide ((q:Int)=0)=false:=A9
  clear hq hLq
  have KK0:=True.intro
  go_upto_region 9 with(clear KK0;go_at_call 24;(with_reducible refine(encode_in HS.out (HL.out.mono (fun c hc=>mC _ hc)) HTI.out HQE.out An).mono ?_);rintro e w6 ⟨Be,de,rfl,hb,ho⟩;rw[HLE.out] at ho;have HS:=aA (HS.out.row hb ho);clear ho hb t0 t1 t2 t3;have KK1:=True.intro)
  obtain⟨g,c',hv,hcap,hcm,_⟩:=HS.out.rowOpen 0 rfl An
  injection hv with hB _ hd'
  subst hB hd'
  unfold maxLen at hcm
  clear HQE HLE HTI HEND KK1
  go_wp2_with fail
  go_loopw [57] (fun iv wr=>∃(k:Nat) (L:List UInt8),k≤np∧iv=.int .i64 (k:Int)∧Hid (L.length=q)∧Hid (St w NoB wr (.row (.slice (some ⟨g,0,none⟩) q de) 5 1 q (bvs L)::.cells tb #[.slice V1 32 e1,.slice Y 1 y,.slice V2 me e2,.slice V3 mz e3] 26::GT))) (fun iv _=>np - (intOf iv).toNat)
  case atStart=>exact⟨0,L,An,rfl,HQ,HS⟩
  case round =>
   clear HS HQ
   obtain⟨k,L,hk,rfl,HQ,HS⟩:=hrel
   by_cases hlt:k<np
   ·have e0:decide ((k:Int)<(np:Int))=true:=by simp;omega
    have e0':decide (k<np)=true:=A9
    have kn:(k:Int)<(np:Int):=An
    obtain⟨z,hz⟩:∃z,zs[k]?=some z:=⟨zs[k]'(by have:=HZS.out;omega),gE _⟩
    obtain⟨pb,po,hA,hcz⟩:=rd_cell (HRP.out.st HS.out) (show(zs.map (Value.int .i64))[k]?=some (.int .i64 z) by rw[List.getElem?_map,hz];rfl)
    subst hA
    obtain⟨j,hj,hjv⟩:=idx_b z q hq0 An
    obtain⟨g',c3,hv,_,_,hcs,hfr,hset⟩:=HS.out.rowOpen 0 rfl An
    injection hv with hB _ hd'
    injection hB with hB
    injection hB with hB
    subst hB hd'
    obtain⟨a,ha,ha2⟩:∃a:Nat,(bvs L)[j]?=some (.int .u8 (a:Int))∧a<256:=by
     have hjl:j<L.length:=by rw[HQ.out];exact hj
     exact⟨L[j].toNat,by simp[bvs,bv,gE hjl],UInt8.toNat_lt _⟩
    have hcj:wr.cell? ⟨g,j,none⟩=some (.int .u8 (a:Int)):=hcs j _ ha
    obtain⟨m,hm,hxor⟩:=xor_b a x ha2 hx
    have hfj:=hfr j
    have HS':=aA (hset j (.int .u8 (m:Int)) An)
    clear hset hcs hfr hz ha
    by_cases h3:k<3
    all_goals
     go_wp2_with fail
     go_roundw
     case rel =>
      first
      | exact⟨k+1,L,An,Cg,HQ,HS⟩
      |(refine⟨k+1,L.set j (UInt8.ofNat m),An,Cg,aA (by rw[List.length_set];exact HQ.out),aA ?_⟩
        rw[←bvs_setb L j m hm]
        exact HS'.out)
     case measure=>(simp[intOf])<;>omega
   ·obtain rfl:k=np:=by omega
    have e0:decide ((k:Int)<(k:Int))=false:=B0
    have e0':decide (k<k)=false:=B0
    obtain⟨j,hj,hjv⟩:=idx_b cut q hq0 An
    have hsub:(q:Int) - (j:Int)=((q - j:Nat):Int):=An
    obtain⟨m,hmj⟩:∃m,q - j=m:=⟨_,rfl⟩
    rw[hmj] at hsub
    have hcap2:m≤de:=An
    have hmq:m≤q:=An
    have HTL:=aA (show(L.take m).length=m by rw[List.length_take,HQ.out];omega)
    have m6:m≤660:=An
    obtain⟨raw,hraw⟩:∃r,L.take m=r:=⟨_,rfl⟩
    rw[hraw] at HTL
    have HRAW:=aA hraw
    clear hraw
    obtain⟨⟨rc,R⟩,hR⟩:∃r:Rz,decRz raw root=r:=⟨_,rfl⟩
    have hle:=dec_le (q:=660) (raw:=raw) (root:=root) Bz (by rw[HTL.out];exact m6) Fh
    have hl8:=dec_l8 raw root
    rw[hR] at hle hl8
    have HLE:=aA (show TpLe R 660 from hle.1)
    have HPO:=aA (show rc=0→0<R.l.length from hle.2)
    have HN8:=aA (show R.l.length≤8 from hl8)
    have HR:=aA hR
    obtain⟨M1,hM1⟩:∃m,R.r.length=m:=⟨_,rfl⟩
    obtain⟨N,hN⟩:∃m,R.l.length=m:=⟨_,rfl⟩
    obtain⟨M2,hM2⟩:∃m,R.e.length=m:=⟨_,rfl⟩
    obtain⟨M3,hM3⟩:∃m,R.z.length=m:=⟨_,rfl⟩
    rw[hN] at HPO HN8
    have HM1:=aA hM1
    have HN:=aA hN
    have HM2:=aA hM2
    have HM3:=aA hM3
    have n1000:N≤1000:=by have:=HN8.out;omega
    clear hR hle hl8 hM1 hN hM2 hM3
    have t0:_=some (Value.slice V1 32 e1):=HS.out.cell 1 rfl 0
    have t1:_=some (Value.slice Y 1 y):=HS.out.cell 1 rfl 1
    have t2:_=some (Value.slice V2 me e2):=HS.out.cell 1 rfl 2
    have t3:_=some (Value.slice V3 mz e3):=HS.out.cell 1 rfl 3
    have KK0:=True.intro
    go_upto_region 17 with(first
     |(clear KK1;refine wl_storeC rfl rfl (HS.out.alloc _ _) 0 rfl (vs:=[.slice U1 M1 f1,.slice Z N z,.slice U2 M2 f2,.slice U3 M3 f3]) szToken (Nat.le_refl _) rfl rfl dR ?_;intro wu hS9;have HS:=aA hS9;clear hS9;have KK2:=True.intro)
     |(clear KK0;go_at_call 26;(with_reducible refine(decode_inS _ HTL.out An HRL.out Bz (rd_cutb (HS.out.rd 0 rfl) hmq HRAW.out) (root_rd HS.out (HL.out.mono (fun c hc=>mC _ (mC _ hc))) HRE.out) HR.out HM1.out HN.out HM2.out HM3.out).mono ?_);rintro e w9 ⟨U1,f1,Z,z,U2,f2,U3,f3,G5,rfl,hL5,hS5⟩;have HL5:=aA hL5;have HS:=aA (St.rot _ _ (HS.out.join hS5));clear hL5 hS5 t0 t1 t2 t3;have KK1:=True.intro))
    have HS:Hid (St w NoB wu (.cells w9.heap.size #[.slice U1 M1 f1,.slice Z N z,.slice U2 M2 f2,.slice U3 M3 f3] 26::.row (.slice (some ⟨g,0,none⟩) q de) 5 1 q (bvs L)::.cells tb #[.slice V1 32 e1,.slice Y 1 y,.slice V2 me e2,.slice V3 mz e3] 26::(GT++G5))):=HS
    have HL:=aA (HL.out.mono (G':=GT++G5) (fun c hc=>List.mem_append_left _ hc))
    have HLU:=aA (HL5.out.mono (G':=GT++G5) (fun c hc=>List.mem_append_right _ hc))
    generalize GT++G5=GU at HS HL HLU
    generalize w9.heap.size=ub at HS ⊢
    clear HL5 KK2
    have t0:_=some (Value.slice V1 32 e1):=HS.out.cell 2 rfl 0
    have t1:_=some (Value.slice Y 1 y):=HS.out.cell 2 rfl 1
    have t2:_=some (Value.slice V2 me e2):=HS.out.cell 2 rfl 2
    have t3:_=some (Value.slice V3 mz e3):=HS.out.cell 2 rfl 3
    have KK0:=True.intro
    go_upto_region 18 with(first
     |(clear KK1;refine wl_storeC rfl rfl (HS.out.alloc _ _) 0 rfl (vs:=[.slice O1 M1 o1,.slice OZ N oz,.slice O2 M2 o2,.slice O3 M3 o3]) szToken (Nat.le_refl _) rfl rfl dR ?_;intro wo hS9;have HS:=aA hS9;clear hS9;have KK2:=True.intro)
     |(clear KK0;go_at_call 27;(with_reducible refine(decodeR_inS _ HTL.out An HRL.out Bz (rd_cutb (HS.out.rd 1 rfl) hmq HRAW.out) (root_rd HS.out (HL.out.mono (fun c hc=>by (iterate 3 apply mC);exact hc)) HRE.out) HR.out HM1.out HN.out HM2.out HM3.out).mono ?_);rintro e w10 ⟨O1,o1,OZ,oz,O2,o2,O3,o3,G6,rfl,hL6,hS6⟩;have HL6:=aA hL6;have HS:=aA (St.rot _ _ (HS.out.join hS6));clear hL6 hS6 t0 t1 t2 t3;have KK1:=True.intro))
    have HS:Hid (St w NoB wo (.cells w10.heap.size #[.slice O1 M1 o1,.slice OZ N oz,.slice O2 M2 o2,.slice O3 M3 o3] 26::.cells ub #[.slice U1 M1 f1,.slice Z N z,.slice U2 M2 f2,.slice U3 M3 f3] 26::.row (.slice (some ⟨g,0,none⟩) q de) 5 1 q (bvs L)::.cells tb #[.slice V1 32 e1,.slice Y 1 y,.slice V2 me e2,.slice V3 mz e3] 26::(GU++G6))):=HS
    generalize w10.heap.size=ob at HS ⊢
    have HLU:=aA (HLU.out.mono (G':=.cells ob #[.slice O1 M1 o1,.slice OZ N oz,.slice O2 M2 o2,.slice O3 M3 o3] 26::.cells ub #[.slice U1 M1 f1,.slice Z N z,.slice U2 M2 f2,.slice U3 M3 f3] 26::.row (.slice (some ⟨g,0,none⟩) q de) 5 1 q (bvs L)::.cells tb #[.slice V1 32 e1,.slice Y 1 y,.slice V2 me e2,.slice V3 mz e3] 26::(GU++G6)) (fun c hc=>by (iterate 4 apply mC);exact List.mem_append_left _ hc))
    have HLO:=aA (HL6.out.mono (G':=.cells ob #[.slice O1 M1 o1,.slice OZ N oz,.slice O2 M2 o2,.slice O3 M3 o3] 26::.cells ub #[.slice U1 M1 f1,.slice Z N z,.slice U2 M2 f2,.slice U3 M3 f3] 26::.row (.slice (some ⟨g,0,none⟩) q de) 5 1 q (bvs L)::.cells tb #[.slice V1 32 e1,.slice Y 1 y,.slice V2 me e2,.slice V3 mz e3] 26::(GU++G6)) (fun c hc=>by (iterate 4 apply mC);exact List.mem_append_right _ hc))
    clear HL6 KK2 HL HR HRAW HTL HRE HM1 HN HM2 HM3
    have o0:_=some (Value.slice O1 M1 o1):=HS.out.cell 0 rfl 0
    have o1:_=some (Value.slice OZ N oz):=HS.out.cell 0 rfl 1
    have o2:_=some (Value.slice O2 M2 o2):=HS.out.cell 0 rfl 2
    have o3:_=some (Value.slice O3 M3 o3):=HS.out.cell 0 rfl 3
    have u0:_=some (Value.slice U1 M1 f1):=HS.out.cell 1 rfl 0
    have u1:_=some (Value.slice Z N z):=HS.out.cell 1 rfl 1
    have u2:_=some (Value.slice U2 M2 f2):=HS.out.cell 1 rfl 2
    have u3:_=some (Value.slice U3 M3 f3):=HS.out.cell 1 rfl 3
    go_upto_region 20 with(go_at_call 14;(with_reducible refine(sameR_bent HS.out HLU.out HLO.out n1000 n1000).mono ?_);rintro e ws ⟨rfl,hb⟩;have HS:=aA (HS.out.call hb);clear hb o0 o1 o2 o3 u0 u1 u2 u3)
    refine aD [(0,1),(1,1),(2,1),(3,0),(5,0),(4,2),(6,2),(7,1),(8,1),(9,1),(10,2),(11,1),(12,1)] Bt Bt (fun _ _ _ _ h=>h) ?_
    have HS:=aA HS.out.drew
    generalize ws.drew=wq at HS ⊢
    have u0:_=some (Value.slice U1 M1 f1):=HS.out.cell 1 rfl 0
    have u1:_=some (Value.slice Z N z):=HS.out.cell 1 rfl 1
    have u2:_=some (Value.slice U2 M2 f2):=HS.out.cell 1 rfl 2
    have u3:_=some (Value.slice U3 M3 f3):=HS.out.cell 1 rfl 3
    have o0:_=some (Value.slice O1 M1 o1):=HS.out.cell 0 rfl 0
    have o1:_=some (Value.slice OZ N oz):=HS.out.cell 0 rfl 1
    have o2:_=some (Value.slice O2 M2 o2):=HS.out.cell 0 rfl 2
    have o3:_=some (Value.slice O3 M3 o3):=HS.out.cell 0 rfl 3
    refine(Nat.eq_zero_or_pos rc).elim (fun h0=>?ok) (fun h0=>?bad)
    case bad =>
     have r0:((rc:Int) !=0)=true:=A9
     have r1:decide ((rc:Int)=0)=false:=A9
     have r2:((rc:Int)==0)=false:=A9
     go_wp2_with (first|(go_at_call 8;(with_reducible refine(awake24_any _).mono ?_);rintro e wy ⟨rfl,hb⟩;have HS:=aA (HS.out.call hb))|(refine wpT_nil ?_)|((with_reducible refine fromT_refl ?_);(try refine nm ?_))|((with_reducible refine aE Df ?_);(try refine nm ?_))|(refine aI (v:=?_) rfl rfl ?_ ?_;rotate_left;(intro wx;go_simp;try go_bits)<;>(with_reducible rfl);(try refine nm ?_))|(refine aK (v:=?_) rfl rfl rfl ?_ ?_;rotate_left;(go_simp;try go_bits)<;>(with_reducible rfl);(try refine nm ?_))|(refine aL (v:=?_) rfl rfl ?_ ?_;rotate_left;(intro wx hx;go_simp;try go_bits)<;>(with_reducible rfl);(try refine nm ?_))|(refine aM rfl rfl ?_;intro K hK)|(refine wpT_late rfl rfl ?_;intro K hK)|(refine wpT_any rfl rfl ?_;intro K hK)|(refine wpT_skip rfl rfl ?_;(try refine nm ?_)))
     go_ret
     exact⟨rfl,HS.out.below⟩
    case ok =>
     subst h0
     have hN0:=HPO.out rfl
     obtain⟨cv,hcv⟩:∃c,verT R=c:=⟨_,rfl⟩
     have HCV:=aA hcv
     clear hcv
     have KK0:=True.intro
     go_wp2_with (first
      |(clear KK2;go_at_call 8;(with_reducible refine(awake24_any _).mono ?_);rintro e wy ⟨rfl,hb⟩;have HS:=aA (HS.out.call hb))
      |(clear KK1;go_at_call 30;(with_reducible refine(verifyR_bent HS.out HLO.out HLE.out hN0 HN8.out HCV.out).mono ?_);rintro e wb ⟨rfl,hb⟩;have HS:=aA (HS.out.call hb);have KK2:=True.intro)
      |(clear KK0;go_at_call 29;(with_reducible refine(verify_bent HS.out HLU.out HLE.out hN0 HN8.out HCV.out).mono ?_);rintro e wa ⟨rfl,hb⟩;have HS:=aA (HS.out.call hb);clear u0 u1 u2 u3 o0 o1 o2 o3;have o0:_=some (Value.slice O1 M1 o1):=HS.out.cell 0 rfl 0;have o1:_=some (Value.slice OZ N oz):=HS.out.cell 0 rfl 1;have o2:_=some (Value.slice O2 M2 o2):=HS.out.cell 0 rfl 2;have o3:_=some (Value.slice O3 M3 o3):=HS.out.cell 0 rfl 3;have KK1:=True.intro)
      |(refine wpT_nil ?_)|((with_reducible refine fromT_refl ?_);(try refine nm ?_))|((with_reducible refine aE Df ?_);(try refine nm ?_))|(refine aI (v:=?_) rfl rfl ?_ ?_;rotate_left;(intro wx;go_simp;try go_bits)<;>(with_reducible rfl);(try refine nm ?_))|(refine aK (v:=?_) rfl rfl rfl ?_ ?_;rotate_left;(go_simp;try go_bits)<;>(with_reducible rfl);(try refine nm ?_))|(refine aL (v:=?_) rfl rfl ?_ ?_;rotate_left;(intro wx hx;go_simp;try go_bits)<;>(with_reducible rfl);(try refine nm ?_))|(refine aM rfl rfl ?_;intro K hK)|(refine wpT_late rfl rfl ?_;intro K hK)|(refine wpT_any rfl rfl ?_;intro K hK)|(refine wpT_skip rfl rfl ?_;(try refine nm ?_)))
     go_ret
     exact⟨rfl,HS.out.below⟩
end Go.Proofs.YtnohmgpmmhlloaaGreatDoor.S6
namespace Go.Proofs.YtnohmgpmmhlloaaGreatDoor
open Go.ChangeShapes Go.WideShapes Go.ChangeAt Go.RowKit Go.Deep
open Go.ChangeMaps (open_string shut_string)
section
variable {H : Type} {enc : TypeId × Value → H} {P : Program}
theorem trodAll_below (hl:laidOutB P=true){W W':World}(hb:Below W.heap.size W W'):∀(ts:List TypeId) (vs:List Value) (ds:List (DataW H)) (ps:List MemPlace),
  (ts.all fun t=>P.readableRec t&&decide (t<P.types.size))=true→DataW.TrodAll enc P W 0 (fun _=>true) true ts vs ds ps→DataW.TrodAll enc P W' 0 (fun b=>decide (b<W.heap.size)) true ts vs ds ps
 | [],vs,ds,ps,_,h=>by
  obtain⟨rfl,rfl,rfl⟩:=trodAll_nil h
  exact rfl
 | t::ts,vs,ds,ps,hts,h=>by
  obtain⟨v,vs',d,ds',p,q,rfl,rfl,rfl,hd,hr⟩:=trodAll_cons h
  simp only[List.all_cons,Bool.and_eq_true,decide_eq_true_eq] at hts
  obtain⟨⟨k1,k2⟩,k3⟩:=hts
  have lt:∀x∈p,x.block<W.heap.size:=by
   obtain⟨m,hm⟩:=hd
   exact DataW.trod_lt m _ _ _ hm
  exact⟨p,q,Below.trod hl k1 k2 hd hb lt,trodAll_below hl hb ts vs' ds' q (by simpa using k3) hr,rfl⟩
theorem trodAll_length:∀(ts:List TypeId) {w:World} {base:Nat} {spare:Nat→Bool} {held:Bool} (vs:List Value) (ds:List (DataW H)) (ps:List MemPlace),DataW.TrodAll enc P w base spare held ts vs ds ps→ds.length=ts.length
 | [],_,_,_,_,vs,ds,ps,h=>by
  obtain⟨rfl,rfl,rfl⟩:=trodAll_nil h
  rfl
 | t::ts,_,_,_,_,vs,ds,ps,h=>by
  obtain⟨v,vs',d,ds',p,q,rfl,rfl,rfl,hd,hr⟩:=trodAll_cons h
  rw[List.length_cons,List.length_cons,trodAll_length ts vs' ds' q hr]
structure Told (P:Program)(enc:TypeId×Value→H)(W:World)(ts:List TypeId)(args:Array Value)(ds:List (DataW H))(p:List MemPlace):Prop where
 trod:DataW.TrodAll enc P W 0 (fun _=>true) true ts args.toList ds p
 ok:∃base,∀(j:Nat) (t:TypeId) (v:Value),ts.toArray[j]?=some t→args[j]?=some v→Value.okWide P W .any base t v
 size:(DataW.weightsEach P ts ds).all (·≤reachBytes)=true
end
section
variable {H : Type} {enc : TypeId × Value → H} {P : Program} {W : World}
theorem open_bytes {t e:TypeId}{fuel:Nat}{a:Option Addr}{len cap:Nat}{x:DataW H×List MemPlace}(ht:P.underlying t=some (.slice e))(he:P.underlying e=some (.int .u8))(hC:P.cellsOf e=1)(hB:P.bytesOf e=1)
  (h:DataW.trod enc P W 0 (fun _=>true) true fuel t [.slice a len cap]=some x) :
  ∃l:List UInt8,l.length=len∧Rd W (.slice a len cap) 1 len (bvs l)∧((∀n∈x.1.weights P t,n≤reachBytes)→len≤140737488351232):=by
 rcases open_ints ht he hC h with⟨hcs,hx⟩|⟨ad,len',cap',zs,hcs,_,hl,hm,hz,hx,hcell,hwz⟩
 ·simp only[List.cons.injEq,and_true,Value.slice.injEq] at hcs
  obtain⟨rfl,rfl,rfl⟩:=hcs
  exact⟨[],rfl,rd_nil W 1,fun _=>by omega⟩
 ·simp only[List.cons.injEq,and_true,Value.slice.injEq] at hcs
  obtain⟨rfl,rfl,rfl⟩:=hcs
  simp only[if_true] at hz
  refine⟨(zs.take len).map fun z=>UInt8.ofNat z.toNat,A9,⟨some ad,cap,rfl,by rw[aX];simp;omega,hl,hm,(fun hn=>by cases hn),fun b o sp hA=>?_⟩,fun hw=>?_⟩
  case refine_2 =>
   have:=hw ((len+(cap - len))*1) (by rw[hx];simp[DataW.weights,ht,lits,hB];omega)
   simp only[reachBytes] at this
   omega
  injection hA with hA
  subst hA
  have hsp:∀j,j<zs.length→sp=none:=fun j hj=>by
   have h0:=hcell 0 An
   simpa[Addr.add] using World.cell?_spot h0
  refine⟨fun hn=>hsp 0 An,fun j u hu=>?_⟩
  have hj:j<len:=by
   have:=(List.getElem?_eq_some_iff.1 hu).1
   rw[aX] at this
   simp at this
   omega
  obtain rfl:=hsp 0 An
  have hc:=hcell j An
  rw[Addr.add_lit] at hc
  rw[hc,←hu]
  have hjz:j<zs.length:=An
  simp only[bvs,List.getElem?_map,List.getElem?_take,if_pos hj,gE hjz,List.getD_eq_getElem?_getD,Option.map_some,Option.getD_some,bv,UInt8.toNat_ofNat']
  have hwf:=hwz _ (List.getElem_mem hjz)
  simp[Lit.wf,IntKind.min,IntKind.max,IntKind.signed,IntKind.bits] at hwf
  congr 2
  omega
end
theorem u8_of {n:Int}(h:(Lit.int .u8 n).wf=true):∃m:Nat,n=m∧m<256:=by
 simp[Lit.wf,IntKind.min,IntKind.max,IntKind.signed,IntKind.bits] at h
 exact⟨n.toNat,An,An⟩
section
variable {H : Type} {enc : TypeId × Value → H} {P : Program} {w W : World} {base : Nat} {spare : Nat → Bool} {held : Bool}
theorem trodAll_six {t0 t1 t2 t3 t4 t5:TypeId}{args:Array Value}{ds:List (DataW H)}{ps:List MemPlace}(h:DataW.TrodAll enc P w base spare held [t0,t1,t2,t3,t4,t5] args.toList ds ps) :
  ∃v0 v1 v2 v3 v4 v5 d0 d1 d2 d3 d4 d5 p0 p1 p2 p3 p4 p5,args=#[v0,v1,v2,v3,v4,v5]∧ds=[d0,d1,d2,d3,d4,d5]∧ps=p0++p1++p2++p3++p4++p5∧DataW.Trod enc P w base spare held t0 v0 d0 p0∧DataW.Trod enc P w base spare held t1 v1 d1 p1 ∧
   DataW.Trod enc P w base spare held t2 v2 d2 p2∧DataW.Trod enc P w base spare held t3 v3 d3 p3∧DataW.Trod enc P w base spare held t4 v4 d4 p4∧DataW.Trod enc P w base spare held t5 v5 d5 p5:=by
 obtain⟨v0,vs,d0,ds',p0,q,hargs,rfl,rfl,h0,hr⟩:=trodAll_cons h
 obtain⟨v1,vs1,d1,ds1,p1,q1,rfl,rfl,rfl,h1,hr1⟩:=trodAll_cons hr
 obtain⟨v2,vs2,d2,ds2,p2,q2,rfl,rfl,rfl,h2,hr2⟩:=trodAll_cons hr1
 obtain⟨v3,vs3,d3,ds3,p3,q3,rfl,rfl,rfl,h3,hr3⟩:=trodAll_cons hr2
 obtain⟨v4,vs4,d4,ds4,p4,q4,rfl,rfl,rfl,h4,hr4⟩:=trodAll_cons hr3
 obtain⟨v5,vs5,d5,ds5,p5,q5,rfl,rfl,rfl,h5,hr5⟩:=trodAll_cons hr4
 obtain⟨rfl,rfl,rfl⟩:=trodAll_nil hr5
 exact⟨v0,v1,v2,v3,v4,v5,d0,d1,d2,d3,d4,d5,p0,p1,p2,p3,p4,p5,by cases args;simp_all,rfl,B0,h0,h1,h2,h3,h4,h5⟩
theorem open_nums {k:IntKind}{t e:TypeId}{fuel:Nat}{a:Option Addr}{len cap:Nat}{x:DataW H×List MemPlace}(ht:P.underlying t=some (.slice e))(he:P.underlying e=some (.int k))(hC:P.cellsOf e=1)
  (h:DataW.trod enc P W 0 (fun _=>true) true fuel t [.slice a len cap]=some x) :
  ∃l:List Int,l.length=len∧Rd W (.slice a len cap) 1 len (l.map (Value.int k))∧∀z∈l,(Lit.int k z).wf=true:=by
 rcases open_ints ht he hC h with⟨hcs,hx⟩|⟨ad,len',cap',zs,hcs,_,hl,hm,hz,hx,hcell,hwz⟩
 ·simp only[List.cons.injEq,and_true,Value.slice.injEq] at hcs
  obtain⟨rfl,rfl,rfl⟩:=hcs
  exact⟨[],rfl,rd_nil W 1,fun _ h=>by cases h⟩
 ·simp only[List.cons.injEq,and_true,Value.slice.injEq] at hcs
  obtain⟨rfl,rfl,rfl⟩:=hcs
  simp only[if_true] at hz
  refine⟨zs.take len,A9,⟨some ad,cap,rfl,A9,hl,hm,(fun hn=>by cases hn),fun b o sp hA=>?_⟩,fun z hz'=>hwz z (List.mem_of_mem_take hz')⟩
  injection hA with hA
  subst hA
  have hsp:∀j,j<zs.length→sp=none:=fun j hj=>by
   have h0:=hcell 0 An
   simpa[Addr.add] using World.cell?_spot h0
  refine⟨fun hn=>hsp 0 An,fun j u hu=>?_⟩
  have hj:j<len:=by
   have:=(List.getElem?_eq_some_iff.1 hu).1
   simp at this
   omega
  obtain rfl:=hsp 0 An
  have hc:=hcell j An
  rw[Addr.add_lit] at hc
  rw[hc,←hu]
  have hjz:j<zs.length:=An
  simp[List.getElem?_take,hj,gE hjz,List.getD_eq_getElem?_getD]
end
theorem own:ownKnob Tryz.prog.godebug=none:=Bt
theorem laidOut:laidOutB Tryz.prog=true:=Bt
theorem cellsU8:Tryz.prog.cellsOf 5=1:=Bt
theorem bytesU8:Tryz.prog.bytesOf 5=1:=Bt
theorem cellsInt:Tryz.prog.cellsOf 3=1:=Bt
theorem chainBent_nat (p:Nat)(hp:p<256)(A1:Option Addr)(n1 c1:Nat)(l1:List UInt8)(Ap:Option Addr)(np cp:Nat)(zs:List Int)(x:Nat)(hx:x<256)(cut:Int)(se:Bool)(w:World)
  (hl1:l1.length=n1)(hzs:zs.length=np)(hr1:Rd w (.slice A1 n1 c1) 1 n1 (bvs l1))(hrp:Rd w (.slice Ap np cp) 1 np (zs.map (Value.int .i64))) :
  Calls Tryz.prog 6 #[.int .u8 (p:Int),.slice A1 n1 c1,.slice Ap np cp,.int .u8 (x:Int),.int .i64 cut,.bool se] w fun e w'=>e=.returned (.bool true)∧Below w.heap.size w w':=by
 have h:=S6.chainBent_walk (UInt8.ofNat p) A1 n1 c1 l1 Ap np cp zs x cut se w hl1 hzs hx hr1 hrp
 rwa [show((UInt8.ofNat p).toNat:Int)=(p:Int) from by rw[UInt8.toNat_ofNat'];omega] at h
theorem lift_laid {C:Checked}(own:ownKnob C.prog.godebug=none){os:Os}(started:os.Started){f:FuncId}{fn:Func}(noInit:C.prog.inits.idxOf? f=none)(hfn:C.prog.funcs[f]?=some fn)
  {s:ChangeSpec}(hvars:s.vars=[])(hbare:s.plain.varTypes C.prog=[]){tb:TypeId}(hres:fn.resultTypes=#[tb])(hbool:C.prog.underlying tb=some .bool)(hl:laidOutB C.prog=true)
  (hts:(fn.params.toList.all fun t=>C.prog.readableRec t&&decide (t<C.prog.types.size))=true){l:List (String×DataW Unit)}
  {H:Type}{enc:TypeId×Value→H}(hspec:∀(ds:List (DataW H)),ds.length=fn.params.toList.length→(s.fn H ds).results=[.lit (.bool true)]∧(s.fn H ds).args=ds∧(s.fn H ds).vars=[])
  (witness:∃(w:World) (tape:Tape) (i:Input),w.os=os∧(w.forCall tape i).Shaped C.prog∧i.vars=[]∧Input.okWide C.prog (w.forCall tape i) .any w.heap.size f i ∧
   ((s.pre enc C.prog fn [] false (w.forCall tape i).memory i.args∧laidMetH C.prog l (w.forCall tape i).memory)∧sizedMet enc C.prog fn (OpenSpec.ofChange s) false (w.forCall tape i).memory i.args)∧Assume.holds {} C.prog (lone (Frame.enter C.prog f i.args .normal) [] (w.forCall tape i)))
  (walk:∀(W:World) (args:Array Value) (ds:List (DataW H)) (p:List MemPlace),Told C.prog enc W fn.params.toList args ds p→laidMetH C.prog l W →
   Calls C.prog f args W fun e W'=>e=.returned (.bool true)∧Below W.heap.size W W') :
  ReturnsInHanded {} C os f .any (fun w args=>(s.pre enc C.prog fn [] false w args∧laidMetH C.prog l w)∧sizedMet enc C.prog fn (OpenSpec.ofChange s) false w args) (s.post enc C.prog fn false true false false):=by
 refine returnsInHanded_of_change_and (C:=C) (X:=fun w _=>laidMetH C.prog l w) (fun _ _ _ hh h=>h.of_heap hh) own started noInit hfn witness ?_
 intro W base args ds gs before hval hW _ hsz hL _
 have hW':=hW
 obtain⟨p,q,hA,hV,rfl,hfz,hnd⟩:=hW
 rw[hvars] at hV
 obtain⟨rfl,rfl⟩:=trodVars_none hV
 have hlen:=trodAll_length fn.params.toList args.toList ds p hA
 obtain⟨s1,s2,s3⟩:=hspec ds hlen
 refine(walk W args ds p ⟨hA,⟨base,fun j t v ht hv=>hval j t v (by simpa using ht) hv⟩,by rw[hbare] at hsz;simpa using hsz⟩ hL).mono fun e W' ⟨he,bel⟩=>?_
 subst he
 refine⟨_,rfl,ds,[],_,[],p,[],hW',?_,?_,?_,bel.frame _,fun h=>by cases h⟩
 ·rw[List.append_nil,s1,hres]
  exact trodAll_mk1 (shut_bool hbool _)
 ·rw[List.append_nil,s2]
  exact trodAll_below hl bel _ _ _ _ hts hA
 ·rw[List.append_nil,s3,hvars]
  exact rfl
def LL:List (String×DataW Unit):=[("math/bits.deBruijn32tab",Rows.laid_math_bits_deBruijn32tab),("math/bits.deBruijn64tab",Rows.laid_math_bits_deBruijn64tab),("internal/strconv.uint64pow10",Rows.laid_internal_strconv_uint64pow10),("strconv.ErrRange",Rows.laid_strconv_ErrRange),("strconv.ErrSyntax",Rows.laid_strconv_ErrSyntax)]
theorem door_met (os:Os)(args:Array Value):laidMetH Tryz.prog LL ((World.doorLaid Tryz.prog 400 os).forCall (fun _ _=>0) ⟨#[],args,[]⟩).memory:=by
 rw[MakeChecks.laidMetH_plain _ _ _ Bt]
 exact laidMet_of_run' 8 Bt Bt
theorem chainBent_lifted (os:Os)(started:os.Started)(H:Type)(enc:TypeId×Value→H) :
  ReturnsInHanded {} Tryz.checked os 6 .any (fun w args=>(Rows.chainBentSpec.pre enc Tryz.prog Tryz.f6 [] false w args∧laidMetH Tryz.prog LL w)∧sizedMet enc Tryz.prog Tryz.f6 (OpenSpec.ofChange Rows.chainBentSpec) false w args) (Rows.chainBentSpec.post enc Tryz.prog Tryz.f6 false true false false):=by
 refine lift_laid (C:=Tryz.checked) own started Bt Tryz.func6 rfl rfl (tb:=4) Bt Tryz.underlying4 laidOut Bt (l:=LL) ?_
  (ChangeSpec.witness_shaped (enc:=enc) (C:=Tryz.checked) (os:=os) (X:=fun w _=>laidMetH Tryz.prog LL w) false (World.doorLaid Tryz.prog 400 os) #[.int .u8 0,.slice none 0 0,.slice none 0 0,.int .u8 0,.int .i64 0,.bool false] 8 rfl (World.shaped_of_RefB Bt Bt) Bt Bt Bt (door_met os _)) ?_
 ·intro ds hds
  rw[Tryz.params6] at hds
  match ds,hds with
  | [d0,d1,d2,d3,d4,d5],_=>exact⟨rfl,rfl,rfl⟩
 ·intro W args ds p hT hL
  obtain⟨hA,⟨base,hok⟩,hsz⟩:=hT
  rw[Tryz.params6] at hA hok hsz
  obtain⟨v0,v1,v2,v3,v4,v5,d0,d1,d2,d3,d4,d5,p0,p1,p2,p3,p4,p5,rfl,rfl,rfl,h0,h1,h2,h3,h4,h5⟩:=trodAll_six hA
  obtain⟨z0,rfl,rfl,rfl,w0⟩:=open_int Tryz.underlying5 (hok 0 5 v0 rfl rfl) h0
  obtain⟨n0,rfl,hn0⟩:=u8_of w0
  obtain⟨a1,len1,cap1,rfl⟩:=okWide_slice Tryz.underlying22 (hok 1 22 v1 rfl rfl)
  obtain⟨fuel1,hf1⟩:=h1
  obtain⟨a2,len2,cap2,rfl⟩:=okWide_slice Tryz.underlying50 (hok 2 50 v2 rfl rfl)
  obtain⟨fuel2,hf2⟩:=h2
  obtain⟨z3,rfl,rfl,rfl,w3⟩:=open_int Tryz.underlying5 (hok 3 5 v3 rfl rfl) h3
  obtain⟨n3,rfl,hn3⟩:=u8_of w3
  obtain⟨n4,rfl,rfl,rfl,w4⟩:=open_int Tryz.underlying3 (hok 4 3 v4 rfl rfl) h4
  obtain⟨b5,rfl,rfl,rfl⟩:=open_bool Tryz.underlying4 (hok 5 4 v5 rfl rfl) h5
  obtain⟨l1,rfl,r1,s1⟩:=open_bytes Tryz.underlying22 Tryz.underlying5 cellsU8 bytesU8 (show DataW.trod enc Tryz.prog W 0 (fun _=>true) true fuel1 22 [.slice a1 len1 cap1]=some (d1,p1) from hf1)
  replace s1:=s1 (fun n hn=>by
   have:=List.all_eq_true.1 hsz n (DataW.weights_mem_each (j:=1) rfl rfl n hn)
   simpa using this)
  obtain⟨l2,s2,r2,q2⟩:=open_nums Tryz.underlying50 Tryz.underlying3 cellsInt (show DataW.trod enc Tryz.prog W 0 (fun _=>true) true fuel2 50 [.slice a2 len2 cap2]=some (d2,p2) from hf2)
  exact chainBent_nat n0 hn0 a1 _ cap1 l1 a2 _ cap2 l2 n3 hn3 n4 b5 W rfl s2 r1 r2
theorem chainBent_over:Rows.chainBentRow.holds Tryz.pinned (OpenSpec.ofChange Rows.chainBentSpec):=
 OpenClaim.holds_of_wide 6 Tryz.f6 rfl rfl rfl rfl rfl rfl rfl ⟨rfl,rfl,rfl,rfl,rfl⟩ rfl rfl rfl rfl rfl Bt Tryz.func6 Bt
  (of_decide_eq_true Bt) (by unfold Func.isWrapper;first|(rw[if_pos Cj];kernel_rfl)|(rw[if_neg Cj];exact⟨rfl,rfl⟩))
  (fun os started H enc _=>chainBent_lifted os started H enc)
theorem chainBent_proved:Rows.ChainBentCardSaid:=
 Claim7.holds_tied_plain_at .later [] [.data,.data,.data,.sentinel,.sentinel] true (true,"5307a9007335d7c83d3ec3980db5ef60e9a38f7de7da356abba6370d761985cc") true
  chainBent_over (fun _ h=>by cases h) Bt (fun _ h=>by cases h) chainBent_row_tie rfl ⟨rfl,rfl⟩ Bt rfl
  (fun f fn hf hfn=>by
   obtain rfl:f=6:=Option.some.inj ((show Tryz.prog.funcNamed "viaticum/viaticumlaw24.ChainBent"=some 6 by kernel_rfl).symm.trans hf)|>.symm
   obtain rfl:fn=Tryz.f6:=(Option.some.inj (Tryz.func6.symm.trans hfn)).symm
   exact⟨Bt,fun j t ht=>by
    rw[Tryz.params6] at ht
    have hm:t∈([5,22,50,5,3,4]:List TypeId):=by
     have:=Array.mem_of_getElem? ht
     simpa using this
    have hall:(([5,22,50,5,3,4]:List TypeId).all fun u=>!Tryz.prog.wantsStandIn u)=true:=Bt
    have:=List.all_eq_true.1 hall t hm
    exact(show Tryz.prog.wantsStandIn t=false by simpa using this)⟩)
  Bt
#print axioms chainBent_proved
end Go.Proofs.YtnohmgpmmhlloaaGreatDoor
