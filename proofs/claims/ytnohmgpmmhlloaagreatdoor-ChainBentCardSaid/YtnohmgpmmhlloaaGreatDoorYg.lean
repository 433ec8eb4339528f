/-
 Joined of texts of mine,in build order: Sd,Se,Sf,Sg,Sh,Si,Sj,Ha,Hb,Hc,Hd,He,Hf. Each says what it proves at its own head.
-/
import Derived.Test.YtnohmgpmmhlloaaGreatDoorRows
import Derived.Laws.Bits64b
import Derived.Deep.DeepCutAuto
import Derived.IntWalk
import Derived.Test.YtnohmgpmmhlloaaGreatDoorYf
set_option linter.unusedSimpArgs false
set_option linter.unusedVariables false
set_option maxRecDepth 100000
set_option maxHeartbeats 25600000
namespace Go.Proofs.YtnohmgpmmhlloaaGreatDoor.S3
open Go.RowKit
theorem pow_split (i:Nat):256^i=18446744073709551616^(i/8)*256^(i%8):=by
 rw[show(18446744073709551616:Nat)=256^8 from by decide,←Nat.pow_mul,←Nat.pow_add]
 congr 1
 omega
theorem from_word (cur:List Nat)(i x:Nat)(hx:cur[i/8]?=some x)(hv:lv cur<256^i):x<256^(i%8):=by
 have h1:=lv_get_le cur (i/8) x hx
 have h2:=pow_split i
 rw[h2] at hv
 have h3:x*18446744073709551616^(i/8)<256^(i%8)*18446744073709551616^(i/8):=by rw[Nat.mul_comm (256^(i%8))];omega
 exact Nat.lt_of_mul_lt_mul_right h3
theorem from_lt (x c i:Nat)(hx:x<256^(i%8))(hc:c<256):x+c*256^(i%8)<18446744073709551616:=by
 have h8:i%8<8:=Nat.mod_lt _ An
 have h1:c*256^(i%8)+256^(i%8)≤256^(i%8+1):=by
  rw[Nat.pow_succ,←Nat.succ_mul,Nat.mul_comm (256^(i%8))]
  exact Nat.mul_le_mul_right _ An
 have h2:256^(i%8+1)≤256^8:=Nat.pow_le_pow_right An An
 have h3:(256:Nat)^8=18446744073709551616:=Bz
 omega
theorem from_step (cur:List Nat)(l:List UInt8)(i x:Nat)(c:UInt8)(hx:cur[i/8]?=some x)(hc:l[i]?=some c)(hv:lv cur=bval (l.take i)) :
  lv (cur.set (i/8) (x+c.toNat*256^(i%8)))=bval (l.take (i+1)):=by
 have h1:=lv_set cur (i/8) x (x+c.toNat*256^(i%8)) hx
 rw[iH hc,pow_split i,←hv]
 rw[Nat.add_mul] at h1
 rw[show c.toNat*256^(i%8)*18446744073709551616^(i/8)=c.toNat*(18446744073709551616^(i/8)*256^(i%8)) from by rw[Nat.mul_assoc,Nat.mul_comm (256^(i%8))]] at h1
 omega
theorem from_or (x c i:Nat)(hx:x<256^(i%8))(hc:c<256) :
  bits .or .u64 (x:Int) (IntKind.u64.wrap ((c:Int)*2^(i%8*8)))=((x+c*256^(i%8):Nat):Int):=by
 have hlt:=from_lt x c i hx hc
 have e2:(2:Nat)^(i%8*8)=256^(i%8):=by rw[Nat.mul_comm,Nat.pow_mul]
 have e:IntKind.u64.wrap ((c:Int)*2^(i%8*8))=((c*256^(i%8):Nat):Int):=by
  rw[show((c:Int)*2^(i%8*8))=((c*2^(i%8*8):Nat):Int) from by simp,e2,IntKind.wrap_u64]
  omega
 rw[e,u64_or_nat _ _ An An,Nat.or_comm]
 have:=nat_join (i%8*8) (c*256^(i%8)) x (by rw[e2];exact Nat.mul_mod_left _ _) (by rw[e2];exact hx)
 rw[this,Nat.add_comm]
def FromRel (w:World)(g:Nat)(H:List Chunk)(l:List UInt8)(i:Value)(wr:World):Prop:=
 ∃(k:Nat) (cur:List Nat),k≤32∧i=.int .i64 (k:Int)∧cur.length=4∧aT cur∧lv cur=bval (l.take k)∧St w NoB wr (.cells g (uvs cur).toArray 120::H)
def ResFrom (w:World)(l:List UInt8)(e:Ending)(w':World):Prop:=
 ∃a0 a1 a2 a3:Nat,aT [a0,a1,a2,a3]∧lv [a0,a1,a2,a3]=bval l∧e=.returned (.agg #[.int .u64 (a0:Int),.int .u64 (a1:Int),.int .u64 (a2:Int),.int .u64 (a3:Int)])∧Below w.heap.size w w'
theorem from_walk (A:Option Addr)(c:Nat)(l:List UInt8)(w:World)(hl:l.length=32)(hr:Rd w (.slice A 32 c) 1 32 (bvs l)) :
  Calls Tryz.prog 92 #[.slice A 32 c] w (ResFrom w l):=by
 rcases hr.cases with⟨_,h0,_⟩|⟨b,o,sp,c',hA,hb,hnc,hcm,_,hsp,hc⟩
 ·omega
 injection hA with hA1 _ hA3
 subst hA1 hA3
 obtain rfl:sp=none:=hsp An
 replace hb:=hb An
 have HC:=aA hc
 have HL:=aA hl
 have HS0:=aA (((St.init w NoB).alloc #[.int .u64 0,.int .u64 0,.int .u64 0,.int .u64 0] 120).alloc #[.int .u64 0,.int .u64 0,.int .u64 0,.int .u64 0] 120)
 clear hr hc hl hsp
 unfold maxLen at hcm
 go_enter Tryz.func92,Tryz.ntmps92
 go_wp2_with fail
 go_loopw [9] (fun i wr=>FromRel w (w.heap.size+1) [.cells w.heap.size #[.int .u64 0,.int .u64 0,.int .u64 0,.int .u64 0] 120] l i wr) (fun i _=>32 - (intOf i).toNat)
 case atStart =>
  have hS:=HS0.out
  simp only[size_alloc1] at hS
  exact⟨0,[0,0,0,0],An,rfl,rfl,by unfold aT;decide,rfl,hS⟩
 case round =>
  obtain⟨k,cur,hk,rfl,hcl,hcw,hval,hS⟩:=hrel
  by_cases hlt:k<32
  ·obtain⟨x,hx⟩:=iR cur hcl (k/8) An
   obtain⟨ch,hch⟩:∃ch,l[k]?=some ch:=⟨l[k]'El,gE _⟩
   have hvl:lv cur<256^k:=by
    rw[hval]
    have:=bval_lt (l.take k)
    rwa [List.length_take,HL.out,Nat.min_eq_left An] at this
   have hxw:=from_word cur k x hx hvl
   have hch2:=UInt8.toNat_lt ch
   have hor:=from_or x ch.toNat k hxw hch2
   have hlt2:=from_lt x ch.toNat k hxw hch2
   have hstep:=aA (from_step cur l k x ch hx hch hval)
   obtain⟨y,hy⟩:∃y,y=x+ch.toNat*256^(k%8):=⟨_,rfl⟩
   rw[←hy] at hor hlt2 hstep
   have hS':=hS.drew
   have hHS:=aA hS'
   have hcb:wr.cell? ⟨b,o+k,none⟩=some (.int .u8 (ch.toNat:Int)):=by
    rw[hS.below.cell (p:=⟨b,o+k,none⟩) hb]
    exact HC.out k _ (by simp only[bvs,List.getElem?_map,hch];rfl)
   obtain⟨cn,hcn⟩:∃cn,cn=ch.toNat:=⟨_,rfl⟩
   rw[←hcn] at hor hcb hch2
   have cx:∀z,aC wr.drew z→z.cell? ⟨w.heap.size+1,k/8,none⟩=some (.int .u64 (x:Int)):=fun z hz=>by
    rw[hz.cell (p:=⟨w.heap.size+1,k/8,none⟩) (Chunk.lt (hHS.out.sat 0 _ rfl) rfl),hHS.out.cell 0 rfl (k/8)]
    exact aR hx
   obtain⟨q,hq⟩:∃q,q=k/8:=⟨_,rfl⟩
   obtain⟨r,hr⟩:∃r,r=k%8*8:=⟨_,rfl⟩
   have hq4:q<4:=An
   have htd:(k:Int).tdiv 8=(q:Int):=Fi
   have htm:(k:Int).tmod 8=((k%8:Nat):Int):=Fj
   have hwr:IntKind.i64.wrap ((k:Int).tmod 8*8)=(r:Int):=by rw[htm,IntKind.wrap_i64];omega
   have hwc:IntKind.u64.wrap (cn:Int)=(cn:Int):=Cl
   have hr64:r<64:=An
   have hq4i:(q:Int)<4:=An
   have hr64i:(r:Int)<64:=An
   have hwq:IntKind.i64.wrap (q:Int)=(q:Int):=Ct
   have hwr2:IntKind.i64.wrap (r:Int)=(r:Int):=Ct
   rw[←hr] at hor
   rw[←hq] at cx hstep
   clear htm
   have D1:=aA hlt2
   have HCW:=aA hcw
   have HCL:=aA hcl
   have HQ:=aA hq
   have HR:=aA hr
   clear hS hS' hx hxw hval hcw hcl hvl hlt2 hy hcn hch hq hr
   go_wp2_with fail
   refine aW (fun i=>i==12) (aC wr.drew) Bt ?_
   (refine mU 0 (v:=?_) fR ?_;(try refine nm ?_));(refine mU 1 (v:=?_) fR ?_;(try refine nm ?_))
   (refine mT 2 (v:=?_) fR ?_;(try refine nm ?_));(refine mT 3 (v:=?_) fR ?_;(try refine nm ?_))
   (refine mU 4 (v:=?_) fR ?_;(try refine nm ?_));(refine mU 5 (v:=?_) fR ?_;(try refine nm ?_));(refine mU 6 (v:=?_) fR ?_;(try refine nm ?_));(refine mU 7 (v:=?_) fR ?_;(try refine nm ?_));(refine mU 8 (v:=?_) fR ?_;(try refine nm ?_));(refine mU 9 (v:=?_) fR ?_;(try refine nm ?_));(refine mU 10 (v:=?_) fR ?_;(try refine nm ?_));(refine mU 11 (v:=?_) fR ?_;(try refine nm ?_))
   (refine aZ (i:=12) Bt rfl rfl ?_;intro K hK;(try refine nm ?_))
   refine bO rfl rfl tyU64 hHS.out 0 rfl q (by rw[List.size_toArray,cE,HCL.out];exact hq4) rfl (v:=.int .u64 (y:Int)) rfl rfl ?_
   intro w2 hS2
   refine hK _ _ ?_
   clear hK K
   (try refine nm ?_)
   refine wpAny_done Bt ?_ _
   go_wp2_with fail
   go_roundw
   case rel =>
    rw[bH] at hS2
    exact⟨k+1,cur.set q y,An,Cg,Cq,fH HCW.out q _ D1.out,hstep.out,hS2⟩
   case measure=>simp[intOf];omega
  ·obtain rfl:k=32:=by omega
   match cur,hcl with
   | [a0,a1,a2,a3],_ =>
    have hS':St w NoB wr [.cells (w.heap.size+1) #[.int .u64 (a0:Int),.int .u64 (a1:Int),.int .u64 (a2:Int),.int .u64 (a3:Int)] 120,.cells w.heap.size #[.int .u64 0,.int .u64 0,.int .u64 0,.int .u64 0] 120]:=hS
    have n0:wr.cell? ⟨w.heap.size+1,0,none⟩=some (.int .u64 (a0:Int)):=hS'.cell 0 rfl 0
    have n1:wr.cell? ⟨w.heap.size+1,1,none⟩=some (.int .u64 (a1:Int)):=hS'.cell 0 rfl 1
    have n2:wr.cell? ⟨w.heap.size+1,2,none⟩=some (.int .u64 (a2:Int)):=hS'.cell 0 rfl 2
    have n3:wr.cell? ⟨w.heap.size+1,3,none⟩=some (.int .u64 (a3:Int)):=hS'.cell 0 rfl 3
    have r0:wr.cell? ⟨w.heap.size,0,none⟩=some (.int .u64 0):=hS'.cell 1 rfl 0
    have r1:wr.cell? ⟨w.heap.size,1,none⟩=some (.int .u64 0):=hS'.cell 1 rfl 1
    have r2:wr.cell? ⟨w.heap.size,2,none⟩=some (.int .u64 0):=hS'.cell 1 rfl 2
    have r3:wr.cell? ⟨w.heap.size,3,none⟩=some (.int .u64 0):=hS'.cell 1 rfl 3
    have f0:=hS'.free 1 rfl 0
    have f1:=hS'.free 1 rfl 1
    have f2:=hS'.free 1 rfl 2
    have f3:=hS'.free 1 rfl 3
    have HS:=aA ((((hS'.setCell 1 rfl 0 (.int .u64 (a0:Int))).setCell 1 rfl 1 (.int .u64 (a1:Int))).setCell 1 rfl 2 (.int .u64 (a2:Int))).setCell 1 rfl 3 (.int .u64 (a3:Int)))
    have HV:=aA hval
    have HW:=aA hcw
    clear hS hS' hval hcw
    go_wp2_with fail
    refine bodyPost_ret (results_cell_row rfl _ _ w.heap.size _ _ _ _ rfl (HS.out.heap 1 rfl) Tryz.underlying120 rfl Bt) rfl ?_
    exact⟨a0,a1,a2,a3,HW.out,by rw[HV.out,←HL.out,List.take_length],rfl,HS.out.below⟩
def mayS (l:List UInt8):Bool:=decide (l.length=32)&&decide (bval l<Lq)
theorem less_bit (a r:List Nat)(bo:Nat)(hr:aT r)(hrl:r.length=4)(hbo:bo≤1)(ha:lv a<18446744073709551616^4)(h:lv r+Lq=lv a+bo*18446744073709551616^4):decide (0<bo)=decide (lv a<Lq):=by
 have h4:=lv_lt r hr
 have hL:=Lq_lt
 rw[hrl] at h4
 generalize 18446744073709551616^4=B at *
 rw[Bool.eq_iff_iff,decide_eq_true_eq,decide_eq_true_eq]
 have:bo=0∨bo=1:=by omega
 rcases this with rfl|rfl<;>omega
theorem may_walk (A:Option Addr)(n c:Nat)(l:List UInt8)(w:World)(hl:l.length=n)(hr:Rd w (.slice A n c) 1 n (bvs l)) :
  Calls Tryz.prog 39 #[.slice A n c] w fun e w'=>e=.returned (.bool (mayS l))∧Below w.heap.size w w':=by
 by_cases h32:n=32
 ·subst h32
  have hm:mayS l=decide (bval l<Lq):=by unfold mayS;rw[hl];simp
  rw[hm]
  have HR:=aA hr
  have HL:=aA hl
  clear hm hr hl
  go_enter Tryz.func39,Tryz.ntmps39
  go_wp2_with (first
   |(go_at_call 92;refine(from_walk A c l _ HL.out HR.out).mono ?_;rintro e w1 ⟨a0,a1,a2,a3,haw,hav,rfl,hb1⟩;have HAV:=aA hav;clear hav)
   |(go_at_call 94;refine(order_any _).mono ?_;rintro e w2 ⟨rfl,hb2⟩)
   |(go_at_call 93;refine(less_any a0 a1 a2 a3 _ _ _ _ _ haw ord_words).mono ?_;rintro e w3 ⟨r0,r1,r2,r3,bo,hrw,hbo,hrv,rfl,hb3⟩;have HRV:=aA hrv;clear hrv))
  go_ret
  have hB:=lv_lt _ haw
  have hd:=less_bit [a0,a1,a2,a3] [r0,r1,r2,r3] bo hrw rfl hbo hB (by rw[←lv_ord];exact HRV.out)
  rw[HAV.out] at hd
  refine⟨congrArg (fun z=>Ending.returned (Value.bool z)) hd,?_⟩
  have hb12:=hb1.trans (hb2.mono hb1.size)
  have hb13:=hb12.trans (hb3.mono hb12.size)
  exact hb13.trans ((Below.refl _ _).alloc (by first|exact hb13.size|omega) _)
 ·have hm:mayS l=false:=by unfold mayS;rw[hl,decide_eq_false h32];rfl
  have hne:((n:Int) !=32)=true:=A9
  have hne2:((n:Int)==32)=false:=A9
  rw[hm]
  clear hm hr hl
  go_enter Tryz.func39,Tryz.ntmps39
  go_wp2_with fail
  go_ret
  exact⟨rfl,Below.refl _ _⟩
theorem enNext (args:Array Value)(w:World):(callFunc 132 args).run Tryz.prog w=.ok (.enter 132 args) w:=Bt
theorem next_any (a0 a1 a2 a3 bit:Nat)(w:World)(ha:aT [a0,a1,a2,a3])(hx:lv [a0,a1,a2,a3]<Lq)(hbit:bit≤1) :
  Calls Tryz.prog 132 #[.agg #[.int .u64 (a0:Int),.int .u64 (a1:Int),.int .u64 (a2:Int),.int .u64 (a3:Int)],.int .u64 (bit:Int)] w fun e w' =>
   ∃r0 r1 r2 r3:Nat,aT [r0,r1,r2,r3]∧lv [r0,r1,r2,r3]=(2*lv [a0,a1,a2,a3]+bit)%Lq∧e=.returned (.agg #[.int .u64 (r0:Int),.int .u64 (r1:Int),.int .u64 (r2:Int),.int .u64 (r3:Int)])∧Below w.heap.size w w':=by
 refine(next_walk [a0,a1,a2,a3] bit w rfl ha hx hbit).mono ?_
 rintro e w' ⟨rs,hrl,hrw,hv,rfl,hb⟩
 match rs,hrl with
 | [r0,r1,r2,r3],_=>exact⟨r0,r1,r2,r3,hrw,hv,rfl,hb⟩
def AtI (m:Nat)(i:Value):Prop:=(m=0∧i=.int .i64 (-1))∨∃p:Nat,m=p+1∧i=.int .i64 (p:Int)
theorem atI_pred (p:Nat):AtI p (.int .i64 ((p:Int) - 1)):=by
 cases p with
 | zero=>exact .inl ⟨rfl,rfl⟩
 | succ p=>exact .inr ⟨p,rfl,B0⟩
def RedRel (w:World)(g:Nat)(X:Nat)(wr:World):Prop:=
 ∃a0 a1 a2 a3:Nat,aT [a0,a1,a2,a3]∧lv [a0,a1,a2,a3]=X%Lq∧St w NoB wr [.cells g #[.int .u64 (a0:Int),.int .u64 (a1:Int),.int .u64 (a2:Int),.int .u64 (a3:Int)] 120]
theorem red_step (X c k:Nat)(hk:k<8):(2*((X*2^(7 - k)+c/2^(k+1))%Lq)+c/2^k%2)%Lq=(X*2^(8 - k)+c/2^k)%Lq:=by
 have e:X*2^(8 - k)+c/2^k=2*(X*2^(7 - k)+c/2^(k+1))+c/2^k%2:=by
  rw[show 8 - k=(7 - k)+1 from by omega,Nat.pow_succ,Nat.pow_succ,←Nat.div_div_eq_div_mul,Nat.mul_add,←Nat.mul_assoc X]
  have:=Nat.div_add_mod (c/2^k) 2
  omega
 rw[e,Nat.add_mod,Nat.mul_mod_mod,←Nat.add_mod]
theorem red_byte (l:List UInt8)(p:Nat)(c:UInt8)(h:l[p]?=some c):bval (l.drop (p+1))*256+c.toNat=bval (l.drop p):=by
 have hlt:=(List.getElem?_eq_some_iff.1 h).1
 have hc:=(List.getElem?_eq_some_iff.1 h).2
 rw[List.drop_eq_getElem_cons hlt,hc,bval]
 omega
theorem red_bit (c k:Nat)(hc:c<256):bits .and .u8 ((c/2^k:Nat):Int) 1=((c/2^k%2:Nat):Int):=by
 have h1:c/2^k<256:=Nat.lt_of_le_of_lt (Nat.div_le_self _ _) hc
 have:=u8_and_nat (c/2^k) 1 h1 An
 rw[nat_mask1] at this
 exact this
theorem reduce_walk (A:Option Addr)(n c:Nat)(l:List UInt8)(w:World)(hl:l.length=n)(hn:n≤64)(hr:Rd w (.slice A n c) 1 n (bvs l)) :
  Calls Tryz.prog 97 #[.slice A n c] w (iI 5 w (leB 32 (bval l%Lq))):=by
 have HR:=aA hr
 have HL:=aA hl
 have HS0:=aA ((St.init w NoB).alloc #[.int .u64 0,.int .u64 0,.int .u64 0,.int .u64 0] 120)
 have hL:=Lq_lt
 have HLQ:=aA hL.2
 have hat:AtI n (.int .i64 ((n:Int) - 1)):=by
  cases n with
  | zero=>exact .inl ⟨rfl,rfl⟩
  | succ p=>exact .inr ⟨p,rfl,B0⟩
 have HAT:=aA hat
 clear hr hl hL hat
 go_enter Tryz.func97,Tryz.ntmps97
 go_wp2_with fail
 go_loopw [4] (fun i wr=>∃m:Nat,m≤n∧AtI m i∧RedRel w w.heap.size (bval (l.drop m)) wr) (fun i _=>(intOf i+1).toNat)
 case atStart =>
  refine⟨n,Nat.le_refl _,HAT.out,0,0,0,0,by unfold aT;decide,?_,HS0.out⟩
  rw[List.drop_eq_nil_of_le Em]
  rfl
 case round =>
  obtain⟨m,hm,hi,a0,a1,a2,a3,haw,hav,hS⟩:=hrel
  rcases hi with⟨rfl,rfl⟩|⟨p,rfl,rfl⟩
  ·have HAV:=aA hav
   have HS:=aA hS
   have hc0:wr.cell? ⟨w.heap.size,0,none⟩=some (.int .u64 (a0:Int)):=hS.cell 0 rfl 0
   have hc1:wr.cell? ⟨w.heap.size,1,none⟩=some (.int .u64 (a1:Int)):=hS.cell 0 rfl 1
   have hc2:wr.cell? ⟨w.heap.size,2,none⟩=some (.int .u64 (a2:Int)):=hS.cell 0 rfl 2
   have hc3:wr.cell? ⟨w.heap.size,3,none⟩=some (.int .u64 (a3:Int)):=hS.cell 0 rfl 3
   clear hav hS
   go_wp2_with (go_at_call 133;refine(bytes_walk a0 a1 a2 a3 _ haw).mono ?_;rintro e w2 ⟨B,d,rfl,hb,ho⟩)
   go_ret
   have hav:=HAV.out
   rw[List.drop_zero] at hav
   rw[←hav]
   exact⟨B,d,rfl,HS.out.below.trans (hb.mono HS.out.below.size),ho.base_le HS.out.below.size⟩
  ·obtain⟨ch,hch⟩:∃ch,l[p]?=some ch:=⟨l[p]'Dp,gE _⟩
   have hrb:=red_byte l p ch hch
   have hch2:=UInt8.toNat_lt ch
   obtain⟨cn,hcn⟩:∃cn,cn=ch.toNat:=⟨_,rfl⟩
   rw[←hcn] at hrb hch2
   obtain⟨X,hX⟩:∃X,X=bval (l.drop (p+1)):=⟨_,rfl⟩
   rw[←hX] at hrb hav
   rcases HR.out.cases with⟨_,h0,_⟩|⟨b,o,sp,c',hA,hb,hnc,hcm,_,hsp,hc⟩
   ·omega
   injection hA with hA1 _ hA3
   subst hA1 hA3
   obtain rfl:sp=none:=hsp An
   replace hb:=hb An
   have hcb:w.cell? ⟨b,o+p,none⟩=some (.int .u8 (cn:Int)):=hc p _ (by simp only[bvs,List.getElem?_map,hch];rw[hcn];rfl)
   have HRB:=aA hrb
   have HCB:=aA hcb
   have HRR:=aA (show RedRel w w.heap.size (X*2^(8 - 8)+cn/2^8) wr from⟨a0,a1,a2,a3,haw,by rw[hav,show cn/2^8=0 from by omega];simp,hS⟩)
   clear hrb hX hcn hch hc hsp hav hS haw hcb
   unfold maxLen at hcm
   go_wp2_with fail
   go_loopw [5] (fun k wr=>∃j:Nat,j≤8∧AtI j k∧RedRel w w.heap.size (X*2^(8 - j)+cn/2^j) wr) (fun k _=>(intOf k+1).toNat)
   case atStart=>exact⟨8,Nat.le_refl _,.inr ⟨7,rfl,rfl⟩,HRR.out⟩
   case round =>
    obtain⟨j,hj,hk,b0,b1,b2,b3,hbw,hbv,hS2⟩:=hrel
    clear HRR
    rcases hk with⟨rfl,rfl⟩|⟨k,rfl,rfl⟩
    ·have HBV:=aA hbv
     clear hbv
     have HS2:=aA hS2
     clear hS2
     go_wp2_with fail
     go_roundw
     case rel =>
      refine⟨p,An,atI_pred p,b0,b1,b2,b3,hbw,?_,HS2.out⟩
      rw[HBV.out,←HRB.out]
      simp
     case measure=>simp[intOf];try omega
    ·obtain⟨d,hd⟩:∃d,d=cn/2^k%2:=⟨_,rfl⟩
     have hd1:d≤1:=An
     have hst:=red_step X cn k An
     rw[show 8 - (k+1)=7 - k from by omega] at hbv
     rw[←hbv,←hd] at hst
     have hbl:lv [b0,b1,b2,b3]<Lq:=by rw[hbv];exact Nat.mod_lt _ HLQ.out
     have he:bits .and .u8 ((cn:Int)/2^k) 1=(d:Int):=by
      have:=red_bit cn k hch2
      rw[hd,←this]
      simp
     have hwd:IntKind.u64.wrap (d:Int)=(d:Int):=Cl
     have hk8:k<8:=An
     have hp1:p<n:=An
     have hp2:(p:Int)<(n:Int):=An
     have hS':=hS2.drew
     have hHS:=aA hS'
     have n0:∀z,aC wr.drew z→z.cell? ⟨w.heap.size,0,none⟩=some (.int .u64 (b0:Int)):=fun z hz=>by
      rw[hz.cell (p:=⟨w.heap.size,0,none⟩) (Chunk.lt (hHS.out.sat 0 _ rfl) rfl)];exact hHS.out.cell 0 rfl 0
     have n1:∀z,aC wr.drew z→z.cell? ⟨w.heap.size,1,none⟩=some (.int .u64 (b1:Int)):=fun z hz=>by
      rw[hz.cell (p:=⟨w.heap.size,1,none⟩) (Chunk.lt (hHS.out.sat 0 _ rfl) rfl)];exact hHS.out.cell 0 rfl 1
     have n2:∀z,aC wr.drew z→z.cell? ⟨w.heap.size,2,none⟩=some (.int .u64 (b2:Int)):=fun z hz=>by
      rw[hz.cell (p:=⟨w.heap.size,2,none⟩) (Chunk.lt (hHS.out.sat 0 _ rfl) rfl)];exact hHS.out.cell 0 rfl 2
     have n3:∀z,aC wr.drew z→z.cell? ⟨w.heap.size,3,none⟩=some (.int .u64 (b3:Int)):=fun z hz=>by
      rw[hz.cell (p:=⟨w.heap.size,3,none⟩) (Chunk.lt (hHS.out.sat 0 _ rfl) rfl)];exact hHS.out.cell 0 rfl 3
     have cb:∀z,aC wr.drew z→z.cell? ⟨b,o+p,none⟩=some (.int .u8 (cn:Int)):=fun z hz=>by
      have hbz:=hHS.out.below.trans (hz.mono hHS.out.below.size)
      rw[hbz.cell (p:=⟨b,o+p,none⟩) hb];exact HCB.out
     have HST:=aA hst
     have HBL:=aA hbl
     clear hS' hS2 hst hbl hbv hd
     go_wp2_with fail
     refine aW (fun i=>i==10) (aC wr.drew) Bt ?_
     (refine mT 0 (v:=?_) fR ?_;(try refine nm ?_))
     (refine mU 1 (v:=?_) fR ?_;(try refine nm ?_));(refine mU 2 (v:=?_) fR ?_;(try refine nm ?_));(refine mU 3 (v:=?_) fR ?_;(try refine nm ?_))
     (refine mT 4 (v:=?_) fR ?_;(try refine nm ?_))
     (refine mU 5 (v:=?_) fR ?_;(try refine nm ?_));(refine mU 6 (v:=?_) fR ?_;(try refine nm ?_));(refine mU 7 (v:=?_) fR ?_;(try refine nm ?_));(refine mU 8 (v:=?_) fR ?_;(try refine nm ?_))
     (refine cC (i:=9) Bt rfl rfl ?_;intro K hK;(try refine nm ?_))
     refine aO rfl rfl enNext rfl (next_any b0 b1 b2 b3 d _ hbw HBL.out hd1) ?_
     rintro e w2 ⟨r0,r1,r2,r3,hrw,hrv,rfl,hb2⟩
     have hS3:=hHS.out.call hb2
     refine⟨_,rfl,hK (aC w2) _ _ (aC.next hb2) fR ?_⟩
     clear hK K
     (try refine nm ?_)
     (refine aZ (i:=10) Bt rfl rfl ?_;intro K hK;(try refine nm ?_))
     refine eS rfl rfl hS3 0 rfl rfl (cs:=#[.int .u64 (r0:Int),.int .u64 (r1:Int),.int .u64 (r2:Int),.int .u64 (r3:Int)]) rfl Bt rfl Bt ?_
     intro w5 hS5
     refine hK _ _ ?_
     clear hK K
     (try refine nm ?_)
     refine wpAny_done Bt ?_ _
     go_wp2_with fail
     go_roundw
     case rel=>exact⟨k,An,atI_pred k,r0,r1,r2,r3,hrw,by rw[hrv];exact HST.out,hS5⟩
     case measure=>simp[intOf];try omega
theorem mad_aux (C P o ca t s:Nat)(hP:P≤C*C)(ho:o≤C)(hca:ca≤C)(e:s+t*(C+1)=P+o+ca):t<C+1:=by
 have h1:t*(C+1)<(C+1)*(C+1):=by
  rw[Nat.add_mul C 1 (C+1),Nat.mul_add C C 1]
  omega
 exact Nat.lt_of_mul_lt_mul_right h1
theorem mad_sum (s2 h c1 c2 B P o ca l s1:Nat)(m1:l+h*B=P)(a1:s1+c1*B=l+o+0)(b1:s2+c2*B=s1+ca+0):s2+(h+c1+c2)*B=P+o+ca:=by
 rw[Nat.add_mul,Nat.add_mul]
 omega
theorem mad_spec (x y o ca:Nat)(hx:x<18446744073709551616)(hy:y<18446744073709551616)(ho:o<18446744073709551616)(hca:ca<18446744073709551616) :
  adS (adS (muL x y) o 0) ca 0+(muH x y+adC (muL x y) o 0+adC (adS (muL x y) o 0) ca 0)*18446744073709551616=x*y+o+ca∧adS (adS (muL x y) o 0) ca 0<18446744073709551616 ∧
   muH x y+adC (muL x y) o 0<18446744073709551616∧muH x y+adC (muL x y) o 0+adC (adS (muL x y) o 0) ca 0<18446744073709551616:=by
 obtain⟨m1,m2,m3⟩:=mu_spec x y hx hy
 obtain⟨a1,a2,a3⟩:=ad_spec (muL x y) o 0 m2 ho (Nat.zero_le 1)
 obtain⟨b1,b2,b3⟩:=ad_spec (adS (muL x y) o 0) ca 0 a2 hca (Nat.zero_le 1)
 have hxy:x*y≤18446744073709551615*18446744073709551615:=Nat.mul_le_mul An An
 generalize x*y=P at *
 generalize adS (adS (muL x y) o 0) ca 0=s2 at *
 generalize adC (adS (muL x y) o 0) ca 0=c2 at *
 generalize adS (muL x y) o 0=s1 at *
 generalize adC (muL x y) o 0=c1 at *
 generalize muL x y=l at *
 generalize muH x y=h at *
 clear hx hy
 have HXY:=aA hxy
 clear hxy
 have e1:s2+(h+c1+c2)*18446744073709551616=P+o+ca:=mad_sum s2 h c1 c2 18446744073709551616 P o ca l s1 m1 a1 b1
 have h4:=mad_aux 18446744073709551615 P o ca (h+c1+c2) s2 HXY.out An An An
 refine⟨e1,b2,An,An⟩
theorem mad_step (os ys:List Nat)(i k x y o T ca s ca':Nat)(ho:os[i+k]?=some o)(hy:ys[k]?=some y)(hs:s+ca'*18446744073709551616=x*y+o+ca)
  (h:lv os+ca*18446744073709551616^(i+k)=T+x*lv (ys.take k)*18446744073709551616^i) :
  lv (os.set (i+k) s)+ca'*18446744073709551616^(i+k+1)=T+x*lv (ys.take (k+1))*18446744073709551616^i:=by
 have h1:=lv_set os (i+k) o s ho
 rw[gH hy,Nat.mul_add,Nat.add_mul,Nat.pow_succ]
 have e:x*(y*18446744073709551616^k)*18446744073709551616^i=x*y*18446744073709551616^(i+k):=by
  rw[Nat.pow_add,←Nat.mul_assoc,Nat.mul_assoc (x*y),Nat.mul_comm (18446744073709551616^k)]
 rw[e,show ca'*(18446744073709551616^(i+k)*18446744073709551616)=ca'*18446744073709551616*18446744073709551616^(i+k) from by rw[Nat.mul_comm (18446744073709551616^(i+k)),Nat.mul_assoc]]
 have h2:=congrArg (·*18446744073709551616^(i+k)) hs
 simp only[Nat.add_mul] at h2
 omega
theorem car_step (os:List Nat)(k o T ca s ca':Nat)(ho:os[k]?=some o)(hs:s+ca'*18446744073709551616=o+ca)(h:lv os+ca*18446744073709551616^k=T) :
  lv (os.set k s)+ca'*18446744073709551616^(k+1)=T:=by
 have h1:=lv_set os k o s ho
 rw[Nat.pow_succ,show ca'*(18446744073709551616^k*18446744073709551616)=ca'*18446744073709551616*18446744073709551616^k from by rw[Nat.mul_comm (18446744073709551616^k),Nat.mul_assoc]]
 have h2:=congrArg (·*18446744073709551616^k) hs
 simp only[Nat.add_mul] at h2
 omega
theorem mad_bound (xs ys zs:List Nat)(i:Nat)(hx:aT xs)(hy:aT ys)(hz:aT zs)(hxl:xs.length=4)(hyl:ys.length=4)(hzl:zs.length=4) :
  lv zs+lv (xs.take i)*lv ys<18446744073709551616^8:=by
 have h1:=lv_lt (xs.take i) fun x h=>hx x (List.mem_of_mem_take h)
 have h2:=lv_lt ys hy
 have h3:=lv_lt zs hz
 have h4:(18446744073709551616:Nat)^(xs.take i).length≤18446744073709551616^4:=Nat.pow_le_pow_right An Cm
 rw[hyl] at h2
 rw[hzl] at h3
 have h5:lv (xs.take i)*lv ys≤(18446744073709551616^4 - 1)*(18446744073709551616^4 - 1):=Nat.mul_le_mul An An
 have h6:(18446744073709551616:Nat)^8=18446744073709551616^4*18446744073709551616^4:=by rw[←Nat.pow_add]
 rw[h6]
 generalize hB:(18446744073709551616:Nat)^4=B at *
 have hB1:2≤B:=by rw[←hB];decide
 have h7:(B - 1)*(B - 1)+(B - 1)<B*B:=by
  obtain⟨c,rfl⟩:∃c,B=c+1:=⟨B - 1,An⟩
  simp only[Nat.add_sub_cancel]
  rw[Nat.add_mul,Nat.mul_add]
  omega
 omega
def MaH (g7 g8 g9 g10:Nat)(xs ys zs os:List Nat):List Chunk:=
 [.cells g7 (uvs xs).toArray 120,.cells g8 (uvs ys).toArray 120,.cells g9 (uvs zs).toArray 120,.cells g10 (uvs os).toArray 170]
def MaRel (w:World)(g7 g8 g9 g10:Nat)(xs ys zs:List Nat)(T k:Nat)(cav:Value)(wr:World):Prop:=
 ∃(os:List Nat) (ca:Nat),os.length=8∧aT os∧cav=.int .u64 (ca:Int)∧ca<18446744073709551616∧lv os+ca*18446744073709551616^k=T∧St w NoB wr (MaH g7 g8 g9 g10 xs ys zs os)
theorem muladd_walk (A B C:Option Addr)(ca cb cc:Nat)(a b c:List UInt8)(w:World)(hla:a.length=32)(hlb:b.length=32)(hlc:c.length=32)
  (ha:Rd w (.slice A 32 ca) 1 32 (bvs a))(hb:Rd w (.slice B 32 cb) 1 32 (bvs b))(hc:Rd w (.slice C 32 cc) 1 32 (bvs c)) :
  Calls Tryz.prog 107 #[.slice A 32 ca,.slice B 32 cb,.slice C 32 cc] w (iI 5 w (leB 32 ((bval a*bval b+bval c)%Lq))):=by
 have HA:=aA ha
 have HB:=aA hb
 have HC:=aA hc
 have LA:=aA hla
 have LB:=aA hlb
 have LC:=aA hlc
 clear ha hb hc hla hlb hlc
 go_enter Tryz.func107,Tryz.ntmps107
 go_upto_region 5 with(first
  |(go_at_call 92;((with_reducible refine(from_walk A ca a _ LA.out HA.out).mono ?_);rintro e w1 ⟨x0,x1,x2,x3,hxw,hxv,rfl,hb1⟩;have HXV:=aA hxv;clear hxv))
  |(go_at_call 92;((with_reducible refine(from_walk B cb b _ LB.out (HB.out.below hb1)).mono ?_);rintro e w2 ⟨y0,y1,y2,y3,hyw,hyv,rfl,hb2⟩;have HYV:=aA hyv;clear hyv;have hb12:=hb1.trans (hb2.mono hb1.size)))
  |(go_at_call 92;((with_reducible refine(from_walk C cc c _ LC.out (HC.out.below hb12)).mono ?_);rintro e w3 ⟨z0,z1,z2,z3,hzw,hzv,rfl,hb3⟩;have HZV:=aA hzv;clear hzv;have hb13:=hb12.trans (hb3.mono hb12.size))))
 have hS0:=((((St.init w NoB).call hb13).alloc (uvs [x0,x1,x2,x3]).toArray 120).alloc (uvs [y0,y1,y2,y3]).toArray 120).alloc (uvs [z0,z1,z2,z3]).toArray 120
 have hS1:=hS0.alloc (uvs [0,0,0,0,0,0,0,0]).toArray 170
 simp only[size_alloc1] at hS1
 have hS2:=hS1.pickL (H':=MaH w3.heap.size (w3.heap.size+1) (w3.heap.size+1+1) (w3.heap.size+1+1+1) [x0,x1,x2,x3] [y0,y1,y2,y3] [z0,z1,z2,z3] [0,0,0,0,0,0,0,0]) [3,2,1,0] Bz rfl
 obtain⟨g7,hg7⟩:∃g7,g7=w3.heap.size:=⟨_,rfl⟩
 obtain⟨g8,hg8⟩:∃g8,g8=w3.heap.size+1:=⟨_,rfl⟩
 obtain⟨g9,hg9⟩:∃g9,g9=w3.heap.size+1+1:=⟨_,rfl⟩
 obtain⟨g10,hg10⟩:∃g10,g10=w3.heap.size+1+1+1:=⟨_,rfl⟩
 rw[←hg10,←hg9,←hg8,←hg7] at hS2 ⊢
 have hS3:=hS2.drew
 clear hS0 hS1 hS2 hb1 hb2 hb3 hb12 hb13 hg7 hg8 hg9 hg10
 refine wp_region_MF (fun i=>i==2) Bt ?_
 (refine mU 0 (v:=?_) fR ?_;(try refine nm ?_));(refine mU 1 (v:=?_) fR ?_;(try refine nm ?_))
 (refine aZ (i:=2) Bt rfl rfl ?_;intro K hK;(try refine nm ?_))
 unfold MaH at hS3
 refine step_copy rfl rfl Tryz.underlying189 tyU64 hS3 3 rfl (dn:=8) (dc:=8) (m:=4) (ys:=uvs [z0,z1,z2,z3]) rfl rfl (rd_cells hS3 2 rfl 4 rfl Bz) An An Bz (uvs_one _) ?_
 intro w4 hS4
 refine hK _ _ ?_
 clear hK K hS3
 (try refine nm ?_)
 refine wpAny_done Bt ?_ _
 have hS5:St w NoB w4 (MaH g7 g8 g9 g10 [x0,x1,x2,x3] [y0,y1,y2,y3] [z0,z1,z2,z3] [z0,z1,z2,z3,0,0,0,0]):=hS4
 obtain⟨xs,hxs⟩:∃xs,xs=[x0,x1,x2,x3]:=⟨_,rfl⟩
 obtain⟨ys,hys⟩:∃ys,ys=[y0,y1,y2,y3]:=⟨_,rfl⟩
 obtain⟨zs,hzs⟩:∃zs,zs=[z0,z1,z2,z3]:=⟨_,rfl⟩
 have hxl:xs.length=4:=by rw[hxs];rfl
 have hyl:ys.length=4:=by rw[hys];rfl
 have hzl:zs.length=4:=by rw[hzs];rfl
 have hos:aT [z0,z1,z2,z3,0,0,0,0]:=by
  intro v hv
  have h4:=hzw
  rw[show [z0,z1,z2,z3,0,0,0,0]=[z0,z1,z2,z3]++[0,0,0,0] from rfl] at hv
  rcases List.mem_append.1 hv with h|h
  ·exact h4 v h
  ·simp only[List.mem_cons,List.not_mem_nil,or_false,or_self] at h;omega
 have hov:lv [z0,z1,z2,z3,0,0,0,0]=lv [z0,z1,z2,z3]:=by simp[lv]
 rw[←hxs] at hxw HXV hS5
 rw[←hys] at hyw HYV hS5
 rw[←hzs] at hzw HZV hS5 hov
 have HS5:=aA hS5
 have HOV:=aA hov
 have HOS:=aA hos
 have HXL:=aA hxl
 have HYL:=aA hyl
 have HZL:=aA hzl
 have HXW:=aA hxw
 have HYW:=aA hyw
 have HZW:=aA hzw
 clear hS5 hS4 hxs hys hzs hxl hyl hzl hxw hyw hzw hos hov
 go_wp2_with fail
 go_loopw [40] (fun i wr=>∃k:Nat,k≤4∧i=.int .i64 (k:Int)∧MaRel w g7 g8 g9 g10 xs ys zs (lv zs+lv (xs.take k)*lv ys) 8 (.int .u64 0) wr) (fun i _=>4 - (intOf i).toNat)
 case atStart=>exact⟨0,An,rfl,_,0,rfl,HOS.out,rfl,An,by rw[HOV.out];simp[lv],HS5.out⟩
 case round =>
  obtain⟨i,hi,rfl,os,c0,hol,how,hc0,_,hov,hS⟩:=hrel
  obtain rfl:c0=0:=by injection hc0 with _ h;omega
  clear hc0 HS5
  have HOV2:=aA (show lv os=lv zs+lv (xs.take i)*lv ys by rw[←hov];simp)
  by_cases hlt:i<4
  ·obtain⟨x,hx⟩:=iR xs HXL.out i hlt
   have hxx:=cG HXW.out hx
   have hbd:=mad_bound xs ys zs (i+1) HXW.out HYW.out HZW.out HXL.out HYL.out HZL.out
   rw[gH hx] at hbd
   have HBD:=aA hbd
   have HX:=aA hx
   have HXX:=aA hxx
   have HOL:=aA hol
   have HOW:=aA how
   have HS:=aA hS
   have hi4:(i:Int)<4:=An
   clear hbd hx hxx hol how hS hov
   go_wp2_with fail
   go_loopw [12,43] (fun cv kv wr=>∃k:Nat,k≤4∧kv=.int .i64 (k:Int)∧MaRel w g7 g8 g9 g10 xs ys zs (lv os+x*lv (ys.take k)*18446744073709551616^i) (i+k) cv wr) (fun _ kv _=>4 - (intOf kv).toNat)
   case atStart=>exact⟨0,An,rfl,os,0,HOL.out,HOW.out,rfl,An,by simp[lv],HS.out⟩
   case round =>
    obtain⟨k,hk,rfl,os2,ca,hol2,how2,rfl,hcaw,hov2,hS2⟩:=hrel
    by_cases hlt2:k<4
    ·obtain⟨y,hy⟩:=iR ys HYL.out k hlt2
     obtain⟨o,ho⟩:∃o,os2[i+k]?=some o:=⟨os2[i+k]'An,gE _⟩
     have hyy:=cG HYW.out hy
     have hoo:=cG how2 ho
     obtain⟨p1,p2,p3,p4⟩:=mad_spec x y o ca HXX.out hyy hoo hcaw
     have hstep:=aA (mad_step os2 ys i k x y o _ ca _ _ ho hy p1 hov2)
     have hmul:=fun W=>mul_any x y W HXX.out hyy
     have HMUL:=aA hmul
     clear hmul p1 hov2
     generalize muH x y=hiw at *
     generalize muL x y=low at *
     have A1:=add0_any low o
     have A2:=add0_any (adS low o 0) ca
     generalize adS (adS low o 0) ca 0=s2 at *
     generalize adC (adS low o 0) ca 0=c2 at *
     generalize adS low o 0=s1 at *
     generalize adC low o 0=c1 at *
     have hw1:IntKind.u64.wrap ((hiw:Int)+(c1:Int))=((hiw+c1:Nat):Int):=Cl
     have hw2:IntKind.u64.wrap (((hiw+c1:Nat):Int)+(c2:Int))=((hiw+c1+c2:Nat):Int):=Cl
     have P2:=aA p2
     have P4:=aA p4
     have HW2:=aA how2
     have HL2:=aA hol2
     have HS2:=aA hS2
     have hS3:=aA hS2.drew
     have cx:∀z,aC wr.drew z→z.cell? ⟨g7,i,none⟩=some (.int .u64 (x:Int)):=fun z hz=>by
      rw[hz.cell (p:=⟨g7,i,none⟩) (Chunk.lt (hS3.out.sat 0 _ rfl) rfl),hS3.out.cell 0 rfl i]
      exact aR HX.out
     have cy:∀z,aC wr.drew z→z.cell? ⟨g8,k,none⟩=some (.int .u64 (y:Int)):=fun z hz=>by
      rw[hz.cell (p:=⟨g8,k,none⟩) (Chunk.lt (hS3.out.sat 1 _ rfl) rfl),hS3.out.cell 1 rfl k]
      exact aR hy
     have co:wr.drew.cell? ⟨g10,i+k,none⟩=some (.int .u64 (o:Int)):=by
      rw[hS3.out.cell 3 rfl (i+k)]
      exact aR ho
     have fo:=hS3.out.free 3 rfl (i+k)
     have hk4:(k:Int)<4:=An
     have hik8:(i:Int)+(k:Int)<8:=An
     have hikn:((i:Int)+(k:Int)).toNat=i+k:=An
     clear p2 p3 p4 how2 hol2 hS2 ho hy hyy hoo hcaw
     go_wp2_with fail
     refine cW Bt ?_
     (refine gT 0 (v:=?_) fR ?_;(try refine nm ?_));(refine gT 1 (v:=?_) fR ?_;(try refine nm ?_));(refine gT 2 (v:=?_) fR ?_;(try refine nm ?_));(refine gT 3 (v:=?_) fR ?_;(try refine nm ?_));(refine gT 4 (v:=?_) fR ?_;(try refine nm ?_));(refine gT 5 (v:=?_) fR ?_;(try refine nm ?_))
     (refine cD (i:=6) Bt rfl ?_;intro K hK;(try refine nm ?_))
     refine aO rfl rfl enMul rfl (HMUL.out _) ?_
     rintro e w5 ⟨rfl,rfl⟩
     refine⟨_,rfl,hK (aC wr.drew) _ _ (fun _ h=>h) fR ?_⟩
     clear hK K
     (try refine nm ?_)
     (refine gT 7 (v:=?_) fR ?_;(try refine nm ?_));(refine gT 8 (v:=?_) fR ?_;(try refine nm ?_));(refine gT 9 (v:=?_) fR ?_;(try refine nm ?_));(refine gT 10 (v:=?_) fR ?_;(try refine nm ?_));(refine gT 11 (v:=?_) fR ?_;(try refine nm ?_))
     refine cX Bt ?_ _
     go_wp2_with fail
     go_roundw
     case rel =>
      have hw3:IntKind.u64.wrap ((hiw:Int)+(c1:Int)+(c2:Int))=((hiw+c1+c2:Nat):Int):=by
       have:=P4.out
       rw[IntKind.wrap_u64];omega
      refine⟨k+1,An,Cg,os2.set (i+k) s2,hiw+c1+c2,by rw[List.length_set];exact HL2.out,fH HW2.out _ _ P2.out,congrArg (Value.int .u64) hw3,P4.out,hstep.out,?_⟩
      have:=(HS2.out.setCell 3 rfl (i+k) (.int .u64 (s2:Int))).drew
      rw[bH] at this
      exact this
     case measure=>simp[intOf];try omega
    ·obtain rfl:k=4:=by omega
     have HS2:=aA hS2
     have HL2:=aA hol2
     have HW2:=aA how2
     have hT:lv os2+ca*18446744073709551616^(i+4)=lv zs+lv (xs.take (i+1))*lv ys:=by
      have e4:ys.take 4=ys:=List.take_of_length_le (by rw[HYL.out];exact Nat.le_refl _)
      rw[hov2,HOV2.out,gH HX.out,Nat.add_mul,e4,Nat.add_assoc,Nat.mul_right_comm x]
     have HTT:=aA hT
     clear hS2 hol2 how2 hT hov2
     go_wp2_with fail
     go_loopw [12,17] (fun cv kv wr=>∃k:Nat,k≤8∧i+4≤k∧kv=.int .i64 (k:Int)∧MaRel w g7 g8 g9 g10 xs ys zs (lv zs+lv (xs.take (i+1))*lv ys) k cv wr) (fun _ kv _=>8 - (intOf kv).toNat)
     case atStart=>exact⟨i+4,An,An,Cg,os2,ca,HL2.out,HW2.out,rfl,hcaw,HTT.out,HS2.out⟩
     case round =>
      obtain⟨k,hk8,hki,rfl,os3,cb',hol3,how3,rfl,hcbw,hov3,hS3⟩:=hrel
      clear HS2 HL2 HW2 HTT
      by_cases hlt3:k<8
      ·obtain⟨o,ho⟩:∃o,os3[k]?=some o:=⟨os3[k]'An,gE _⟩
       have hoo:=cG how3 ho
       obtain⟨a1,a2,a3⟩:=ad_spec o cb' 0 hoo hcbw (Nat.zero_le 1)
       have hstep:=aA (car_step os3 k o _ cb' _ _ ho (by rw[Nat.add_zero] at a1;exact a1) hov3)
       have A1:=add0_any o cb'
       generalize adS o cb' 0=s1 at *
       generalize adC o cb' 0=c1 at *
       have HS3:=aA hS3
       have HL3:=aA hol3
       have HW3:=aA how3
       have AA2:=aA a2
       have co:wr.cell? ⟨g10,k,none⟩=some (.int .u64 (o:Int)):=by
        rw[hS3.cell 3 rfl k]
        exact aR ho
       have fo:=hS3.free 3 rfl k
       clear hS3 hol3 how3 hov3 ho hoo a1 a2
       go_wp2_with fail
       go_roundw
       case rel =>
        refine⟨k+1,An,An,Cg,os3.set k s1,c1,by rw[List.length_set];exact HL3.out,fH HW3.out _ _ AA2.out,rfl,An,hstep.out,?_⟩
        have:=HS3.out.setCell 3 rfl k (.int .u64 (s1:Int))
        rw[bH] at this
        exact this
       case measure=>simp[intOf];try omega
      ·obtain rfl:k=8:=by omega
       have hc0:cb'=0:=by
        have h1:=HBD.out
        rw[←gH HX.out,←hov3] at h1
        rcases Nat.eq_zero_or_pos cb' with h|h
        ·exact h
        ·have:18446744073709551616^8≤cb'*18446744073709551616^8:=Nat.le_mul_of_pos_left _ h
         omega
       have HC0:=aA hc0
       have HS3:=aA hS3
       have HL3:=aA hol3
       have HW3:=aA how3
       have HO3:=aA hov3
       clear hS3 hol3 how3 hov3 hc0
       go_wp2_with fail
       go_roundw
       case rel=>exact⟨i+1,An,Cg,os3,0,HL3.out,HW3.out,rfl,An,by rw[←HO3.out,HC0.out],HS3.out⟩
       case measure=>simp[intOf];try omega
  ·obtain rfl:i=4:=by omega
   have hv8:lv os<256^64:=by
    have:=lv_lt os how
    rw[hol] at this
    rw[show(256:Nat)^64=18446744073709551616^8 from by decide]
    exact this
   have SP:=fun W=>spelt_walk (some ⟨g10,0,none⟩) 8 8 os W hol An
   have hsp:=spB_eq os how
   rw[hol,show 8*8=64 from rfl] at hsp
   have RD:=fun(W:World) (A:Option Addr) (c:Nat)=>reduce_walk A 64 c (leB 64 (lv os)) W (leB_len 64 _) (Nat.le_refl 64)
   rw[bval_leB,Nat.mod_eq_of_lt hv8] at RD
   have hfin:lv os=bval a*bval b+bval c:=by
    rw[HOV2.out,List.take_of_length_le (by rw[HXL.out];exact Nat.le_refl _),HXV.out,HYV.out,HZV.out,Nat.add_comm]
   rw[hfin] at RD hsp
   have HSP:=aA SP
   have HRD:=aA RD
   have HSPE:=aA hsp
   have HS:=aA hS
   clear SP RD hsp hS hv8 hfin how hov
   go_wp2_with (first
    |(go_at_call 146;refine(HSP.out _ (rd_cells HS.out 3 rfl 8 (by rw[cE];exact hol) Bz)).mono ?_;rintro e w5 ⟨B5,d5,rfl,hb5,ho5⟩;rw[HSPE.out] at ho5 ⊢;rw[leB_len] at ho5 ⊢;have hS5:=HS.out.row hb5 ho5)
    |(go_at_call 97;refine(HRD.out _ B5 d5 (hS5.rd 0 rfl)).mono ?_;rintro e w6 ⟨B6,d6,rfl,hb6,ho6⟩;have hS6:=hS5.row hb6 ho6))
   go_ret
   exact dY hS6 0 rfl rfl
theorem infoB:(Tryz.prog.info? 5).map (fun i=>(i.zero,i.size,i.bytes))=some (some (.int .u8 0),1,1):=Bt
@[irreducible] def clA (c:Nat):Nat:=c &&& 248
@[irreducible] def clB (c:Nat):Nat:=(c &&& 127)||| 64
theorem clA_lt (c:Nat)(h:c<256):clA c<256:=by unfold clA;exact Nat.lt_of_le_of_lt Nat.and_le_left h
theorem clB_lt (c:Nat)(h:c<256):clB c<256:=by unfold clB;exact Nat.or_lt_two_pow (n:=8) (Nat.lt_of_le_of_lt Nat.and_le_left h) An
theorem clA_eq (c:Nat)(h:c<256):bits .and .u8 (c:Int) 248=(clA c:Int):=by unfold clA;exact u8_and_nat c 248 h An
theorem clB_eq (c:Nat)(h:c<256):bits .or .u8 (bits .and .u8 (c:Int) 127) 64=(clB c:Int):=by
 have e1:bits .and .u8 (c:Int) 127=((c &&& 127:Nat):Int):=u8_and_nat c 127 h An
 have hlt:c &&& 127<256:=Nat.lt_of_le_of_lt Nat.and_le_left h
 rw[e1,u8_or _ _ An An An An]
 unfold clB
 rfl
@[irreducible] def clampL (l:List UInt8):List UInt8:=(l.set 0 (UInt8.ofNat (clA ((l.getD 0 0).toNat)))).set 31 (UInt8.ofNat (clB ((l.getD 31 0).toNat)))
theorem clampL_eq (l:List UInt8)(a b:UInt8)(ha:l[0]?=some a)(hb:l[31]?=some b):clampL l=(l.set 0 (UInt8.ofNat (clA a.toNat))).set 31 (UInt8.ofNat (clB b.toNat)):=by
 unfold clampL
 rw[List.getD_eq_getElem?_getD,List.getD_eq_getElem?_getD,ha,hb]
 rfl
theorem clampL_len (l:List UInt8):(clampL l).length=l.length:=by unfold clampL;simp
theorem clamp_walk (A:Option Addr)(c:Nat)(l:List UInt8)(w:World)(hl:l.length=32)(hr:Rd w (.slice A 32 c) 1 32 (bvs l)) :
  Calls Tryz.prog 76 #[.slice A 32 c] w (iI 5 w (clampL l)):=by
 obtain⟨a,ha⟩:∃a,l[0]?=some a:=⟨l[0],gE _⟩
 obtain⟨b,hb⟩:∃b,l[31]?=some b:=⟨l[31],gE _⟩
 have e:=clampL_eq l a b ha hb
 have a2:=UInt8.toNat_lt a
 have b2:=UInt8.toNat_lt b
 have ga:=bE ha
 have gb:=bE hb
 obtain⟨an,han⟩:∃an,an=a.toNat:=⟨_,rfl⟩
 obtain⟨bn,hbn⟩:∃bn,bn=b.toNat:=⟨_,rfl⟩
 rw[←han] at e a2 ga
 rw[←hbn] at e b2 gb
 have eA:=clA_eq an a2
 have eB:=clB_eq bn b2
 have hS:=St.init w NoB
 have HR:=aA hr
 have HE:=aA e
 have HL:=aA hl
 have GA:=aA ga
 have GB:=aA gb
 have LA:=aA (clA_lt an a2)
 have LB:=aA (clB_lt bn b2)
 clear hr e hl ga gb ha hb han hbn
 go_enter Tryz.func76,Tryz.ntmps76
 go_wp2_with (at_builtin;refine bJ rfl rfl tyB hS rfl rfl HR.out (bD _) An Bz ?_;intro A1 c1 w1 hS1;obtain⟨g,c1',hv,hc1,hcm,hcs,hfr,_⟩:=hS1.rowOpen 0 rfl An;injection hv with hv1 _ hv3;subst hv1 hv3;have k0:=hcs 0 _ GA.out;have k31:=hcs 31 _ GB.out;have f0:=hfr 0;have f31:=hfr 31;have HS1:=aA hS1;clear hS1 hcs hfr)
 go_ret
 have h2:=(HS1.out.rowSet 0 rfl 0 (.int .u8 (clA an:Nat)) An).rowSet 0 rfl 31 (.int .u8 (clB bn:Nat)) An
 rw[fG _ _ _ LA.out,fG _ _ _ LB.out,←HE.out] at h2
 have h3:=dY (l:=clampL l) h2 0 rfl rfl
 exact h3
@[irreducible] def fullL (l:List UInt8):List UInt8:=(l++List.replicate 32 0).take 32
theorem fullL_len (l:List UInt8):(fullL l).length=32:=Cs
@[irreducible] def zz:List UInt8:=List.replicate 32 0
theorem rd_mid {w:World}{b o n c:Nat}{l:List UInt8}(h:Rd w (.slice (some ⟨b,o,none⟩) n c) 1 n (bvs l))(i j:Nat)(hij:i≤j)(hj:j≤n) :
  Rd w (.slice (some ⟨b,o+i,none⟩) (j - i) (c - i)) 1 (j - i) (bvs ((l.drop i).take (j - i))):=by
 obtain⟨A',c',e,h1,h2,h3,h4,h5⟩:=h
 injection e with e1 _ e3
 subst e1 e3
 rw[aX] at h1
 refine⟨_,_,rfl,Cr,An,An,(fun h=>by cases h),?_⟩
 intro b' o' sp' hA
 injection hA with hA
 injection hA with k1 k2 k3
 subst k1 k2 k3
 refine⟨fun _=>rfl,fun k u hu=>?_⟩
 obtain⟨x,hx,rfl⟩:∃x,((l.drop i).take (j - i))[k]?=some x∧u=.int .u8 (x.toNat:Int):=by
  simp only[bvs,List.getElem?_map,Option.map_eq_some_iff] at hu
  obtain⟨x,h1,h2⟩:=hu
  exact⟨x,h1,h2.symm⟩
 have hk:k<j - i:=by
  have:=(List.getElem?_eq_some_iff.1 hx).1
  rw[List.length_take] at this
  omega
 rw[List.getElem?_take_of_lt hk,List.getElem?_drop] at hx
 have:=(h5 b o none rfl).2 (i+k) _ (bE hx)
 rwa [show o+(i+k)=o+i+k from by omega] at this
theorem rd_at {w:World}{b o n c size:Nat}{xs:List Value}(h:Rd w (.slice (some ⟨b,o,none⟩) n c) size n xs){j:Nat}{u:Value}(hu:xs[j]?=some u):w.cell? ⟨b,o+j,none⟩=some u:=by
 obtain⟨A',c',e,_,_,_,_,h5⟩:=h
 injection e with e1 _ _
 subst e1
 exact(h5 b o none rfl).2 j u hu
@[irreducible] def madL (a b c:List UInt8):List UInt8:=leB 32 ((bval a*bval b+bval c)%Lq)
@[irreducible] def redL (a:List UInt8):List UInt8:=leB 32 (bval a%Lq)
theorem madL_len (a b c:List UInt8):(madL a b c).length=32:=by unfold madL;exact leB_len _ _
theorem redL_len (a:List UInt8):(redL a).length=32:=by unfold redL;exact leB_len _ _
theorem Lq_256:Lq<256^32:=by unfold Lq;decide
theorem bval_mod (n:Nat):bval (leB 32 (n%Lq))=n%Lq:=by
 rw[bval_leB,Nat.mod_eq_of_lt]
 exact Nat.lt_trans (Nat.mod_lt _ Lq_lt.2) Lq_256
theorem bval_madL (a b c:List UInt8):bval (madL a b c)=(bval a*bval b+bval c)%Lq:=by unfold madL;exact bval_mod _
theorem may_of (l:List UInt8)(h:l.length=32)(hv:bval l<Lq):mayS l=true:=by unfold mayS;rw[decide_eq_true h,decide_eq_true hv];rfl
theorem may_madL (a b c:List UInt8):mayS (madL a b c)=true:=may_of _ (madL_len a b c) (by rw[bval_madL];exact Nat.mod_lt _ Lq_lt.2)
end Go.Proofs.YtnohmgpmmhlloaaGreatDoor.S3
namespace Go.Proofs.YtnohmgpmmhlloaaGreatDoor.S1
open Go.RowKit
abbrev W1:Nat:=18446744073709551616
@[irreducible] def rot (x n:Nat):Nat:=x/2^n||| x*2^(64 - n)%W1
theorem or_lt (a b:Nat)(ha:a<W1)(hb:b<W1):a||| b<W1:=Nat.or_lt_two_pow (n:=64) ha hb
theorem xor_lt (a b:Nat)(ha:a<W1)(hb:b<W1):a ^^^ b<W1:=Nat.xor_lt_two_pow (n:=64) ha hb
theorem eH (a b:Nat)(ha:a<W1):a &&& b<W1:=Nat.lt_of_le_of_lt Nat.and_le_left ha
theorem cS (x n:Nat)(hx:x<W1):rot x n<W1:=by
 unfold rot
 exact or_lt _ _ (Nat.lt_of_le_of_lt (Nat.div_le_self _ _) hx) (Nat.mod_lt _ Bz)
@[irreducible] def mix (x a b c:Nat):Nat:=(rot x a ^^^ rot x b) ^^^ rot x c
@[irreducible] def spr (x a b s:Nat):Nat:=(rot x a ^^^ rot x b) ^^^ x/2^s
theorem rot_l (x s:Nat)(hx:x<W1):bits .or .u64 (IntKind.u64.wrap ((x:Int)*2^s)) ((x:Int)/2^(64 - s))=((x/2^(64 - s)||| x*2^s%W1:Nat):Int):=by
 have e1:IntKind.u64.wrap ((x:Int)*2^s)=((x*2^s%W1:Nat):Int):=by
  rw[IntKind.wrap_u64,show(x:Int)*2^s=((x*2^s:Nat):Int) from by rw[Int.natCast_mul,Int.natCast_pow];rfl]
  rfl
 have e2:(x:Int)/2^(64 - s)=((x/2^(64 - s):Nat):Int):=by
  rw[Int.natCast_ediv,Int.natCast_pow]
  rfl
 rw[e1,e2,u64_or_nat _ _ (Nat.mod_lt _ Bz) (Nat.lt_of_le_of_lt (Nat.div_le_self _ _) hx),Nat.or_comm]
theorem rot_r (x n:Nat)(hx:x<W1):bits .or .u64 ((x:Int)/2^n) (IntKind.u64.wrap ((x:Int)*2^(64 - n)))=((rot x n:Nat):Int):=by
 have e1:IntKind.u64.wrap ((x:Int)*2^(64 - n))=((x*2^(64 - n)%W1:Nat):Int):=by
  rw[IntKind.wrap_u64,show(x:Int)*2^(64 - n)=((x*2^(64 - n):Nat):Int) from by rw[Int.natCast_mul,Int.natCast_pow];rfl]
  rfl
 have e2:(x:Int)/2^n=((x/2^n:Nat):Int):=by
  rw[Int.natCast_ediv,Int.natCast_pow]
  rfl
 rw[e1,e2,u64_or_nat _ _ (Nat.lt_of_le_of_lt (Nat.div_le_self _ _) hx) (Nat.mod_lt _ Bz)]
 unfold rot
 rfl
theorem rotl_walk (x n:Nat)(w:World)(hx:x<W1)(h1:1≤n)(h2:n≤63) :
  Calls Tryz.prog 183 #[.int .u64 (x:Int),.int .i64 (-(n:Int))] w fun e w'=>e=.returned (.int .u64 (rot x n:Int))∧w=w':=by
 have hm:bits .and .u64 (IntKind.u64.wrap (-(n:Int))) 63=((64 - n:Nat):Int):=by
  have e:IntKind.u64.wrap (-(n:Int))=((W1 - n:Nat):Int):=by rw[IntKind.wrap_u64];unfold W1;omega
  have h:=u64_and_nat (W1 - n) 63 (by unfold W1;omega) An
  rw[show(W1 - n) &&& 63=(W1 - n)%64 from Nat.and_two_pow_sub_one_eq_mod _ 6] at h
  rw[e]
  refine h.trans ?_
  unfold W1
  omega
 have hr:=rot_l x (64 - n) hx
 obtain⟨s,hs⟩:∃s,s=64 - n:=⟨_,rfl⟩
 rw[show 64 - (64 - n)=64 - s from by omega,←hs] at hr
 have he:(x/2^(64 - s)||| x*2^s%W1)=rot x n:=by unfold rot;rw[show 64 - s=n from by omega,hs]
 rw[he] at hr
 rw[←hs] at hm
 have s1:1≤s:=An
 have s2:s≤63:=An
 have HR:=aA hr
 clear hs he hr
 go_enter Tryz.func183,Tryz.ntmps183
 go_wp2_with fail
 go_ret
 exact⟨congrArg (fun z=>Ending.returned (.int .u64 z)) HR.out,rfl⟩
theorem e8 (x n:Nat)(w:World)(hx:x<W1)(h1:1≤n)(h2:n≤63) :
  Calls Tryz.prog 179 #[.int .u64 (x:Int),.int .i64 (n:Int)] w fun e w'=>e=.returned (.int .u64 (rot x n:Int))∧w=w':=by
 have HC:=aA (fun W=>rotl_walk x n W hx h1 h2)
 go_enter Tryz.func179,Tryz.ntmps179
 go_wp2_with (go_at_call 183;refine(HC.out _).mono ?_;rintro e w1 ⟨rfl,rfl⟩)
 go_ret
 exact⟨rfl,rfl⟩
theorem dJ (x n:Nat)(w:World)(hx:x<W1)(h1:1≤n)(h2:n≤63) :
  Calls Tryz.prog 142 #[.int .u64 (x:Int),.int .u64 (n:Int)] w fun e w'=>e=.returned (.int .u64 (rot x n:Int))∧w=w':=by
 have HR:=aA (rot_r x n hx)
 go_enter Tryz.func142,Tryz.ntmps142
 go_wp2_with fail
 go_ret
 exact⟨congrArg (fun z=>Ending.returned (.int .u64 z)) HR.out,rfl⟩
theorem mixes_any (x a b c:Nat)(w:World)(hx:x<W1)(ha:1≤a∧a≤63)(hb:1≤b∧b≤63)(hc:1≤c∧c≤63) :
  Calls Tryz.prog 164 #[.int .u64 (x:Int),.int .i64 (a:Int),.int .i64 (b:Int),.int .i64 (c:Int)] w fun e w'=>e=.returned (.int .u64 (mix x a b c:Int))∧w=w':=by
 have x1:=u64_xor_nat (rot x a) (rot x b) (cS x a hx) (cS x b hx)
 have x2:=u64_xor_nat (rot x a ^^^ rot x b) (rot x c) (xor_lt _ _ (cS x a hx) (cS x b hx)) (cS x c hx)
 have HA:=aA (fun W=>e8 x a W hx ha.1 ha.2)
 have HB:=aA (fun W=>e8 x b W hx hb.1 hb.2)
 have HC:=aA (fun W=>e8 x c W hx hc.1 hc.2)
 have he:(rot x a ^^^ rot x b) ^^^ rot x c=mix x a b c:=by unfold mix;rfl
 rw[he] at x2
 generalize mix x a b c=y2 at *
 generalize rot x a ^^^ rot x b=y1 at *
 generalize rot x a=r1 at *
 generalize rot x b=r2 at *
 generalize rot x c=r3 at *
 clear he ha hb hc hx
 go_enter Tryz.func164,Tryz.ntmps164
 go_wp2_with (first
  |(have _q:=q2;go_at_call 179;refine(HC.out _).mono ?_;rintro e w1 ⟨rfl,rfl⟩;have q3:True:=trivial)
  |(have _q:=q1;go_at_call 179;refine(HB.out _).mono ?_;rintro e w1 ⟨rfl,rfl⟩;have q2:True:=trivial)
  |(go_at_call 179;refine(HA.out _).mono ?_;rintro e w1 ⟨rfl,rfl⟩;have q1:True:=trivial))
 go_ret
 exact⟨rfl,rfl⟩
theorem enRotated (args:Array Value)(w:World):(callFunc 179 args).run Tryz.prog w=.ok (.enter 179 args) w:=Bt
theorem spread_any (x a b s:Nat)(w:World)(hx:x<W1)(ha:1≤a∧a≤63)(hb:1≤b∧b≤63)(hs:s≤63) :
  Calls Tryz.prog 178 #[.int .u64 (x:Int),.int .i64 (a:Int),.int .i64 (b:Int),.int .i64 (s:Int)] w fun e w'=>e=.returned (.int .u64 (spr x a b s:Int))∧Below w.heap.size w w':=by
 have x1:=u64_xor_nat (rot x a) (rot x b) (cS x a hx) (cS x b hx)
 have x2:=u64_xor_nat (rot x a ^^^ rot x b) (x/2^s) (xor_lt _ _ (cS x a hx) (cS x b hx)) (Nat.lt_of_le_of_lt (Nat.div_le_self _ _) hx)
 rw[show(((x/2^s:Nat)):Int)=(x:Int)/2^s from by rw[Int.natCast_ediv,Int.natCast_pow];rfl] at x2
 have HA:=aA (fun W=>e8 x a W hx ha.1 ha.2)
 have HB:=aA (fun W=>e8 x b W hx hb.1 hb.2)
 have he:(rot x a ^^^ rot x b) ^^^ x/2^s=spr x a b s:=by unfold spr;rfl
 rw[he] at x2
 generalize spr x a b s=y2 at *
 generalize rot x a ^^^ rot x b=y1 at *
 generalize rot x a=r1 at *
 generalize rot x b=r2 at *
 clear he ha hb hx
 go_enter Tryz.func178,Tryz.ntmps178
 go_wp2_with fail
 refine cW Bt ?_
 (refine gT 0 (v:=?_) (aC.refl w.drew) ?_;(try refine nm ?_));(refine gT 1 (v:=?_) (aC.refl w.drew) ?_;(try refine nm ?_));(refine gT 3 (v:=?_) (aC.refl w.drew) ?_;(try refine nm ?_));(refine gT 4 (v:=?_) (aC.refl w.drew) ?_;(try refine nm ?_));(refine gT 7 (v:=?_) (aC.refl w.drew) ?_;(try refine nm ?_));(refine gT 8 (v:=?_) (aC.refl w.drew) ?_;(try refine nm ?_));(refine gT 9 (v:=?_) (aC.refl w.drew) ?_;(try refine nm ?_))
 (refine cD (i:=2) Bt rfl ?_;intro K hK;(try refine nm ?_))
 refine aO rfl rfl enRotated rfl (HA.out _) ?_
 rintro e v1 ⟨rfl,rfl⟩
 refine⟨_,rfl,hK (aC w.drew) _ _ (fun _ h=>h) (aC.refl w.drew) ?_⟩
 clear hK K
 (try refine nm ?_)
 (refine cD (i:=5) Bt rfl ?_;intro K hK;(try refine nm ?_))
 refine aO rfl rfl enRotated rfl (HB.out _) ?_
 rintro e v2 ⟨rfl,rfl⟩
 refine⟨_,rfl,hK (aC w.drew) _ _ (fun _ h=>h) (aC.refl w.drew) ?_⟩
 clear hK K
 (try refine nm ?_)
 (refine gT 6 (v:=?_) (aC.refl w.drew) ?_;(try refine nm ?_));(refine gT 10 (v:=?_) (aC.refl w.drew) ?_;(try refine nm ?_));(refine gT 11 (v:=?_) (aC.refl w.drew) ?_;(try refine nm ?_))
 refine cX Bt ?_ _
 go_wp2_with fail
 go_ret
 exact⟨rfl,(Below.refl _ _).drew⟩
def h0L:List Nat:=[7640891576956012808,13503953896175478587,4354685564936845355,11912009170470909681,5840696475078001361,11170449401992604703,2270897969802886507,6620516959819538809]
def kL:List Nat:=[4794697086780616226,8158064640168781261,13096744586834688815,16840607885511220156,4131703408338449720,6480981068601479193,10538285296894168987,12329834152419229976,15566598209576043074,1334009975649890238,2608012711638119052,6128411473006802146,8268148722764581231,9286055187155687089,11230858885718282805,13951009754708518548,16472876342353939154,17275323862435702243,1135362057144423861,2597628984639134821,3308224258029322869,5365058923640841347,6679025012923562964,8573033837759648693,10970295158949994411,12119686244451234320,12683024718118986047,13788192230050041572,14330467153632333762,15395433587784984357,489312712824947311,1452737877330783856,2861767655752347644,3322285676063803686,5560940570517711597,5996557281743188959,7280758554555802590,8532644243296465576,9350256976987008742,10552545826968843579,11727347734174303076,12113106623233404929,14000437183269869457,14369950271660146224,15101387698204529176,15463397548674623760,17586052441742319658,1182934255886127544,1847814050463011016,2177327727835720531,2830643537854262169,3796741975233480872,4115178125766777443,5681478168544905931,6601373596472566643,7507060721942968483,8399075790359081724,8693463985226723168,9568029438360202098,10144078919501101548,10430055236837252648,11840083180663258601,13761210420658862357,14299343276471374635,14566680578165727644,15097957966210449927,16922976911328602910,17689382322260857208,500013540394364858,748580250866718886,1242879168328830382,1977374033974150939,2944078676154940804,3659926193048069267,4368137639120453308,4836135668995329356,5532061633213252278,6448918945643986474,6902733635092675308,7801388544844847127]
def beV (l:List UInt8):Nat:=l.foldl (fun x c=>x*256+c.toNat) 0
def beL:Nat→Nat→List UInt8
 | 0,_=>[]
 | k+1,x=>UInt8.ofNat (x/2^(8*k)%256)::beL k x
theorem beL_len:∀(k x:Nat),(beL k x).length=k
 | 0,_=>rfl
 | k+1,x=>by rw[beL,List.length_cons,beL_len k x]
theorem beV_take {l:List UInt8}{k:Nat}{c:UInt8}(h:l[k]?=some c):beV (l.take (k+1))=beV (l.take k)*256+c.toNat:=by
 obtain⟨hk,hc⟩:=List.getElem?_eq_some_iff.1 h
 unfold beV
 rw[List.take_succ_eq_append_getElem hk,List.foldl_append,hc]
 rfl
theorem beV_lt (l:List UInt8):∀k,k≤l.length→beV (l.take k)<256^k
 | 0,_=>by simp[beV]
 | k+1,h=>by
  obtain⟨c,hc⟩:∃c,l[k]?=some c:=⟨l[k],gE An⟩
  have ih:=beV_lt l k An
  have:=c.toNat_lt
  rw[beV_take hc,Nat.pow_succ]
  omega
theorem shl_or (x c:Nat)(hx:x<72057594037927936)(hc:c<256):bits .or .u64 (IntKind.u64.wrap ((x:Int)*256)) (c:Int)=((x*256+c:Nat):Int):=by
 have e:IntKind.u64.wrap ((x:Int)*256)=((x*256:Nat):Int):=Cl
 rw[e,u64_or_nat _ _ An An,Nat.mul_comm x,show(256:Nat)=2^8 from rfl,←Nat.two_pow_add_eq_or_of_lt hc]
theorem rd_at0 {w:World}{b o n c size:Nat}{xs:List Value}(h:Rd w (.slice (some ⟨b,o,none⟩) n c) size n xs){j:Nat}{u:Value}(hu:xs[j]?=some u):w.cell? ⟨b,o+j,none⟩=some u:=by
 obtain⟨A',c',e,_,_,_,_,h5⟩:=h
 injection e with e1 _ _
 subst e1
 exact(h5 b o none rfl).2 j u hu
def WordRel (l:List UInt8)(x i:Value):Prop:=∃k:Nat,k≤l.length∧i=.int .i64 (k:Int)∧x=.int .u64 (beV (l.take k):Int)
theorem word_any (A:Option Addr)(c n:Nat)(l:List UInt8)(w:World)(hl:l.length=n)(hn:n≤8)(hr:Rd w (.slice A n c) 1 n (bvs l)) :
  Calls Tryz.prog 177 #[.slice A n c] w fun e w'=>e=.returned (.int .u64 (beV l:Int))∧w=w':=by
 have HL:=aA hl
 have HR:=aA hr
 clear hl hr
 have hn2:n≤9223372036854775807:=An
 go_enter Tryz.func177,Tryz.ntmps177
 go_wp2_with fail
 go_loop [3,8] (fun x i=>WordRel l x i) (fun _ i=>n - (intOf i).toNat)
 case atStart=>exact⟨0,Nat.zero_le _,rfl,rfl⟩
 case round =>
  obtain⟨k,hk,rfl,rfl⟩:=hrel
  have hkn:k≤n:=by rw[←HL.out];exact hk
  clear hk
  by_cases hlt:k<n
  ·obtain⟨ch,hc⟩:∃c,l[k]?=some c:=⟨l[k]'El,gE _⟩
   obtain⟨b,o,rfl⟩:∃b o,A=some ⟨b,o,none⟩:=by
    rcases HR.out.cases with⟨_,h0,_⟩|⟨b,o,sp,c',hv,_,_,_,_,h4,_⟩
    ·omega
    ·injection hv with hv1 _ _
     have:=h4 An
     subst this hv1
     exact⟨b,o,rfl⟩
   have hcell:=rd_at0 HR.out (bE hc)
   have hb:=beV_lt l k (by rw[HL.out];exact hkn)
   have hs:=shl_or (beV (l.take k)) ch.toNat (Nat.lt_of_lt_of_le hb (Nat.le_trans (Nat.pow_le_pow_right An (show k≤7 by omega)) Bz)) ch.toNat_lt
   have HT:=aA (beV_take hc)
   rw[←beV_take hc] at hs
   have hwc:IntKind.u64.wrap (ch.toNat:Int)=(ch.toNat:Int):=by have:=ch.toNat_lt;rw[IntKind.wrap_u64];omega
   have dk:decide ((k:Int)<(n:Int))=true:=A9
   have ik:(k:Int)<(n:Int):=An
   clear hc hb
   have HY:Hid (beV (l.take (k+1))=beV (l.take (k+1))):=aA rfl
   obtain⟨y,hy⟩:∃y,y=beV (l.take (k+1)):=⟨_,rfl⟩
   rw[←hy] at hs
   have HYE:=aA hy
   clear hy HY
   generalize beV (l.take k)=x at *
   generalize ch.toNat=cn at *
   go_wp2_with fail
   go_round
   case rel=>exact⟨k+1,Dp,Cg,by rw[←HYE.out]⟩
   case measure=>(simp[intOf])<;>omega
  ·obtain rfl:k=n:=by omega
   go_wp2_with fail
   go_ret
   refine⟨?_,rfl⟩
   show Ending.returned (.int .u64 ((beV (l.take k):Nat):Int))=_
   rw[List.take_of_length_le Em]
theorem tyB:RowTy Tryz.prog 22 5 1 1:=fQ (z:=.int .u8 0) Tryz.underlying22 Bt rfl Bz
theorem bvs_snoc (l:List UInt8)(m:Nat)(h:m<256):bvs (l++[UInt8.ofNat m])=bvs l++[.int .u8 (m:Int)]:=by
 simp only[bvs,List.map_append,List.map_cons,List.map_nil,bv,UInt8.toNat_ofNat']
 rw[Nat.mod_eq_of_lt An]
theorem byte_of (x s:Nat):IntKind.u8.wrap ((x:Int)/2^s)=((x/2^s%256:Nat):Int):=by
 rw[IntKind.wrap_u8,show(x:Int)/2^s=((x/2^s:Nat):Int) from by rw[Int.natCast_ediv,Int.natCast_pow];rfl]
 omega
def BehRel (w0:World)(M:Nat→Prop)(H:List Chunk)(T:List UInt8)(x:Nat)(v i:Value)(wr:World):Prop:=
 ∃(j:Nat) (B:Option Addr) (d n:Nat) (l:List UInt8),j≤8∧i=.int .i64 (8*(j:Int) - 8)∧v=.slice B n d∧l.length=n∧l++beL j x=T∧St w0 M wr (.row (.slice B n d) 5 1 n (bvs l)::H)
theorem behind_any {w0:World}{M:Nat→Prop}{H:List Chunk}(B:Option Addr)(d n x:Nat)(l:List UInt8)(w:World)(hl:l.length=n)(hn:n≤100000)(hx:x<W1)
  (hS:St w0 M w (.row (.slice B n d) 5 1 n (bvs l)::H)) :
  Calls Tryz.prog 134 #[.slice B n d,.int .u64 (x:Int)] w fun e w'=>∃B' d',e=.returned (.slice B' (n+8) d')∧St w0 M w' (.row (.slice B' (n+8) d') 5 1 (n+8) (bvs (l++beL 8 x))::H):=by
 have HS0:=aA hS
 have HL:=aA hl
 have HN:=aA hn
 clear hS hl hn
 go_enter Tryz.func134,Tryz.ntmps134
 go_wp2_with fail
 go_loopw [0,5] (fun v i wr=>BehRel w0 M H (l++beL 8 x) x v i wr) (fun _ i _=>(intOf i+8).toNat)
 case atStart=>exact⟨8,B,d,n,l,Nat.le_refl _,rfl,rfl,HL.out,rfl,HS0.out⟩
 case round =>
  obtain⟨j,B2,d2,m,l2,hj,rfl,rfl,hm,hT,hS⟩:=hrel
  have HT:=aA hT
  have HM:=aA hm
  have HS:=aA hS
  have hmb:m≤100008:=by
   have:=congrArg List.length hT
   rw[List.length_append,List.length_append,beL_len,beL_len,hm,HL.out] at this
   have:=HN.out
   omega
  clear hT hm hS HS0
  cases j with
  | zero =>
   have hTz:l2=l++beL 8 x:=by
    have:=HT.out
    rwa [beL,List.append_nil] at this
   have hmn:m=n+8:=by rw[←HM.out,hTz,List.length_append,beL_len,HL.out]
   have HSZ:Hid (St w0 M wr (.row (.slice B2 (n+8) d2) 5 1 (n+8) (bvs (l++beL 8 x))::H)):=aA (by rw[←hmn,←hTz];exact HS.out)
   have HMN:=aA hmn
   clear hTz hmn
   go_wp2_with fail
   go_ret
   refine⟨B2,d2,?_,HSZ.out⟩
   show Ending.returned (.slice B2 m d2)=_
   rw[HMN.out]
  | succ i =>
   have hi:(8*((i+1:Nat):Int) - 8)=((8*i:Nat):Int):=An
   rw[hi]
   have hby:=byte_of x (8*i)
   have hb2:x/2^(8*i)%256<256:=Nat.mod_lt _ Bz
   have hd:decide ((0:Int)≤((8*i:Nat):Int))=true:=A9
   have hi7:i≤7:=An
   obtain⟨s,hs⟩:∃s,s=8*i:=⟨_,rfl⟩
   rw[←hs] at hby hd hb2 ⊢
   obtain⟨y,hy⟩:∃y,y=x/2^s%256:=⟨_,rfl⟩
   rw[←hy] at hby hb2
   have hs56:s≤56:=An
   have HY:=aA hy
   have HSS:=aA hs
   clear hi hy hs hj
   go_wp2_with (at_builtin;refine bQ rfl rfl tyB HS.out 0 rfl rfl (us:=[_]) rfl rfl ?_ ?_ Bz ?_;(intro u hu;simp only[List.mem_singleton] at hu;subst hu;rfl);(simp only[List.length_singleton];omega);intro B3 d3 w3 hS3)
   go_roundw
   case rel =>
    refine⟨i,B3,d3,m+1,l2++[UInt8.ofNat y],An,congrArg (Value.int .i64) (by have:=HSS.out;omega),rfl,by rw[List.length_append,HM.out];rfl,?_,?_⟩
    ·have:=HT.out
     rw[beL,←HSS.out,←HY.out] at this
     rw[←this,List.append_assoc]
     rfl
    ·rw[bvs_snoc _ _ hb2]
     exact hS3
   case measure=>(simp[intOf])<;>omega
theorem begin_any (w:World):Calls Tryz.prog 130 #[] w fun e w'=>e=.returned (.agg (uvs h0L).toArray)∧Below w.heap.size w w':=by
 have HS0:=aA ((St.init w NoB).alloc #[.int .u64 7640891576956012808,.int .u64 13503953896175478587,.int .u64 4354685564936845355,.int .u64 11912009170470909681,.int .u64 5840696475078001361,.int .u64 11170449401992604703,.int .u64 2270897969802886507,.int .u64 6620516959819538809] 170)
 go_enter Tryz.func130,Tryz.ntmps130
 go_wp2_with fail
 refine bodyPost_ret (results_cell_row rfl _ _ w.heap.size _ _ _ _ rfl (HS0.out.heap 0 rfl) Tryz.underlying170 rfl Bt) rfl ?_
 exact⟨rfl,HS0.out.below⟩
@[irreducible] def z80:Array Value:=(uvs (List.replicate 80 0)).toArray
@[irreducible] def kA:Array Value:=(uvs kL).toArray
theorem zero80 (w:World):(zeroValue 181).run Tryz.prog w=.ok (.agg z80) w:=by unfold z80;kernel_rfl
theorem wl_run {P:Program}{ops:Array Oper}{rest:List Oper}{o:Oper}{a:Act}{w:World}{Q:Exit→Act→World→Prop}(hgd:o.guard=none){v:Value}(hrun:(execOp a.eval o).run P w=.ok (.value v) w)
  (h:wpList P ops Q rest (a.put o.dst v) w):wpList P ops Q (o::rest) a w:=
 wpList_plain hgd fun K hK=>by
  unfold Oper.wp
  rw[hrun,Oper.upon_value]
  exact hK _ _ h
theorem const1_any (w:World):Calls Tryz.prog 163 #[] w fun e w'=>e=.returned (.agg kA)∧Below w.heap.size w w':=by
 have HS0:=aA ((St.init w NoB).alloc z80 181)
 have hz:=zero80
 go_enter Tryz.func163,Tryz.ntmps163
 go_upto_region 1 with fail
 refine wp_region_list ?_
 refine wl_run rfl (v:=.agg kA) En ?_
 refine wpList_store_row rfl 181 (.tmp 0) (.tmp 1) rfl w.heap.size kA rfl rfl 181 z80 (HS0.out.heap 0 rfl) En (by unfold kA z80;rfl) En ?_
 refine wpList_nil ?_
 have HS:=aA (HS0.out.setRow 0 rfl kA)
 go_wp2_with fail
 refine bodyPost_ret (results_cell_row rfl _ _ w.heap.size _ _ _ _ rfl (HS.out.heap 0 rfl) Tryz.underlying181 rfl En) rfl ?_
 exact⟨rfl,HS.out.below⟩
theorem const2_any (w:World):Calls Tryz.prog 141 #[] w fun e w'=>e=.returned (.agg kA)∧Below w.heap.size w w':=by
 have HS0:=aA ((St.init w NoB).alloc z80 181)
 have hz:=zero80
 go_enter Tryz.func141,Tryz.ntmps141
 go_upto_region 1 with fail
 refine wp_region_list ?_
 refine wl_run rfl (v:=.agg kA) En ?_
 refine wpList_store_row rfl 181 (.tmp 0) (.tmp 1) rfl w.heap.size kA rfl rfl 181 z80 (HS0.out.heap 0 rfl) En (by unfold kA z80;rfl) En ?_
 refine wpList_nil ?_
 have HS:=aA (HS0.out.setRow 0 rfl kA)
 go_wp2_with fail
 refine bodyPost_ret (results_cell_row rfl _ _ w.heap.size _ _ _ _ rfl (HS.out.heap 0 rfl) Tryz.underlying181 rfl En) rfl ?_
 exact⟨rfl,HS.out.below⟩
def wad (x y:Nat):Nat:=(x+y)%W1
def schF (l:List Nat)(i:Nat):Nat:=wad (wad (wad (spr (l.getD (i - 2) 0) 19 61 6) (l.getD (i - 7) 0)) (spr (l.getD (i - 15) 0) 1 8 7)) (l.getD (i - 16) 0)
def dE (b:List UInt8):Nat→List Nat
 | 0=>[]
 | i+1=>dE b i++[if i<16 then beV ((b.drop (8*i)).take 8) else schF (dE b i) i]
theorem cL (b:List UInt8):∀i,(dE b i).length=i
 | 0=>rfl
 | i+1=>by rw[dE,List.length_append,cL b i];rfl
theorem wad_lt (x y:Nat):wad x y<W1:=Nat.mod_lt _ Bz
theorem bA (x y:Nat):IntKind.u64.wrap ((x:Int)+(y:Int))=((wad x y:Nat):Int):=by
 unfold wad
 rw[IntKind.wrap_u64]
 show _=(((x+y)%18446744073709551616:Nat):Int)
 omega
theorem bS (b:List UInt8):∀i,aT (dE b i)
 | 0=>fun x hx=>by simp[dE] at hx
 | i+1=>fun x hx=>by
  rw[dE,List.mem_append,List.mem_singleton] at hx
  rcases hx with hx|hx
  ·exact bS b i x hx
  ·subst hx
   split
   ·have:=beV_lt ((b.drop (8*i)).take 8) ((b.drop (8*i)).take 8).length (Nat.le_refl _)
    rw[List.take_length] at this
    refine Nat.lt_of_lt_of_le this (Nat.le_trans (Nat.pow_le_pow_right An (show _≤8 from ?_)) Bz)
    rw[List.length_take]
    omega
   ·exact wad_lt _ _
def dB (b:List UInt8)(i:Nat):List Nat:=dE b i++List.replicate (80 - i) 0
theorem hJ (b:List UInt8)(i:Nat)(h:i≤80):(dB b i).length=80:=by unfold dB;rw[List.length_append,cL,List.length_replicate];omega
theorem schA_set (b:List UInt8)(i:Nat)(h:i<80):(dB b i).set i (if i<16 then beV ((b.drop (8*i)).take 8) else schF (dE b i) i)=dB b (i+1):=by
 unfold dB
 rw[List.set_append_right _ _ (by rw[cL];exact Nat.le_refl _),cL,Nat.sub_self,show 80 - i=(80 - (i+1))+1 from by omega,List.replicate_succ,List.set_cons_zero,dE,List.append_assoc]
 rfl
theorem eZ (b:List UInt8)(i k:Nat)(h:k<i):(dB b i)[k]?=some ((dE b i).getD k 0):=by
 unfold dB
 rw[List.getElem?_append_left (by rw[cL];exact h),List.getD_eq_getElem?_getD,gE (by rw[cL];exact h)]
 rfl
theorem enSpread (args:Array Value)(w:World):(callFunc 178 args).run Tryz.prog w=.ok (.enter 178 args) w:=Bt
theorem rd_mid0 {w:World}{b o n c:Nat}{l:List UInt8}(h:Rd w (.slice (some ⟨b,o,none⟩) n c) 1 n (bvs l))(i j:Nat)(hij:i≤j)(hj:j≤n) :
  Rd w (.slice (some ⟨b,o+i,none⟩) (j - i) (c - i)) 1 (j - i) (bvs ((l.drop i).take (j - i))):=by
 obtain⟨A',c',e,h1,h2,h3,h4,h5⟩:=h
 injection e with e1 _ e3
 subst e1 e3
 rw[aX] at h1
 refine⟨_,_,rfl,Cr,An,An,(fun h=>by cases h),?_⟩
 intro b' o' sp' hA
 injection hA with hA
 injection hA with k1 k2 k3
 subst k1 k2 k3
 refine⟨fun _=>rfl,fun k u hu=>?_⟩
 obtain⟨x,hx,rfl⟩:∃x,((l.drop i).take (j - i))[k]?=some x∧u=.int .u8 (x.toNat:Int):=by
  simp only[bvs,List.getElem?_map,Option.map_eq_some_iff] at hu
  obtain⟨x,h1,h2⟩:=hu
  exact⟨x,h1,h2.symm⟩
 have hk:k<j - i:=by
  have:=(List.getElem?_eq_some_iff.1 hx).1
  rw[List.length_take] at this
  omega
 rw[List.getElem?_take_of_lt hk,List.getElem?_drop] at hx
 have:=(h5 b o none rfl).2 (i+k) _ (bE hx)
 rwa [show o+(i+k)=o+i+k from by omega] at this
theorem bnx {w0 w w':World}(h:Below w0.heap.size w0 w)(h2:Below w.heap.size w w'):Below w0.heap.size w0 w':=h.trans (h2.mono h.size)
theorem tyU64:(Tryz.prog.info? 51).map (·.size)=some 1:=Bt
def SchRel (w:World)(b:List UInt8)(iv:Value)(wr:World):Prop:=
 ∃i:Nat,i≤80∧iv=.int .i64 (i:Int)∧St w NoB wr [.cells (w.heap.size+1) (uvs (dB b i)).toArray 181,.cells w.heap.size (uvs (dB [] 0)).toArray 181]
theorem schedule_any (A:Option Addr)(c:Nat)(l:List UInt8)(w:World)(hl:l.length=128)(hr:Rd w (.slice A 128 c) 1 128 (bvs l)) :
  Calls Tryz.prog 162 #[.slice A 128 c] w fun e w'=>e=.returned (.agg (uvs (dE l 80)).toArray)∧Below w.heap.size w w':=by
 have HR:=aA hr
 have HL:=aA hl
 obtain⟨b,o,rfl⟩:∃b o,A=some ⟨b,o,none⟩:=by
  rcases hr.cases with⟨_,h0,_⟩|⟨b,o,sp,c',hv,_,_,_,_,h4,_⟩
  ·cases h0
  ·injection hv with hv1 _ _
   have:=h4 Bz
   subst this hv1
   exact⟨b,o,rfl⟩
 have hcap:=rd_cap hr
 have HS0:=((St.init w NoB).alloc (uvs (dB [] 0)).toArray 181).alloc (uvs (dB l 0)).toArray 181
 rw[size_alloc1] at HS0
 have HS:=aA HS0
 have hz:∀w,(zeroValue 181).run Tryz.prog w=.ok (.agg (uvs (dB [] 0)).toArray) w:=fun w=>by have:=zero80 w;unfold z80 at this;exact this
 clear HS0 hr hl
 go_enter Tryz.func162,Tryz.ntmps162
 go_wp2_with fail
 go_loopw [5] (fun i wr=>SchRel w l i wr) (fun i _=>80 - (intOf i).toNat)
 case atStart=>exact⟨0,An,rfl,HS.out⟩
 case round =>
  clear HS
  obtain⟨i,hi,rfl,hS⟩:=hrel
  have HS:=aA hS
  by_cases hlt:i<80
  ·by_cases h16:i<16
   ·have d16:decide ((i:Int)<16)=true:=by simp;omega
    have d80:decide ((i:Int)<80)=true:=A9
    obtain⟨x,hx⟩:∃x,(dB l i)[i]?=some x:=⟨_,gE (by rw[hJ l i hi];omega)⟩
    have cl:wr.cell? ⟨w.heap.size+1,i,none⟩=some (.int .u64 (x:Int)):=by
     rw[hS.cell 0 rfl i]
     exact aR hx
    have fl:=hS.free 0 rfl i
    have HT:=aA (schA_set l i hlt)
    have HRS:=aA (rd_mid0 (HR.out.st hS) (8*i) (8*i+8) An An)
    have i80:(i:Int)<80:=An
    clear hS hx
    go_wp2_with (go_at_call 177;refine(word_any _ _ 8 ((l.drop (8*i)).take 8) _ (by rw[List.length_take,List.length_drop,HL.out];omega) (Nat.le_refl _) (by have:=HRS.out;rw[show 8*i+8 - 8*i=8 from by omega] at this;exact this)).mono ?_;rintro e w1 ⟨rfl,rfl⟩)
    go_roundw
    case rel =>
     have h3:=HS.out.setCell 0 rfl i (.int .u64 ((beV ((l.drop (8*i)).take 8):Nat):Int))
     have ht:=HT.out
     rw[if_pos h16] at ht
     rw[List.set_cons_zero,bH,ht] at h3
     exact⟨i+1,An,Cg,h3⟩
    case measure=>(simp[intOf])<;>omega
   ·have d16:decide ((i:Int)<16)=false:=by simp;omega
    have d80:decide ((i:Int)<80)=true:=A9
    have HT:=aA (schA_set l i hlt)
    obtain⟨i2,hi2⟩:∃m,m=i - 2:=⟨_,rfl⟩
    obtain⟨y2,hy2⟩:∃y,y=(dE l i).getD i2 0:=⟨_,rfl⟩
    have g2:(dB l i)[i2]?=some y2:=by rw[hy2];exact eZ l i i2 An
    have b2:y2<W1:=by rw[hy2,List.getD_eq_getElem?_getD,gE Eo];exact bS l i _ (List.getElem_mem _)
    have s2:IntKind.i64.wrap ((i:Int) - 2)=(i2:Int):=Ct
    have t2:(i2:Int)<80:=An
    obtain⟨i7,hi7⟩:∃m,m=i - 7:=⟨_,rfl⟩
    obtain⟨y7,hy7⟩:∃y,y=(dE l i).getD i7 0:=⟨_,rfl⟩
    have g7:(dB l i)[i7]?=some y7:=by rw[hy7];exact eZ l i i7 An
    have b7:y7<W1:=by rw[hy7,List.getD_eq_getElem?_getD,gE Eo];exact bS l i _ (List.getElem_mem _)
    have s7:IntKind.i64.wrap ((i:Int) - 7)=(i7:Int):=Ct
    have t7:(i7:Int)<80:=An
    obtain⟨i15,hi15⟩:∃m,m=i - 15:=⟨_,rfl⟩
    obtain⟨y15,hy15⟩:∃y,y=(dE l i).getD i15 0:=⟨_,rfl⟩
    have g15:(dB l i)[i15]?=some y15:=by rw[hy15];exact eZ l i i15 An
    have b15:y15<W1:=by rw[hy15,List.getD_eq_getElem?_getD,gE Eo];exact bS l i _ (List.getElem_mem _)
    have s15:IntKind.i64.wrap ((i:Int) - 15)=(i15:Int):=Ct
    have t15:(i15:Int)<80:=An
    obtain⟨i16,hi16⟩:∃m,m=i - 16:=⟨_,rfl⟩
    obtain⟨y16,hy16⟩:∃y,y=(dE l i).getD i16 0:=⟨_,rfl⟩
    have g16:(dB l i)[i16]?=some y16:=by rw[hy16];exact eZ l i i16 An
    have b16:y16<W1:=by rw[hy16,List.getD_eq_getElem?_getD,gE Eo];exact bS l i _ (List.getElem_mem _)
    have s16:IntKind.i64.wrap ((i:Int) - 16)=(i16:Int):=Ct
    have t16:(i16:Int)<80:=An
    have hF:schF (dE l i) i=wad (wad (wad (spr y2 19 61 6) y7) (spr y15 1 8 7)) y16:=Ep
    have i80:(i:Int)<80:=An
    have HS':=aA hS.drew
    have c2:∀z,aC wr.drew z→z.cell? ⟨w.heap.size+1,i2,none⟩=some (.int .u64 (y2:Int)):=fun z hz=>by rw[hz.cell (p:=⟨w.heap.size+1,i2,none⟩) (Chunk.lt (HS'.out.sat 0 _ rfl) rfl),HS'.out.cell 0 rfl i2];exact aR g2
    have c7:∀z,aC wr.drew z→z.cell? ⟨w.heap.size+1,i7,none⟩=some (.int .u64 (y7:Int)):=fun z hz=>by rw[hz.cell (p:=⟨w.heap.size+1,i7,none⟩) (Chunk.lt (HS'.out.sat 0 _ rfl) rfl),HS'.out.cell 0 rfl i7];exact aR g7
    have c15:∀z,aC wr.drew z→z.cell? ⟨w.heap.size+1,i15,none⟩=some (.int .u64 (y15:Int)):=fun z hz=>by rw[hz.cell (p:=⟨w.heap.size+1,i15,none⟩) (Chunk.lt (HS'.out.sat 0 _ rfl) rfl),HS'.out.cell 0 rfl i15];exact aR g15
    have c16:∀z,aC wr.drew z→z.cell? ⟨w.heap.size+1,i16,none⟩=some (.int .u64 (y16:Int)):=fun z hz=>by rw[hz.cell (p:=⟨w.heap.size+1,i16,none⟩) (Chunk.lt (HS'.out.sat 0 _ rfl) rfl),HS'.out.cell 0 rfl i16];exact aR g16
    have HA:=aA (fun W=>spread_any y2 19 61 6 W b2 Bz Bz Bz)
    have HB:=aA (fun W=>spread_any y15 1 8 7 W b15 Bz Bz Bz)
    have w1:IntKind.u64.wrap (((spr y2 19 61 6:Nat):Int)+(y7:Int))=((wad (spr y2 19 61 6) y7:Nat):Int):=bA _ _
    have w2:IntKind.u64.wrap (((wad (spr y2 19 61 6) y7:Nat):Int)+((spr y15 1 8 7:Nat):Int))=((wad (wad (spr y2 19 61 6) y7) (spr y15 1 8 7):Nat):Int):=bA _ _
    have w3:IntKind.u64.wrap (((wad (wad (spr y2 19 61 6) y7) (spr y15 1 8 7):Nat):Int)+(y16:Int))=((wad (wad (wad (spr y2 19 61 6) y7) (spr y15 1 8 7)) y16:Nat):Int):=bA _ _
    generalize wad (wad (wad (spr y2 19 61 6) y7) (spr y15 1 8 7)) y16=z3 at *
    generalize wad (wad (spr y2 19 61 6) y7) (spr y15 1 8 7)=z2 at *
    generalize wad (spr y2 19 61 6) y7=z1 at *
    generalize spr y2 19 61 6=p1 at *
    generalize spr y15 1 8 7=p2 at *
    have HF:=aA hF
    have HLEN:=aA (hJ l i hi)
    clear hF hS hi2 hy2 g2 b2 hi7 hy7 g7 b7 hi15 hy15 g15 b15 hi16 hy16 g16 b16
    go_wp2_with fail
    refine aW (fun i=>i==23) (aC wr.drew) Bt ?_
    (refine mU 0 (v:=?_) (aC.refl wr.drew) ?_;(try refine nm ?_));(refine mU 1 (v:=?_) (aC.refl wr.drew) ?_;(try refine nm ?_));(refine mU 2 (v:=?_) (aC.refl wr.drew) ?_;(try refine nm ?_));(refine mU 3 (v:=?_) (aC.refl wr.drew) ?_;(try refine nm ?_))
    (refine mT 4 (v:=?_) (aC.refl wr.drew) ?_;(try refine nm ?_))
    (refine mU 6 (v:=?_) (aC.refl wr.drew) ?_;(try refine nm ?_));(refine mU 7 (v:=?_) (aC.refl wr.drew) ?_;(try refine nm ?_));(refine mU 8 (v:=?_) (aC.refl wr.drew) ?_;(try refine nm ?_))
    (refine mT 9 (v:=?_) (aC.refl wr.drew) ?_;(try refine nm ?_))
    (refine mU 11 (v:=?_) (aC.refl wr.drew) ?_;(try refine nm ?_));(refine mU 12 (v:=?_) (aC.refl wr.drew) ?_;(try refine nm ?_));(refine mU 13 (v:=?_) (aC.refl wr.drew) ?_;(try refine nm ?_))
    (refine mT 14 (v:=?_) (aC.refl wr.drew) ?_;(try refine nm ?_))
    (refine mU 17 (v:=?_) (aC.refl wr.drew) ?_;(try refine nm ?_));(refine mU 18 (v:=?_) (aC.refl wr.drew) ?_;(try refine nm ?_));(refine mU 19 (v:=?_) (aC.refl wr.drew) ?_;(try refine nm ?_))
    (refine mT 20 (v:=?_) (aC.refl wr.drew) ?_;(try refine nm ?_))
    (refine cC (i:=5) Bt rfl rfl ?_;intro K hK;(try refine nm ?_))
    refine aO rfl rfl enSpread rfl (HA.out _) ?_
    rintro e v1 ⟨rfl,hb1⟩
    have F1:aC wr.drew v1:=bnx (aC.refl wr.drew) hb1
    refine⟨_,rfl,hK (aC wr.drew) _ _ (fun _ h=>h) F1 ?_⟩
    clear hK K
    (try refine nm ?_)
    (refine mU 10 (v:=?_) F1 ?_;(try refine nm ?_))
    (refine cC (i:=15) Bt rfl rfl ?_;intro K hK;(try refine nm ?_))
    refine aO rfl rfl enSpread rfl (HB.out _) ?_
    rintro e v2 ⟨rfl,hb2⟩
    have F2:aC wr.drew v2:=bnx F1 hb2
    refine⟨_,rfl,hK (aC wr.drew) _ _ (fun _ h=>h) F2 ?_⟩
    clear hK K
    (try refine nm ?_)
    (refine mU 16 (v:=?_) F2 ?_;(try refine nm ?_));(refine mU 21 (v:=?_) F2 ?_;(try refine nm ?_));(refine mU 22 (v:=?_) F2 ?_;(try refine nm ?_))
    (refine aZ (i:=23) Bt rfl rfl ?_;intro K hK;(try refine nm ?_))
    refine bO rfl rfl tyU64 (HS'.out.call F2) 0 rfl i (by rw[List.size_toArray,cE,HLEN.out];omega) rfl (v:=.int .u64 (z3:Int)) rfl rfl ?_
    intro w9 hS9
    refine hK _ _ ?_
    clear hK K
    (try refine nm ?_)
    refine wpAny_done Bt ?_ _
    go_wp2_with fail
    go_roundw
    case rel =>
     have ht:=HT.out
     rw[if_neg h16,HF.out] at ht
     rw[List.set_cons_zero,bH,ht] at hS9
     exact⟨i+1,An,Cg,hS9⟩
    case measure=>(simp[intOf])<;>omega
  ·obtain rfl:i=80:=by omega
   have hA:dB l 80=dE l 80:=by unfold dB;simp
   rw[hA] at hS
   obtain⟨xs,hxs⟩:∃xs,xs=(uvs (dE l 80)).toArray:=⟨_,rfl⟩
   have hsz:xs.size=80:=by rw[hxs,List.size_toArray,cE,cL]
   have hone:xs.all (·.oneCell')=true:=by rw[hxs,Array.all_eq_true_iff_forall_mem];intro v hv;exact uvs_one _ v (by simpa using hv)
   rw[←hxs] at hS
   have HXS:=aA hxs
   have HS:=aA (hS.setRow 1 rfl xs)
   have HS1:=aA hS
   have hsz0:(uvs (dB [] 0)).toArray.size=80:=by rw[List.size_toArray,cE];rfl
   clear hS hA hz hxs
   go_upto_region 9 with fail
   refine wp_region_list ?_
   refine wpList_load_row rfl 181 (.tmp 3) rfl (w.heap.size+1) rfl 181 xs _ _ (HS1.out.heap 0 rfl) Tryz.underlying181 rfl De ?_
   refine wpList_store_row rfl 181 (.tmp 2) (.tmp 44) rfl w.heap.size xs rfl rfl 181 _ (HS1.out.heap 1 rfl) De (by rw[hsz,hsz0]) hone ?_
   refine wpList_nil ?_
   go_wp2_with fail
   refine bodyPost_ret (results_cell_row rfl _ _ w.heap.size _ _ _ _ rfl (HS.out.heap 1 rfl) Tryz.underlying181 rfl De) rfl ?_
   exact⟨by rw[HXS.out],HS.out.below⟩
def chz (e f g:Nat):Nat:=(e &&& f) ^^^ ((18446744073709551615 ^^^ e) &&& g)
def mjr (a b c:Nat):Nat:=((a &&& b) ^^^ (a &&& c)) ^^^ (b &&& c)
def rnd:List Nat→Nat→Nat→List Nat
 | [a,b,c,d,e,f,g,h],k,x=>[wad (wad (wad (wad (wad h (mix e 14 18 41)) (chz e f g)) k) x) (wad (mix a 28 34 39) (mjr a b c)),a,b,c,wad d (wad (wad (wad (wad h (mix e 14 18 41)) (chz e f g)) k) x),e,f,g]
 | s,_,_=>s
def rnds (h ws:List Nat):Nat→List Nat
 | 0=>h
 | i+1=>rnd (rnds h ws i) (kL.getD i 0) (ws.getD i 0)
def comp (h:List Nat)(b:List UInt8):List Nat:=List.zipWith wad h (rnds h (dE b 80) 80)
theorem list8 {xs:List Nat}(h:xs.length=8):∃a b c d e f g k,xs=[a,b,c,d,e,f,g,k]:=by
 match xs,h with
 | [a,b,c,d,e,f,g,k],_=>exact⟨a,b,c,d,e,f,g,k,rfl⟩
theorem rnd_ok {s:List Nat}(h:s.length=8)(hw:aT s)(k x:Nat):(rnd s k x).length=8∧aT (rnd s k x):=by
 obtain⟨a,b,c,d,e,f,g,z,rfl⟩:=list8 h
 refine⟨rfl,fun y hy=>?_⟩
 simp only[rnd,List.mem_cons,List.not_mem_nil,or_false] at hy
 rcases hy with rfl|rfl|rfl|rfl|rfl|rfl|rfl|rfl
 ·exact wad_lt _ _
 ·exact hw _ B0
 ·exact hw _ B0
 ·exact hw _ B0
 ·exact wad_lt _ _
 ·exact hw _ B0
 ·exact hw _ B0
 ·exact hw _ B0
theorem rnds_ok {h:List Nat}(hl:h.length=8)(hw:aT h)(ws:List Nat):∀i,(rnds h ws i).length=8∧aT (rnds h ws i)
 | 0=>⟨hl,hw⟩
 | i+1=>by
  obtain⟨h1,h2⟩:=rnds_ok hl hw ws i
  exact rnd_ok h1 h2 _ _
theorem comp_ok {h:List Nat}(hl:h.length=8)(hw:aT h)(b:List UInt8):(comp h b).length=8∧aT (comp h b):=by
 obtain⟨h1,h2⟩:=rnds_ok hl hw (dE b 80) 80
 refine⟨by unfold comp;rw[List.length_zipWith,hl,h1];rfl,fun y hy=>?_⟩
 unfold comp at hy
 obtain⟨i,hi,rfl⟩:=List.getElem_of_mem hy
 rw[List.getElem_zipWith]
 exact wad_lt _ _
theorem h0_ok:h0L.length=8∧aT h0L:=⟨rfl,by unfold aT;decide +kernel⟩
theorem kL_get (i:Nat)(h:i<80):kL[i]?=some (kL.getD i 0)∧kL.getD i 0<W1:=by
 have hl:kL.length=80:=Bz
 have hw:aT kL:=by unfold aT;decide +kernel
 refine⟨by rw[List.getD_eq_getElem?_getD,gE An];rfl,?_⟩
 rw[List.getD_eq_getElem?_getD,gE An]
 exact hw _ (List.getElem_mem _)
section
variable {P : Program} {ops : Array Oper} {rest : List Oper} {o : Oper} {a : Act} {w : World} {Q : Exit → Act → World → Prop}
theorem wl_call (hgd:o.guard=none){f:FuncId}{xs:List Operand}{ts:Array TypeId}{vs:List Value}{R:Ending→World→Prop}
  (ho:o.op=.call { callee:=.value (.func f),args:=xs.toArray,argTypes:=ts })(hf:∀(args:Array Value) (w:World),(callFunc f args).run P w=.ok (.enter f args) w)
  (hx:xs.map a.eval=vs)(hc:Calls P f vs.toArray w R)(h:∀e w',R e w'→∃v,e=.returned v∧wpList P ops Q rest (a.put o.dst v) w'):wpList P ops Q (o::rest) a w:=
 wpList_plain hgd fun _ hK=>bG ho hf hx hc fun e w' hr=>by
  obtain⟨v,he,hk⟩:=h e w' hr
  exact⟨v,he,hK _ _ hk⟩
theorem wl_alloc (hgd:o.guard=none){zs:Array Value}{e:TypeId}(hrun:(execOp a.eval o).run P w=.ok (.value (.pointer (some ⟨w.heap.size,0,none⟩))) (w.alloc (.cells zs e)))
  (h:wpList P ops Q rest (a.put o.dst (.pointer (some ⟨w.heap.size,0,none⟩))) (w.alloc (.cells zs e))):wpList P ops Q (o::rest) a w:=
 wpList_plain hgd fun K hK=>by
  unfold Oper.wp
  rw[hrun,Oper.upon_value]
  exact hK _ _ h
end
section
variable {P : Program} {ops : Array Oper} {rest : List Oper} {o : Oper} {a : Act} {w0 w : World} {M : Nat → Prop} {H : List Chunk} {Q : Exit → Act → World → Prop}
theorem wl_allocS (hgd:o.guard=none){zs:Array Value}{e:TypeId}(hrun:∀w,(execOp a.eval o).run P w=.ok (.value (.pointer (some ⟨w.heap.size,0,none⟩))) (w.alloc (.cells zs e)))(hS:St w0 M w H)
  (h:∀g w',St w0 M w' (.cells g zs e::H)→wpList P ops Q rest (a.put o.dst (.pointer (some ⟨g,0,none⟩))) w'):wpList P ops Q (o::rest) a w:=
 wl_alloc hgd (hrun w) (h w.heap.size _ (hS.alloc zs e))
theorem wl_storeRow (hgd:o.guard=none){t:TypeId}{p x:Operand}(ho:o.op=.store t p x)(hS:St w0 M w H)(i:Nat){g:Nat}{c:Array Value}{e:TypeId}(hi:H[i]?=some (.cells g c e)){cs:Array Value}
  (hp:a.eval p=.pointer (some ⟨g,0,none⟩))(hx:a.eval x=.agg cs)(ht:(P.info? t).map (·.size)=some cs.size)(hc:c.size=cs.size)(h1:cs.all (·.oneCell')=true)
  (h:∀w',St w0 M w' (H.set i (.cells g cs e))→wpList P ops Q rest (a.put o.dst undef) w'):wpList P ops Q (o::rest) a w:=
 wpList_store_row hgd t p x ho g cs hp hx e c (hS.heap i hi) ht hc h1 (h _ (hS.setRow i hi cs))
end
theorem uvs_all (xs:List Nat):(uvs xs).toArray.all (·.oneCell')=true:=by rw[Array.all_eq_true_iff_forall_mem];intro v hv;exact uvs_one _ v (by simpa using hv)
theorem kA_size:kA.size=80:=by unfold kA;rfl
theorem z80_size:z80.size=80:=by unfold z80;rfl
theorem kA_all:kA.all (·.oneCell')=true:=by unfold kA;exact uvs_all _
theorem alloc80 {a:Act}{o:Oper}(ho:o.op=.alloc 181)(W:World):(execOp a.eval o).run Tryz.prog W=.ok (.value (.pointer (some ⟨W.heap.size,0,none⟩))) (W.alloc (.cells z80 181)):=by
 have hz:=zero80 W
 simp only[execOp,ho,Instr.alloc,Sem.run_bind,Sem.run_pure,Result.andThen_ok,hz]
 rfl
theorem info80 (n:Nat)(h:n=80):(Tryz.prog.info? 181).map (·.size)=some n:=by rw[h];kernel_rfl
theorem enSched (args:Array Value)(w:World):(callFunc 162 args).run Tryz.prog w=.ok (.enter 162 args) w:=Bt
theorem enConst (args:Array Value)(w:World):(callFunc 163 args).run Tryz.prog w=.ok (.enter 163 args) w:=Bt
theorem enMixes (args:Array Value)(w:World):(callFunc 164 args).run Tryz.prog w=.ok (.enter 164 args) w:=Bt
def cI (hs:List Nat)(r:Value)(n:Nat):Array Value:=(uvs hs++[r,.int .u64 (n:Int)]).toArray
def TkRel (w0:World)(M:Nat→Prop)(H:List Chunk)(g6 g5 g4 g:Nat)(hs ws:List Nat)(r:Value)(n:Nat)(iv:Value)(wr:World):Prop:=
 ∃i:Nat,i≤80∧iv=.int .i64 (i:Int)∧St w0 M wr (.cells g6 (uvs (rnds hs ws i)).toArray 170::.cells g5 kA 181::.cells g4 (uvs ws).toArray 181::.cells g (cI hs r n) 173::H)
theorem _root_.Go.Proofs.YtnohmgpmmhlloaaGreatDoor.St.pick3 {w0 w:World}{M:Nat→Prop}{H:List Chunk}{a b c:Chunk}(h:St w0 M w (a::b::c::H)):St w0 M w H:=h.tail.tail.tail
def zipP (hs s:List Nat)(j:Nat):List Nat:=(List.zipWith wad hs s).take j++hs.drop j
theorem zipP_len (hs s:List Nat)(j:Nat)(h:hs.length=8)(h2:s.length=8)(hj:j≤8):(zipP hs s j).length=8:=by
 unfold zipP;rw[List.length_append,List.length_take,List.length_zipWith,List.length_drop,h,h2];omega
theorem zipP_get (hs s:List Nat)(j x:Nat)(h:hs.length=8)(h2:s.length=8)(hx:hs[j]?=some x):(zipP hs s j)[j]?=some x:=by
 have hj:=(List.getElem?_eq_some_iff.1 hx).1
 have hl:((List.zipWith wad hs s).take j).length=j:=Dj
 unfold zipP
 rw[List.getElem?_append_right (by rw[hl];exact Nat.le_refl _),hl,Nat.sub_self,List.getElem?_drop,Nat.add_zero,hx]
theorem zipP_set (hs s:List Nat)(j x y:Nat)(h:hs.length=8)(h2:s.length=8)(hx:hs[j]?=some x)(hy:s[j]?=some y):(zipP hs s j).set j (wad x y)=zipP hs s (j+1):=by
 have hj:=(List.getElem?_eq_some_iff.1 hx).1
 have hl:((List.zipWith wad hs s).take j).length=j:=Dj
 have hz:(List.zipWith wad hs s)[j]?=some (wad x y):=by rw[List.getElem?_zipWith,hx,hy]
 unfold zipP
 rw[List.set_append_right _ _ (by rw[hl];exact Nat.le_refl _),hl,Nat.sub_self,List.drop_eq_getElem_cons An,List.set_cons_zero,List.take_add_one,hz,List.append_assoc]
 rfl
theorem hashC_get (cur:List Nat)(r:Value)(n j x:Nat)(hx:cur[j]?=some x):(cI cur r n)[j]?=some (.int .u64 (x:Int)):=by
 unfold cI
 have hj:=(List.getElem?_eq_some_iff.1 hx).1
 rw[List.getElem?_toArray,List.getElem?_append_left (by rw[cE];exact hj)]
 have:=aR hx
 rwa [List.getElem?_toArray] at this
theorem hashC_set (cur:List Nat)(r:Value)(n j y:Nat)(hj:j<cur.length):(cI cur r n).setIfInBounds j (.int .u64 (y:Int))=cI (cur.set j y) r n:=by
 unfold cI
 rw[List.setIfInBounds_toArray,List.set_append_left _ _ (by rw[cE];exact hj)]
 congr 2
 have:=bH cur j y
 rw[List.setIfInBounds_toArray] at this
 simpa using this
def TkEnd (w0:World)(M:Nat→Prop)(H:List Chunk)(g6 g5 g4 g:Nat)(hs s ws:List Nat)(r:Value)(n:Nat)(iv:Value)(wr:World):Prop:=
 ∃j:Nat,j≤8∧iv=.int .i64 (j:Int)∧St w0 M wr (.cells g6 (uvs s).toArray 170::.cells g5 kA 181::.cells g4 (uvs ws).toArray 181::.cells g (cI (zipP hs s j) r n) 173::H)
theorem takes_any {w0:World}{M:Nat→Prop}{H:List Chunk}(g:Nat)(hs:List Nat)(r:Value)(n:Nat)(B:Option Addr)(c:Nat)(l:List UInt8)(w:World)(hl8:hs.length=8)(hw8:aT hs)(hl:l.length=128)
  (hS:St w0 M w (.cells g (cI hs r n) 173::H))(hr:Rd w (.slice B 128 c) 1 128 (bvs l)) :
  Calls Tryz.prog 131 #[.pointer (some ⟨g,0,none⟩),.slice B 128 c] w fun e w'=>e=.returned (.tuple #[])∧St w0 M w' (.cells g (cI (comp hs l) r n) 173::H):=by
 have HS0:=aA hS
 have HSC:=aA (schedule_any B c l w hl hr)
 have HW8:=aA hw8
 have HL8:=aA hl8
 have HWL:Hid ((dE l 80).length=80):=aA (cL l 80)
 have HWW:=aA (bS l 80)
 unfold comp
 obtain⟨ws,hws⟩:∃ws,ws=dE l 80:=⟨_,rfl⟩
 rw[←hws] at HSC HWL HWW ⊢
 clear hS hr hws hl hw8
 obtain⟨a0,a1,a2,a3,a4,a5,a6,a7,rfl⟩:=list8 hl8
 clear hl8
 go_enter Tryz.func131,Tryz.ntmps131
 go_upto_region 0 with fail
 refine wp_region_list ?_
 refine wl_run rfl (v:=.slice B 128 c) rfl ?_
 refine wl_call rfl rfl enSched rfl HSC.out ?_
 rintro e w1 ⟨rfl,hb1⟩
 refine⟨_,rfl,?_⟩
 refine wl_call rfl rfl enConst rfl (const1_any w1) ?_
 rintro e w2 ⟨rfl,hb2⟩
 refine⟨_,rfl,?_⟩
 have hsz:(uvs ws).toArray.size=80:=by rw[List.size_toArray,cE,HWL.out]
 (try refine nm ?_)
 refine wl_allocS rfl (zs:=z80) (e:=181) (fun W=>alloc80 rfl W) ((HS0.out.call hb1).call hb2) ?_
 intro g4 w3 hS3
 refine wl_allocS rfl (zs:=z80) (e:=181) (fun W=>alloc80 rfl W) hS3 ?_
 intro g5 w4 hS4
 (try refine nm ?_)
 refine wl_storeRow rfl rfl hS4 1 rfl rfl rfl (info80 _ hsz) (z80_size.trans hsz.symm) (uvs_all _) ?_
 intro w5 hS5
 refine wl_storeRow rfl rfl hS5 0 rfl rfl rfl (info80 _ kA_size) (z80_size.trans kA_size.symm) kA_all ?_
 intro w6 hS6
 refine wpList_nil ?_
 (try refine nm ?_)
 replace hS6:St w0 M w6 (.cells g5 kA 181::.cells g4 (uvs ws).toArray 181::.cells g (cI [a0,a1,a2,a3,a4,a5,a6,a7] r n) 173::H):=hS6
 have m0:w6.cell? ⟨g,0,none⟩=some (.int .u64 (a0:Int)):=hS6.cell 2 rfl 0
 have m1:w6.cell? ⟨g,1,none⟩=some (.int .u64 (a1:Int)):=hS6.cell 2 rfl 1
 have m2:w6.cell? ⟨g,2,none⟩=some (.int .u64 (a2:Int)):=hS6.cell 2 rfl 2
 have m3:w6.cell? ⟨g,3,none⟩=some (.int .u64 (a3:Int)):=hS6.cell 2 rfl 3
 have m4:w6.cell? ⟨g,4,none⟩=some (.int .u64 (a4:Int)):=hS6.cell 2 rfl 4
 have m5:w6.cell? ⟨g,5,none⟩=some (.int .u64 (a5:Int)):=hS6.cell 2 rfl 5
 have m6:w6.cell? ⟨g,6,none⟩=some (.int .u64 (a6:Int)):=hS6.cell 2 rfl 6
 have m7:w6.cell? ⟨g,7,none⟩=some (.int .u64 (a7:Int)):=hS6.cell 2 rfl 7
 have HS6:=aA (hS6.alloc (uvs [a0,a1,a2,a3,a4,a5,a6,a7]).toArray 170)
 clear hS3 hS4 hS5 hS6 hb1 hb2 HS0
 go_wp2_with fail
 clear m0 m1 m2 m3 m4 m5 m6 m7
 generalize w6.heap.size=g6 at HS6 ⊢
 go_loopw [20] (fun i wr=>TkRel w0 M H g6 g5 g4 g [a0,a1,a2,a3,a4,a5,a6,a7] ws r n i wr) (fun i _=>80 - (intOf i).toNat)
 case atStart=>exact⟨0,An,rfl,HS6.out⟩
 case round =>
  clear HS6
  obtain⟨i,hi,rfl,hS⟩:=hrel
  by_cases hlt:i<80
  ·obtain⟨hl2,hw2⟩:=rnds_ok HL8.out HW8.out ws i
   have HNX:Hid (rnds [a0,a1,a2,a3,a4,a5,a6,a7] ws (i+1)=rnd (rnds [a0,a1,a2,a3,a4,a5,a6,a7] ws i) (kL.getD i 0) (ws.getD i 0)):=aA rfl
   obtain⟨b0,b1,b2,b3,b4,b5,b6,b7,hs8⟩:=list8 hl2
   rw[hs8] at hS HNX hw2
   obtain⟨hk,hkw⟩:=kL_get i hlt
   obtain⟨x,hx⟩:∃x,ws[i]?=some x:=⟨ws[i]'(by rw[HWL.out];exact hlt),gE _⟩
   have hxw:=HWW.out x (mG hx)
   rw[show ws.getD i 0=x from by rw[List.getD_eq_getElem?_getD,hx];rfl] at HNX
   generalize kL.getD i 0=k at hk hkw HNX
   have HS:=aA hS.drew
   have e0:b0<W1:=hw2 _ B0
   have e1:b1<W1:=hw2 _ B0
   have e2:b2<W1:=hw2 _ B0
   have e3:b3<W1:=hw2 _ B0
   have e4:b4<W1:=hw2 _ B0
   have e5:b5<W1:=hw2 _ B0
   have e6:b6<W1:=hw2 _ B0
   have e7:b7<W1:=hw2 _ B0
   have n0:wr.cell? ⟨g6,0,none⟩=some (.int .u64 (b0:Int)):=hS.cell 0 rfl 0
   have n1:wr.cell? ⟨g6,1,none⟩=some (.int .u64 (b1:Int)):=hS.cell 0 rfl 1
   have n2:wr.cell? ⟨g6,2,none⟩=some (.int .u64 (b2:Int)):=hS.cell 0 rfl 2
   have n3:wr.cell? ⟨g6,3,none⟩=some (.int .u64 (b3:Int)):=hS.cell 0 rfl 3
   have n4:wr.cell? ⟨g6,4,none⟩=some (.int .u64 (b4:Int)):=hS.cell 0 rfl 4
   have n5:wr.cell? ⟨g6,5,none⟩=some (.int .u64 (b5:Int)):=hS.cell 0 rfl 5
   have n6:wr.cell? ⟨g6,6,none⟩=some (.int .u64 (b6:Int)):=hS.cell 0 rfl 6
   have n7:wr.cell? ⟨g6,7,none⟩=some (.int .u64 (b7:Int)):=hS.cell 0 rfl 7
   have f0:=hS.free 0 rfl 0
   have f1:=hS.free 0 rfl 1
   have f2:=hS.free 0 rfl 2
   have f3:=hS.free 0 rfl 3
   have f4:=hS.free 0 rfl 4
   have f5:=hS.free 0 rfl 5
   have f6:=hS.free 0 rfl 6
   have f7:=hS.free 0 rfl 7
   have p0:∀z,aC wr.drew z→z.cell? ⟨g6,0,none⟩=some (.int .u64 (b0:Int)):=fun z hz=>by rw[hz.cell (p:=⟨g6,0,none⟩) (Chunk.lt (HS.out.sat 0 _ rfl) rfl)];exact HS.out.cell 0 rfl 0
   have p1:∀z,aC wr.drew z→z.cell? ⟨g6,1,none⟩=some (.int .u64 (b1:Int)):=fun z hz=>by rw[hz.cell (p:=⟨g6,1,none⟩) (Chunk.lt (HS.out.sat 0 _ rfl) rfl)];exact HS.out.cell 0 rfl 1
   have p2:∀z,aC wr.drew z→z.cell? ⟨g6,2,none⟩=some (.int .u64 (b2:Int)):=fun z hz=>by rw[hz.cell (p:=⟨g6,2,none⟩) (Chunk.lt (HS.out.sat 0 _ rfl) rfl)];exact HS.out.cell 0 rfl 2
   have p3:∀z,aC wr.drew z→z.cell? ⟨g6,3,none⟩=some (.int .u64 (b3:Int)):=fun z hz=>by rw[hz.cell (p:=⟨g6,3,none⟩) (Chunk.lt (HS.out.sat 0 _ rfl) rfl)];exact HS.out.cell 0 rfl 3
   have p4:∀z,aC wr.drew z→z.cell? ⟨g6,4,none⟩=some (.int .u64 (b4:Int)):=fun z hz=>by rw[hz.cell (p:=⟨g6,4,none⟩) (Chunk.lt (HS.out.sat 0 _ rfl) rfl)];exact HS.out.cell 0 rfl 4
   have p5:∀z,aC wr.drew z→z.cell? ⟨g6,5,none⟩=some (.int .u64 (b5:Int)):=fun z hz=>by rw[hz.cell (p:=⟨g6,5,none⟩) (Chunk.lt (HS.out.sat 0 _ rfl) rfl)];exact HS.out.cell 0 rfl 5
   have p6:∀z,aC wr.drew z→z.cell? ⟨g6,6,none⟩=some (.int .u64 (b6:Int)):=fun z hz=>by rw[hz.cell (p:=⟨g6,6,none⟩) (Chunk.lt (HS.out.sat 0 _ rfl) rfl)];exact HS.out.cell 0 rfl 6
   have p7:∀z,aC wr.drew z→z.cell? ⟨g6,7,none⟩=some (.int .u64 (b7:Int)):=fun z hz=>by rw[hz.cell (p:=⟨g6,7,none⟩) (Chunk.lt (HS.out.sat 0 _ rfl) rfl)];exact HS.out.cell 0 rfl 7
   have ck:∀z,aC wr.drew z→z.cell? ⟨g5,i,none⟩=some (.int .u64 (k:Int)):=fun z hz=>by
    rw[hz.cell (p:=⟨g5,i,none⟩) (Chunk.lt (HS.out.sat 1 _ rfl) rfl),HS.out.cell 1 rfl i]
    unfold kA
    exact aR hk
   have cx:∀z,aC wr.drew z→z.cell? ⟨g4,i,none⟩=some (.int .u64 (x:Int)):=fun z hz=>by
    rw[hz.cell (p:=⟨g4,i,none⟩) (Chunk.lt (HS.out.sat 2 _ rfl) rfl),HS.out.cell 2 rfl i]
    exact aR hx
   have dk:decide ((i:Int)<80)=true:=A9
   have ik:(i:Int)<80:=An
   have hmx:IntKind.u64.max=((18446744073709551615:Nat):Int):=rfl
   have x1:=u64_and_nat b4 b5 e4 e5
   have x2:bits .xor .u64 IntKind.u64.max (b4:Int)=((18446744073709551615 ^^^ b4:Nat):Int):=Fp
   have l2:18446744073709551615 ^^^ b4<W1:=xor_lt _ _ Bz e4
   have x3:=u64_and_nat (18446744073709551615 ^^^ b4) b6 l2 e6
   have x4:=u64_xor_nat (b4 &&& b5) ((18446744073709551615 ^^^ b4) &&& b6) (eH _ _ e4) (eH _ _ l2)
   have y1:=u64_and_nat b0 b1 e0 e1
   have y2:=u64_and_nat b0 b2 e0 e2
   have y3:=u64_and_nat b1 b2 e1 e2
   have y4:=u64_xor_nat (b0 &&& b1) (b0 &&& b2) (eH _ _ e0) (eH _ _ e0)
   have y5:=u64_xor_nat ((b0 &&& b1) ^^^ (b0 &&& b2)) (b1 &&& b2) (xor_lt _ _ (eH _ _ e0) (eH _ _ e0)) (eH _ _ e1)
   have ech:((b4 &&& b5) ^^^ ((18446744073709551615 ^^^ b4) &&& b6))=chz b4 b5 b6:=rfl
   have emj:(((b0 &&& b1) ^^^ (b0 &&& b2)) ^^^ (b1 &&& b2))=mjr b0 b1 b2:=rfl
   rw[ech] at x4
   rw[emj] at y5
   have HM1:=aA (fun W=>mixes_any b4 14 18 41 W e4 Bz Bz Bz)
   have HM2:=aA (fun W=>mixes_any b0 28 34 39 W e0 Bz Bz Bz)
   simp only[rnd] at HNX
   clear ech emj hmx
   generalize (18446744073709551615 ^^^ b4) &&& b6=q3 at *
   generalize 18446744073709551615 ^^^ b4=q2 at *
   generalize b4 &&& b5=q1 at *
   generalize (b0 &&& b1) ^^^ (b0 &&& b2)=r4 at *
   generalize b0 &&& b1=r1 at *
   generalize b0 &&& b2=r2 at *
   generalize b1 &&& b2=r3 at *
   generalize chz b4 b5 b6=ch at *
   generalize mjr b0 b1 b2=mj at *
   generalize mix b4 14 18 41=m1 at *
   generalize mix b0 28 34 39=m2 at *
   have w1:=bA b7 m1
   have w2:=bA (wad b7 m1) ch
   have w3:=bA (wad (wad b7 m1) ch) k
   have w4:=bA (wad (wad (wad b7 m1) ch) k) x
   have w5:=bA m2 mj
   have w6:=bA (wad (wad (wad (wad b7 m1) ch) k) x) (wad m2 mj)
   have w7:=bA b3 (wad (wad (wad (wad b7 m1) ch) k) x)
   generalize wad (wad (wad (wad (wad b7 m1) ch) k) x) (wad m2 mj)=z0 at *
   generalize wad b3 (wad (wad (wad (wad b7 m1) ch) k) x)=z4 at *
   generalize wad (wad (wad (wad b7 m1) ch) k) x=t1 at *
   generalize wad (wad (wad b7 m1) ch) k=u3 at *
   generalize wad (wad b7 m1) ch=u2 at *
   generalize wad b7 m1=u1 at *
   generalize wad m2 mj=t2 at *
   have HSW:=aA hS
   clear hs8 hl2 hk hx hS e0 e1 e2 e3 e4 e5 e6 e7 hxw hkw hw2 l2
   go_wp2_with fail
   refine cW Bt ?_
   (refine gT 0 (v:=?_) (aC.refl wr.drew) ?_;(try refine nm ?_));(refine gT 1 (v:=?_) (aC.refl wr.drew) ?_;(try refine nm ?_));(refine gT 2 (v:=?_) (aC.refl wr.drew) ?_;(try refine nm ?_));(refine gT 3 (v:=?_) (aC.refl wr.drew) ?_;(try refine nm ?_));(refine gT 6 (v:=?_) (aC.refl wr.drew) ?_;(try refine nm ?_));(refine gT 8 (v:=?_) (aC.refl wr.drew) ?_;(try refine nm ?_));(refine gT 9 (v:=?_) (aC.refl wr.drew) ?_;(try refine nm ?_));(refine gT 10 (v:=?_) (aC.refl wr.drew) ?_;(try refine nm ?_));(refine gT 12 (v:=?_) (aC.refl wr.drew) ?_;(try refine nm ?_));(refine gT 13 (v:=?_) (aC.refl wr.drew) ?_;(try refine nm ?_));(refine gT 14 (v:=?_) (aC.refl wr.drew) ?_;(try refine nm ?_))
   (refine cD (i:=4) Bt rfl ?_;intro K hK;(try refine nm ?_))
   refine aO rfl rfl enMixes rfl (HM1.out _) ?_
   rintro e v1 ⟨rfl,rfl⟩
   refine⟨_,rfl,hK (aC wr.drew) _ _ (fun _ h=>h) (aC.refl wr.drew) ?_⟩
   clear hK K
   (try refine nm ?_)
   (refine gT 5 (v:=?_) (aC.refl wr.drew) ?_;(try refine nm ?_));(refine gT 7 (v:=?_) (aC.refl wr.drew) ?_;(try refine nm ?_));(refine gT 11 (v:=?_) (aC.refl wr.drew) ?_;(try refine nm ?_));(refine gT 15 (v:=?_) (aC.refl wr.drew) ?_;(try refine nm ?_));(refine gT 16 (v:=?_) (aC.refl wr.drew) ?_;(try refine nm ?_))
   refine cX Bt ?_ _
   clear p0 p1 p2 p3 p4 p5 p6 p7 ck cx
   go_upto_region 9 with(go_at_call 164;refine(HM2.out _).mono ?_;rintro e v2 ⟨rfl,rfl⟩)
   go_wp2_with fail
   go_roundw
   case rel =>
    have h3:=((((((((HSW.out.setCell 0 rfl 0 (.int .u64 (z0:Int))).setCell 0 rfl 1 (.int .u64 (b0:Int))).setCell 0 rfl 2 (.int .u64 (b1:Int))).setCell 0 rfl 3 (.int .u64 (b2:Int))).setCell 0 rfl 4 (.int .u64 (z4:Int))).setCell 0 rfl 5 (.int .u64 (b4:Int))).setCell 0 rfl 6 (.int .u64 (b5:Int))).setCell 0 rfl 7 (.int .u64 (b6:Int))).drew
    simp only[List.set_cons_zero,bH,List.set_cons_succ] at h3
    rw[←HNX.out] at h3
    exact⟨i+1,An,Cg,h3⟩
   case measure=>(simp[intOf])<;>omega
  ·obtain rfl:i=80:=by omega
   obtain⟨hl2,hw2⟩:=rnds_ok HL8.out HW8.out ws 80
   obtain⟨s,hs⟩:∃s,s=rnds [a0,a1,a2,a3,a4,a5,a6,a7] ws 80:=⟨_,rfl⟩
   rw[←hs] at hS hl2 hw2
   have HSS:=aA hs
   have HL2:=aA hl2
   have HS:=aA hS
   clear hs hS hl2 hw2
   obtain⟨hs0,hhs0⟩:∃l,l=[a0,a1,a2,a3,a4,a5,a6,a7]:=⟨_,rfl⟩
   have HHS:=aA hhs0
   go_wp2_with fail
   go_loopw [94] (fun i wr=>TkEnd w0 M H g6 g5 g4 g [a0,a1,a2,a3,a4,a5,a6,a7] s ws r n i wr) (fun i _=>8 - (intOf i).toNat)
   case atStart=>exact⟨0,An,rfl,HS.out⟩
   case round =>
    clear HS
    obtain⟨j,hj,rfl,hS⟩:=hrel
    rw[←hhs0] at hS HL8 HSS
    by_cases hlt:j<8
    ·obtain⟨x,hx⟩:∃x,hs0[j]?=some x:=⟨hs0[j]'(by rw[HL8.out];exact hlt),gE _⟩
     obtain⟨y,hy⟩:∃y,s[j]?=some y:=⟨s[j]'(by rw[HL2.out];exact hlt),gE _⟩
     have HS:=aA hS.drew
     have cx:∀z,aC wr.drew z→z.cell? ⟨g,j,none⟩=some (.int .u64 (x:Int)):=fun z hz=>by
      rw[hz.cell (p:=⟨g,j,none⟩) (Chunk.lt (HS.out.sat 3 _ rfl) rfl),HS.out.cell 3 rfl j]
      exact hashC_get _ _ _ _ _ (zipP_get _ _ _ _ HL8.out HL2.out hx)
     have cy:∀z,aC wr.drew z→z.cell? ⟨g6,j,none⟩=some (.int .u64 (y:Int)):=fun z hz=>by
      rw[hz.cell (p:=⟨g6,j,none⟩) (Chunk.lt (HS.out.sat 0 _ rfl) rfl),HS.out.cell 0 rfl j]
      exact aR hy
     have HT:=aA (zipP_set _ _ _ _ _ HL8.out HL2.out hx hy)
     have HZL:=aA (zipP_len hs0 s j HL8.out HL2.out hj)
     have hwd:=bA x y
     have dk:decide ((j:Int)<8)=true:=A9
     have ik:(j:Int)<8:=An
     generalize wad x y=z at *
     clear hhs0 hS hx hy
     go_wp2_with fail
     refine aW (fun i=>i==13) (aC wr.drew) Bt ?_
     (refine mU 0 (v:=?_) (aC.refl wr.drew) ?_;(try refine nm ?_));(refine mU 1 (v:=?_) (aC.refl wr.drew) ?_;(try refine nm ?_));(refine mU 2 (v:=?_) (aC.refl wr.drew) ?_;(try refine nm ?_));(refine mU 3 (v:=?_) (aC.refl wr.drew) ?_;(try refine nm ?_));(refine mU 4 (v:=?_) (aC.refl wr.drew) ?_;(try refine nm ?_))
     (refine mT 5 (v:=?_) (aC.refl wr.drew) ?_;(try refine nm ?_))
     (refine mU 6 (v:=?_) (aC.refl wr.drew) ?_;(try refine nm ?_));(refine mU 7 (v:=?_) (aC.refl wr.drew) ?_;(try refine nm ?_))
     (refine mT 8 (v:=?_) (aC.refl wr.drew) ?_;(try refine nm ?_))
     (refine mU 9 (v:=?_) (aC.refl wr.drew) ?_;(try refine nm ?_));(refine mU 10 (v:=?_) (aC.refl wr.drew) ?_;(try refine nm ?_));(refine mU 11 (v:=?_) (aC.refl wr.drew) ?_;(try refine nm ?_));(refine mU 12 (v:=?_) (aC.refl wr.drew) ?_;(try refine nm ?_))
     (refine aZ (i:=13) Bt rfl rfl ?_;intro K hK;(try refine nm ?_))
     refine bO rfl rfl tyU64 HS.out 3 rfl j (by unfold cI;rw[List.size_toArray,List.length_append,cE,HZL.out];show j<10;omega) rfl (v:=.int .u64 (z:Int)) (by first|rfl|exact congrArg (Value.int .u64) hwd) rfl ?_
     intro w9 hS9
     refine hK _ _ ?_
     clear hK K
     (try refine nm ?_)
     refine wpAny_done Bt ?_ _
     go_wp2_with fail
     go_roundw
     case rel =>
      have ht:=HT.out
      rw[hashC_set _ _ _ _ _ (by rw[HZL.out];exact hlt),ht] at hS9
      rw[HHS.out] at hS9
      exact⟨j+1,An,Cg,hS9⟩
     case measure=>(simp[intOf])<;>omega
    ·obtain rfl:j=8:=by omega
     have hz:zipP hs0 s 8=List.zipWith wad hs0 s:=by
      unfold zipP
      rw[List.take_of_length_le (by rw[List.length_zipWith,HL8.out,HL2.out];decide),List.drop_eq_nil_of_le (by rw[HL8.out];exact Nat.le_refl _),List.append_nil]
     rw[hz,HSS.out] at hS
     have HS:=aA (hS.pick3)
     clear hS hz hhs0
     go_wp2_with fail
     go_end0
     rw[←HHS.out]
     exact⟨rfl,HS.out⟩
def runN:List Nat→Nat→List UInt8→List Nat
 | h,0,_=>h
 | h,k+1,l=>runN (comp h (l.take 128)) k (l.drop 128)
theorem runN_ok:∀(k:Nat) (h:List Nat) (l:List UInt8),h.length=8→aT h→(runN h k l).length=8∧aT (runN h k l)
 | 0,h,l,h1,h2=>⟨h1,h2⟩
 | k+1,h,l,h1,h2=>by
  obtain⟨a,b⟩:=comp_ok h1 h2 (l.take 128)
  exact runN_ok k _ _ a b
theorem runN_snoc:∀(k:Nat) (h:List Nat) (l:List UInt8),runN h (k+1) l=comp (runN h k l) ((l.drop (128*k)).take 128)
 | 0,h,l=>by simp[runN]
 | k+1,h,l=>by
  have:=runN_snoc k (comp h (l.take 128)) (l.drop 128)
  rw[runN,this,runN,List.drop_drop,show 128+128*k=128*(k+1) from by omega]
theorem runN_append:∀(k:Nat) (h:List Nat) (l m:List UInt8),128*k≤l.length→runN h k (l++m)=runN h k l
 | 0,_,_,_,_=>rfl
 | k+1,h,l,m,hk=>by
  rw[runN,runN,List.take_append_of_le_length An,List.drop_append_of_le_length An,runN_append k _ _ _ (by rw[List.length_drop];omega)]
theorem runN_add:∀(j k:Nat) (h:List Nat) (l:List UInt8),runN (runN h j l) k (l.drop (128*j))=runN h (j+k) l
 | 0,k,h,l=>by simp[runN]
 | j+1,k,h,l=>by
  have:=runN_add j k (comp h (l.take 128)) (l.drop 128)
  rw[List.drop_drop,show 128+128*j=128*(j+1) from by omega] at this
  rw[runN,this,show j+1+k=(j+k)+1 from by omega,runN]
def stO (l:List UInt8):List Nat:=runN h0L (l.length/128) l
def rsO (l:List UInt8):List UInt8:=l.drop (128*(l.length/128))
theorem stO_ok (l:List UInt8):(stO l).length=8∧aT (stO l):=runN_ok _ _ _ h0_ok.1 h0_ok.2
theorem rsO_len (l:List UInt8):(rsO l).length=l.length%128:=by unfold rsO;rw[List.length_drop];omega
theorem stO_append (l m:List UInt8):runN (stO l) (((rsO l)++m).length/128) (rsO l++m)=stO (l++m):=by
 have h1:rsO l++m=(l++m).drop (128*(l.length/128)):=by unfold rsO;rw[List.drop_append_of_le_length An]
 have h2:stO l=runN h0L (l.length/128) (l++m):=by unfold stO;rw[runN_append _ _ _ _ An]
 rw[h2,h1,runN_add]
 unfold stO
 rw[List.length_drop]
 congr 1
 rw[List.length_append]
 omega
theorem rsO_append (l m:List UInt8):(rsO l++m).drop (128*((rsO l++m).length/128))=rsO (l++m):=by
 have h1:rsO l++m=(l++m).drop (128*(l.length/128)):=by unfold rsO;rw[List.drop_append_of_le_length An]
 rw[h1,List.drop_drop,List.length_drop]
 unfold rsO
 congr 1
 rw[List.length_append]
 omega
theorem rd_setCell {w:World}{g o m:Nat}{y v:Value}{xs:List Value}(h:Rd w y 1 m xs)(hne:0<m→y.ownBlock≠some g):Rd (w.setCell ⟨g,o,none⟩ v) y 1 m xs:=by
 by_cases hm:0<m
 ·exact h.keep B0 (fun b _ e=>(ext_setCell w ⟨g,o,none⟩ v).block b Df (fun x=>hne hm (e.trans x.symm)))
 ·obtain⟨A,c,rfl,h1,h2,h3,h4,h5⟩:=h
  have hx:xs=[]:=List.eq_nil_of_length_eq_zero An
  subst hx
  exact⟨A,c,rfl,h1,h2,h3,h4,fun b o sp hA=>⟨fun h=>by omega,fun j u hu=>by simp at hu⟩⟩
theorem wl_append0z {P:Program}{w0 w:World}{M:Nat→Prop}{H:List Chunk}{ops:Array Oper}{rest:List Oper}{o:Oper}{a:Act}{Q:Exit→Act→World→Prop}(hgd:o.guard=none){s x:Operand}{t e:TypeId}{bytes:Nat}
  (ho:o.op=.call { callee:=.builtin .append,args:=#[s,x],argTypes:=#[t,t] })(T:RowTy P t e 1 bytes)
  (hS:St w0 M w H)(hs:a.eval s=.slice none 0 0){A:Addr}{n c:Nat}(hx:a.eval x=.slice (some A) n c)(hn:n=0)(hc:n≤c)(hm:c≤maxLen)(hby:bytes≤32768)
  (h:∀A' c' w',St w0 M w' (.row (.slice A' 0 c') e 1 0 []::H)→wpList P ops Q rest (a.put o.dst (.slice A' 0 c')) w'):wpList P ops Q (o::rest) a w:=by
 subst hn
 exact bJ hgd ho T hS hs hx ⟨_,_,rfl,rfl,hc,hm,(fun h=>by cases h),fun b' o' sp' h=>⟨fun h=>by omega,fun j u hu=>by simp at hu⟩⟩ (fun u hu=>by cases hu) An hby h
def WrRel (w0:World)(M:Nat→Prop)(H:List Chunk)(g:Nat)(hs:List Nat)(A:Option Addr)(c N n k:Nat)(all:List UInt8)(iv:Value)(wr:World):Prop:=
 ∃i:Nat,i≤k∧iv=.int .i64 (i:Int)∧St w0 M wr (.cells g (cI (runN hs i all) (.slice A N c) n) 173::.row (.slice A N c) 5 1 N (bvs all)::H)
theorem bX {hs:List Nat}{r:Value}{n:Nat}(h:hs.length=8):(cI hs r n)[8]?=some r:=by
 obtain⟨a0,a1,a2,a3,a4,a5,a6,a7,rfl⟩:=list8 h
 rfl
theorem hashC_nine {hs:List Nat}{r:Value}{n:Nat}(h:hs.length=8):(cI hs r n)[9]?=some (.int .u64 (n:Int)):=by
 obtain⟨a0,a1,a2,a3,a4,a5,a6,a7,rfl⟩:=list8 h
 rfl
theorem hashC_set9 {hs:List Nat}{r:Value}{n m:Nat}(h:hs.length=8):(cI hs r n).setIfInBounds 9 (.int .u64 (m:Int))=cI hs r m:=by
 obtain⟨a0,a1,a2,a3,a4,a5,a6,a7,rfl⟩:=list8 h
 rfl
theorem eQ {hs:List Nat}{r r':Value}{n:Nat}(h:hs.length=8):(cI hs r n).setIfInBounds 8 r'=cI hs r' n:=by
 obtain⟨a0,a1,a2,a3,a4,a5,a6,a7,rfl⟩:=list8 h
 rfl
theorem write_any {w0:World}{M:Nat→Prop}{H:List Chunk}(g:Nat)(hs:List Nat)(A:Option Addr)(c r n:Nat)(rest:List UInt8)(B:Option Addr)(cb m:Nat)(l:List UInt8)(w:World)(all:List UInt8)(k t:Nat)
  (hl8:hs.length=8)(hw8:aT hs)(hrl:rest.length=r)(hl:l.length=m)(hn:n+m≤1000000)(hr0:r≤127)(hall:rest++l=all)(hk:all.length/128=k)(ht:all.length%128=t)
  (hS:St w0 M w (.cells g (cI hs (.slice A r c) n) 173::.row (.slice A r c) 5 1 r (bvs rest)::H))(hr:Rd w (.slice B m cb) 1 m (bvs l))(hne:0<m→(Value.slice B m cb).ownBlock≠some g) :
  Calls Tryz.prog 96 #[.pointer (some ⟨g,0,none⟩),.slice B m cb] w fun e w'=>e=.returned (.tuple #[])∧∃A' c',St w0 M w' (.cells g (cI (runN hs k all) (.slice A' t c') (n+m)) 173::.row (.slice A' t c') 5 1 t (bvs (all.drop (128*k)))::H):=by
 have c9:w.cell? ⟨g,9,none⟩=some (.int .u64 (n:Int)):=by rw[hS.cell 0 rfl 9];exact hashC_nine hl8
 have c8:w.cell? ⟨g,8,none⟩=some (.slice A r c):=by rw[hS.cell 0 rfl 8];exact bX hl8
 have f9:=hS.free 0 rfl 9
 have f8:=hS.free 0 rfl 8
 have hwm:IntKind.u64.wrap (m:Int)=(m:Int):=Cl
 have hwn:IntKind.u64.wrap ((n:Int)+(m:Int))=((n+m:Nat):Int):=Cl
 have hS1:=hS.setCell 0 rfl 9 (.int .u64 ((n+m:Nat):Int))
 rw[hashC_set9 hl8] at hS1
 have HS1:=aA hS1
 have HR1:=aA (rd_setCell (o:=9) (v:=.int .u64 ((n+m:Nat):Int)) hr hne)
 have hal:all.length=r+m:=by rw[←hall,List.length_append,hrl,hl]
 have hq:wrap64 (((r:Int)+(m:Int)).tdiv 128)=(k:Int):=by
  rw[Int.tdiv_eq_ediv_of_nonneg An]
  exact IntWalk.wrap64_in _ ⟨An,An⟩|>.trans An
 have HL8:=aA hl8
 have HW8:=aA hw8
 have HAL:=aA hal
 have HALL:=aA hall
 have HK:=aA hk
 have HT:=aA ht
 have HN:=aA hn
 have hm64:m≤9223372036854775807:=An
 clear hS hr hne hl8 hw8 hrl hl hn hal hall hk ht hS1
 go_enter Tryz.func96,Tryz.ntmps96
 go_upto_region 4 with(at_builtin;refine cQ rfl rfl tyB HS1.out 1 rfl rfl rfl HR1.out (bD _) Cv Bz ?_;intro A1 c1 w1 hS1;have z8:w1.cell? ⟨g,8,none⟩=some (.slice A r c):=(hS1.cell 0 rfl 8).trans (bX HL8.out);have q8:=hS1.free 0 rfl 8;have HS2:=aA (hS1.setCell 0 rfl 8 (.slice A1 (r+m) c1)))
 clear c9 c8 f9 f8 hwm hwn z8 q8 hS1
 rw[←cK,HALL.out,eQ HL8.out] at HS2
 have hN:r+m≤1000127:=Cv
 generalize w1.setCell ⟨g,8,none⟩ (.slice A1 (r+m) c1)=w2 at HS2 ⊢
 rw[hq]
 obtain⟨N,hNN⟩:∃N,N=r+m:=⟨_,rfl⟩
 rw[←hNN] at HS2 hN HAL ⊢
 obtain⟨n',hn'⟩:∃n',n'=n+m:=⟨_,rfl⟩
 rw[←hn'] at HS2
 have HN':=aA hn'
 have hkN:128*k≤N:=by have:=HK.out;have:=HAL.out;omega
 have hkt:N=128*k+t:=by have:=HK.out;have:=HT.out;have:=HAL.out;omega
 have HKT:=aA hkt
 clear hNN hq hn' hkt
 go_wp2_with fail
 go_loopw [34] (fun i wr=>WrRel w0 M H g hs A1 c1 N n' k all i wr) (fun i _=>k - (intOf i).toNat)
 case atStart=>exact⟨0,An,rfl,HS2.out⟩
 case round =>
  clear HS2
  obtain⟨i,hi,rfl,hS⟩:=hrel
  have ⟨g1,g2⟩:=runN_ok i hs all HL8.out HW8.out
  have c8:wr.cell? ⟨g,8,none⟩=some (.slice A1 N c1):=(hS.cell 0 rfl 8).trans (bX g1)
  have hrd:=hS.rd 1 rfl
  have hcap:=rd_cap hrd
  by_cases hlt:i<k
  ·obtain⟨b,o,rfl⟩:∃b o,A1=some ⟨b,o,none⟩:=by
    rcases hrd.cases with⟨_,h0,_⟩|⟨b,o,sp,c',hv,_,_,_,_,h4,_⟩
    ·omega
    ·injection hv with hv1 _ _
     have:=h4 An
     subst this hv1
     exact⟨b,o,rfl⟩
   have hmid:=rd_mid0 hrd (i*128) ((i+1)*128) An An
   rw[show(i+1)*128 - i*128=128 from by omega,show all.drop (i*128)=all.drop (128*i) from by rw[Nat.mul_comm]] at hmid
   have HT2:=aA (takes_any (H:=.row (.slice (some ⟨b,o,none⟩) N c1) 5 1 N (bvs all)::H) g (runN hs i all) (.slice (some ⟨b,o,none⟩) N c1) n' (some ⟨b,o+i*128,none⟩) (c1 - i*128) ((all.drop (128*i)).take 128) wr g1 g2 (by rw[List.length_take,List.length_drop,HAL.out];omega) hS hmid)
   rw[←runN_snoc] at HT2
   have h128:(i+1)*128 - i*128=128:=An
   have d1:decide ((i:Int)<(k:Int))=true:=A9
   have i1:(i:Int)<(k:Int):=An
   clear hrd hmid hS g1 g2
   go_wp2_with (go_at_call 131;refine HT2.out.mono ?_;rintro e w3 ⟨rfl,hS3⟩;have HS3:=aA hS3;clear hS3)
   go_roundw
   case rel=>exact⟨i+1,An,Cg,HS3.out⟩
   case measure=>(simp[intOf])<;>omega
  ·obtain rfl:i=k:=by omega
   have HS:=aA hS
   have hcpos:c1≤9223372036854775807:=by
    obtain⟨_,_,e,_,_,h3,_⟩:=hrd
    injection e with _ _ e3
    subst e3
    unfold maxLen at h3
    omega
   have ht2:t≤127:=by have:=HT.out;omega
   have hkt:=HKT.out
   by_cases hN0:N=0
   ·have hi0:i=0:=by omega
    have ht0:t=0:=An
    have hnil:all=[]:=List.eq_nil_of_length_eq_zero (by rw[HAL.out];exact hN0)
    subst hN0 hi0 ht0 hnil
    cases A1 with
    | none =>
     have hc0:c1=0:=by
      obtain⟨A',c',e,_,_,_,h4,_⟩:=hrd
      injection e with e1 _ e3
      rw[e3]
      exact h4 e1.symm
     subst hc0
     have HRV:=aA (show Rd wr (.slice none 0 0) 1 0 (bvs []) from rd_nil wr 1)
     clear hS hrd hkt
     go_wp2_with (at_builtin;refine bJ rfl rfl tyB HS.out rfl rfl HRV.out (bD _) An Bz ?_;intro A3 c3 w3 hS3;have q8:=hS3.free 1 rfl 8;have z8:w3.cell? ⟨g,8,none⟩=some (.slice none 0 0):=(hS3.cell 1 rfl 8).trans (bX g1);have HS3:=aA (hS3.setCell 1 rfl 8 (.slice A3 0 c3)))
     go_end0
     have h4:=HS3.out
     rw[eQ g1] at h4
     have h5:=St.mid2 (St.swap h4)
     rw[HN'.out] at h5
     exact⟨rfl,A3,c3,h5⟩
    | some ad =>
     have HRV:=aA (show Rd wr (.slice (some ad) 0 c1) 1 0 (bvs []) from hrd)
     obtain⟨b,o,sp⟩:=ad
     by_cases hcc:c1=0
     ·subst hcc
      clear hS hrd hkt
      go_wp2_with (at_builtin;refine bJ rfl rfl tyB HS.out rfl rfl HRV.out (bD _) An Bz ?_;intro A3 c3 w3 hS3;have q8:=hS3.free 1 rfl 8;have z8:w3.cell? ⟨g,8,none⟩=some (.slice (some ⟨b,o,sp⟩) 0 _):=(hS3.cell 1 rfl 8).trans (bX g1);have HS3:=aA (hS3.setCell 1 rfl 8 (.slice A3 0 c3)))
      go_end0
      have h4:=HS3.out
      rw[eQ g1] at h4
      have h5:=St.mid2 (St.swap h4)
      rw[HN'.out] at h5
      exact⟨rfl,A3,c3,h5⟩
     ·have hcl:0<c1:=by omega
      clear hS hrd hkt
      go_wp2_with (at_builtin;refine bJ rfl rfl tyB HS.out rfl rfl HRV.out (bD _) An Bz ?_;intro A3 c3 w3 hS3;have q8:=hS3.free 1 rfl 8;have z8:w3.cell? ⟨g,8,none⟩=some (.slice (some ⟨b,o,sp⟩) 0 _):=(hS3.cell 1 rfl 8).trans (bX g1);have HS3:=aA (hS3.setCell 1 rfl 8 (.slice A3 0 c3)))
      go_end0
      have h4:=HS3.out
      rw[eQ g1] at h4
      have h5:=St.mid2 (St.swap h4)
      rw[HN'.out] at h5
      exact⟨rfl,A3,c3,h5⟩
   ·obtain⟨b,o,rfl⟩:∃b o,A1=some ⟨b,o,none⟩:=by
     rcases hrd.cases with⟨_,h0,_⟩|⟨b,o,sp,c',hv,_,_,_,_,h4,_⟩
     ·omega
     ·injection hv with hv1 _ _
      have:=h4 An
      subst this hv1
      exact⟨b,o,rfl⟩
    by_cases hcc:c1=i*128
    ·have hNi:N=i*128:=by omega
     have ht0:t=0:=An
     have hdr:all.drop (128*i)=[]:=List.drop_eq_nil_of_le (by rw[HAL.out];omega)
     subst hcc hNi ht0
     have HDR:=aA hdr
     have hmx:i*128≤maxLen:=Aw
     clear hS hrd hkt hdr
     go_wp2_with (at_builtin;refine wl_append0z rfl rfl tyB HS.out rfl rfl An An An Bz ?_;intro A3 c3 w3 hS3;have q8:=hS3.free 1 rfl 8;have z8:w3.cell? ⟨g,8,none⟩=some (.slice (some ⟨b,o,none⟩) (i*128) (i*128)):=(hS3.cell 1 rfl 8).trans (bX g1);have HS3:=aA (hS3.setCell 1 rfl 8 (.slice A3 0 c3)))
     go_end0
     have h4:=HS3.out
     rw[eQ g1] at h4
     have h5:=St.mid2 (St.swap h4)
     rw[HN'.out] at h5
     refine⟨rfl,A3,c3,?_⟩
     rw[HDR.out]
     exact h5
    ·have hcl:i*128<c1:=by omega
     have hmid:=rd_mid0 hrd (i*128) N An (Nat.le_refl _)
     rw[List.take_of_length_le (by rw[List.length_drop,HAL.out];exact Nat.le_refl _),show i*128=128*i from by omega] at hmid
     have hti2:N - i*128=t:=An
     rw[show N - 128*i=N - i*128 from by omega,show o+128*i=o+i*128 from by omega,show c1 - 128*i=c1 - i*128 from by omega] at hmid
     have HRV:=aA hmid
     have HTI:=aA hti2
     clear hS hrd hkt hmid hti2
     go_wp2_with (at_builtin;refine bJ rfl rfl tyB HS.out rfl rfl HRV.out (bD _) An Bz ?_;intro A3 c3 w3 hS3;have q8:=hS3.free 1 rfl 8;have z8:w3.cell? ⟨g,8,none⟩=some (.slice (some ⟨b,o,none⟩) N c1):=(hS3.cell 1 rfl 8).trans (bX g1);have HS3:=aA (hS3.setCell 1 rfl 8 (.slice A3 (N - i*128) c3)))
     go_end0
     have h4:=HS3.out
     rw[eQ g1] at h4
     have h5:=St.mid2 (St.swap h4)
     rw[HN'.out] at h5
     refine⟨rfl,A3,c3,?_⟩
     rw[←HTI.out]
     exact h5
def HCk (g:Nat)(A:Option Addr)(c:Nat)(l:List UInt8):Chunk:=.cells g (cI (stO l) (.slice A (l.length%128) c) l.length) 173
def HRk (A:Option Addr)(c:Nat)(l:List UInt8):Chunk:=.row (.slice A (l.length%128) c) 5 1 (l.length%128) (bvs (rsO l))
theorem write_msg {w0:World}{M:Nat→Prop}{H:List Chunk}(g:Nat)(A:Option Addr)(c:Nat)(l:List UInt8)(B:Option Addr)(cb m:Nat)(x:List UInt8)(w:World)(hx:x.length=m)(hn:l.length+m≤1000000)
  (hS:St w0 M w (HCk g A c l::HRk A c l::H))(hr:Rd w (.slice B m cb) 1 m (bvs x))(hne:0<m→(Value.slice B m cb).ownBlock≠some g) :
  Calls Tryz.prog 96 #[.pointer (some ⟨g,0,none⟩),.slice B m cb] w fun e w'=>e=.returned (.tuple #[])∧∃A' c',St w0 M w' (HCk g A' c' (l++x)::HRk A' c' (l++x)::H):=by
 have h:=write_any (H:=H) g (stO l) A c (l.length%128) l.length (rsO l) B cb m x w (rsO l++x) _ _ (stO_ok l).1 (stO_ok l).2 (rsO_len l) hx hn An rfl rfl rfl hS hr hne
 rw[stO_append,rsO_append] at h
 have e1:(rsO l++x).length%128=(l++x).length%128:=by rw[List.length_append,List.length_append,rsO_len];omega
 have e2:l.length+m=(l++x).length:=by rw[List.length_append,hx]
 rw[e1,e2] at h
 exact h
theorem new_any {w0:World}{M:Nat→Prop}{H:List Chunk}(w:World)(hS:St w0 M w H) :
  Calls Tryz.prog 95 #[] w fun e w'=>∃g,e=.returned (.pointer (some ⟨g,0,none⟩))∧St w0 M w' (HCk g none 0 []::HRk none 0 []::H)∧Below w.heap.size w w':=by
 have HS:=aA hS
 have HB:=aA (begin_any w)
 unfold h0L at HB
 clear hS
 go_enter Tryz.func95,Tryz.ntmps95
 go_wp2_with (go_at_call 130;refine HB.out.mono ?_;rintro e w1 ⟨rfl,hb1⟩)
 have h1:=(HS.out.call hb1).row (Below.refl _ _) (World.ownsRow_nil _ _ 5 1)
 have h2:=aA (h1.alloc (cI (stO []) (.slice none 0 0) 0) 173)
 have hb2:=aA (hb1)
 clear h1
 go_ret
 exact⟨w1.heap.size,rfl,h2.out,bnx hb2.out ((Below.refl _ _).alloc (Nat.le_refl _) _)⟩
theorem rd_far {w:World}{y:Value}{m g:Nat}{xs:List Value}(h:Rd w y 1 m xs)(hg:w.heap.size≤g):0<m→y.ownBlock≠some g:=fun hm e=>by
 rcases h.cases with⟨_,h0,_⟩|⟨b,o,sp,c,rfl,hb,_⟩
 ·omega
 ·have h2:b=g:=Option.some.inj e
  have:=hb An
  omega
def Sum64 (w:World)(l:List UInt8)(e:Ending)(w':World):Prop:=∃B d,e=.returned (.slice B 64 d)∧Below w.heap.size w w'∧w'.ownsRow w.heap.size 5 1 (.slice B 64 d) 64 (bvs l)
end Go.Proofs.YtnohmgpmmhlloaaGreatDoor.S1
