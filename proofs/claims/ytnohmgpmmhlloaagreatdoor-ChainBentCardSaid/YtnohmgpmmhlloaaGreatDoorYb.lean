/-
 Joined of texts of mine,in build order: Kd,Az,Ke,Kf,Kg,Kh,Ki,Kj,Kk,Km,Kn,Ko,Kp. Each says what it proves at its own head.
-/
import Derived.Laws.CopyRow
import Derived.Deep.DeepCutAuto
import Derived.Lib.AppendZerosOnto
import Derived.Laws.OwnMore
import Derived.Laws.MakeOwn
import Derived.Lib.SmallJoins
import Derived.Test.YtnohmgpmmhlloaaGreatDoorYa
set_option linter.unusedSimpArgs false
set_option linter.unusedVariables false
set_option maxRecDepth 100000
set_option maxHeartbeats 25600000
namespace Go.Proofs.YtnohmgpmmhlloaaGreatDoor
open Go.RowKit
theorem pow_split (i:Nat):256^i=18446744073709551616^(i/8)*256^(i%8):=by
 rw[show(18446744073709551616:Nat)=256^8 from by decide,←Nat.pow_mul,←Nat.pow_add]
 congr 1
 omega
theorem from_word (cur:List Nat)(i x:Nat)(hx:cur[i/8]?=some x)(hv:lv cur<256^i):x<256^(i%8):=by
 have h1:=lv_get_le cur (i/8) x hx
 have h2:=pow_split i
 rw[h2] at hv
 have h3:x*18446744073709551616^(i/8)<256^(i%8)*18446744073709551616^(i/8):=by rw[Nat.mul_comm (256^(i%8))];omega
 exact Nat.lt_of_mul_lt_mul_right h3
theorem from_lt (x c i:Nat)(hx:x<256^(i%8))(hc:c<256):x+c*256^(i%8)<18446744073709551616:=by
 have h8:i%8<8:=Nat.mod_lt _ An
 have h1:c*256^(i%8)+256^(i%8)≤256^(i%8+1):=by
  rw[Nat.pow_succ,←Nat.succ_mul,Nat.mul_comm (256^(i%8))]
  exact Nat.mul_le_mul_right _ An
 have h2:256^(i%8+1)≤256^8:=Nat.pow_le_pow_right An An
 have h3:(256:Nat)^8=18446744073709551616:=Bz
 omega
theorem from_step (cur:List Nat)(l:List UInt8)(i x:Nat)(c:UInt8)(hx:cur[i/8]?=some x)(hc:l[i]?=some c)(hv:lv cur=bval (l.take i)) :
  lv (cur.set (i/8) (x+c.toNat*256^(i%8)))=bval (l.take (i+1)):=by
 have h1:=lv_set cur (i/8) x (x+c.toNat*256^(i%8)) hx
 rw[iH hc,pow_split i,←hv]
 rw[Nat.add_mul] at h1
 rw[show c.toNat*256^(i%8)*18446744073709551616^(i/8)=c.toNat*(18446744073709551616^(i/8)*256^(i%8)) from by rw[Nat.mul_assoc,Nat.mul_comm (256^(i%8))]] at h1
 omega
theorem from_or (x c i:Nat)(hx:x<256^(i%8))(hc:c<256) :
  bits .or .u64 (x:Int) (IntKind.u64.wrap ((c:Int)*2^(i%8*8)))=((x+c*256^(i%8):Nat):Int):=by
 have hlt:=from_lt x c i hx hc
 have e2:(2:Nat)^(i%8*8)=256^(i%8):=by rw[Nat.mul_comm,Nat.pow_mul]
 have e:IntKind.u64.wrap ((c:Int)*2^(i%8*8))=((c*256^(i%8):Nat):Int):=by
  rw[show((c:Int)*2^(i%8*8))=((c*2^(i%8*8):Nat):Int) from by simp,e2,IntKind.wrap_u64]
  omega
 rw[e,u64_or_nat _ _ An An,Nat.or_comm]
 have:=nat_join (i%8*8) (c*256^(i%8)) x (by rw[e2];exact Nat.mul_mod_left _ _) (by rw[e2];exact hx)
 rw[this,Nat.add_comm]
@[irreducible] def fullL (l:List UInt8):List UInt8:=(l++List.replicate 32 0).take 32
theorem fullL_len (l:List UInt8):(fullL l).length=32:=Cs
theorem fullL_bvs (l:List UInt8)(zs:List Value)(hz:zs=List.replicate 32 (.int .u8 0)):(bvs l).take 32++zs.drop (min l.length 32)=bvs (fullL l):=by
 subst hz
 unfold fullL
 rw[List.take_append,bvs,bvs,List.map_append,List.map_take,List.map_take,List.map_replicate,List.drop_replicate,List.take_replicate]
 congr 1
 rw[show min (32 - l.length) 32=32 - min l.length 32 from by omega]
 rfl
def f1 (x y:Nat):Nat:=(x/T51+y%2^51*2^13)%T51
def f2 (x y:Nat):Nat:=(x/274877906944+y%2^38*2^26)%T51
def f3 (x y:Nat):Nat:=(x/33554432+y%2^25*2^39)%T51
theorem f1_eq (x y:Nat)(hx:x<18446744073709551616):f1 x y=x/T51+y%274877906944*8192:=by unfold f1 T51;omega
theorem f2_eq (x y:Nat)(hx:x<18446744073709551616):f2 x y=x/274877906944+y%33554432*67108864:=by unfold f2 T51;omega
theorem f3_eq (x y:Nat)(hx:x<18446744073709551616):f3 x y=x/33554432+y%4096*549755813888:=by unfold f3 T51;omega
theorem f_sum (T W x0 a y0 b z0 c u0 d m1 m2 m3 s1 s2 s3 p2 p3:Nat)(h0:W=T*s1)(h1:W=m1*s2)(h2:s1*m1=T)(h3:W=m2*s3)(h4:s2*m2=T)(h6:s3*m3=T) :
  (x0+T*a)+W*((y0+m1*b)+W*((z0+m2*c)+W*(u0+m3*d)))=x0+T*((a+y0*s1)+T*((b+z0*s2)+T*((c+u0*s3)+T*d))):=by
 have e1:=hor W m1 s2 T s1 y0 b (z0+m2*c+W*(u0+m3*d)) h1 h2
 have e2:=hor W m2 s3 T s2 z0 c (u0+m3*d) h3 h4
 have e3:=hor 0 m3 0 T s3 u0 d 0 B0 h6
 rw[Nat.mul_comm _ s2,e2,Nat.mul_comm _ s3] at e1
 simp only[Nat.mul_zero,Nat.zero_mul,Nat.add_zero] at e3
 rw[e3] at e1
 rw[show W*((y0+m1*b)+W*((z0+m2*c)+W*(u0+m3*d)))=T*(s1*((y0+m1*b)+W*((z0+m2*c)+W*(u0+m3*d)))) from by rw[←Nat.mul_assoc,←h0],e1,Nat.add_assoc,←Nat.mul_add]
 simp only[Nat.add_assoc]
theorem f_val (x y z u:Nat)(hx:x<18446744073709551616)(hy:y<18446744073709551616)(hz:z<18446744073709551616):fv T51 [x%T51,f1 x y,f2 y z,f3 z u,u/4096]=lv [x,y,z,u]:=by
 have:=f_sum T51 18446744073709551616 (x%T51) (x/T51) (y%274877906944) (y/274877906944) (z%33554432) (z/33554432) (u%4096) (u/4096) 274877906944 33554432 4096 8192 67108864 549755813888 0 0 Bz Bz Bz Bz Bz Bz
 rw[Nat.mod_add_div,Nat.mod_add_div,Nat.mod_add_div,Nat.mod_add_div] at this
 rw[f1_eq x y hx,f2_eq y z hy,f3_eq z u hz]
 simp only[lv,fv,Nat.mul_zero,Nat.add_zero]
 exact this.symm
section
variable {P : Program} {w0 w : World} {M : Nat → Prop} {H : List Chunk}
theorem wp_copyMin {o:Oper}{a:Act}{K:Act→World→Prop}{Q:Exit→Act→World→Prop}{d s:Operand}{dT sT elem:TypeId}
  (ho:o.op=.call { callee:=.builtin .copy,args:=#[d,s],argTypes:=#[dT,sT] })(hu:P.underlying dT=some (.slice elem))(hsz:(P.info? elem).map (·.size)=some 1)
  (hS:St w0 M w H)(i:Nat){g:Nat}{cur:Array Value}{e:TypeId}(hi:H[i]?=some (.cells g cur e)){dn dc m:Nat}(hd:a.eval d=.slice (some ⟨g,0,none⟩) dn dc)
  {y:Value}{ys:List Value}(hx:a.eval s=y)(hr:Rd w y 1 m ys)(hfit:dn≤cur.size)(h1:∀u∈ys,u.oneCell'=true)
  (h:∀w',St w0 M w' (H.set i (.cells g (ys.take dn++cur.toList.drop (min m dn)).toArray e))→K (a.put o.dst (goInt (min m dn:Nat))) w'):Oper.wp P o a w K Q:=by
 rcases hr.cases with⟨rfl,rfl,rfl⟩|⟨b,off,sp,c,rfl,hb,hnc,hcm,hl,hsp,hc⟩
 ·have hrun:=run_copy_nil (P:=P) w dT sT o.type elem ⟨g,0,none⟩ dn dc hu (by rw[hsz];rfl)
  unfold Oper.wp execOp
  simp only[ho,resolve,invoke,builtin,Sem.run_bind,Sem.run_pure,Result.andThen_ok,List.map_toArray,List.map_cons,List.map_nil,hd,hx,hrun]
  have:=h w (by
   have e1:(([]:List Value).take dn++cur.toList.drop (min 0 dn)).toArray=cur:=B0
   rw[e1]
   have e2:H.set i (.cells g cur e)=H:=by
    refine List.ext_getElem? fun k=>?_
    by_cases hk:k=i
    ·subst hk;rw[List.getElem?_set_self (List.getElem?_eq_some_iff.1 hi).1,hi]
    ·rw[List.getElem?_set_ne An]
   rw[e2]
   exact hS)
  rw[Nat.zero_min] at this
  exact this
 ·have hl':ys.length=m:=by omega
  have hrun:=run_copy_row (P:=P) w dT sT o.type elem g 0 dn dc ⟨b,off,sp⟩ m c cur e (ys.take dn) hu hsz (hS.heap i hi) (by rw[List.length_take,hl'];exact Nat.min_comm _ _) (fun j v hv=>by
   have hj:=(List.getElem?_eq_some_iff.1 hv).1
   rw[List.length_take] at hj
   obtain rfl:sp=none:=hsp An
   rw[List.getElem?_take_of_lt An] at hv
   rw[Addr.add_lit]
   exact hc j v hv) Cm (fun u hu=>h1 u (List.mem_of_mem_take hu))
  unfold Oper.wp execOp
  simp only[ho,resolve,invoke,builtin,Sem.run_bind,Sem.run_pure,Result.andThen_ok,List.map_toArray,List.map_cons,List.map_nil,hd,hx,hrun]
  have:=hS.setRow i hi (cur.toList.take 0++ys.take dn++cur.toList.drop (0+(ys.take dn).length)).toArray
  have e3:(ys.take dn).length=min m dn:=by rw[List.length_take,hl',Nat.min_comm]
  rw[List.take_zero,List.nil_append,Nat.zero_add,e3] at this
  simp only[List.take_zero,List.nil_append,Nat.zero_add,e3]
  exact h _ this
theorem wl_copyMin {ops:Array Oper}{rest:List Oper}{o:Oper}{a:Act}{Q:Exit→Act→World→Prop}(hgd:o.guard=none){d s:Operand}{dT sT elem:TypeId}
  (ho:o.op=.call { callee:=.builtin .copy,args:=#[d,s],argTypes:=#[dT,sT] })(hu:P.underlying dT=some (.slice elem))(hsz:(P.info? elem).map (·.size)=some 1)
  (hS:St w0 M w H)(i:Nat){g:Nat}{cur:Array Value}{e:TypeId}(hi:H[i]?=some (.cells g cur e)){dn dc m:Nat}(hd:a.eval d=.slice (some ⟨g,0,none⟩) dn dc)
  {y:Value}{ys:List Value}(hx:a.eval s=y)(hr:Rd w y 1 m ys)(hfit:dn≤cur.size)(h1:∀u∈ys,u.oneCell'=true)
  (h:∀w',St w0 M w' (H.set i (.cells g (ys.take dn++cur.toList.drop (min m dn)).toArray e))→wpList P ops Q rest (a.put o.dst (goInt (min m dn:Nat))) w'):wpList P ops Q (o::rest) a w:=
 wpList_plain hgd fun _ hK=>wp_copyMin ho hu hsz hS i hi hd hx hr hfit h1 fun w' h2=>hK _ _ (h w' h2)
theorem run_index_arr (t e:TypeId)(n k:Nat)(cs:Array Value)(v:Value)(ik:IntKind)(h:P.underlying t=some (.array n e))(he:P.underlying e=some (.int ik))(hs:(P.info? e).map (·.size)=some 1)(hk:k<n)(hv:cs[k]?=some v)(W:World) :
  (Instr.index t (.agg cs) (.int .i64 (k:Int))).run P W=.ok v W:=by
 have hag:∀w,(isAgg e).run P w=.ok false w:=fun w=>by
  unfold isAgg
  rw[Sem.run_bind,run_underlying he w]
  rfl
 have hsz:∀w,(sizeOf e).run P w=.ok 1 w:=fun w=>by
  cases hq:P.info? e with
  | none=>simp[hq] at hs
  | some i =>
   have hi:i.size=1:=by simpa[hq] using hs
   simp[sizeOf,typeInfo,hq,hi]
 simp[Instr.index,run_underlying h,asIntOf,go_sem,hv,hag,hsz,hk]
end
theorem limb_eq (k x y:Nat)(hk:k≤64)(hx:x<2^k):∃u,u=x+y%2^(64 - k)*2^k∧bits .or .u64 (x:Int) (IntKind.u64.wrap ((y:Int)*((2^k:Nat):Int)))=(u:Int)∧bits .and .u64 (u:Int) 2251799813685247=((u%T51:Nat):Int):=by
 refine⟨_,rfl,glue k x y hk hx,and_mask _ ?_⟩
 have e1:2^(64 - k)*2^k=18446744073709551616:=by rw[←Nat.pow_add,show 64 - k+k=64 from by omega]
 have h1:y%2^(64 - k)+1≤2^(64 - k):=Nat.mod_lt _ (Nat.pow_pos An)
 have h2:=Nat.mul_le_mul_right (2^k) h1
 rw[e1,Nat.add_mul,Nat.one_mul] at h2
 omega
def FromRel (w:World)(g:Nat)(H:List Chunk)(l:List UInt8)(i:Value)(wr:World):Prop:=
 ∃(k:Nat) (cur:List Nat),k≤32∧i=.int .i64 (k:Int)∧cur.length=4∧aT cur∧lv cur=bval (l.take k)∧St w NoB wr (.cells g (uvs cur).toArray 119::H)
theorem from_walk (A:Option Addr)(n c:Nat)(l:List UInt8)(w:World)(hl:l.length=n)(hn:n≤1000)(hr:Rd w (.slice A n c) 1 n (bvs l)) :
  Calls Tryz.prog 86 #[.slice A n c] w fun r w'=>∃a b c d e:Nat,ev [a,b,c,d,e]=bval (fullL l)%Pq∧Red [a,b,c,d,e]∧r=.returned (.agg #[.int .u64 (a:Int),.int .u64 (b:Int),.int .u64 (c:Int),.int .u64 (d:Int),.int .u64 (e:Int)])∧Below w.heap.size w w':=by
 have HR:=aA hr
 have HL:=aA hl
 have hS0:=((St.init w NoB).alloc #[.int .u64 0,.int .u64 0,.int .u64 0,.int .u64 0,.int .u64 0] 61).alloc #[.int .u8 0,.int .u8 0,.int .u8 0,.int .u8 0,.int .u8 0,.int .u8 0,.int .u8 0,.int .u8 0,.int .u8 0,.int .u8 0,.int .u8 0,.int .u8 0,.int .u8 0,.int .u8 0,.int .u8 0,.int .u8 0,.int .u8 0,.int .u8 0,.int .u8 0,.int .u8 0,.int .u8 0,.int .u8 0,.int .u8 0,.int .u8 0,.int .u8 0,.int .u8 0,.int .u8 0,.int .u8 0,.int .u8 0,.int .u8 0,.int .u8 0,.int .u8 0] 168
 simp only[size_alloc1] at hS0
 have HS0:=aA hS0
 clear hr hl hS0
 obtain⟨F,hF⟩:∃F,F=fullL l:=⟨_,rfl⟩
 have HFL:Hid (F.length=32):=aA (by rw[hF];exact fullL_len l)
 have HFE:=aA hF
 have HF:Hid ((bvs l).take 32++(#[.int .u8 0,.int .u8 0,.int .u8 0,.int .u8 0,.int .u8 0,.int .u8 0,.int .u8 0,.int .u8 0,.int .u8 0,.int .u8 0,.int .u8 0,.int .u8 0,.int .u8 0,.int .u8 0,.int .u8 0,.int .u8 0,.int .u8 0,.int .u8 0,.int .u8 0,.int .u8 0,.int .u8 0,.int .u8 0,.int .u8 0,.int .u8 0,.int .u8 0,.int .u8 0,.int .u8 0,.int .u8 0,.int .u8 0,.int .u8 0,.int .u8 0,.int .u8 0]:Array Value).toList.drop (min n 32)=bvs F):=aA (by rw[hF,←HL.out];exact fullL_bvs l _ rfl)
 have HSZ:Hid ((Tryz.prog.info? 168).map (·.size)=some (bvs F).toArray.size):=aA (by rw[List.size_toArray,aX,HFL.out];kernel_rfl)
 clear hF
 go_enter Tryz.func86,Tryz.ntmps86
 go_upto_region 5 with(first
  |(refine wl_copyMin (d:=.tmp 7) (s:=.tmp 8) rfl rfl Tryz.underlying22 Bt HS0.out 0 rfl rfl rfl (HR.out.st HS0.out) Bz (bD _) ?_;intro w1 hS1;rw[HF.out] at hS1;have hS1:=hS1.alloc #[.int .u64 0,.int .u64 0,.int .u64 0,.int .u64 0] 119)
  |(refine wpList_load_row rfl 168 (.tmp 3) rfl (w.heap.size+1) rfl _ _ _ _ (hS1.heap 1 rfl) Tryz.underlying168 rfl HSZ.out ?_))
 have HS1:=aA (hS1.pickL (H':=[.cells w1.heap.size #[.int .u64 0,.int .u64 0,.int .u64 0,.int .u64 0] 119,.cells w.heap.size #[.int .u64 0,.int .u64 0,.int .u64 0,.int .u64 0,.int .u64 0] 61]) [0,2] Bz rfl)
 clear hS1 HS0 HF HSZ HL
 go_loopw [11] (fun i wr=>FromRel w w1.heap.size [.cells w.heap.size #[.int .u64 0,.int .u64 0,.int .u64 0,.int .u64 0,.int .u64 0] 61] F i wr) (fun i _=>32 - (intOf i).toNat)
 case atStart=>exact⟨0,[0,0,0,0],An,rfl,rfl,by unfold aT;decide,rfl,HS1.out⟩
 case round =>
  obtain⟨k,cur,hk,rfl,hcl,hcw,hval,hS⟩:=hrel
  by_cases hlt:k<32
  ·obtain⟨x,hx⟩:=iR cur hcl (k/8) An
   obtain⟨ch,hch⟩:∃ch,F[k]?=some ch:=⟨F[k]'(by rw[HFL.out];exact hlt),gE _⟩
   have hvl:lv cur<256^k:=by
    rw[hval]
    have:=bval_lt (F.take k)
    rwa [List.length_take,HFL.out,Nat.min_eq_left An] at this
   have hxw:=from_word cur k x hx hvl
   have hch2:=UInt8.toNat_lt ch
   have hor:=from_or x ch.toNat k hxw hch2
   have hlt2:=from_lt x ch.toNat k hxw hch2
   have hstep:=aA (from_step cur F k x ch hx hch hval)
   obtain⟨y,hy⟩:∃y,y=x+ch.toNat*256^(k%8):=⟨_,rfl⟩
   rw[←hy] at hor hlt2 hstep
   have hS':=hS.drew
   have hHS:=aA hS'
   have hix:=run_index_arr (P:=Tryz.prog) 168 5 32 k (bvs F).toArray (.int .u8 (ch.toNat:Int)) .u8 Tryz.underlying168 Tryz.underlying5 Bt hlt (by simp only[bvs,List.getElem?_toArray,List.getElem?_map,hch];rfl)
   obtain⟨cn,hcn⟩:∃cn,cn=ch.toNat:=⟨_,rfl⟩
   rw[←hcn] at hor hix hch2
   have cx:∀z,aC wr.drew z→z.cell? ⟨w1.heap.size,k/8,none⟩=some (.int .u64 (x:Int)):=fun z hz=>by
    rw[hz.cell (p:=⟨w1.heap.size,k/8,none⟩) (Chunk.lt (hHS.out.sat 0 _ rfl) rfl),hHS.out.cell 0 rfl (k/8)]
    exact aR hx
   obtain⟨q,hq⟩:∃q,q=k/8:=⟨_,rfl⟩
   obtain⟨r,hr⟩:∃r,r=k%8*8:=⟨_,rfl⟩
   have hq4:q<4:=An
   have htd:(k:Int).tdiv 8=(q:Int):=Fi
   have htm:(k:Int).tmod 8=((k%8:Nat):Int):=Fj
   have hwr:IntKind.i64.wrap ((k:Int).tmod 8*8)=(r:Int):=by rw[htm,IntKind.wrap_i64];omega
   have hwc:IntKind.u64.wrap (cn:Int)=(cn:Int):=Cl
   have hr64:r<64:=An
   have hq4i:(q:Int)<4:=An
   have hr64i:(r:Int)<64:=An
   have hwq:IntKind.i64.wrap (q:Int)=(q:Int):=Ct
   have hwr2:IntKind.i64.wrap (r:Int)=(r:Int):=Ct
   rw[←hr] at hor
   rw[←hq] at cx hstep
   clear htm
   have D1:=aA hlt2
   have HCW:=aA hcw
   have HCL:=aA hcl
   clear hS hS' hx hxw hval hcw hcl hvl hlt2 hy hcn hch hq hr
   go_wp2_with fail
   refine aW (fun i=>i==12) (aC wr.drew) Bt ?_
   (refine mU 0 (v:=?_) fR ?_;(try refine nm ?_));(refine mU 1 (v:=?_) fR ?_;(try refine nm ?_))
   (refine mT 2 (v:=?_) fR ?_;(try refine nm ?_));(refine mT 3 (v:=?_) fR ?_;(try refine nm ?_))
   (refine mU 4 (v:=?_) fR ?_;(try refine nm ?_));(refine mU 5 (v:=?_) fR ?_;(try refine nm ?_));(refine mU 6 (v:=?_) fR ?_;(try refine nm ?_));(refine mU 7 (v:=?_) fR ?_;(try refine nm ?_));(refine mU 8 (v:=?_) fR ?_;(try refine nm ?_));(refine mU 9 (v:=?_) fR ?_;(try refine nm ?_));(refine mU 10 (v:=?_) fR ?_;(try refine nm ?_));(refine mU 11 (v:=?_) fR ?_;(try refine nm ?_))
   (refine aZ (i:=12) Bt rfl rfl ?_;intro K hK;(try refine nm ?_))
   refine bO rfl rfl tyU64 hHS.out 0 rfl q (by rw[List.size_toArray,cE,HCL.out];exact hq4) rfl (v:=.int .u64 (y:Int)) rfl rfl ?_
   intro w2 hS2
   refine hK _ _ ?_
   clear hK K
   (try refine nm ?_)
   refine wpAny_done Bt ?_ _
   go_wp2_with fail
   go_roundw
   case rel =>
    rw[bH] at hS2
    exact⟨k+1,cur.set q y,An,Cg,Cq,fH HCW.out q _ D1.out,hstep.out,hS2⟩
   case measure=>simp[intOf];omega
  ·obtain rfl:k=32:=by omega
   match cur,hcl with
   | [a0,a1,a2,a3],_ =>
    have hS':St w NoB wr [.cells w1.heap.size #[.int .u64 (a0:Int),.int .u64 (a1:Int),.int .u64 (a2:Int),.int .u64 (a3:Int)] 119,.cells w.heap.size #[.int .u64 0,.int .u64 0,.int .u64 0,.int .u64 0,.int .u64 0] 61]:=hS
    have n0:wr.cell? ⟨w1.heap.size,0,none⟩=some (.int .u64 (a0:Int)):=hS'.cell 0 rfl 0
    have n1:wr.cell? ⟨w1.heap.size,1,none⟩=some (.int .u64 (a1:Int)):=hS'.cell 0 rfl 1
    have n2:wr.cell? ⟨w1.heap.size,2,none⟩=some (.int .u64 (a2:Int)):=hS'.cell 0 rfl 2
    have n3:wr.cell? ⟨w1.heap.size,3,none⟩=some (.int .u64 (a3:Int)):=hS'.cell 0 rfl 3
    have b0:a0<18446744073709551616:=cG hcw (k:=0) rfl
    have b1:a1<18446744073709551616:=cG hcw (k:=1) rfl
    have b2:a2<18446744073709551616:=cG hcw (k:=2) rfl
    have b3:a3<18446744073709551616:=cG hcw (k:=3) rfl
    have hv:=f_val a0 a1 a2 a3 b0 b1 b2
    rw[hval,←HFL.out,List.take_length] at hv
    have e0:=and_mask a0 b0
    obtain⟨u1,hu1,e1,e1'⟩:=limb_eq 13 (a0/2251799813685248) a1 An An
    obtain⟨u2,hu2,e2,e2'⟩:=limb_eq 26 (a1/274877906944) a2 An An
    obtain⟨u3,hu3,e3,e3'⟩:=limb_eq 39 (a2/33554432) a3 An An
    replace e1:bits .or .u64 ((a0:Int)/2251799813685248) (IntKind.u64.wrap ((a1:Int)*8192))=(u1:Int):=e1
    replace e2:bits .or .u64 ((a1:Int)/274877906944) (IntKind.u64.wrap ((a2:Int)*67108864))=(u2:Int):=e2
    replace e3:bits .or .u64 ((a2:Int)/33554432) (IntKind.u64.wrap ((a3:Int)*549755813888))=(u3:Int):=e3
    have g1:u1%T51=f1 a0 a1:=by rw[hu1];rfl
    have g2:u2%T51=f2 a1 a2:=by rw[hu2];rfl
    have g3:u3%T51=f3 a2 a3:=by rw[hu3];rfl
    rw[g1] at e1'
    rw[g2] at e2'
    rw[g3] at e3'
    have l0:a0%T51<T51:=Nat.mod_lt _ Bz
    have l1:f1 a0 a1<T51:=Nat.mod_lt _ Bz
    have l2:f2 a1 a2<T51:=Nat.mod_lt _ Bz
    have l3:f3 a2 a3<T51:=Nat.mod_lt _ Bz
    have l4:a3/4096<2*T51:=Cf
    generalize a0%T51=p0 at e0 hv l0
    generalize f1 a0 a1=p1 at e1' hv l1
    generalize f2 a1 a2=p2 at e2' hv l2
    generalize f3 a2 a3=p3 at e3' hv l3
    have e4:((a3:Int)/4096)=((a3/4096:Nat):Int):=An
    generalize a3/4096=p4 at e4 hv l4
    have hlow:Low [p0,p1,p2,p3,p4]:=fun k x hx=>by
     match k,hx with
     | 0,hx=>injection hx with hx;unfold T51 at *;omega
     | 1,hx=>injection hx with hx;unfold T51 at *;omega
     | 2,hx=>injection hx with hx;unfold T51 at *;omega
     | 3,hx=>injection hx with hx;unfold T51 at *;omega
     | 4,hx=>injection hx with hx;unfold T51 at *;omega
    have HC:=aA (fun W=>fB p0 p1 p2 p3 p4 W hlow)
    have HV:Hid (ev [p0,p1,p2,p3,p4]=bval F%Pq):=aA (by unfold ev;rw[hv])
    have HSE:=aA hS'
    clear hS hS' hval hcw hv hlow l0 l1 l2 l3 l4 b0 b1 b2 b3 hu1 hu2 hu3 g1 g2 g3
    go_wp2_with (go_at_call 125;with_reducible refine(HC.out _).mono ?_;rintro r w2 ⟨r0,r1,r2,r3,r4,hev,hred,rfl,hb2⟩;have hS2:=HSE.out.call hb2;have z0:w2.cell? ⟨w.heap.size,0,none⟩=some (.int .u64 0):=hS2.cell 1 rfl 0;have z1:w2.cell? ⟨w.heap.size,1,none⟩=some (.int .u64 0):=hS2.cell 1 rfl 1;have z2:w2.cell? ⟨w.heap.size,2,none⟩=some (.int .u64 0):=hS2.cell 1 rfl 2;have z3:w2.cell? ⟨w.heap.size,3,none⟩=some (.int .u64 0):=hS2.cell 1 rfl 3;have z4:w2.cell? ⟨w.heap.size,4,none⟩=some (.int .u64 0):=hS2.cell 1 rfl 4;have y0:=hS2.free 1 rfl 0;have y1:=hS2.free 1 rfl 1;have y2:=hS2.free 1 rfl 2;have y3:=hS2.free 1 rfl 3;have y4:=hS2.free 1 rfl 4)
    have HS:=aA (((((hS2.setCell 1 rfl 0 (.int .u64 (r0:Int))).setCell 1 rfl 1 (.int .u64 (r1:Int))).setCell 1 rfl 2 (.int .u64 (r2:Int))).setCell 1 rfl 3 (.int .u64 (r3:Int))).setCell 1 rfl 4 (.int .u64 (r4:Int)))
    refine bodyPost_ret (results_cell_row rfl _ _ w.heap.size _ _ _ _ rfl (HS.out.heap 1 rfl) Tryz.underlying61 rfl Bt) rfl ?_
    exact⟨r0,r1,r2,r3,r4,by rw[hev,HV.out,HFE.out],hred,rfl,HS.out.below⟩
theorem run_append_zeros_own {P:Program}(w:World)(base:Nat)(t tn ty e:TypeId)(i:TypeInfo)(z:Value)(kq kn:IntKind)(size bytes:Nat)(ht:P.underlying t=some (.slice e))(htn:P.underlying tn=some (.int kn))
  (hi:P.info? e=some i)(hz:i.zero=some z)(hsize:i.size=size)(hby:i.bytes=bytes)(hzs:z.cells.size=size)(hsz:0<size)
  (v:Value)(n:Nat)(xs:List Value)(hown:w.ownsRow base e size v n xs)(k:Nat)(hk:0<k)(h1:∀u∈(Builtin.zeroCells z.cells k).toList,u.oneCell'=true)
  (h63:n+k≤maxLen)(hbytes:(n+k)*bytes≤140737488355328)(hbase:base≤w.heap.size) :
  ∃v' w',(Builtin.append_ #[t,tn] ty #[v,.int kq k]).run P w=.ok v' w'∧w'.ownsRow base e size v' (n+k) (xs++(Builtin.zeroCells z.cells k).toList)∧w.grownBy w' v.ownBlock∧(v'.ownBlock=v.ownBlock∨v'.ownBlock=some w.heap.size):=by
 subst hsize
 subst hby
 have hsmall:n+k≤9223372036854775807:=by simp only[maxLen] at h63;omega
 have hzl:(Builtin.zeroCells z.cells k).toList.length=k*i.size:=by simp[size_zeroCells,hzs]
 have hlen:(xs++(Builtin.zeroCells z.cells k).toList).length=(n+k)*i.size:=by rw[List.length_append,hown.1,hzl,Nat.add_mul]
 have grown:∀(old:Nat),old<n+k→∀(row:Option Nat),
   (w.drew.alloc (.cells (xs.toArray++Builtin.zeroCells z.cells k++Builtin.zeroCells z.cells (grownCap w (n+k) old e - (n+k))) e)).ownsRow base e i.size
    (.slice (some ⟨w.heap.size,0,none⟩) (n+k) (grownCap w (n+k) old e)) (n+k) (xs++(Builtin.zeroCells z.cells k).toList) ∧
   w.grownBy (w.drew.alloc (.cells (xs.toArray++Builtin.zeroCells z.cells k++Builtin.zeroCells z.cells (grownCap w (n+k) old e - (n+k))) e)) row:=by
  intro old ho row
  have hge:=grownCap_ge w (n+k) old e
  have hcm:grownCap w (n+k) old e≤maxLen:=grownCap_le_maxLen w (n+k) old e h63
  refine⟨⟨hlen,.inr ⟨w.heap.size,_,_,rfl,hbase,heap_alloc_new w.drew _,hge,hcm,?_,?_⟩⟩,⟨rfl,rfl,rfl,B0,fun j hj _=>heap_alloc_old w.drew _ hj⟩⟩
  ·simp only[Array.size_append,List.size_toArray,size_zeroCells,hzs,hown.1,←Nat.add_mul]
   congr 1
   omega
  ·simp only[Array.toList_append,List.append_assoc]
   rw[←List.append_assoc,←hlen]
   exact List.take_left
 have hkb:k*i.bytes≤281474976710656:=by
  have:k*i.bytes≤(n+k)*i.bytes:=Nat.mul_le_mul_right _ An
  omega
 rcases hown.2 with⟨rfl,rfl⟩|⟨g,cap,cur,rfl,hbg,hg,hnc,hcm,hcs,htake⟩
 ·have hx:xs=[]:=List.eq_nil_of_length_eq_zero (by simpa using hown.1)
  subst hx
  have hr:=Go.Lib.run_append_nil_zeros (P:=P) w t tn ty e i z kq kn ht htn hi hz k hk hsz An hkb
  have hgr:=grown 0 An (Value.ownBlock (.slice none 0 0))
  simp only[Nat.zero_add,List.nil_append,Array.empty_append] at hgr ⊢
  exact⟨_,_,hr,hgr.1,hgr.2,Or.inr rfl⟩
 ·by_cases hroom:n+k≤cap
  ·have hfit:n*i.size+(Builtin.zeroCells z.cells k).toList.length≤cur.size:=by rw[hzl,hcs,←Nat.add_mul];exact Nat.mul_le_mul_right _ hroom
   have hst:=run_storeCells_at P g (n*i.size) e (Builtin.zeroCells z.cells k).toList 0 cur w hg (by simpa using hfit) h1
   simp only[Nat.add_zero] at hst
   have hw:IntKind.i64.wrap (k:Int)=k:=Ct
   have hneg:¬((k:Int)<0):=An
   have hns:¬(k*i.size=0):=Nat.mul_ne_zero An An
   have hk0:k≠0:=An
   have h48i:¬(281474976710656<(k:Int)*(i.bytes:Int)):=by
    rw[←Int.natCast_mul]
    omega
   have hr:(Builtin.append_ #[t,tn] ty #[.slice (some ⟨g,0,none⟩) n cap,.int kq k]).run P w =
     .ok (.slice (some ⟨g,0,none⟩) (n+k) cap) (w.setRow g (cur.toList.take (n*i.size)++(Builtin.zeroCells z.cells k).toList++cur.toList.drop (n*i.size+(Builtin.zeroCells z.cells k).toList.length)).toArray):=by
    simp[Builtin.append_,run_underlying ht,run_underlying htn,sizeOf,typeInfo,zeroValue,hi,hz,asInt,asIntOf,hw,hneg,hns,hk0,h48i,hroom,Addr.add_lit,hst]
   refine⟨_,_,hr,⟨hlen,.inr ⟨g,cap,_,rfl,hbg,setRow_heap w g cur _ e _ hg,hroom,hcm,?_,?_⟩⟩,⟨rfl,rfl,rfl,B0,fun k _ hk=>setRow_other w g k _ (fun e=>hk (by simp[Value.ownBlock,e]))⟩,Or.inl rfl⟩
   ·have hzs2:(Builtin.zeroCells z.cells k).size=k*i.size:=by rw[size_zeroCells,hzs]
    rw[hzl] at hfit
    simp only[List.size_toArray,List.length_append,List.length_take,List.length_drop,Array.length_toList,hzs2]
    omega
   ·rw[htake,←hlen]
    exact List.take_left
  ·have holds:∀j u,xs[j]?=some u→w.drew.cell? ((⟨g,0,none⟩:Addr).add j)=some u:=fun j u hu=>hown.cells (g:=g) rfl j u hu
   have hold:=run_firstCells_some (P:=P) w.drew i.size n ⟨g,0,none⟩ n cap xs hown.1 holds
   have hr:=Go.Lib.run_append_grow_zeros (P:=P) w t tn ty e i z kq kn ht htn hi hz (some ⟨g,0,none⟩) n cap xs hold k hk hsz An An hkb (growslice_fits An hbytes)
   have hgr:=grown cap An (Value.ownBlock (.slice (some ⟨g,0,none⟩) n cap))
   exact⟨_,_,hr,hgr.1,hgr.2,Or.inr rfl⟩
theorem zeros_bytes (k:Nat):(Builtin.zeroCells #[.int .u8 0] k).toList=bvs (List.replicate k 0):=by
 apply List.ext_getElem
 ·simp[size_zeroCells,bvs]
 ·intro j h1 h2
  simp[Builtin.zeroCells,bvs,bv,Nat.mod_one]
section
variable {P : Program} {w0 w : World} {M : Nat → Prop} {H : List Chunk} {A : Option Addr} {n c : Nat} {e : TypeId} {xs : List Value}
theorem wp_appendZ {o:Oper}{a:Act}{K:Act→World→Prop}{Q:Exit→Act→World→Prop}{s x:Operand}{t tn e:TypeId}{kq kn:IntKind}
  (ho:o.op=.call { callee:=.builtin .append,args:=#[s,x],argTypes:=#[t,tn] })(ht:P.underlying t=some (.slice e))(htn:P.underlying tn=some (.int kn))(hinfo:(P.info? e).map (fun i=>(i.zero,i.size,i.bytes))=some (some (.int .u8 0),1,1))
  (hS:St w0 M w H)(i:Nat){v:Value}{n:Nat}{l:List UInt8}(hk:H[i]?=some (.row v e 1 n (bvs l)))(hs:a.eval s=v){k:Nat}(hx:a.eval x=.int kq (k:Int))(hk0:0<k)(hlen:n+k≤4294967296)
  (h:∀A' c' w',St w0 M w' (H.set i (.row (.slice A' (n+k) c') e 1 (n+k) (bvs (l++List.replicate k 0))))→K (a.put o.dst (.slice A' (n+k) c')) w'):o.wp P a w K Q:=by
 have hown:w.ownsRow 0 e 1 v n (bvs l):=hS.sat i _ hk
 cases hi:P.info? e with
 | none=>rw[hi] at hinfo;cases hinfo
 | some inf =>
  rw[hi] at hinfo
  simp only[Option.map_some,Option.some.injEq,Prod.mk.injEq] at hinfo
  obtain⟨hz,hsz,hby⟩:=hinfo
  have hzc:(Value.int IntKind.u8 0).cells=#[.int .u8 0]:=rfl
  obtain⟨v',w',hrun,h2,h3,h4⟩:=run_append_zeros_own (P:=P) w 0 t tn o.type e inf (.int .u8 0) kq kn 1 1 ht htn hi hz hsz hby rfl An v n (bvs l) hown k hk0 (by rw[hzc,zeros_bytes];exact bD _) Aw An (Nat.zero_le _)
  rw[hzc,zeros_bytes,←cK] at h2
  unfold Oper.wp execOp
  simp only[ho,resolve,invoke,builtin,Sem.run_bind,Sem.run_pure,Result.andThen_ok,List.map_toArray,List.map_cons,List.map_nil,hs,hx,hrun]
  obtain⟨A',c',rfl⟩:=own_slice h2
  exact h A' c' w' (hS.grown i hk h3 h2 h4)
theorem wl_appendZ {ops:Array Oper}{rest:List Oper}{o:Oper}{a:Act}{Q:Exit→Act→World→Prop}(hgd:o.guard=none){s x:Operand}{t tn e:TypeId}{kq kn:IntKind}
  (ho:o.op=.call { callee:=.builtin .append,args:=#[s,x],argTypes:=#[t,tn] })(ht:P.underlying t=some (.slice e))(htn:P.underlying tn=some (.int kn))(hinfo:(P.info? e).map (fun i=>(i.zero,i.size,i.bytes))=some (some (.int .u8 0),1,1))
  (hS:St w0 M w H)(i:Nat){v:Value}{n:Nat}{l:List UInt8}(hk:H[i]?=some (.row v e 1 n (bvs l)))(hs:a.eval s=v){k:Nat}(hx:a.eval x=.int kq (k:Int))(hk0:0<k)(hlen:n+k≤4294967296)
  (h:∀A' c' w',St w0 M w' (H.set i (.row (.slice A' (n+k) c') e 1 (n+k) (bvs (l++List.replicate k 0))))→wpList P ops Q rest (a.put o.dst (.slice A' (n+k) c')) w'):wpList P ops Q (o::rest) a w:=
 wpList_plain hgd fun _ hK=>wp_appendZ ho ht htn hinfo hS i hk hs hx hk0 hlen fun A' c' w' h2=>hK _ _ (h A' c' w' h2)
theorem rd_mark (w:World)(us:List Value)(e:TypeId)(fr:Nat×Nat)(n:Nat)(hn:us.length=n)(hm:n≤maxLen):Rd (w.alloc (.cells us.toArray e fr)) (.slice (some ⟨w.heap.size,0,none⟩) n n) 1 n us:=
 ⟨_,n,rfl,An,Nat.le_refl _,hm,(fun h=>by cases h),fun b o sp hA=>by
  injection hA with hA
  injection hA with hb ho hsp
  subst hb ho hsp
  refine⟨fun _=>rfl,fun j u hu=>?_⟩
  rw[Nat.zero_add,World.cell?_alloc_mark]
  simpa using hu⟩
theorem made_bytes (k:Nat):(madeCells #[.int .u8 0] k)=(bvs (List.replicate k 0)).toArray:=by
 apply Array.ext
 ·simp[madeCells,bvs]
 ·intro j h1 h2
  simp[madeCells,bvs,bv,Nat.mod_one]
theorem wp_makeB {o:Oper}{a:Act}{K:Act→World→Prop}{Q:Exit→Act→World→Prop}{x y:Operand}{t e:TypeId}{kl kc:IntKind}
  (ho:o.op=.makeSlice t x y)(ht:P.underlying t=some (.slice e))(hinfo:(P.info? e).map (fun i=>(i.zero,i.size,i.bytes))=some (some (.int .u8 0),1,1))
  (hS:St w0 M w H){n:Nat}(hx:a.eval x=.int kl (n:Int))(hy:a.eval y=.int kc (n:Int))(hn:n≤4294967296)
  (h:∀g w',St w0 M w' (.row (.slice (some ⟨g,0,none⟩) n n) e 1 n (bvs (List.replicate n 0))::H)→Below w.heap.size w w'→K (a.put o.dst (.slice (some ⟨g,0,none⟩) n n)) w'):o.wp P a w K Q:=by
 cases hi:P.info? e with
 | none=>rw[hi] at hinfo;cases hinfo
 | some inf =>
  rw[hi] at hinfo
  simp only[Option.map_some,Option.some.injEq,Prod.mk.injEq] at hinfo
  obtain⟨hz,hsz,hby⟩:=hinfo
  obtain⟨w',hrun,hown,hg⟩:=run_make_full (P:=P) w w.heap.size t e inf (.int .u8 0) 1 ht hi hz hsz kl kc n (by rw[hby];omega) Aw (Nat.le_refl _)
  have hzc:(Value.int IntKind.u8 0).cells=#[.int .u8 0]:=rfl
  rw[Nat.mul_one,hzc,made_bytes] at hown
  have hbl:Below w.heap.size w w':=⟨hg.os,hg.tape,hg.output,hg.size,fun k hk=>hg.block k hk B0⟩
  unfold Oper.wp execOp
  simp only[ho,hx,hy,Sem.run_bind,Sem.run_pure,Result.andThen_ok,hrun]
  exact h w.heap.size w' (hS.row hbl hown) hbl
theorem wl_makeB {ops:Array Oper}{rest:List Oper}{o:Oper}{a:Act}{Q:Exit→Act→World→Prop}(hgd:o.guard=none){x y:Operand}{t e:TypeId}{kl kc:IntKind}
  (ho:o.op=.makeSlice t x y)(ht:P.underlying t=some (.slice e))(hinfo:(P.info? e).map (fun i=>(i.zero,i.size,i.bytes))=some (some (.int .u8 0),1,1))
  (hS:St w0 M w H){n:Nat}(hx:a.eval x=.int kl (n:Int))(hy:a.eval y=.int kc (n:Int))(hn:n≤4294967296)
  (h:∀g w',St w0 M w' (.row (.slice (some ⟨g,0,none⟩) n n) e 1 n (bvs (List.replicate n 0))::H)→Below w.heap.size w w'→wpList P ops Q rest (a.put o.dst (.slice (some ⟨g,0,none⟩) n n)) w'):wpList P ops Q (o::rest) a w:=
 wpList_plain hgd fun _ hK=>wp_makeB ho ht hinfo hS hx hy hn fun g w' h2 h3=>hK _ _ (h g w' h2 h3)
theorem St.lit (h:St w0 M w H)(us:List Value)(e:TypeId)(size n:Nat)(hl:us.length=n*size)(hn:n≤maxLen) :
  St w0 M (w.alloc (.cells us.toArray e)) (.row (.slice (some ⟨w.heap.size,0,none⟩) n n) e size n us::H):=by
 refine h.add ((Below.refl _ _).alloc (Nat.le_refl _) _) ?_ (fun k hk=>?_)
 ·exact⟨hl,.inr ⟨w.heap.size,n,us.toArray,rfl,Nat.zero_le _,heap_alloc_new w _,Nat.le_refl _,hn,by simpa using hl,by rw[←hl];simp⟩⟩
 ·simp only[Chunk.block,Value.ownBlock,Option.some.injEq] at hk
  omega
theorem St.rowOpen (h:St w0 M w H)(i:Nat){v:Value}{e:TypeId}{size n:Nat}{xs:List Value}(hi:H[i]?=some (.row v e size n xs))(hpos:0<n*size) :
  ∃g c,v=.slice (some ⟨g,0,none⟩) n c∧n≤c∧c≤maxLen∧(∀(j:Nat) (u:Value),xs[j]?=some u→w.cell? ⟨g,j,none⟩=some u)∧(∀j,w.frozen? ⟨g,j,none⟩=false) ∧
   ∀(j:Nat) (u:Value),j<n*size→St w0 M (w.setCell ⟨g,j,none⟩ u) (H.set i (.row v e size n (xs.set j u))):=by
 have hs:w.ownsRow 0 e size v n xs:=h.sat i _ hi
 obtain⟨h1,h2⟩:=hs
 rcases h2 with⟨rfl,rfl⟩|⟨g,cap,cur,rfl,hg,hh,hn,hm,hc,ht⟩
 ·simp at hpos
 ·refine⟨g,cap,rfl,hn,hm,fun j u hu=>?_,fun j=>frozen_of_row w g j cur e hh,fun j u hj=>?_⟩
  ·rw[cell_of_row w g j cur e (0,0) hh]
   rw[←ht,List.getElem?_take] at hu
   split at hu
   ·simpa using hu
   ·cases hu
  ·refine h.turn hi (ext_setCell w ⟨g,j,none⟩ u) ?_ (fun k hk=>.inl hk)
   refine⟨As,.inr ⟨g,cap,cur.setIfInBounds j u,rfl,hg,heap_setCell_same w g j cur e u hh,hn,hm,by simpa using hc,?_⟩⟩
   rw[Array.toList_setIfInBounds,←ht,List.take_set]
theorem St.rowSet (h:St w0 M w H)(i:Nat){g c:Nat}{e:TypeId}{size n:Nat}{xs:List Value}(hi:H[i]?=some (.row (.slice (some ⟨g,0,none⟩) n c) e size n xs))(j:Nat)(u:Value)(hj:j<n*size) :
  St w0 M (w.setCell ⟨g,j,none⟩ u) (H.set i (.row (.slice (some ⟨g,0,none⟩) n c) e size n (xs.set j u))):=by
 obtain⟨g',c',hv,_,_,_,_,hset⟩:=h.rowOpen i hi An
 injection hv with h1 _ h3
 injection h1 with h1
 injection h1 with h1
 subst h1 h3
 exact hset j u hj
theorem St.rowTake (h:St w0 M w (.row (.slice A n c) e 1 n xs::H))(m:Nat)(hm:m≤n):St w0 M w (.row (.slice A m c) e 1 m (xs.take m)::H):=by
 refine⟨h.ext,fun i d hd=>?_,fun i d k hd hk=>?_,fun i j d d' k hij hd hd' hk=>?_⟩
 ·cases i with
  | zero =>
   simp only[List.getElem?_cons_zero,Option.some.injEq] at hd
   subst hd
   obtain⟨h1,h2⟩:=(h.sat 0 _ rfl:w.ownsRow 0 e 1 (.slice A n c) n xs)
   refine⟨Cm,?_⟩
   rcases h2 with⟨h2,h3⟩|⟨g,cap,cur,hv,hg,hh,hn,hmx,hc,ht⟩
   ·injection h2 with e1 _ e3
    subst e1 e3
    obtain rfl:m=0:=by omega
    exact .inl ⟨rfl,rfl⟩
   ·injection hv with e1 _ e3
    subst e1 e3
    refine .inr ⟨g,c,cur,rfl,hg,hh,An,hmx,hc,?_⟩
    rw[←ht,List.take_take,Nat.mul_one,Nat.mul_one,Nat.min_eq_left hm]
  | succ i=>exact h.sat (i+1) d Aj
 ·cases i with
  | zero =>
   simp only[List.getElem?_cons_zero,Option.some.injEq] at hd
   subst hd
   exact h.own 0 _ k rfl (by cases A<;>exact hk)
  | succ i=>exact h.own (i+1) d k Aj hk
 ·have key:∀(i:Nat) (d:Chunk),(Chunk.row (.slice A m c) e 1 m (xs.take m)::H)[i]?=some d→∃d2,(Chunk.row (.slice A n c) e 1 n xs::H)[i]?=some d2∧d2.block=d.block:=by
   intro i d hd
   cases i with
   | zero =>
    simp only[List.getElem?_cons_zero,Option.some.injEq] at hd
    subst hd
    exact⟨_,rfl,by cases A<;>rfl⟩
   | succ i=>exact⟨d,Aj,rfl⟩
  obtain⟨a,ha,ha2⟩:=key i d hd
  obtain⟨b,hb,hb2⟩:=key j d' hd'
  rw[←hb2]
  exact h.apart i j a b k hij ha hb (by rw[ha2];exact hk)
end
theorem fG (l:List UInt8)(j m:Nat)(hm:m<256):(bvs l).set j (.int .u8 (m:Int))=bvs (l.set j (UInt8.ofNat m)):=by
 unfold bvs
 rw[List.map_set,bv,UInt8.toNat_ofNat',Nat.mod_eq_of_lt An]
theorem bE {l:List UInt8}{j:Nat}{c:UInt8}(h:l[j]?=some c):(bvs l)[j]?=some (.int .u8 (c.toNat:Int)):=by
 simp only[bvs,List.getElem?_map,h];rfl
theorem rd_take {w:World}{A:Option Addr}{n c:Nat}{l:List UInt8}(h:Rd w (.slice A n c) 1 n (bvs l))(k:Nat)(hk:k≤n):Rd w (.slice A k c) 1 k (bvs (l.take k)):=by
 obtain⟨A',c',e,h1,h2,h3,h4,h5⟩:=h
 injection e with e1 _ e3
 subst e1 e3
 rw[aX] at h1
 refine⟨_,_,rfl,by rw[aX,List.length_take];omega,An,An,h4,fun b o sp hA=>?_⟩
 obtain⟨k1,k2⟩:=h5 b o sp hA
 refine⟨fun hn=>k1 An,fun j u hu=>k2 j u ?_⟩
 rw[←hu]
 have hj:j<k:=by
  have:=(List.getElem?_eq_some_iff.1 hu).1
  rw[aX,List.length_take] at this
  omega
 simp[bvs,List.getElem?_take,hj]
theorem rd_cap {w:World}{A:Option Addr}{n c size:Nat}{xs:List Value}(h:Rd w (.slice A n c) size n xs):n≤c:=by
 obtain⟨_,_,e,_,h,_⟩:=h
 injection e with _ _ e
 omega
theorem rd_at {w:World}{b o n c size:Nat}{xs:List Value}(h:Rd w (.slice (some ⟨b,o,none⟩) n c) size n xs){j:Nat}{u:Value}(hu:xs[j]?=some u):w.cell? ⟨b,o+j,none⟩=some u:=by
 obtain⟨A',c',e,_,_,_,_,h5⟩:=h
 injection e with e1 _ _
 subst e1
 exact(h5 b o none rfl).2 j u hu
theorem take_ne {x y:List UInt8}{k:Nat}{a b:UInt8}(hx:x[k]?=some a)(hy:y[k]?=some b)(h:a≠b):x≠y:=fun e=>by
 rw[e,hy] at hx
 injection hx with hx
 exact h hx.symm
theorem take_next {x y:List UInt8}{k:Nat}{a:UInt8}(hx:x[k]?=some a)(hy:y[k]?=some a)(h:x.take k=y.take k):x.take (k+1)=y.take (k+1):=by
 rw[List.take_add_one,List.take_add_one,hx,hy,h]
theorem eR (A B:Option Addr)(n ca cb:Nat)(x y:List UInt8)(w:World)(hx:x.length=n)(hy:y.length=n)(hn:n≤1000)(rx:Rd w (.slice A n ca) 1 n (bvs x))(ry:Rd w (.slice B n cb) 1 n (bvs y)) :
  Calls Tryz.prog 43 #[.slice A n ca,.slice B n cb] w fun e w'=>e=.returned (.bool (decide (x=y)))∧Below w.heap.size w w':=by
 have HX:=aA hx
 have HY:=aA hy
 have RX:=aA rx
 have RY:=aA ry
 clear hx hy rx ry
 go_enter Tryz.func43,Tryz.ntmps43
 go_wp2_with fail
 go_loopw [13] (fun i wr=>∃k:Nat,k≤n∧i=.int .i64 (k:Int)∧x.take k=y.take k∧St w NoB wr []) (fun i _=>n - (intOf i).toNat)
 case atStart=>exact⟨0,An,rfl,rfl,St.init w NoB⟩
 case round =>
  obtain⟨k,hk,rfl,htk,hS⟩:=hrel
  by_cases hlt:k<n
  ·obtain⟨a,ha⟩:∃a,x[k]?=some a:=⟨x[k]'(by rw[HX.out];exact hlt),gE _⟩
   obtain⟨b,hb⟩:∃b,y[k]?=some b:=⟨y[k]'(by rw[HY.out];exact hlt),gE _⟩
   obtain⟨b1,o1,rfl⟩:∃b o,A=some ⟨b,o,none⟩:=by
    rcases RX.out.cases with⟨_,h,_⟩|⟨b,o,sp,c',hv,_,_,_,_,h4,_⟩
    ·omega
    ·injection hv with hv1 _ _
     have:=h4 An
     subst this hv1
     exact⟨b,o,rfl⟩
   obtain⟨b2,o2,rfl⟩:∃b o,B=some ⟨b,o,none⟩:=by
    rcases RY.out.cases with⟨_,h,_⟩|⟨b,o,sp,c',hv,_,_,_,_,h4,_⟩
    ·omega
    ·injection hv with hv1 _ _
     have:=h4 An
     subst this hv1
     exact⟨b,o,rfl⟩
   have R1:=aA (RX.out.st hS.drew)
   have R2:=aA (RY.out.st hS.drew)
   have ca1:∀z,aC wr.drew z→z.cell? ⟨b1,o1+k,none⟩=some (.int .u8 (a.toNat:Int)):=fun z hz=>rd_at (R1.out.below hz) (bE ha)
   have cb1:∀z,aC wr.drew z→z.cell? ⟨b2,o2+k,none⟩=some (.int .u8 (b.toNat:Int)):=fun z hz=>rd_at (R2.out.below hz) (bE hb)
   have hi1:(k:Int)<(n:Int):=An
   have HS:=aA hS
   by_cases hab:a=b
   ·subst hab
    have HT:=aA (take_next ha hb htk)
    clear ha hb htk hS
    go_wp2_with fail
    refine cW Bt ?_
    (refine gT 0 (v:=?_) fR ?_;(try refine nm ?_));(refine gT 1 (v:=?_) fR ?_;(try refine nm ?_));(refine gT 2 (v:=?_) fR ?_;(try refine nm ?_));(refine gT 3 (v:=?_) fR ?_;(try refine nm ?_));(refine gT 4 (v:=?_) fR ?_;(try refine nm ?_));(refine gT 5 (v:=?_) fR ?_;(try refine nm ?_));(refine gT 6 (v:=?_) fR ?_;(try refine nm ?_));(refine gT 7 (v:=?_) fR ?_;(try refine nm ?_));(refine gT 8 (v:=?_) fR ?_;(try refine nm ?_))
    refine cX Bt ?_ _
    go_wp2_with fail
    go_roundw
    case rel=>exact⟨k+1,An,Cg,HT.out,HS.out.drew⟩
    case measure=>simp[intOf];omega
   ·have hne:((a.toNat:Int) !=(b.toNat:Int))=true:=by
     rw[bne_iff_ne]
     intro h
     exact hab (UInt8.toNat_inj.1 An)
    have HT:Hid (x≠y):=aA (take_ne ha hb hab)
    clear ha hb htk hS hab
    go_wp2_with fail
    refine cW Bt ?_
    (refine gT 0 (v:=?_) fR ?_;(try refine nm ?_));(refine gT 1 (v:=?_) fR ?_;(try refine nm ?_));(refine gT 2 (v:=?_) fR ?_;(try refine nm ?_));(refine gT 3 (v:=?_) fR ?_;(try refine nm ?_));(refine gT 4 (v:=?_) fR ?_;(try refine nm ?_));(refine gT 5 (v:=?_) fR ?_;(try refine nm ?_));(refine gT 6 (v:=?_) fR ?_;(try refine nm ?_));(refine gT 7 (v:=?_) fR ?_;(try refine nm ?_));(refine gT 8 (v:=?_) fR ?_;(try refine nm ?_))
    refine cX Bt ?_ _
    go_wp2_with fail
    go_ret
    exact⟨by rw[decide_eq_false HT.out];rfl,HS.out.drew.below⟩
  ·obtain rfl:k=n:=by omega
   have HT:Hid (x=y):=aA (by rwa [List.take_of_length_le (by rw[HX.out];omega),List.take_of_length_le (by rw[HY.out];omega)] at htk)
   have HS:=aA hS
   clear htk hS
   go_wp2_with fail
   go_ret
   exact⟨by rw[decide_eq_true HT.out];rfl,HS.out.below⟩
theorem leB_inj {m n:Nat}(hm:m<256^32)(hn:n<256^32)(h:leB 32 m=leB 32 n):m=n:=by
 have:=congrArg bval h
 rwa [bval_leB,bval_leB,Nat.mod_eq_of_lt hm,Nat.mod_eq_of_lt hn] at this
theorem ev_256 (xs:List Nat):ev xs<256^32:=Nat.lt_trans (ev_lt xs) Pq_256.1
theorem leB_ev (xs ys:List Nat):decide (leB 32 (ev xs)=leB 32 (ev ys))=decide (ev xs=ev ys):=by
 by_cases h:ev xs=ev ys
 ·rw[h,decide_eq_true rfl,decide_eq_true rfl]
 ·rw[decide_eq_false h,decide_eq_false fun e=>h (leB_inj (ev_256 xs) (ev_256 ys) e)]
theorem enBytes (args:Array Value)(w:World):(callFunc 84 args).run Tryz.prog w=.ok (.enter 84 args) w:=Bt
theorem enEqual (args:Array Value)(w:World):(callFunc 43 args).run Tryz.prog w=.ok (.enter 43 args) w:=Bt
theorem bytes32 (a b c d e:Nat)(w:World)(hb:Low [a,b,c,d,e]) :
  Calls Tryz.prog 84 #[(.agg #[.int .u64 (a:Int),.int .u64 (b:Int),.int .u64 (c:Int),.int .u64 (d:Int),.int .u64 (e:Int)])] w fun r w'=>∃A k,r=.returned (.slice A 32 k)∧Below w.heap.size w w'∧Rd w' (.slice A 32 k) 1 32 (bvs (leB 32 (ev [a,b,c,d,e]))):=by
 refine(bytes_walk a b c d e w hb).mono ?_
 rintro r w' ⟨A,k,he,h1,h2⟩
 rw[leB_len] at he h2
 exact⟨A,k,he,h1,rd_own h2⟩
theorem same_walk (a b c d e a' b' c' d' e':Nat)(w:World)(h1:Low [a,b,c,d,e])(h2:Low [a',b',c',d',e']) :
  Calls Tryz.prog 128 #[(.agg #[.int .u64 (a:Int),.int .u64 (b:Int),.int .u64 (c:Int),.int .u64 (d:Int),.int .u64 (e:Int)]),(.agg #[.int .u64 (a':Int),.int .u64 (b':Int),.int .u64 (c':Int),.int .u64 (d':Int),.int .u64 (e':Int)])] w fun r w'=>r=.returned (.bool (decide (ev [a,b,c,d,e]=ev [a',b',c',d',e'])))∧Below w.heap.size w w':=by
 have HC1:=aA (fun W=>bytes32 a b c d e W h1)
 have HC2:=aA (fun W=>bytes32 a' b' c' d' e' W h2)
 have hS0:=(((St.init w NoB).alloc #[.int .u64 (a:Int),.int .u64 (b:Int),.int .u64 (c:Int),.int .u64 (d:Int),.int .u64 (e:Int)] 61).alloc #[.int .u64 (a':Int),.int .u64 (b':Int),.int .u64 (c':Int),.int .u64 (d':Int),.int .u64 (e':Int)] 61).drew
 simp only[size_alloc1] at hS0
 have HEQ:=aA (leB_ev [a,b,c,d,e] [a',b',c',d',e'])
 have HS0:=aA hS0
 clear hS0 h1 h2
 go_enter Tryz.func128,Tryz.ntmps128
 go_upto_region 1 with fail
 generalize hW:(w.alloc (.cells #[.int .u64 (a:Int),.int .u64 (b:Int),.int .u64 (c:Int),.int .u64 (d:Int),.int .u64 (e:Int)] 61)).alloc (.cells #[.int .u64 (a':Int),.int .u64 (b':Int),.int .u64 (c':Int),.int .u64 (d':Int),.int .u64 (e':Int)] 61)=wr
 rw[hW] at HS0
 clear hW
 have p00:∀z,aC wr.drew z→z.cell? ⟨w.heap.size,0,none⟩=some (.int .u64 (a:Int)):=fun z hz=>by rw[hz.cell (p:=⟨w.heap.size,0,none⟩) (Chunk.lt (HS0.out.sat 1 _ rfl) rfl)];exact HS0.out.cell 1 rfl 0
 have p01:∀z,aC wr.drew z→z.cell? ⟨w.heap.size,1,none⟩=some (.int .u64 (b:Int)):=fun z hz=>by rw[hz.cell (p:=⟨w.heap.size,1,none⟩) (Chunk.lt (HS0.out.sat 1 _ rfl) rfl)];exact HS0.out.cell 1 rfl 1
 have p02:∀z,aC wr.drew z→z.cell? ⟨w.heap.size,2,none⟩=some (.int .u64 (c:Int)):=fun z hz=>by rw[hz.cell (p:=⟨w.heap.size,2,none⟩) (Chunk.lt (HS0.out.sat 1 _ rfl) rfl)];exact HS0.out.cell 1 rfl 2
 have p03:∀z,aC wr.drew z→z.cell? ⟨w.heap.size,3,none⟩=some (.int .u64 (d:Int)):=fun z hz=>by rw[hz.cell (p:=⟨w.heap.size,3,none⟩) (Chunk.lt (HS0.out.sat 1 _ rfl) rfl)];exact HS0.out.cell 1 rfl 3
 have p04:∀z,aC wr.drew z→z.cell? ⟨w.heap.size,4,none⟩=some (.int .u64 (e:Int)):=fun z hz=>by rw[hz.cell (p:=⟨w.heap.size,4,none⟩) (Chunk.lt (HS0.out.sat 1 _ rfl) rfl)];exact HS0.out.cell 1 rfl 4
 have p10:∀z,aC wr.drew z→z.cell? ⟨w.heap.size+1,0,none⟩=some (.int .u64 (a':Int)):=fun z hz=>by rw[hz.cell (p:=⟨w.heap.size+1,0,none⟩) (Chunk.lt (HS0.out.sat 0 _ rfl) rfl)];exact HS0.out.cell 0 rfl 0
 have p11:∀z,aC wr.drew z→z.cell? ⟨w.heap.size+1,1,none⟩=some (.int .u64 (b':Int)):=fun z hz=>by rw[hz.cell (p:=⟨w.heap.size+1,1,none⟩) (Chunk.lt (HS0.out.sat 0 _ rfl) rfl)];exact HS0.out.cell 0 rfl 1
 have p12:∀z,aC wr.drew z→z.cell? ⟨w.heap.size+1,2,none⟩=some (.int .u64 (c':Int)):=fun z hz=>by rw[hz.cell (p:=⟨w.heap.size+1,2,none⟩) (Chunk.lt (HS0.out.sat 0 _ rfl) rfl)];exact HS0.out.cell 0 rfl 2
 have p13:∀z,aC wr.drew z→z.cell? ⟨w.heap.size+1,3,none⟩=some (.int .u64 (d':Int)):=fun z hz=>by rw[hz.cell (p:=⟨w.heap.size+1,3,none⟩) (Chunk.lt (HS0.out.sat 0 _ rfl) rfl)];exact HS0.out.cell 0 rfl 3
 have p14:∀z,aC wr.drew z→z.cell? ⟨w.heap.size+1,4,none⟩=some (.int .u64 (e':Int)):=fun z hz=>by rw[hz.cell (p:=⟨w.heap.size+1,4,none⟩) (Chunk.lt (HS0.out.sat 0 _ rfl) rfl)];exact HS0.out.cell 0 rfl 4
 refine cW Bt ?_
 (refine gT 0 (v:=?_) fR ?_;(try refine nm ?_));(refine gT 2 (v:=?_) fR ?_;(try refine nm ?_))
 (refine cD (i:=1) Bt rfl ?_;intro K hK;(try refine nm ?_))
 refine aO rfl rfl enBytes rfl (HC1.out _) ?_
 rintro r w1 ⟨A1,k1,rfl,hb1,hr1⟩
 refine⟨_,rfl,hK (aC w1) _ _ (aC.next hb1) fR ?_⟩
 clear hK K p00 p01 p02 p03 p04 p10 p11 p12 p13 p14
 (try refine nm ?_)
 (refine cD (i:=3) Bt rfl ?_;intro K hK;(try refine nm ?_))
 refine aO rfl rfl enBytes rfl (HC2.out _) ?_
 rintro r w2 ⟨A2,k2,rfl,hb2,hr2⟩
 refine⟨_,rfl,hK (aC w2) _ _ (aC.next hb2) fR ?_⟩
 clear hK K
 (try refine nm ?_)
 (refine cD (i:=4) Bt rfl ?_;intro K hK;(try refine nm ?_))
 refine aO rfl rfl enEqual rfl (eR A1 A2 32 k1 k2 _ _ _ (leB_len _ _) (leB_len _ _) Bz (hr1.below hb2) hr2) ?_
 rintro r w3 ⟨rfl,hb3⟩
 rw[HEQ.out]
 refine⟨_,rfl,hK (aC w3) _ _ (aC.next hb3) fR ?_⟩
 clear hK K
 (try refine nm ?_)
 (refine gT 5 (v:=?_) fR ?_;(try refine nm ?_))
 refine cX Bt ?_ _
 go_wp2_with fail
 go_ret
 exact⟨rfl,(((HS0.out.call hb1).call hb2).call hb3).below⟩
theorem ev_small (n:Nat)(h:n<4294967296):ev [n,0,0,0,0]=n:=by
 unfold ev
 simp only[fv,Nat.mul_zero,Nat.add_zero]
 exact Nat.mod_eq_of_lt (by unfold Pq;omega)
theorem low_small (n:Nat)(h:n<4294967296):Low [n,0,0,0,0]:=fun k x hx=>by
 match k,hx with
 | 0,hx=>injection hx with hx;unfold T51;omega
 | 1,hx=>injection hx with hx;unfold T51;omega
 | 2,hx=>injection hx with hx;unfold T51;omega
 | 3,hx=>injection hx with hx;unfold T51;omega
 | 4,hx=>injection hx with hx;unfold T51;omega
theorem small_walk (n:Nat)(w:World)(h:n<4294967296) :
  Calls Tryz.prog 89 #[.int .u32 (n:Int)] w fun r w'=>r=.returned (.agg #[.int .u64 (n:Int),.int .u64 0,.int .u64 0,.int .u64 0,.int .u64 0])∧Below w.heap.size w w':=by
 have HS:=aA ((St.init w NoB).alloc #[.int .u64 (n:Int),.int .u64 0,.int .u64 0,.int .u64 0,.int .u64 0] 61)
 go_enter Tryz.func89,Tryz.ntmps89
 go_wp2_with fail
 refine bodyPost_ret (results_cell_row rfl _ _ w.heap.size _ _ _ _ rfl (HS.out.heap 0 rfl) Tryz.underlying61 rfl Bt) rfl ?_
 exact⟨rfl,HS.out.below⟩
theorem iszero_walk (a b c d e:Nat)(w:World)(h1:Low [a,b,c,d,e]) :
  Calls Tryz.prog 121 #[(.agg #[.int .u64 (a:Int),.int .u64 (b:Int),.int .u64 (c:Int),.int .u64 (d:Int),.int .u64 (e:Int)])] w fun r w'=>r=.returned (.bool (decide (ev [a,b,c,d,e]=0)))∧Below w.heap.size w w':=by
 have z:ev [0,0,0,0,0]=0:=ev_small 0 An
 have HC:=aA (fun W=>same_walk a b c d e 0 0 0 0 0 W h1 (low_small 0 An))
 rw[z] at HC
 have HS0:=aA ((St.init w NoB).alloc #[.int .u64 (a:Int),.int .u64 (b:Int),.int .u64 (c:Int),.int .u64 (d:Int),.int .u64 (e:Int)] 61)
 clear z h1
 go_enter Tryz.func121,Tryz.ntmps121
 go_wp2_with (go_at_call 128;refine(HC.out _).mono ?_;rintro r w1 ⟨rfl,hb1⟩)
 go_ret
 exact⟨rfl,(HS0.out.call hb1).below⟩
def tw4:List Nat:=[9007199254740916,9007199254740988,9007199254740988,9007199254740988,9007199254740988]
theorem tw4_val:fv T51 tw4=4*Pq:=by unfold Pq tw4 T51;decide
def SubAt (a b:List Nat)(k:Nat)(cur:List Nat):Prop:=
 cur.length=5∧cur.drop k=a.drop k∧fv T51 (cur.take k)+fv T51 (b.take k)=fv T51 (a.take k)+fv T51 (tw4.take k)∧∀(j x:Nat),cur[j]?=some x→x<6*T51
theorem sub_start (a b:List Nat)(ha:Red a):SubAt a b 0 a:=⟨ha.1,rfl,by simp[fv],fun j x hx=>by
 have:=ha.2 j x hx
 unfold T51 at this ⊢
 split at this<;>omega⟩
theorem sub_next {a b:List Nat}{k x y t:Nat}{cur:List Nat}(h:SubAt a b k cur)(hk:k<5)(hx:a[k]?=some x)(hy:b[k]?=some y)(ht:tw4[k]?=some t)(hyt:y≤t)(hs:x+(t - y)<6*T51) :
  SubAt a b (k+1) (cur.set k (x+(t - y))):=by
 obtain⟨h1,h2,h3,h4⟩:=h
 refine⟨Ci,?_,?_,?_⟩
 ·rw[dQ,←List.drop_drop,h2,List.drop_drop]
 ·rw[gI T51 cur k _ An,eE hx,eE hy,eE ht]
  have h5:(x+(t - y))*T51^k+y*T51^k=x*T51^k+t*T51^k:=by rw[←Nat.add_mul,←Nat.add_mul];congr 1;omega
  omega
 ·intro j z hz
  by_cases hj:j=k
  ·subst hj
   rw[List.getElem?_set_self An] at hz
   injection hz with hz
   omega
  ·rw[List.getElem?_set_ne An] at hz
   exact h4 j z hz
theorem sub_end {a b cur:List Nat}(h:SubAt a b 5 cur)(ha:Red a)(hb:Red b):Low cur∧ev cur=(ev a+(Pq - ev b))%Pq:=by
 obtain⟨h1,_,h3,h4⟩:=h
 refine⟨fun k x hx=>by have:=h4 k x hx;unfold T51 at this ⊢;omega,?_⟩
 rw[List.take_of_length_le An,List.take_of_length_le (by rw[hb.1];omega),List.take_of_length_le (by rw[ha.1];omega),List.take_of_length_le Bz,tw4_val] at h3
 have hp:=Pq_256.2
 unfold ev
 generalize fv T51 cur=f at *
 generalize fv T51 a=g at *
 generalize fv T51 b=u at *
 have e1:(f+u)%Pq=g%Pq:=by rw[h3,Nat.add_mul_mod_self_right]
 have hu:=Nat.mod_lt u (show 0<Pq by omega)
 have e2:((f+u)+(Pq - u%Pq))%Pq=f%Pq:=by
  have:=Nat.div_add_mod u Pq
  rw[show(f+u)+(Pq - u%Pq)=f+Pq*(u/Pq+1) from by rw[Nat.mul_add];omega,Nat.add_mul_mod_self_left]
 rw[←e2,Nat.add_mod,e1,←Nat.add_mod g,Nat.mod_add_mod]
def SubRel (w:World)(a b:List Nat)(i:Value)(wr:World):Prop:=
 ∃(k:Nat) (cur:List Nat),k≤5∧i=.int .i64 (k:Int)∧SubAt a b k cur∧St w NoB wr [.cells w.heap.size (uvs cur).toArray 61,.cells (w.heap.size+1) (uvs b).toArray 61,.cells (w.heap.size+1+1) #[.int .u64 0,.int .u64 0,.int .u64 0,.int .u64 0,.int .u64 0] 61]
theorem sub_walk (a b c d e a' b' c' d' e':Nat)(w:World)(ha:Red [a,b,c,d,e])(hb:Red [a',b',c',d',e']) :
  Calls Tryz.prog 88 #[(.agg #[.int .u64 (a:Int),.int .u64 (b:Int),.int .u64 (c:Int),.int .u64 (d:Int),.int .u64 (e:Int)]),(.agg #[.int .u64 (a':Int),.int .u64 (b':Int),.int .u64 (c':Int),.int .u64 (d':Int),.int .u64 (e':Int)])] w fun r w'=>∃p q s t u:Nat,ev [p,q,s,t,u]=(ev [a,b,c,d,e]+(Pq - ev [a',b',c',d',e']))%Pq∧Red [p,q,s,t,u]∧r=.returned (.agg #[.int .u64 (p:Int),.int .u64 (q:Int),.int .u64 (s:Int),.int .u64 (t:Int),.int .u64 (u:Int)])∧Below w.heap.size w w':=by
 have HA:=aA ha
 have HB:=aA hb
 have hS0:=(((St.init w NoB).alloc (uvs [a,b,c,d,e]).toArray 61).alloc (uvs [a',b',c',d',e']).toArray 61).alloc #[.int .u64 0,.int .u64 0,.int .u64 0,.int .u64 0,.int .u64 0] 61
 simp only[size_alloc1] at hS0
 have HS0:=aA hS0.rot3
 clear hS0 ha hb
 go_enter Tryz.func88,Tryz.ntmps88
 go_wp2_with fail
 go_loopw [7] (fun i wr=>SubRel w [a,b,c,d,e] [a',b',c',d',e'] i wr) (fun i _=>5 - (intOf i).toNat)
 case atStart=>exact⟨0,[a,b,c,d,e],An,rfl,sub_start _ _ HA.out,HS0.out⟩
 case round =>
  obtain⟨k,cur,hk,rfl,hP,hS⟩:=hrel
  by_cases hlt:k<5
  ·obtain⟨x,hx⟩:∃x,[a,b,c,d,e][k]?=some x:=⟨_,gE Cn⟩
   obtain⟨y,hy⟩:∃y,[a',b',c',d',e'][k]?=some y:=⟨_,gE Cn⟩
   obtain⟨t,ht⟩:∃t,tw4[k]?=some t:=⟨_,gE (by simpa[tw4] using hlt)⟩
   have hcx:cur[k]?=some x:=by
    have:=congrArg (·[0]?) hP.2.1
    simpa[List.getElem?_drop,hx] using this
   have bx:=HA.out.2 k x hx
   have by':=HB.out.2 k y hy
   have hS':=hS.drew
   have hHS:=aA hS'
   have cn:∀z,aC wr.drew z→z.cell? ⟨w.heap.size,k,none⟩=some (.int .u64 (x:Int)):=fun z hz=>by
    rw[hz.cell (p:=⟨w.heap.size,k,none⟩) (Chunk.lt (hHS.out.sat 0 _ rfl) rfl),hHS.out.cell 0 rfl k]
    exact aR hcx
   have cm:∀z,aC wr.drew z→z.cell? ⟨w.heap.size+1,k,none⟩=some (.int .u64 (y:Int)):=fun z hz=>by
    rw[hz.cell (p:=⟨w.heap.size+1,k,none⟩) (Chunk.lt (hHS.out.sat 1 _ rfl) rfl),hHS.out.cell 1 rfl k]
    exact aR hy
   have dk:decide ((k:Int)<5)=true:=A9
   have ik:(k:Int)<5:=An
   have HCL:=aA hP.1
   have key:∀T:Nat,t=T→9007199254740916≤T→T≤9007199254740988→∃v,IntKind.u64.wrap ((x:Int)+IntKind.u64.wrap ((T:Int) - (y:Int)))=((v:Nat):Int)∧SubAt [a,b,c,d,e] [a',b',c',d',e'] (k+1) (cur.set k v):=by
    intro T hT h1 h2
    subst hT
    have hx':x<2251799813685286:=by unfold T51 at bx;split at bx<;>omega
    have hy':y<2251799813685286:=by unfold T51 at by';split at by'<;>omega
    refine⟨x+(t - y),?_,sub_next hP hlt hx hy ht An Cf⟩
    rw[IntKind.wrap_u64,IntKind.wrap_u64]
    omega
   by_cases hk0:k=0
   ·subst hk0
    obtain⟨v,hv,hN⟩:=key 9007199254740916 (by injection ht with ht;exact ht.symm) An An
    replace hv:IntKind.u64.wrap ((x:Int)+IntKind.u64.wrap (9007199254740916 - (y:Int)))=(v:Int):=hv
    have HN:=aA hN
    clear hN hS hS' hx hy ht hcx bx by' key hP
    go_wp2_with fail
    refine aW (fun i=>i==13) (aC wr.drew) Bt ?_
    (refine mU 0 (v:=?_) fR ?_;(try refine nm ?_));(refine mU 1 (v:=?_) fR ?_;(try refine nm ?_));(refine mU 2 (v:=?_) fR ?_;(try refine nm ?_))
    (refine mT 3 (v:=?_) fR ?_;(try refine nm ?_))
    (refine mU 4 (v:=?_) fR ?_;(try refine nm ?_));(refine mU 5 (v:=?_) fR ?_;(try refine nm ?_));(refine mU 6 (v:=?_) fR ?_;(try refine nm ?_));(refine mU 7 (v:=?_) fR ?_;(try refine nm ?_))
    (refine mT 8 (v:=?_) fR ?_;(try refine nm ?_))
    (refine mU 9 (v:=?_) fR ?_;(try refine nm ?_));(refine mU 10 (v:=?_) fR ?_;(try refine nm ?_));(refine mU 11 (v:=?_) fR ?_;(try refine nm ?_));(refine mU 12 (v:=?_) fR ?_;(try refine nm ?_))
    (refine aZ (i:=13) Bt rfl rfl ?_;intro K hK;(try refine nm ?_))
    refine bO rfl rfl tyU64 hHS.out 0 rfl 0 Co rfl (v:=.int .u64 (v:Nat)) rfl rfl ?_
    intro w2 hS2
    refine hK _ _ ?_
    clear hK K
    (try refine nm ?_)
    refine wpAny_done Bt ?_ _
    go_wp2_with fail
    go_roundw
    case rel =>
     rw[List.set_cons_zero,bH] at hS2
     exact⟨0+1,cur.set 0 v,An,Cg,HN.out,hS2⟩
    case measure=>(simp[intOf])<;>omega
   ·have hkb:((k:Int)==0)=false:=by simp;omega
    obtain⟨v,hv,hN⟩:=key 9007199254740988 (by
     match k,hk0,ht with
     | 1,_,ht=>injection ht with ht;exact ht.symm
     | 2,_,ht=>injection ht with ht;exact ht.symm
     | 3,_,ht=>injection ht with ht;exact ht.symm
     | 4,_,ht=>injection ht with ht;exact ht.symm) An An
    replace hv:IntKind.u64.wrap ((x:Int)+IntKind.u64.wrap (9007199254740988 - (y:Int)))=(v:Int):=hv
    have HN:=aA hN
    clear hN hS hS' hx hy ht hcx bx by' key hP
    go_wp2_with fail
    refine aW (fun i=>i==13) (aC wr.drew) Bt ?_
    (refine mU 0 (v:=?_) fR ?_;(try refine nm ?_));(refine mU 1 (v:=?_) fR ?_;(try refine nm ?_));(refine mU 2 (v:=?_) fR ?_;(try refine nm ?_))
    (refine mT 3 (v:=?_) fR ?_;(try refine nm ?_))
    (refine mU 4 (v:=?_) fR ?_;(try refine nm ?_));(refine mU 5 (v:=?_) fR ?_;(try refine nm ?_));(refine mU 6 (v:=?_) fR ?_;(try refine nm ?_));(refine mU 7 (v:=?_) fR ?_;(try refine nm ?_))
    (refine mT 8 (v:=?_) fR ?_;(try refine nm ?_))
    (refine mU 9 (v:=?_) fR ?_;(try refine nm ?_));(refine mU 10 (v:=?_) fR ?_;(try refine nm ?_));(refine mU 11 (v:=?_) fR ?_;(try refine nm ?_));(refine mU 12 (v:=?_) fR ?_;(try refine nm ?_))
    (refine aZ (i:=13) Bt rfl rfl ?_;intro K hK;(try refine nm ?_))
    refine bO rfl rfl tyU64 hHS.out 0 rfl k Co rfl (v:=.int .u64 (v:Nat)) rfl rfl ?_
    intro w2 hS2
    refine hK _ _ ?_
    clear hK K
    (try refine nm ?_)
    refine wpAny_done Bt ?_ _
    go_wp2_with fail
    go_roundw
    case rel =>
     rw[List.set_cons_zero,bH] at hS2
     exact⟨k+1,cur.set k v,An,Cg,HN.out,hS2⟩
    case measure=>(simp[intOf])<;>omega
  ·obtain rfl:k=5:=by omega
   obtain⟨p0,p1,p2,p3,p4,rfl⟩:=list5 hP.1
   obtain⟨hlow,hev⟩:=sub_end hP HA.out HB.out
   have HC:=aA (fun W=>fB p0 p1 p2 p3 p4 W hlow)
   have HEV:=aA hev
   have hS':St w NoB wr [.cells w.heap.size #[.int .u64 (p0:Int),.int .u64 (p1:Int),.int .u64 (p2:Int),.int .u64 (p3:Int),.int .u64 (p4:Int)] 61,.cells (w.heap.size+1) (uvs [a',b',c',d',e']).toArray 61,.cells (w.heap.size+1+1) #[.int .u64 0,.int .u64 0,.int .u64 0,.int .u64 0,.int .u64 0] 61]:=hS
   have n0:wr.cell? ⟨w.heap.size,0,none⟩=some (.int .u64 (p0:Int)):=hS'.cell 0 rfl 0
   have n1:wr.cell? ⟨w.heap.size,1,none⟩=some (.int .u64 (p1:Int)):=hS'.cell 0 rfl 1
   have n2:wr.cell? ⟨w.heap.size,2,none⟩=some (.int .u64 (p2:Int)):=hS'.cell 0 rfl 2
   have n3:wr.cell? ⟨w.heap.size,3,none⟩=some (.int .u64 (p3:Int)):=hS'.cell 0 rfl 3
   have n4:wr.cell? ⟨w.heap.size,4,none⟩=some (.int .u64 (p4:Int)):=hS'.cell 0 rfl 4
   have HSE:=aA hS'
   clear hP hlow hev hS hS'
   go_wp2_with (go_at_call 125;with_reducible refine(HC.out _).mono ?_;rintro r w2 ⟨r0,r1,r2,r3,r4,hev,hred,rfl,hb2⟩;have hS2:=HSE.out.call hb2;have z0:w2.cell? ⟨w.heap.size+1+1,0,none⟩=some (.int .u64 0):=hS2.cell 2 rfl 0;have z1:w2.cell? ⟨w.heap.size+1+1,1,none⟩=some (.int .u64 0):=hS2.cell 2 rfl 1;have z2:w2.cell? ⟨w.heap.size+1+1,2,none⟩=some (.int .u64 0):=hS2.cell 2 rfl 2;have z3:w2.cell? ⟨w.heap.size+1+1,3,none⟩=some (.int .u64 0):=hS2.cell 2 rfl 3;have z4:w2.cell? ⟨w.heap.size+1+1,4,none⟩=some (.int .u64 0):=hS2.cell 2 rfl 4;have y0:=hS2.free 2 rfl 0;have y1:=hS2.free 2 rfl 1;have y2:=hS2.free 2 rfl 2;have y3:=hS2.free 2 rfl 3;have y4:=hS2.free 2 rfl 4)
   have HS:=aA (((((hS2.setCell 2 rfl 0 (.int .u64 (r0:Int))).setCell 2 rfl 1 (.int .u64 (r1:Int))).setCell 2 rfl 2 (.int .u64 (r2:Int))).setCell 2 rfl 3 (.int .u64 (r3:Int))).setCell 2 rfl 4 (.int .u64 (r4:Int)))
   refine bodyPost_ret (results_cell_row rfl _ _ (w.heap.size+1+1) _ _ _ _ rfl (HS.out.heap 2 rfl) Tryz.underlying61 rfl Bt) rfl ?_
   exact⟨r0,r1,r2,r3,r4,by rw[hev,HEV.out],hred,rfl,HS.out.below⟩
theorem red_small (n:Nat)(h:n<4294967296):Red [n,0,0,0,0]:=⟨rfl,fun k x hx=>by
 match k,hx with
 | 0,hx=>injection hx with hx;unfold T51;split<;>omega
 | 1,hx=>injection hx with hx;unfold T51;split<;>omega
 | 2,hx=>injection hx with hx;unfold T51;split<;>omega
 | 3,hx=>injection hx with hx;unfold T51;split<;>omega
 | 4,hx=>injection hx with hx;unfold T51;split<;>omega⟩
theorem rd_mid {w:World}{b o n c:Nat}{l:List UInt8}(h:Rd w (.slice (some ⟨b,o,none⟩) n c) 1 n (bvs l))(i j:Nat)(hij:i≤j)(hj:j≤n) :
  Rd w (.slice (some ⟨b,o+i,none⟩) (j - i) (c - i)) 1 (j - i) (bvs ((l.drop i).take (j - i))):=by
 obtain⟨A',c',e,h1,h2,h3,h4,h5⟩:=h
 injection e with e1 _ e3
 subst e1 e3
 rw[aX] at h1
 refine⟨_,_,rfl,Cr,An,An,(fun h=>by cases h),?_⟩
 intro b' o' sp' hA
 injection hA with hA
 injection hA with k1 k2 k3
 subst k1 k2 k3
 refine⟨fun _=>rfl,fun k u hu=>?_⟩
 obtain⟨x,hx,rfl⟩:∃x,((l.drop i).take (j - i))[k]?=some x∧u=.int .u8 (x.toNat:Int):=by
  simp only[bvs,List.getElem?_map,Option.map_eq_some_iff] at hu
  obtain⟨x,h1,h2⟩:=hu
  exact⟨x,h1,h2.symm⟩
 have hk:k<j - i:=by
  have:=(List.getElem?_eq_some_iff.1 hx).1
  rw[List.length_take] at this
  omega
 rw[List.getElem?_take_of_lt hk,List.getElem?_drop] at hx
 have:=(h5 b o none rfl).2 (i+k) _ (bE hx)
 rwa [show o+(i+k)=o+i+k from by omega] at this
theorem bnx {w0 w w':World}(h:Below w0.heap.size w0 w)(h2:Below w.heap.size w w'):Below w0.heap.size w0 w':=h.trans (h2.mono h.size)
theorem infoB:(Tryz.prog.info? 5).map (fun i=>(i.zero,i.size,i.bytes))=some (some (.int .u8 0),1,1):=Bt
def AddAt (a b:List Nat)(k:Nat)(cur:List Nat):Prop:=
 cur.length=5∧cur.drop k=a.drop k∧fv T51 (cur.take k)=fv T51 (a.take k)+fv T51 (b.take k)∧∀(j x:Nat),cur[j]?=some x→x<6*T51
theorem add_start (a b:List Nat)(ha:Red a):AddAt a b 0 a:=⟨ha.1,rfl,by simp[fv],fun j x hx=>by
 have:=ha.2 j x hx
 unfold T51 at this ⊢
 split at this<;>omega⟩
theorem add_next {a b:List Nat}{k x y:Nat}{cur:List Nat}(h:AddAt a b k cur)(hk:k<5)(hx:a[k]?=some x)(hy:b[k]?=some y)(hs:x+y<6*T51) :
  AddAt a b (k+1) (cur.set k (x+y)):=by
 obtain⟨h1,h2,h3,h4⟩:=h
 refine⟨Ci,?_,?_,?_⟩
 ·rw[dQ,←List.drop_drop,h2,List.drop_drop]
 ·rw[gI T51 cur k _ An,eE hx,eE hy,Nat.add_mul]
  omega
 ·intro j z hz
  by_cases hj:j=k
  ·subst hj
   rw[List.getElem?_set_self An] at hz
   injection hz with hz
   omega
  ·rw[List.getElem?_set_ne An] at hz
   exact h4 j z hz
theorem add_end {a b cur:List Nat}(h:AddAt a b 5 cur)(ha:Red a)(hb:Red b):Low cur∧ev cur=(ev a+ev b)%Pq:=by
 obtain⟨h1,_,h3,h4⟩:=h
 refine⟨fun k x hx=>by have:=h4 k x hx;unfold T51 at this ⊢;omega,?_⟩
 rw[List.take_of_length_le An,List.take_of_length_le (by rw[ha.1];omega),List.take_of_length_le (by rw[hb.1];omega)] at h3
 unfold ev
 rw[h3,Nat.add_mod]
def AddRel (w:World)(a b:List Nat)(i:Value)(wr:World):Prop:=
 ∃(k:Nat) (cur:List Nat),k≤5∧i=.int .i64 (k:Int)∧AddAt a b k cur∧St w NoB wr [.cells w.heap.size (uvs cur).toArray 61,.cells (w.heap.size+1) (uvs b).toArray 61,.cells (w.heap.size+1+1) #[.int .u64 0,.int .u64 0,.int .u64 0,.int .u64 0,.int .u64 0] 61]
theorem add_walk (a b c d e a' b' c' d' e':Nat)(w:World)(ha:Red [a,b,c,d,e])(hb:Red [a',b',c',d',e']) :
  Calls Tryz.prog 90 #[(.agg #[.int .u64 (a:Int),.int .u64 (b:Int),.int .u64 (c:Int),.int .u64 (d:Int),.int .u64 (e:Int)]),(.agg #[.int .u64 (a':Int),.int .u64 (b':Int),.int .u64 (c':Int),.int .u64 (d':Int),.int .u64 (e':Int)])] w fun r w'=>∃p q s t u:Nat,ev [p,q,s,t,u]=(ev [a,b,c,d,e]+ev [a',b',c',d',e'])%Pq∧Red [p,q,s,t,u]∧r=.returned (.agg #[.int .u64 (p:Int),.int .u64 (q:Int),.int .u64 (s:Int),.int .u64 (t:Int),.int .u64 (u:Int)])∧Below w.heap.size w w':=by
 have HA:=aA ha
 have HB:=aA hb
 have hS0:=(((St.init w NoB).alloc (uvs [a,b,c,d,e]).toArray 61).alloc (uvs [a',b',c',d',e']).toArray 61).alloc #[.int .u64 0,.int .u64 0,.int .u64 0,.int .u64 0,.int .u64 0] 61
 simp only[size_alloc1] at hS0
 have HS0:=aA hS0.rot3
 clear hS0 ha hb
 go_enter Tryz.func90,Tryz.ntmps90
 go_wp2_with fail
 go_loopw [6] (fun i wr=>AddRel w [a,b,c,d,e] [a',b',c',d',e'] i wr) (fun i _=>5 - (intOf i).toNat)
 case atStart=>exact⟨0,[a,b,c,d,e],An,rfl,add_start _ _ HA.out,HS0.out⟩
 case round =>
  obtain⟨k,cur,hk,rfl,hP,hS⟩:=hrel
  by_cases hlt:k<5
  ·obtain⟨x,hx⟩:∃x,[a,b,c,d,e][k]?=some x:=⟨_,gE Cn⟩
   obtain⟨y,hy⟩:∃y,[a',b',c',d',e'][k]?=some y:=⟨_,gE Cn⟩
   have hcx:cur[k]?=some x:=by
    have:=congrArg (·[0]?) hP.2.1
    simpa[List.getElem?_drop,hx] using this
   have bx:=HA.out.2 k x hx
   have by':=HB.out.2 k y hy
   have hS':=hS.drew
   have hHS:=aA hS'
   have cn:∀z,aC wr.drew z→z.cell? ⟨w.heap.size,k,none⟩=some (.int .u64 (x:Int)):=fun z hz=>by
    rw[hz.cell (p:=⟨w.heap.size,k,none⟩) (Chunk.lt (hHS.out.sat 0 _ rfl) rfl),hHS.out.cell 0 rfl k]
    exact aR hcx
   have cm:∀z,aC wr.drew z→z.cell? ⟨w.heap.size+1,k,none⟩=some (.int .u64 (y:Int)):=fun z hz=>by
    rw[hz.cell (p:=⟨w.heap.size+1,k,none⟩) (Chunk.lt (hHS.out.sat 1 _ rfl) rfl),hHS.out.cell 1 rfl k]
    exact aR hy
   have dk:decide ((k:Int)<5)=true:=A9
   have ik:(k:Int)<5:=An
   have HCL:=aA hP.1
   have hx':x<2251799813685286:=by unfold T51 at bx;split at bx<;>omega
   have hy':y<2251799813685286:=by unfold T51 at by';split at by'<;>omega
   have HN:=aA (add_next hP hlt hx hy Cf)
   have hv:IntKind.u64.wrap ((x:Int)+(y:Int))=((x+y:Nat):Int):=Cl
   clear hS hS' hx hy hcx bx by' hP hx' hy'
   go_wp2_with fail
   refine aW (fun i=>i==11) (aC wr.drew) Bt ?_
   (refine mU 0 (v:=?_) fR ?_;(try refine nm ?_));(refine mU 1 (v:=?_) fR ?_;(try refine nm ?_));(refine mU 2 (v:=?_) fR ?_;(try refine nm ?_))
   (refine mT 3 (v:=?_) fR ?_;(try refine nm ?_))
   (refine mU 4 (v:=?_) fR ?_;(try refine nm ?_));(refine mU 5 (v:=?_) fR ?_;(try refine nm ?_));(refine mU 6 (v:=?_) fR ?_;(try refine nm ?_))
   (refine mT 7 (v:=?_) fR ?_;(try refine nm ?_))
   (refine mU 8 (v:=?_) fR ?_;(try refine nm ?_));(refine mU 9 (v:=?_) fR ?_;(try refine nm ?_));(refine mU 10 (v:=?_) fR ?_;(try refine nm ?_))
   (refine aZ (i:=11) Bt rfl rfl ?_;intro K hK;(try refine nm ?_))
   refine bO rfl rfl tyU64 hHS.out 0 rfl k Co rfl (v:=.int .u64 ((x+y:Nat):Int)) (by first|rfl|exact congrArg (Value.int .u64) hv) rfl ?_
   intro w2 hS2
   refine hK _ _ ?_
   clear hK K
   (try refine nm ?_)
   refine wpAny_done Bt ?_ _
   go_wp2_with fail
   go_roundw
   case rel =>
    rw[List.set_cons_zero,bH] at hS2
    exact⟨k+1,cur.set k (x+y),An,Cg,HN.out,hS2⟩
   case measure=>(simp[intOf])<;>omega
  ·obtain rfl:k=5:=by omega
   obtain⟨p0,p1,p2,p3,p4,rfl⟩:=list5 hP.1
   obtain⟨hlow,hev⟩:=add_end hP HA.out HB.out
   have HC:=aA (fun W=>fB p0 p1 p2 p3 p4 W hlow)
   have HEV:=aA hev
   have hS':St w NoB wr [.cells w.heap.size #[.int .u64 (p0:Int),.int .u64 (p1:Int),.int .u64 (p2:Int),.int .u64 (p3:Int),.int .u64 (p4:Int)] 61,.cells (w.heap.size+1) (uvs [a',b',c',d',e']).toArray 61,.cells (w.heap.size+1+1) #[.int .u64 0,.int .u64 0,.int .u64 0,.int .u64 0,.int .u64 0] 61]:=hS
   have n0:wr.cell? ⟨w.heap.size,0,none⟩=some (.int .u64 (p0:Int)):=hS'.cell 0 rfl 0
   have n1:wr.cell? ⟨w.heap.size,1,none⟩=some (.int .u64 (p1:Int)):=hS'.cell 0 rfl 1
   have n2:wr.cell? ⟨w.heap.size,2,none⟩=some (.int .u64 (p2:Int)):=hS'.cell 0 rfl 2
   have n3:wr.cell? ⟨w.heap.size,3,none⟩=some (.int .u64 (p3:Int)):=hS'.cell 0 rfl 3
   have n4:wr.cell? ⟨w.heap.size,4,none⟩=some (.int .u64 (p4:Int)):=hS'.cell 0 rfl 4
   have HSE:=aA hS'
   clear hP hlow hev hS hS'
   go_wp2_with (go_at_call 125;with_reducible refine(HC.out _).mono ?_;rintro r w2 ⟨r0,r1,r2,r3,r4,hev,hred,rfl,hb2⟩;have hS2:=HSE.out.call hb2;have z0:w2.cell? ⟨w.heap.size+1+1,0,none⟩=some (.int .u64 0):=hS2.cell 2 rfl 0;have z1:w2.cell? ⟨w.heap.size+1+1,1,none⟩=some (.int .u64 0):=hS2.cell 2 rfl 1;have z2:w2.cell? ⟨w.heap.size+1+1,2,none⟩=some (.int .u64 0):=hS2.cell 2 rfl 2;have z3:w2.cell? ⟨w.heap.size+1+1,3,none⟩=some (.int .u64 0):=hS2.cell 2 rfl 3;have z4:w2.cell? ⟨w.heap.size+1+1,4,none⟩=some (.int .u64 0):=hS2.cell 2 rfl 4;have y0:=hS2.free 2 rfl 0;have y1:=hS2.free 2 rfl 1;have y2:=hS2.free 2 rfl 2;have y3:=hS2.free 2 rfl 3;have y4:=hS2.free 2 rfl 4)
   have HS:=aA (((((hS2.setCell 2 rfl 0 (.int .u64 (r0:Int))).setCell 2 rfl 1 (.int .u64 (r1:Int))).setCell 2 rfl 2 (.int .u64 (r2:Int))).setCell 2 rfl 3 (.int .u64 (r3:Int))).setCell 2 rfl 4 (.int .u64 (r4:Int)))
   refine bodyPost_ret (results_cell_row rfl _ _ (w.heap.size+1+1) _ _ _ _ rfl (HS.out.heap 2 rfl) Tryz.underlying61 rfl Bt) rfl ?_
   exact⟨r0,r1,r2,r3,r4,by rw[hev,HEV.out],hred,rfl,HS.out.below⟩
theorem neg_walk (a b c d e:Nat)(w:World)(ha:Red [a,b,c,d,e]) :
  Calls Tryz.prog 91 #[(.agg #[.int .u64 (a:Int),.int .u64 (b:Int),.int .u64 (c:Int),.int .u64 (d:Int),.int .u64 (e:Int)])] w fun r w'=>∃p q s t u:Nat,ev [p,q,s,t,u]=(Pq - ev [a,b,c,d,e])%Pq∧Red [p,q,s,t,u]∧r=.returned (.agg #[.int .u64 (p:Int),.int .u64 (q:Int),.int .u64 (s:Int),.int .u64 (t:Int),.int .u64 (u:Int)])∧Below w.heap.size w w':=by
 have HC:=aA (fun W=>sub_walk 0 0 0 0 0 a b c d e W (red_small 0 An) ha)
 have HSE:=aA (((St.init w NoB).alloc #[.int .u64 (a:Int),.int .u64 (b:Int),.int .u64 (c:Int),.int .u64 (d:Int),.int .u64 (e:Int)] 61).alloc #[.int .u64 0,.int .u64 0,.int .u64 0,.int .u64 0,.int .u64 0] 61)
 rw[size_alloc1] at HSE
 clear ha
 go_enter Tryz.func91,Tryz.ntmps91
 go_wp2_with (go_at_call 88;refine(HC.out _).mono ?_;rintro r w2 ⟨r0,r1,r2,r3,r4,hev,hred,rfl,hb2⟩;have hS2:=HSE.out.call hb2;have z0:w2.cell? ⟨w.heap.size+1,0,none⟩=some (.int .u64 0):=hS2.cell 0 rfl 0;have z1:w2.cell? ⟨w.heap.size+1,1,none⟩=some (.int .u64 0):=hS2.cell 0 rfl 1;have z2:w2.cell? ⟨w.heap.size+1,2,none⟩=some (.int .u64 0):=hS2.cell 0 rfl 2;have z3:w2.cell? ⟨w.heap.size+1,3,none⟩=some (.int .u64 0):=hS2.cell 0 rfl 3;have z4:w2.cell? ⟨w.heap.size+1,4,none⟩=some (.int .u64 0):=hS2.cell 0 rfl 4;have y0:=hS2.free 0 rfl 0;have y1:=hS2.free 0 rfl 1;have y2:=hS2.free 0 rfl 2;have y3:=hS2.free 0 rfl 3;have y4:=hS2.free 0 rfl 4)
 have HS:=aA (((((hS2.setCell 0 rfl 0 (.int .u64 (r0:Int))).setCell 0 rfl 1 (.int .u64 (r1:Int))).setCell 0 rfl 2 (.int .u64 (r2:Int))).setCell 0 rfl 3 (.int .u64 (r3:Int))).setCell 0 rfl 4 (.int .u64 (r4:Int)))
 refine bodyPost_ret (results_cell_row rfl _ _ (w.heap.size+1) _ _ _ _ rfl (HS.out.heap 0 rfl) Tryz.underlying61 rfl Bt) rfl ?_
 exact⟨r0,r1,r2,r3,r4,by rw[hev,ev_small 0 An,Nat.zero_add],hred,rfl,HS.out.below⟩
theorem odd_bit (n:Nat)(h:n<18446744073709551616):bits .and .u64 (n:Int) 1=((n%2:Nat):Int):=by
 have h1:=u64_and_nat n 1 h An
 have e:n &&& 1=n%2:=Nat.and_two_pow_sub_one_eq_mod n 1
 rw[e] at h1
 exact h1
theorem isodd_walk (a b c d e:Nat)(w:World)(ha:Low [a,b,c,d,e]) :
  Calls Tryz.prog 85 #[(.agg #[.int .u64 (a:Int),.int .u64 (b:Int),.int .u64 (c:Int),.int .u64 (d:Int),.int .u64 (e:Int)])] w fun r w'=>r=.returned (.bool (decide (ev [a,b,c,d,e]%2=1)))∧Below w.heap.size w w':=by
 have HC:=aA (fun W=>least_any a b c d e W ha)
 have HSE:=aA ((St.init w NoB).alloc #[.int .u64 (a:Int),.int .u64 (b:Int),.int .u64 (c:Int),.int .u64 (d:Int),.int .u64 (e:Int)] 61)
 clear ha
 have ix:∀(p q s t u:Nat) (W:World),(Instr.index 59 (.agg #[.int .u64 (p:Int),.int .u64 (q:Int),.int .u64 (s:Int),.int .u64 (t:Int),.int .u64 (u:Int)]) (.int .i64 0)).run Tryz.prog W=.ok (.int .u64 (p:Int)) W:=fun _ _ _ _ _ _=>by kernel_rfl
 go_enter Tryz.func85,Tryz.ntmps85
 go_wp2_with (go_at_call 126;refine(HC.out _).mono ?_;rintro r w2 ⟨r0,r1,r2,r3,r4,hev,hred,rfl,hb2⟩;have hbit:=odd_bit r0 (by have:=hred r0 B0;unfold T51 at this;omega);have HEV:=aA hev;clear hev hred)
 go_ret
 refine⟨?_,(HSE.out.call hb2).below⟩
 have e:fv T51 [r0,r1,r2,r3,r4]%2=r0%2:=by
  show(r0+2251799813685248*fv T51 [r1,r2,r3,r4])%2=r0%2
  generalize fv T51 [r1,r2,r3,r4]=y
  omega
 rw[←HEV.out,e]
 refine congrArg (fun b=>Ending.returned (.bool b)) ?_
 rw[Bool.eq_iff_iff]
 simp
 omega
abbrev W1:Nat:=18446744073709551616
theorem plus_num (v a b:Nat)(ha:a<W1)(hb:b<W1)(hv:v+a*b<W1*W1) :
  adS (muL a b) (v%W1) 0=(v+a*b)%W1∧adS (muH a b) (v/W1) (adC (muL a b) (v%W1) 0)=(v+a*b)/W1∧adC (muL a b) (v%W1) 0≤1:=by
 obtain⟨m1,m2,m3⟩:=mu_spec a b ha hb
 obtain⟨a1,a2,a3⟩:=ad_spec (muL a b) (v%W1) 0 m2 (Nat.mod_lt _ Bz) (Nat.zero_le 1)
 have e:adS (muH a b) (v/W1) (adC (muL a b) (v%W1) 0)=(muH a b+v/W1+adC (muL a b) (v%W1) 0)%W1:=by unfold adS;rfl
 rw[e]
 unfold W1 at *
 generalize a*b=P at *
 generalize adS (muL a b) (v%18446744073709551616) 0=s at *
 generalize adC (muL a b) (v%18446744073709551616) 0=c at *
 generalize muL a b=l at *
 generalize muH a b=h at *
 have hlt:(v+P)/18446744073709551616<18446744073709551616:=Nat.div_lt_of_lt_mul hv
 refine⟨An,An,a3⟩
theorem plus_walk (v a b:Nat)(w:World)(ha:a<W1)(hb:b<W1)(hv:v+a*b<W1*W1) :
  Calls Tryz.prog 123 #[.agg #[.int .u64 ((v/W1:Nat):Int),.int .u64 ((v%W1:Nat):Int)],.int .u64 (a:Int),.int .u64 (b:Int)] w fun r w' =>
   r=.returned (.agg #[.int .u64 (((v+a*b)/W1:Nat):Int),.int .u64 (((v+a*b)%W1:Nat):Int)])∧Below w.heap.size w w':=by
 obtain⟨p1,p2,p3⟩:=plus_num v a b ha hb hv
 have HM:=aA (fun W=>mul_any a b W ha hb)
 have A1:=add0_any (muL a b) (v%W1)
 have A2:=add_any (muH a b) (v/W1) (adC (muL a b) (v%W1) 0) p3
 rw[p2] at A2
 rw[p1] at A1
 generalize adC (muL a b) (v%W1) 0=c at *
 generalize v/W1=H at *
 generalize v%W1=L at *
 generalize (v+a*b)/W1=H' at *
 generalize (v+a*b)%W1=L' at *
 generalize muL a b=ml at *
 generalize muH a b=mh at *
 have HS0:=aA (((St.init w NoB).alloc #[.int .u64 (H:Int),.int .u64 (L:Int)] 161).alloc #[.int .u64 (H':Int),.int .u64 (L':Int)] 161)
 rw[size_alloc1] at HS0
 clear p1 p2 p3 hv ha hb
 go_enter Tryz.func123,Tryz.ntmps123
 go_wp2_with (go_at_call 145;refine(HM.out _).mono ?_;rintro r w2 ⟨rfl,rfl⟩)
 refine bodyPost_ret (results_cell_row rfl _ _ (w.heap.size+1) _ _ _ _ rfl (HS0.out.heap 0 rfl) Tryz.underlying161 rfl Bt) rfl ?_
 exact⟨rfl,HS0.out.below⟩
section
variable {P : Program} {w0 w : World} {M : Nat → Prop} {H : List Chunk}
theorem run_storeVar_agg (w:World)(g k:Nat)(t ty:TypeId)(c:Array Value)(cs:List Value)(hg:w.heap[g]?=some (.cells c t (0,0)))(hi:(P.info? ty).map (·.size)=some cs.length)
  (hk:k+cs.length≤c.size)(h1:∀v∈cs,v.oneCell'=true) :
  (storeVar ty ⟨g,k,none⟩ (.agg cs.toArray)).run P w=.ok () (w.setRow g (c.toList.take k++cs++c.toList.drop (k+cs.length)).toArray):=by
 have:=run_storeCells_at (P:=P) g k t cs 0 c w hg An h1
 rw[Nat.add_zero] at this
 cases hq:P.info? ty with
 | none=>simp[hq] at hi
 | some i =>
  have hs:cs.length=i.size:=by simp[hq] at hi;omega
  have hs2:cs.toArray.size=i.size:=by simpa using hs
  simp[storeVar,sizeOf,typeInfo,hq,Value.cells,hs,this]
theorem step_storeAgg {yl:Nat→Option Bool}{o:Oper}{a:Act}{K:Act→World→Prop}{Q:Exit→Act→World→Prop}{E:Prop}(hw:Region.wanted o yl=true){t:TypeId}{p x:Operand}
  (ho:o.op=.store t p x)(hS:St w0 M w H)(i:Nat){g:Nat}{c:Array Value}{e:TypeId}(hi:H[i]?=some (.cells g c e)){cs:List Value}(k:Nat)(hk:k+cs.length≤c.size)
  (hp:a.eval p=.pointer (some ⟨g,k,none⟩))(hx:a.eval x=.agg cs.toArray)(ht:(P.info? t).map (·.size)=some cs.length)(h1:∀v∈cs,v.oneCell'=true)
  (h:∀w',St w0 M w' (H.set i (.cells g (c.toList.take k++cs++c.toList.drop (k+cs.length)).toArray e))→K (a.put o.dst undef) w'):if Region.wanted o yl=true then Oper.wp P o a w K Q else E:=by
 rw[if_pos hw]
 unfold Oper.wp execOp
 simp only[ho,hp,hx,Instr.storeAt,Instr.sureAddr,Sem.run_bind,Sem.run_pure,Result.andThen_ok,run_storeVar_agg w g k e t c cs (hS.heap i hi) ht hk h1]
 exact h _ (hS.setRow i hi _)
theorem set_two (l:List Value)(k:Nat)(x y:Value)(h:k+2≤l.length):l.take k++[x,y]++l.drop (k+2)=(l.set k x).set (k+1) y:=by
 have e:l=l.take k++(l.drop k).take 2++l.drop (k+2):=by
  rw[List.append_assoc,←List.drop_drop,List.take_append_drop,List.take_append_drop]
 have h2:((l.drop k).take 2).length=2:=by rw[List.length_take,List.length_drop];omega
 have h3:(l.take k).length=k:=Cm
 generalize l.take k=A at *
 generalize l.drop (k+2)=C at *
 match hB:(l.drop k).take 2,h2 with
 | [p,q],_ =>
  rw[hB] at e
  subst h3
  rw[e]
  simp
end
def wcs (vs:List Nat):List Value:=vs.flatMap fun v=>[uv (v/W1),uv (v%W1)]
theorem wcs_len (vs:List Nat):(wcs vs).length=2*vs.length:=by
 induction vs with
 | nil=>rfl
 | cons x l ih=>show(uv (x/W1)::uv (x%W1)::wcs l).length=_;rw[List.length_cons,List.length_cons,ih,List.length_cons];omega
theorem wcs_get:∀{vs:List Nat} {k v:Nat},vs[k]?=some v→(wcs vs)[2*k]?=some (uv (v/W1))∧(wcs vs)[2*k+1]?=some (uv (v%W1))
 | x::l,0,v,h=>by
  simp only[List.getElem?_cons_zero,Option.some.injEq] at h
  subst h
  exact⟨rfl,rfl⟩
 | x::l,k+1,v,h=>wcs_get (vs:=l) (k:=k) Cb
theorem wcs_set:∀(vs:List Nat) (k v:Nat),((wcs vs).set (2*k) (uv (v/W1))).set (2*k+1) (uv (v%W1))=wcs (vs.set k v)
 | [],k,v=>by simp[wcs]
 | x::l,0,v=>rfl
 | x::l,k+1,v=>by
  have:=wcs_set l k v
  show uv (x/W1)::uv (x%W1)::(((wcs l).set (2*k) (uv (v/W1))).set (2*k+1) (uv (v%W1)))=uv (x/W1)::uv (x%W1)::wcs (l.set k v)
  rw[this]
theorem fv_set (T:Nat):∀(vs:List Nat) (j v x:Nat),vs[j]?=some v→fv T (vs.set j (v+x))=fv T vs+x*T^j
 | y::l,0,v,x,h=>by
  simp only[List.getElem?_cons_zero,Option.some.injEq] at h
  subst h
  simp only[List.set_cons_zero,fv,Nat.pow_zero,Nat.mul_one]
  omega
 | y::l,j+1,v,x,h=>by
  have:=fv_set T l j v x Cb
  simp only[List.set_cons_succ,fv,this,Nat.pow_succ,Nat.mul_add]
  rw[Nat.add_assoc,Nat.mul_comm T (x*T^j),Nat.mul_assoc]
@[irreducible] def BB:Nat:=19*((T51+38)*(T51+38))
def MulAt (a b:List Nat)(i k:Nat)(vs:List Nat):Prop:=
 vs.length=5∧fv T51 vs%Pq=(fv T51 (a.take i)*fv T51 b+a.getD i 0*T51^i*fv T51 (b.take k))%Pq ∧
  (∀(j x:Nat),vs[j]?=some x→x≤(i+1)*BB)∧∀k',k≤k'→k'<5→∀(x:Nat),vs[(i+k')%5]?=some x→x≤i*BB
theorem mul_start (a b:List Nat):MulAt a b 0 0 [0,0,0,0,0]:=by
 refine⟨rfl,by simp[fv],fun(j x:Nat) hx=>?_,fun k' _ h (x:Nat) hx=>?_⟩
 ·have:x∈[0,0,0,0,0]:=mG hx
  simp at this
  omega
 ·have:x∈[0,0,0,0,0]:=mG hx
  simp at this
  omega
def foldY (i k y:Nat):Nat:=if 5≤i+k then 19*y else y
theorem fold_at (i k:Nat)(hi:i<5)(hk:k<5)(x y:Nat):x*foldY i k y*T51^((i+k)%5)%Pq=x*T51^i*(y*T51^k)%Pq:=by
 have e:x*T51^i*(y*T51^k)=x*y*T51^(i+k):=by
  rw[Nat.pow_add]
  simp only[Nat.mul_assoc,Nat.mul_left_comm]
 rw[e]
 unfold foldY
 by_cases h:5≤i+k
 ·rw[if_pos h]
  obtain⟨m,hm⟩:∃m,i+k=m+5:=⟨i+k - 5,An⟩
  have e2:x*y*T51^(m+5)=x*(19*y)*T51^m+Pq*(x*y*T51^m):=by
   rw[Nat.pow_add,Pq_eq]
   generalize T51^m=M
   generalize Pq=P
   rw[Nat.mul_add,Nat.mul_add,Nat.add_comm]
   congr 1<;>simp only[Nat.mul_comm,Nat.mul_left_comm,Nat.mul_assoc]
  rw[hm,Nat.add_mod_right,Nat.mod_eq_of_lt (show m<5 by omega),e2,Nat.add_mul_mod_self_left]
 ·rw[if_neg h,Nat.mod_eq_of_lt (show i+k<5 by omega)]
theorem mul_next {a b:List Nat}{i k x y v:Nat}{vs:List Nat}(h:MulAt a b i k vs)(hi:i<5)(hk:k<5)(hx:a[i]?=some x)(hy:b[k]?=some y)(hv:vs[(i+k)%5]?=some v)(hxy:x*foldY i k y≤BB) :
  MulAt a b i (k+1) (vs.set ((i+k)%5) (v+x*foldY i k y)):=by
 obtain⟨h1,h2,h3,h4⟩:=h
 have hxd:a.getD i 0=x:=by rw[List.getD_eq_getElem?_getD,hx];rfl
 refine⟨Ci,?_,?_,?_⟩
 ·rw[fv_set T51 vs _ v _ hv,eE hy,Nat.mul_add,←Nat.add_assoc,Nat.add_mod,h2,fold_at i k hi hk,←Nat.add_mod,hxd]
 ·intro j z hz
  by_cases hj:j=(i+k)%5
  ·subst hj
   rw[List.getElem?_set_self An] at hz
   injection hz with hz
   have:=h4 k (Nat.le_refl _) hk v hv
   rw[Nat.add_mul,Nat.one_mul]
   omega
  ·rw[List.getElem?_set_ne An] at hz
   exact h3 j z hz
 ·intro k' hk' hk5 z hz
  rw[List.getElem?_set_ne An] at hz
  exact h4 k' An hk5 z hz
theorem mul_row {a b:List Nat}{i:Nat}{vs:List Nat}(h:MulAt a b i 5 vs)(hi:i<5)(ha:a.length=5)(hb:b.length=5):MulAt a b (i+1) 0 vs:=by
 obtain⟨h1,h2,h3,h4⟩:=h
 refine⟨h1,?_,?_,?_⟩
 ·have hx:a[i]?=some (a.getD i 0):=by
   rw[List.getD_eq_getElem?_getD,gE An]
   rfl
  rw[List.take_of_length_le (show b.length≤5 by omega)] at h2
  rw[h2,eE hx,Nat.add_mul,List.take_zero]
  simp[fv]
 ·intro j x hx
  have:=h3 j x hx
  rw[Nat.add_mul (i+1) 1]
  omega
 ·intro k' _ _ x hx
  exact h3 _ x hx
theorem mul_end {a b vs:List Nat}(h:MulAt a b 5 0 vs)(ha:a.length=5):fv T51 vs%Pq=ev a*ev b%Pq∧∀(j x:Nat),vs[j]?=some x→x≤6*BB:=by
 obtain⟨h1,h2,h3,h4⟩:=h
 have e0:fv T51 (b.take 0)=0:=by rw[List.take_zero];rfl
 rw[List.take_of_length_le (show a.length≤5 by omega),e0,Nat.mul_zero,Nat.add_zero] at h2
 have e6:(5+1)*BB=6*BB:=by generalize BB=q;omega
 rw[e6] at h3
 refine⟨?_,h3⟩
 unfold ev
 generalize fv T51 vs=f at *
 generalize fv T51 a=g at *
 generalize fv T51 b=u at *
 generalize Pq=P at *
 rw[h2]
 exact Nat.mul_mod g u P
def CarAt (vs:List Nat)(k o:Nat)(cur:List Nat):Prop:=
 cur.length=5∧fv T51 (cur.take k)+o*T51^k=fv T51 (vs.take k)∧(∀(j x:Nat),cur[j]?=some x→x<T51)∧o≤120*T51
theorem cars_start (vs:List Nat):CarAt vs 0 0 [0,0,0,0,0]:=by
 refine⟨rfl,by simp[fv],fun j x hx=>?_,An⟩
 have:x∈[0,0,0,0,0]:=mG hx
 simp at this
 unfold T51
 omega
theorem bb6 (v o:Nat)(hv:v≤6*BB)(ho:o≤120*T51):v+o<41538374868278621028243970633760768∧(v+o)/T51≤120*T51:=by
 unfold BB T51 at *
 omega
theorem cars_next {vs:List Nat}{k o v:Nat}{cur:List Nat}(h:CarAt vs k o cur)(hk:k<5)(hv:vs[k]?=some v)(hb:v≤6*BB) :
  CarAt vs (k+1) ((v+o)/T51) (cur.set k ((v+o)%T51)):=by
 obtain⟨h1,h2,h3,h4⟩:=h
 refine⟨Ci,?_,?_,(bb6 v o hb h4).2⟩
 ·rw[gI T51 cur k _ An,eE hv,Nat.pow_succ]
  have e:=Nat.div_add_mod (v+o) T51
  have e2:(v+o)%T51*T51^k+(v+o)/T51*(T51^k*T51)=(v+o)*T51^k:=by
   rw[Nat.mul_comm (T51^k) T51,←Nat.mul_assoc,←Nat.add_mul,Nat.add_comm,Nat.mul_comm _ T51,e]
  rw[Nat.add_mul] at e2
  omega
 ·intro j z hz
  by_cases hj:j=k
  ·subst hj
   rw[List.getElem?_set_self An] at hz
   injection hz with hz
   rw[←hz]
   exact Nat.mod_lt _ Bz
  ·rw[List.getElem?_set_ne An] at hz
   exact h3 j z hz
theorem cars_end {vs:List Nat}{o p0 p1 p2 p3 p4:Nat}(h:CarAt vs 5 o [p0,p1,p2,p3,p4])(hvs:vs.length=5):ev [p0+19*o,p1,p2,p3,p4]=fv T51 vs%Pq∧Low [p0+19*o,p1,p2,p3,p4]∧19*o<W1∧p0+19*o<W1:=by
 obtain⟨_,h2,h3,h4⟩:=h
 rw[List.take_of_length_le (Nat.le_refl 5),List.take_of_length_le An] at h2
 have b0:=h3 0 p0 rfl
 refine⟨fold_ev p0 o _ [p1,p2,p3,p4] h2,fun k x hx=>?_,by unfold T51 W1 at *;omega,by unfold T51 W1 at *;omega⟩
 match k,hx with
 | 0,hx=>injection hx with hx;unfold T51 at *;omega
 | 1,hx=>have:=h3 1 x hx;unfold T51 at *;omega
 | 2,hx=>have:=h3 2 x hx;unfold T51 at *;omega
 | 3,hx=>have:=h3 3 x hx;unfold T51 at *;omega
 | 4,hx=>have:=h3 4 x hx;unfold T51 at *;omega
theorem cars_words (v o:Nat)(hv:v+o<41538374868278621028243970633760768)(ho:o<W1) :
  adS (v%W1) o 0=(v+o)%W1∧v/W1+adC (v%W1) o 0=(v+o)/W1∧adC (v%W1) o 0≤1 ∧
   (v+o)%W1%T51=(v+o)%T51∧(v+o)%W1/T51+(v+o)/W1%2^51*2^13=(v+o)/T51∧(v+o)/W1<T51:=by
 obtain⟨a1,a2,a3⟩:=ad_spec (v%W1) o 0 (Nat.mod_lt _ Bz) ho (Nat.zero_le 1)
 generalize adS (v%W1) o 0=s at *
 generalize adC (v%W1) o 0=c at *
 unfold W1 T51 at *
 refine⟨An,An,a3,An,An,An⟩
theorem mul_bound (x y i k:Nat)(hx:x<T51+38)(hy:y<T51+38):x*foldY i k y≤BB∧foldY i k y<W1:=by
 have h1:foldY i k y≤19*(T51+38):=by unfold foldY;split<;>omega
 refine⟨?_,by unfold W1;unfold T51 at *;omega⟩
 refine Nat.le_trans (Nat.mul_le_mul (Nat.le_of_lt hx) h1) ?_
 unfold BB T51
 omega
theorem sums_room (v p:Nat)(hv:v≤6*BB)(hp:p≤BB):v+p<W1*W1:=by
 unfold BB T51 at *
 unfold W1
 omega
def mulH (w:World)(a b vs:List Nat):List Chunk:=
 [.cells (w.heap.size+1+1+1) (wcs vs).toArray 162,.cells (w.heap.size+1+1) #[.int .u64 0,.int .u64 0,.int .u64 0,.int .u64 0,.int .u64 0] 61,
  .cells (w.heap.size+1) (uvs b).toArray 61,.cells w.heap.size (uvs a).toArray 61]
def MulRel (w:World)(a b:List Nat)(iv:Value)(wr:World):Prop:=
 ∃(i:Nat) (vs:List Nat),i≤5∧iv=.int .i64 (i:Int)∧MulAt a b i 0 vs∧St w NoB wr (mulH w a b vs)
def MulIn (w:World)(a b:List Nat)(i:Nat)(kv:Value)(wr:World):Prop:=
 ∃(k:Nat) (vs:List Nat),k≤5∧kv=.int .i64 (k:Int)∧MulAt a b i k vs∧St w NoB wr (mulH w a b vs)
def CarRel (w:World)(gL:Nat)(a b vs:List Nat)(iv ov:Value)(wr:World):Prop:=
 ∃(k o:Nat) (cur:List Nat),k≤5∧iv=.int .i64 (k:Int)∧ov=.int .u64 (o:Int)∧CarAt vs k o cur∧St w NoB wr (.cells gL (uvs cur).toArray 59::mulH w a b vs)
theorem ixs0 (h0 l0 h1 l1 h2 l2 h3 l3 h4 l4:Nat)(W:World):(Instr.index 162 (.agg #[.int .u64 (h0:Int),.int .u64 (l0:Int),.int .u64 (h1:Int),.int .u64 (l1:Int),.int .u64 (h2:Int),.int .u64 (l2:Int),.int .u64 (h3:Int),.int .u64 (l3:Int),.int .u64 (h4:Int),.int .u64 (l4:Int)]) (.int .i64 ((0:Nat):Int))).run Tryz.prog W=.ok (.agg #[.int .u64 (h0:Int),.int .u64 (l0:Int)]) W:=Bt
theorem ixs1 (h0 l0 h1 l1 h2 l2 h3 l3 h4 l4:Nat)(W:World):(Instr.index 162 (.agg #[.int .u64 (h0:Int),.int .u64 (l0:Int),.int .u64 (h1:Int),.int .u64 (l1:Int),.int .u64 (h2:Int),.int .u64 (l2:Int),.int .u64 (h3:Int),.int .u64 (l3:Int),.int .u64 (h4:Int),.int .u64 (l4:Int)]) (.int .i64 ((1:Nat):Int))).run Tryz.prog W=.ok (.agg #[.int .u64 (h1:Int),.int .u64 (l1:Int)]) W:=Bt
theorem ixs2 (h0 l0 h1 l1 h2 l2 h3 l3 h4 l4:Nat)(W:World):(Instr.index 162 (.agg #[.int .u64 (h0:Int),.int .u64 (l0:Int),.int .u64 (h1:Int),.int .u64 (l1:Int),.int .u64 (h2:Int),.int .u64 (l2:Int),.int .u64 (h3:Int),.int .u64 (l3:Int),.int .u64 (h4:Int),.int .u64 (l4:Int)]) (.int .i64 ((2:Nat):Int))).run Tryz.prog W=.ok (.agg #[.int .u64 (h2:Int),.int .u64 (l2:Int)]) W:=Bt
theorem ixs3 (h0 l0 h1 l1 h2 l2 h3 l3 h4 l4:Nat)(W:World):(Instr.index 162 (.agg #[.int .u64 (h0:Int),.int .u64 (l0:Int),.int .u64 (h1:Int),.int .u64 (l1:Int),.int .u64 (h2:Int),.int .u64 (l2:Int),.int .u64 (h3:Int),.int .u64 (l3:Int),.int .u64 (h4:Int),.int .u64 (l4:Int)]) (.int .i64 ((3:Nat):Int))).run Tryz.prog W=.ok (.agg #[.int .u64 (h3:Int),.int .u64 (l3:Int)]) W:=Bt
theorem ixs4 (h0 l0 h1 l1 h2 l2 h3 l3 h4 l4:Nat)(W:World):(Instr.index 162 (.agg #[.int .u64 (h0:Int),.int .u64 (l0:Int),.int .u64 (h1:Int),.int .u64 (l1:Int),.int .u64 (h2:Int),.int .u64 (l2:Int),.int .u64 (h3:Int),.int .u64 (l3:Int),.int .u64 (h4:Int),.int .u64 (l4:Int)]) (.int .i64 ((4:Nat):Int))).run Tryz.prog W=.ok (.agg #[.int .u64 (h4:Int),.int .u64 (l4:Int)]) W:=Bt
theorem ixs (h0 l0 h1 l1 h2 l2 h3 l3 h4 l4 k h l:Nat)(hk:[(h0,l0),(h1,l1),(h2,l2),(h3,l3),(h4,l4)][k]?=some (h,l))(W:World) :
  (Instr.index 162 (.agg #[.int .u64 (h0:Int),.int .u64 (l0:Int),.int .u64 (h1:Int),.int .u64 (l1:Int),.int .u64 (h2:Int),.int .u64 (l2:Int),.int .u64 (h3:Int),.int .u64 (l3:Int),.int .u64 (h4:Int),.int .u64 (l4:Int)]) (.int .i64 (k:Int))).run Tryz.prog W=.ok (.agg #[.int .u64 (h:Int),.int .u64 (l:Int)]) W:=by
 match k,hk with
 | 0,hk=>simp only[List.getElem?_cons_zero,List.getElem?_cons_succ,Option.some.injEq,Prod.mk.injEq] at hk;rw[←hk.1,←hk.2];exact ixs0 h0 l0 h1 l1 h2 l2 h3 l3 h4 l4 W
 | 1,hk=>simp only[List.getElem?_cons_zero,List.getElem?_cons_succ,Option.some.injEq,Prod.mk.injEq] at hk;rw[←hk.1,←hk.2];exact ixs1 h0 l0 h1 l1 h2 l2 h3 l3 h4 l4 W
 | 2,hk=>simp only[List.getElem?_cons_zero,List.getElem?_cons_succ,Option.some.injEq,Prod.mk.injEq] at hk;rw[←hk.1,←hk.2];exact ixs2 h0 l0 h1 l1 h2 l2 h3 l3 h4 l4 W
 | 3,hk=>simp only[List.getElem?_cons_zero,List.getElem?_cons_succ,Option.some.injEq,Prod.mk.injEq] at hk;rw[←hk.1,←hk.2];exact ixs3 h0 l0 h1 l1 h2 l2 h3 l3 h4 l4 W
 | 4,hk=>simp only[List.getElem?_cons_zero,List.getElem?_cons_succ,Option.some.injEq,Prod.mk.injEq] at hk;rw[←hk.1,←hk.2];exact ixs4 h0 l0 h1 l1 h2 l2 h3 l3 h4 l4 W
theorem or_shift (s t u:Nat)(hs:s<W1)(ht:t<T51)(hu:s/T51+t%2^51*2^13=u):bits .or .u64 (IntKind.u64.wrap ((t:Int)*8192)) ((s:Int)/2251799813685248)=(u:Int):=by
 have h:=glue 13 (s/T51) t Bz (by unfold W1 T51 at *;omega)
 rw[show 64 - 13=51 from rfl,hu] at h
 have e:bits .or .u64 ((s/T51:Nat):Int) (IntKind.u64.wrap ((t:Int)*((2^13:Nat):Int)))=bits .or .u64 (IntKind.u64.wrap ((t:Int)*8192)) ((s:Int)/2251799813685248):=by
  have e1:IntKind.u64.wrap ((t:Int)*((2^13:Nat):Int))=((t*8192%18446744073709551616:Nat):Int):=Cl
  have e2:IntKind.u64.wrap ((t:Int)*8192)=((t*8192%18446744073709551616:Nat):Int):=Cl
  have e3:(s:Int)/2251799813685248=((s/T51:Nat):Int):=Cf
  rw[e1,e2,e3,u64_or_nat _ _ (by unfold W1 T51 at *;omega) (Nat.mod_lt _ Bz),u64_or_nat _ _ (Nat.mod_lt _ Bz) (by unfold W1 T51 at *;omega),Nat.or_comm]
 rw[←e]
 exact h
theorem enPlus (args:Array Value)(w:World):(callFunc 123 args).run Tryz.prog w=.ok (.enter 123 args) w:=Bt
theorem mul_walk (a b c d e a' b' c' d' e':Nat)(w:World)(ha:Red [a,b,c,d,e])(hb:Red [a',b',c',d',e']) :
  Calls Tryz.prog 83 #[(.agg #[.int .u64 (a:Int),.int .u64 (b:Int),.int .u64 (c:Int),.int .u64 (d:Int),.int .u64 (e:Int)]),(.agg #[.int .u64 (a':Int),.int .u64 (b':Int),.int .u64 (c':Int),.int .u64 (d':Int),.int .u64 (e':Int)])] w fun r w'=>∃p q s t u:Nat,ev [p,q,s,t,u]=ev [a,b,c,d,e]*ev [a',b',c',d',e']%Pq∧Red [p,q,s,t,u]∧r=.returned (.agg #[.int .u64 (p:Int),.int .u64 (q:Int),.int .u64 (s:Int),.int .u64 (t:Int),.int .u64 (u:Int)])∧Below w.heap.size w w':=by
 have HA:=aA ha
 have HB:=aA hb
 have hS0:=((((St.init w NoB).alloc (uvs [a,b,c,d,e]).toArray 61).alloc (uvs [a',b',c',d',e']).toArray 61).alloc #[.int .u64 0,.int .u64 0,.int .u64 0,.int .u64 0,.int .u64 0] 61).alloc (wcs [0,0,0,0,0]).toArray 162
 simp only[size_alloc1] at hS0
 have HS0:=aA hS0
 clear hS0 ha hb
 go_enter Tryz.func83,Tryz.ntmps83
 go_wp2_with fail
 go_loopw [16] (fun i wr=>MulRel w [a,b,c,d,e] [a',b',c',d',e'] i wr) (fun i _=>5 - (intOf i).toNat)
 case atStart=>exact⟨0,[0,0,0,0,0],An,rfl,mul_start _ _,HS0.out⟩
 case round =>
  obtain⟨i,vs,hi,rfl,hP,hS⟩:=hrel
  by_cases hlt:i<5
  ·have di:decide ((i:Int)<5)=true:=by simp;omega
   have HP:=aA hP
   have HS:=aA hS
   obtain⟨wo,hwo⟩:∃wo:World,wo=wr:=⟨_,rfl⟩
   rw[←hwo] at HS
   clear hP hS HS0
   subst hwo
   go_wp2_with fail
   go_loopw [19] (fun k wr=>MulIn w [a,b,c,d,e] [a',b',c',d',e'] i k wr) (fun k _=>5 - (intOf k).toNat)
   case atStart=>exact⟨0,vs,An,rfl,HP.out,HS.out⟩
   case round =>
    clear HP HS
    obtain⟨k,us,hk,rfl,hP,hS⟩:=hrel
    by_cases hltk:k<5
    ·obtain⟨x,hx⟩:∃x,[a,b,c,d,e][i]?=some x:=⟨_,gE Cn⟩
     obtain⟨y,hy⟩:∃y,[a',b',c',d',e'][k]?=some y:=⟨_,gE (by simpa using hltk)⟩
     have bx:x<T51+38:=by have:=HA.out.2 i x hx;split at this<;>omega
     have by':y<T51+38:=by have:=HB.out.2 k y hy;split at this<;>omega
     obtain⟨m,hm⟩:∃m,m=(i+k)%5:=⟨_,rfl⟩
     have hm5:m<5:=An
     obtain⟨v,hv⟩:∃v,us[m]?=some v:=⟨_,gE (by rw[hP.1];exact hm5)⟩
     obtain⟨bxy,bfy⟩:=mul_bound x y i k bx by'
     have hvb:v≤6*BB:=by
      have:=hP.2.2.1 m v hv
      have h2:(i+1)*BB≤6*BB:=Nat.mul_le_mul_right _ An
      omega
     have hN:=mul_next hP hlt hltk hx hy (by rw[←hm];exact hv) bxy
     rw[←hm] at hN
     have hroom:=sums_room v _ hvb bxy
     obtain⟨q,hq⟩:∃q,q=foldY i k y:=⟨_,rfl⟩
     rw[←hq] at hN hroom bfy
     have HPW:=aA (fun W=>plus_walk v x q W (by unfold T51 at bx;unfold W1;omega) bfy hroom)
     have hgc:=wcs_get hv
     have hst:=wcs_set us m (v+x*q)
     rw[Nat.mul_comm 2 m] at hgc hst
     have HUL:Hid (us.length=5):=aA hP.1
     generalize v/W1=vh at HPW hgc
     generalize v%W1=vl at HPW hgc
     generalize (v+x*q)/W1=rh at HPW hst
     generalize (v+x*q)%W1=rl at HPW hst
     have HST:=aA hst
     have hHS:=aA hS.drew
     have cy:wr.cell? ⟨w.heap.size+1,k,none⟩=some (.int .u64 (y:Int)):=by
      rw[hS.cell 2 rfl k]
      exact aR hy
     have cx:∀z,aC wr.drew z→z.cell? ⟨w.heap.size,i,none⟩=some (.int .u64 (x:Int)):=fun z hz=>by
      rw[hz.cell (p:=⟨w.heap.size,i,none⟩) (Chunk.lt (hHS.out.sat 3 _ rfl) rfl),hHS.out.cell 3 rfl i]
      exact aR hx
     have c0:∀z,aC wr.drew z→z.cell? ⟨w.heap.size+1+1+1,m*2,none⟩=some (.int .u64 (vh:Int)):=fun z hz=>by
      rw[hz.cell (p:=⟨w.heap.size+1+1+1,m*2,none⟩) (Chunk.lt (hHS.out.sat 0 _ rfl) rfl),hHS.out.cell 0 rfl (m*2)]
      rw[List.getElem?_toArray];exact hgc.1
     have c1:∀z,aC wr.drew z→z.cell? ⟨w.heap.size+1+1+1,m*2+1,none⟩=some (.int .u64 (vl:Int)):=fun z hz=>by
      rw[hz.cell (p:=⟨w.heap.size+1+1+1,m*2+1,none⟩) (Chunk.lt (hHS.out.sat 0 _ rfl) rfl),hHS.out.cell 0 rfl (m*2+1)]
      rw[List.getElem?_toArray];exact hgc.2
     have dk:decide ((k:Int)<5)=true:=A9
     have ik:(k:Int)<5:=An
     have im:(m:Int)<5:=An
     have ii:(i:Int)<5:=An
     have hr1:((i:Int)+(k:Int)).tmod 5=(m:Int):=Fj
     have hr2:((i:Int)+(k:Int))%5=(m:Int):=An
     have HN:=aA hN
     have hw:5≤i+k→IntKind.u64.wrap ((y:Int)*19)=(q:Int):=fun h=>by
      rw[hq]
      unfold foldY
      rw[if_pos h,IntKind.wrap_u64]
      unfold T51 at by'
      omega
     have hw2:¬5≤i+k→y=q:=fun h=>by
      rw[hq]
      unfold foldY
      rw[if_neg h]
     clear hP hS hx hy bx by' hm hv bxy bfy hvb hN hroom hq hgc hst
     by_cases h5:5≤i+k
     ·have d5:decide ((5:Int)≤(i:Int)+(k:Int))=true:=by simp;omega
      replace hw:=hw h5
      clear hw2
      go_wp2_with fail
      refine aW (fun i=>i==11) (aC wr.drew) Bt ?_
      (refine mU 0 (v:=?_) fR ?_;(try refine nm ?_));(refine mU 1 (v:=?_) fR ?_;(try refine nm ?_));(refine mU 2 (v:=?_) fR ?_;(try refine nm ?_))
      (refine mT 3 (v:=?_) fR ?_;(try refine nm ?_))
      (refine mU 4 (v:=?_) fR ?_;(try refine nm ?_));(refine mU 5 (v:=?_) fR ?_;(try refine nm ?_));(refine mU 6 (v:=?_) fR ?_;(try refine nm ?_))
      (refine mT 7 (v:=?_) fR ?_;(try refine nm ?_))
      (refine mU 8 (v:=?_) fR ?_;(try refine nm ?_))
      (refine cC (i:=9) Bt rfl rfl ?_;intro K hK;(try refine nm ?_))
      refine aO rfl rfl enPlus rfl (HPW.out _) ?_
      rintro r w2 ⟨rfl,hb2⟩
      have hS2:=hHS.out.call hb2
      refine⟨_,rfl,hK (aC w2) _ _ (aC.next hb2) fR ?_⟩
      clear hK K cx c0 c1
      (try refine nm ?_)
      (refine mU 10 (v:=?_) fR ?_;(try refine nm ?_))
      (refine aZ (i:=11) Bt rfl rfl ?_;intro K hK;(try refine nm ?_))
      refine step_storeAgg rfl rfl hS2 0 rfl (cs:=[.int .u64 (rh:Int),.int .u64 (rl:Int)]) (m*2) Cp rfl rfl Bt (by intro z hz;simp at hz;rcases hz with rfl|rfl<;>rfl) ?_
      intro w3 hS3
      refine hK _ _ ?_
      clear hK K
      (try refine nm ?_)
      refine wpAny_done Bt ?_ _
      go_wp2_with fail
      go_roundw
      case rel =>
       have e2:=set_two (wcs us) (m*2) (uv rh) (uv rl) (by rw[wcs_len,HUL.out];omega)
       rw[HST.out] at e2
       refine⟨k+1,us.set m (v+x*q),An,Cg,HN.out,?_⟩
       unfold mulH
       rw[←e2]
       exact hS3
      case measure=>(simp[intOf])<;>omega
     ·have d5:decide ((5:Int)≤(i:Int)+(k:Int))=false:=by simp;omega
      have hyq:=hw2 h5
      clear hw hw2
      subst hyq
      go_wp2_with fail
      refine aW (fun i=>i==11) (aC wr.drew) Bt ?_
      (refine mU 0 (v:=?_) fR ?_;(try refine nm ?_));(refine mU 1 (v:=?_) fR ?_;(try refine nm ?_));(refine mU 2 (v:=?_) fR ?_;(try refine nm ?_))
      (refine mT 3 (v:=?_) fR ?_;(try refine nm ?_))
      (refine mU 4 (v:=?_) fR ?_;(try refine nm ?_));(refine mU 5 (v:=?_) fR ?_;(try refine nm ?_));(refine mU 6 (v:=?_) fR ?_;(try refine nm ?_))
      (refine mT 7 (v:=?_) fR ?_;(try refine nm ?_))
      (refine mU 8 (v:=?_) fR ?_;(try refine nm ?_))
      (refine cC (i:=9) Bt rfl rfl ?_;intro K hK;(try refine nm ?_))
      refine aO rfl rfl enPlus rfl (HPW.out _) ?_
      rintro r w2 ⟨rfl,hb2⟩
      have hS2:=hHS.out.call hb2
      refine⟨_,rfl,hK (aC w2) _ _ (aC.next hb2) fR ?_⟩
      clear hK K cx c0 c1
      (try refine nm ?_)
      (refine mU 10 (v:=?_) fR ?_;(try refine nm ?_))
      (refine aZ (i:=11) Bt rfl rfl ?_;intro K hK;(try refine nm ?_))
      refine step_storeAgg rfl rfl hS2 0 rfl (cs:=[.int .u64 (rh:Int),.int .u64 (rl:Int)]) (m*2) Cp rfl rfl Bt (by intro z hz;simp at hz;rcases hz with rfl|rfl<;>rfl) ?_
      intro w3 hS3
      refine hK _ _ ?_
      clear hK K
      (try refine nm ?_)
      refine wpAny_done Bt ?_ _
      go_wp2_with fail
      go_roundw
      case rel =>
       have e2:=set_two (wcs us) (m*2) (uv rh) (uv rl) (by rw[wcs_len,HUL.out];omega)
       rw[HST.out] at e2
       refine⟨k+1,us.set m (v+x*y),An,Cg,HN.out,?_⟩
       unfold mulH
       rw[←e2]
       exact hS3
      case measure=>(simp[intOf])<;>omega
    ·obtain rfl:k=5:=by omega
     have HN:=aA (mul_row hP hlt rfl rfl)
     have HS:=aA hS
     clear hP hS
     go_wp2_with fail
     go_roundw
     case rel=>exact⟨i+1,us,An,Cg,HN.out,HS.out⟩
     case measure=>(simp[intOf])<;>omega
  ·obtain rfl:i=5:=by omega
   obtain⟨hev,hbd⟩:=mul_end hP rfl
   have HV5:Hid (vs.length=5):=aA hP.1
   obtain⟨v0,v1,v2,v3,v4,rfl⟩:=list5 hP.1
   have HEV:=aA hev
   have HBD:=aA hbd
   have HS:=aA hS
   obtain⟨h0,eh0⟩:∃h,h=v0/W1:=⟨_,rfl⟩
   obtain⟨l0,el0⟩:∃l,l=v0%W1:=⟨_,rfl⟩
   have m0:wr.cell? ⟨w.heap.size+1+1+1,0,none⟩=some (.int .u64 (h0:Int)):=by rw[eh0];exact hS.cell 0 rfl 0
   have n0:wr.cell? ⟨w.heap.size+1+1+1,1,none⟩=some (.int .u64 (l0:Int)):=by rw[el0];exact hS.cell 0 rfl 1
   obtain⟨h1,eh1⟩:∃h,h=v1/W1:=⟨_,rfl⟩
   obtain⟨l1,el1⟩:∃l,l=v1%W1:=⟨_,rfl⟩
   have m1:wr.cell? ⟨w.heap.size+1+1+1,2,none⟩=some (.int .u64 (h1:Int)):=by rw[eh1];exact hS.cell 0 rfl 2
   have n1:wr.cell? ⟨w.heap.size+1+1+1,3,none⟩=some (.int .u64 (l1:Int)):=by rw[el1];exact hS.cell 0 rfl 3
   obtain⟨h2,eh2⟩:∃h,h=v2/W1:=⟨_,rfl⟩
   obtain⟨l2,el2⟩:∃l,l=v2%W1:=⟨_,rfl⟩
   have m2:wr.cell? ⟨w.heap.size+1+1+1,4,none⟩=some (.int .u64 (h2:Int)):=by rw[eh2];exact hS.cell 0 rfl 4
   have n2:wr.cell? ⟨w.heap.size+1+1+1,5,none⟩=some (.int .u64 (l2:Int)):=by rw[el2];exact hS.cell 0 rfl 5
   obtain⟨h3,eh3⟩:∃h,h=v3/W1:=⟨_,rfl⟩
   obtain⟨l3,el3⟩:∃l,l=v3%W1:=⟨_,rfl⟩
   have m3:wr.cell? ⟨w.heap.size+1+1+1,6,none⟩=some (.int .u64 (h3:Int)):=by rw[eh3];exact hS.cell 0 rfl 6
   have n3:wr.cell? ⟨w.heap.size+1+1+1,7,none⟩=some (.int .u64 (l3:Int)):=by rw[el3];exact hS.cell 0 rfl 7
   obtain⟨h4,eh4⟩:∃h,h=v4/W1:=⟨_,rfl⟩
   obtain⟨l4,el4⟩:∃l,l=v4%W1:=⟨_,rfl⟩
   have m4:wr.cell? ⟨w.heap.size+1+1+1,8,none⟩=some (.int .u64 (h4:Int)):=by rw[eh4];exact hS.cell 0 rfl 8
   have n4:wr.cell? ⟨w.heap.size+1+1+1,9,none⟩=some (.int .u64 (l4:Int)):=by rw[el4];exact hS.cell 0 rfl 9
   have HIX:=aA (ixs h0 l0 h1 l1 h2 l2 h3 l3 h4 l4)
   have HGET:Hid (∀(k v:Nat),[v0,v1,v2,v3,v4][k]?=some v→[(h0,l0),(h1,l1),(h2,l2),(h3,l3),(h4,l4)][k]?=some (v/W1,v%W1)):=aA (fun k v hv=>by
    have:=congrArg (fun z=>z.map fun v=>(v/W1,v%W1)) hv
    rw[←List.getElem?_map] at this
    rw[eh0,el0,eh1,el1,eh2,el2,eh3,el3,eh4,el4]
    exact this)
   have b3:w.heap.size+1+1+1<wr.heap.size:=Chunk.lt (hS.sat 0 _ rfl) rfl
   clear hP hS hev hbd HS0 eh0 el0 eh1 el1 eh2 el2 eh3 el3 eh4 el4
   obtain⟨wz,hwz⟩:∃wz:World,wz=wr:=⟨_,rfl⟩
   rw[←hwz] at HS
   have HS1:=aA (HS.out.alloc (uvs [0,0,0,0,0]).toArray 59)
   clear HS
   subst hwz
   go_wp2_with fail
   clear m0 n0 m1 n1 m2 n2 m3 n3 m4 n4 b3
   go_loopw [50,11] (fun i o wq=>CarRel w wz.heap.size [a,b,c,d,e] [a',b',c',d',e'] [v0,v1,v2,v3,v4] i o wq) (fun i _ _=>5 - (intOf i).toNat)
   case atStart=>exact⟨0,0,[0,0,0,0,0],An,rfl,rfl,cars_start _,HS1.out⟩
   case round =>
    clear HS1
    obtain⟨k,o,cur,hk,rfl,rfl,hP,hS⟩:=hrel
    by_cases hltk:k<5
    ·obtain⟨v,hv⟩:∃v,[v0,v1,v2,v3,v4][k]?=some v:=⟨_,gE (by simpa using hltk)⟩
     have hvb:=HBD.out k v hv
     have hN:=cars_next hP hltk hv hvb
     obtain⟨bs,bo⟩:=bb6 v o hvb hP.2.2.2
     have bo2:o<W1:=by have:=hP.2.2.2;unfold T51 at this;unfold W1;omega
     obtain⟨e1,e2,e3,e4,e5,e6⟩:=cars_words v o bs bo2
     have hix:=HIX.out k (v/W1) (v%W1) (HGET.out k v hv)
     have A0:=add0_any (v%W1) o
     rw[e1] at A0
     have hcl:=hP.1
     have b1:(v+o)%W1<W1:=Nat.mod_lt _ Bz
     have hor:=or_shift ((v+o)%W1) ((v+o)/W1) _ b1 e6 e5
     have hand:=and_mask ((v+o)%W1) b1
     rw[e4] at hand
     generalize (v+o)%T51=r at *
     generalize (v+o)/T51=o2 at *
     have hsum:IntKind.u64.wrap (((v/W1:Nat):Int)+((adC (v%W1) o 0:Nat):Int))=(((v+o)/W1:Nat):Int):=by
      have e2':=e2
      have e6':=e6
      rw[IntKind.wrap_u64]
      unfold T51 at e6'
      generalize (v+o)/W1=t at *
      generalize v/W1=vh at *
      omega
     generalize (v+o)/W1=t at *
     generalize (v+o)%W1=sm at *
     generalize adC (v%W1) o 0=cy at *
     generalize v/W1=vh at *
     generalize v%W1=vl at *
     have dk:decide ((k:Int)<5)=true:=A9
     have ik:(k:Int)<5:=An
     obtain⟨x,hx⟩:∃x,cur[k]?=some x:=⟨_,gE An⟩
     have cl:wr.cell? ⟨wz.heap.size,k,none⟩=some (.int .u64 (x:Int)):=by
      rw[hS.cell 0 rfl k]
      exact aR hx
     have fl:=hS.free 0 rfl k
     have gl:wz.heap.size<wr.heap.size:=Chunk.lt (hS.sat 0 _ rfl) rfl
     have ne1:wz.heap.size≠wr.heap.size:=An
     have ne2:wr.heap.size≠wz.heap.size:=An
     have HS:=aA hS
     have HN:=aA hN
     clear hP hS hN hv hvb bs bo bo2 e1 e2 e3 e4 e5 e6 hcl b1 hx
     go_wp2_with fail
     go_roundw
     case rel =>
      have h3:=(HS.out.setCell 0 rfl k (.int .u64 (r:Int))).skip (.cells #[.int .u64 (vh:Int),.int .u64 (vl:Int)] 161)
      rw[List.set_cons_zero,bH] at h3
      exact⟨k+1,o2,cur.set k r,An,Cg,rfl,HN.out,h3⟩
     case measure=>(simp[intOf])<;>omega
    ·obtain rfl:k=5:=by omega
     obtain⟨p0,p1,p2,p3,p4,rfl⟩:=list5 hP.1
     obtain⟨e1,e2,e3,e4⟩:=cars_end hP rfl
     rw[HEV.out] at e1
     have hS':St w NoB wr [.cells wz.heap.size #[.int .u64 (p0:Int),.int .u64 (p1:Int),.int .u64 (p2:Int),.int .u64 (p3:Int),.int .u64 (p4:Int)] 59,.cells (w.heap.size+1+1) #[.int .u64 0,.int .u64 0,.int .u64 0,.int .u64 0,.int .u64 0] 61]:=hS.pickL [0,2] Bz rfl
     have n0:wr.cell? ⟨wz.heap.size,0,none⟩=some (.int .u64 (p0:Int)):=hS'.cell 0 rfl 0
     have n1:wr.cell? ⟨wz.heap.size,1,none⟩=some (.int .u64 (p1:Int)):=hS'.cell 0 rfl 1
     have n2:wr.cell? ⟨wz.heap.size,2,none⟩=some (.int .u64 (p2:Int)):=hS'.cell 0 rfl 2
     have n3:wr.cell? ⟨wz.heap.size,3,none⟩=some (.int .u64 (p3:Int)):=hS'.cell 0 rfl 3
     have n4:wr.cell? ⟨wz.heap.size,4,none⟩=some (.int .u64 (p4:Int)):=hS'.cell 0 rfl 4
     have f0:=hS'.free 0 rfl 0
     have hw1:IntKind.u64.wrap (19*(o:Int))=((19*o:Nat):Int):=by rw[IntKind.wrap_u64];unfold W1 at e3;omega
     have hw2:IntKind.u64.wrap ((p0:Int)+((19*o:Nat):Int))=((p0+19*o:Nat):Int):=by rw[IntKind.wrap_u64];unfold W1 at e4;omega
     have HC:=aA (fun W=>fB (p0+19*o) p1 p2 p3 p4 W e2)
     rw[e1] at HC
     generalize 19*o=oo at *
     generalize p0+oo=pp at *
     have HSE:=aA (hS'.setCell 0 rfl 0 (.int .u64 (pp:Int)))
     clear hP e1 e2 e3 e4 hS hS' HEV HBD HIX HGET
     go_wp2_with (go_at_call 125;with_reducible refine(HC.out _).mono ?_;rintro r w2 ⟨r0,r1,r2,r3,r4,hev,hred,rfl,hb2⟩;have hS2:=HSE.out.call hb2;have z0:w2.cell? ⟨w.heap.size+1+1,0,none⟩=some (.int .u64 0):=hS2.cell 1 rfl 0;have z1:w2.cell? ⟨w.heap.size+1+1,1,none⟩=some (.int .u64 0):=hS2.cell 1 rfl 1;have z2:w2.cell? ⟨w.heap.size+1+1,2,none⟩=some (.int .u64 0):=hS2.cell 1 rfl 2;have z3:w2.cell? ⟨w.heap.size+1+1,3,none⟩=some (.int .u64 0):=hS2.cell 1 rfl 3;have z4:w2.cell? ⟨w.heap.size+1+1,4,none⟩=some (.int .u64 0):=hS2.cell 1 rfl 4;have y0:=hS2.free 1 rfl 0;have y1:=hS2.free 1 rfl 1;have y2:=hS2.free 1 rfl 2;have y3:=hS2.free 1 rfl 3;have y4:=hS2.free 1 rfl 4)
     have HS:=aA (((((hS2.setCell 1 rfl 0 (.int .u64 (r0:Int))).setCell 1 rfl 1 (.int .u64 (r1:Int))).setCell 1 rfl 2 (.int .u64 (r2:Int))).setCell 1 rfl 3 (.int .u64 (r3:Int))).setCell 1 rfl 4 (.int .u64 (r4:Int)))
     refine bodyPost_ret (results_cell_row rfl _ _ (w.heap.size+1+1) _ _ _ _ rfl (HS.out.heap 1 rfl) Tryz.underlying61 rfl Bt) rfl ?_
     exact⟨r0,r1,r2,r3,r4,hev,hred,rfl,HS.out.below⟩
end Go.Proofs.YtnohmgpmmhlloaaGreatDoor
