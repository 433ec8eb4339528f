/-
 Joined of texts of mine,in build order: Ra,Rb,Rc,Rd,Hw. Each says what it proves at its own head.
-/
import Derived.Test.YtnohmgpmmhlloaaGreatDoorYj
set_option linter.unusedSimpArgs false
set_option linter.unusedVariables false
set_option maxRecDepth 100000
set_option maxHeartbeats 25600000
namespace Go.Proofs.YtnohmgpmmhlloaaGreatDoor.S3
open Go.RowKit
theorem rd_at' {w:World}{B:Option Addr}{n d:Nat}{xs:List Value}{k:Nat}{u:Value}(h:Rd w (.slice B n d) 1 n xs)(hk:xs[k]?=some u):∃b o,B=some ⟨b,o,none⟩∧w.cell? ⟨b,o+k,none⟩=some u:=by
 rcases h.cases with⟨_,_,h0⟩|⟨b,o,sp,c',hv,_,_,_,hl,h4,hc⟩
 ·rw[h0] at hk;simp at hk
 ·injection hv with hv1 _ _
  have hkl:k<xs.length:=(List.getElem?_eq_some_iff.1 hk).1
  have:=h4 An
  subst this hv1
  exact⟨b,o,rfl,hc k u hk⟩
def ivs (xs:List Int):List Value:=xs.map (.int .i64 ·)
theorem ivs_len (xs:List Int):(ivs xs).length=xs.length:=by simp[ivs]
theorem ivs_get {xs:List Int}{k:Nat}{x:Int}(h:xs[k]?=some x):(ivs xs).toArray[k]?=some (.int .i64 x):=by simp[ivs,h]
theorem ivs_set (xs:List Int)(k:Nat)(x:Int):(ivs xs).toArray.setIfInBounds k (.int .i64 x)=(ivs (xs.set k x)).toArray:=by simp[ivs,List.map_set]
theorem ivs_all (xs:List Int):(ivs xs).toArray.all (·.oneCell')=true:=by
 rw[Array.all_eq_true_iff_forall_mem]
 intro v hv
 simp only[ivs,List.mem_toArray,List.mem_map] at hv
 obtain⟨x,_,rfl⟩:=hv
 rfl
def dv:List Int→Int
 | []=>0
 | x::xs=>x+256*dv xs
theorem dv_append:∀(xs ys:List Int),dv (xs++ys)=dv xs+256^xs.length*dv ys
 | [],ys=>by simp[dv]
 | x::xs,ys=>by
  simp only[List.cons_append,dv,dv_append xs ys,List.length_cons]
  rw[Int.pow_succ,Int.mul_add,Int.add_assoc,←Int.mul_assoc,Int.mul_comm 256 (256^xs.length)]
theorem gK {xs:List Int}{k:Nat}{x:Int}(h:xs[k]?=some x):dv (xs.take (k+1))=dv (xs.take k)+x*256^k:=by
 have hk:=(List.getElem?_eq_some_iff.1 h).1
 rw[List.take_add_one,h,Option.toList_some,dv_append,List.length_take,Nat.min_eq_left An]
 simp only[dv,Int.mul_zero,Int.add_zero]
 rw[Int.mul_comm]
theorem getD_of {xs:List Int}{k:Nat}{x:Int}(h:xs[k]?=some x):xs.getD k 0=x:=by rw[List.getD_eq_getElem?_getD,h];rfl
theorem bK {xs:List Int}{k:Nat}(h:k<xs.length):xs[k]?=some (xs.getD k 0):=by rw[List.getD_eq_getElem?_getD,gE h];rfl
theorem getD_set (xs:List Int)(k j:Nat)(y:Int):(xs.set k y).getD j 0=if k=j∧k<xs.length then y else xs.getD j 0:=by
 simp only[List.getD_eq_getElem?_getD,List.getElem?_set]
 split
 ·rename_i h
  subst h
  split
  ·rename_i h;rw[if_pos ⟨rfl,h⟩];rfl
  ·rename_i h;rw[if_neg (fun x=>h x.2),List.getElem?_eq_none An]
 ·rename_i h
  rw[if_neg (fun x=>h x.1)]
def Byt (xs:List Int):Prop:=∀x∈xs,0≤x∧x<256
theorem dv_byt:∀(xs:List Int),Byt xs→0≤dv xs∧dv xs<256^xs.length
 | [],_=>by simp[dv]
 | x::xs,h=>by
  have ih:=dv_byt xs fun y hy=>h y (mC _ hy)
  have hx:=h x (List.mem_cons_self ..)
  simp only[dv,List.length_cons,Int.pow_succ]
  omega
theorem eG {xs:List Int}(h:Byt xs)(k:Nat):0≤xs.getD k 0∧xs.getD k 0<256:=by
 rw[List.getD_eq_getElem?_getD]
 cases hg:xs[k]? with
 | none=>simp
 | some x=>exact h x (mG hg)
theorem byt_take {xs:List Int}(h:Byt xs)(k:Nat):Byt (xs.take k):=fun x hx=>h x (List.mem_of_mem_take hx)
def rwL (l:List UInt8):List Int:=l.map (fun c=>(c.toNat:Int))
theorem rwL_byt (l:List UInt8):Byt (rwL l):=fun x hx=>by
 simp only[rwL,List.mem_map] at hx
 obtain⟨c,_,rfl⟩:=hx
 have:=UInt8.toNat_lt c
 omega
theorem rwL_dv:∀l:List UInt8,dv (rwL l)=(bval l:Int)
 | []=>rfl
 | c::l=>by
  show(c.toNat:Int)+256*dv (rwL l)=_
  rw[rwL_dv l,bval]
  omega
theorem byt_leB:∀(xs:List Int),Byt xs→xs.map (fun x=>UInt8.ofNat x.toNat)=leB xs.length (dv xs).toNat
 | [],_=>rfl
 | x::xs,h=>by
  have ih:=byt_leB xs fun y hy=>h y (mC _ hy)
  have hx:=h x (List.mem_cons_self ..)
  have hn:=dv_byt xs fun y hy=>h y (mC _ hy)
  rw[List.map_cons,ih,List.length_cons,leB,dv]
  rw[show(x+256*dv xs).toNat%256=x.toNat from by omega,show(x+256*dv xs).toNat/256=(dv xs).toNat from by omega]
theorem i64_and255 (x:Int):bits .and .i64 x 255=x%256:=by
 have e:((BitVec.ofInt 64 x &&& BitVec.ofInt 64 255).toNat:Int)=x%256:=by
  rw[BitVec.toNat_and,BitVec.toNat_ofInt,BitVec.toNat_ofInt]
  rw[show((255:Int)%((2^64:Nat):Int)).toNat=255 from by decide,nat_mask8]
  have:((2^64:Nat):Int)=18446744073709551616:=by decide
  rw[this]
  omega
 show IntKind.i64.wrap ((BitVec.ofInt 64 x &&& BitVec.ofInt 64 255).toNat:Int)=_
 rw[e,IntKind.wrap_i64]
 omega
theorem i64_and1 (x:Int):bits .and .i64 x 1=x%2:=by
 have e:((BitVec.ofInt 64 x &&& BitVec.ofInt 64 1).toNat:Int)=x%2:=by
  rw[BitVec.toNat_and,BitVec.toNat_ofInt,BitVec.toNat_ofInt]
  rw[show((1:Int)%((2^64:Nat):Int)).toNat=1 from by decide,nat_mask1]
  have:((2^64:Nat):Int)=18446744073709551616:=by decide
  rw[this]
  omega
 show IntKind.i64.wrap ((BitVec.ofInt 64 x &&& BitVec.ofInt 64 1).toNat:Int)=_
 rw[e,IntKind.wrap_i64]
 omega
def ordL:List Int:=[0xed,0xd3,0xf5,0x5c,0x1a,0x63,0x12,0x58,0xd6,0x9c,0xf7,0xa2,0xde,0xf9,0xde,0x14,0,0,0,0,0,0,0,0,0,0,0,0,0,0,0,0x10]
theorem ordL_dv:dv ordL=(Lq:Int):=by unfold Lq;decide +kernel
theorem ordL_byt:Byt ordL:=by unfold Byt;decide
theorem Lq_pow:(Lq:Int)<256^32∧0<(Lq:Int):=by unfold Lq;decide +kernel
def Abv (x:List Int)(i:Nat):Prop:=dv x - (Lq:Int)=dv (x.take i) - dv (ordL.take i)
theorem abv_start {x:List Int}(hl:x.length=33)(h0:x.getD 32 0=0):Abv x 32:=by
 have hx:=bK (xs:=x) (k:=32) An
 have h:=gK hx
 rw[List.take_of_length_le An,h0,Int.zero_mul,Int.add_zero] at h
 unfold Abv
 rw[h,List.take_of_length_le (l:=ordL) Bz,ordL_dv]
theorem abv_step {x:List Int}(hl:x.length=33){i:Nat}(hi:i<32)(h:Abv x (i+1))(he:x.getD i 0=ordL.getD i 0):Abv x i:=by
 unfold Abv at h ⊢
 rw[h,gK (bK (xs:=x) (k:=i) An),gK (bK (xs:=ordL) (k:=i) (by simpa[ordL] using hi)),he]
 omega
theorem abv_end {x:List Int}(h:Abv x 0):decide (dv x<(Lq:Int))=false:=by
 unfold Abv at h
 simp only[List.take_zero,dv] at h
 rw[decide_eq_false_iff_not]
 omega
theorem abv_ne {x:List Int}(hl:x.length=33)(hb:Byt x){i:Nat}(hi:i<32)(h:Abv x (i+1))(he:x.getD i 0≠ordL.getD i 0):decide (x.getD i 0<ordL.getD i 0)=decide (dv x<(Lq:Int)):=by
 unfold Abv at h
 have h1:=gK (bK (xs:=x) (k:=i) An)
 have h2:=gK (bK (xs:=ordL) (k:=i) (by simpa[ordL] using hi))
 have b1:=dv_byt _ (byt_take hb i)
 have b2:=dv_byt _ (byt_take ordL_byt i)
 rw[List.length_take,Nat.min_eq_left An] at b1
 rw[List.length_take,Nat.min_eq_left (by simp[ordL];omega)] at b2
 rw[h1,h2] at h
 generalize x.getD i 0=a at *
 generalize ordL.getD i 0=b at *
 generalize (256:Int)^i=T at *
 have hT:0<T:=An
 rw[decide_eq_decide]
 constructor
 ·intro hab
  have:(a+1)*T≤b*T:=Int.mul_le_mul_of_nonneg_right An An
  rw[Int.add_mul,Int.one_mul] at this
  omega
 ·intro hd
  rcases Int.lt_trichotomy a b with h3|h3|h3
  ·exact h3
  ·exact absurd h3 he
  ·have:(b+1)*T≤a*T:=Int.mul_le_mul_of_nonneg_right An An
   rw[Int.add_mul,Int.one_mul] at this
   omega
theorem big_not {x:List Int}(hl:x.length=33)(hb:Byt x)(h0:0<x.getD 32 0):decide (dv x<(Lq:Int))=false:=by
 have h:=gK (bK (xs:=x) (k:=32) An)
 have b1:=dv_byt _ (byt_take hb 32)
 have hp:=Lq_pow
 rw[List.take_of_length_le An] at h
 generalize x.getD 32 0=a at *
 generalize (256:Int)^32=T at *
 have:1*T≤a*T:=Int.mul_le_mul_of_nonneg_right An An
 rw[decide_eq_false_iff_not]
 omega
theorem enOrdR (args:Array Value)(w:World):(callFunc 143 args).run Tryz.prog w=.ok (.enter 143 args) w:=Bt
@[irreducible] def ordA:Array Value:=(ivs ordL).toArray
@[irreducible] def zer32:Array Value:=(ivs (List.replicate 32 0)).toArray
theorem zero32v (w:World):(zeroValue 184).run Tryz.prog w=.ok (.agg zer32) w:=by unfold zer32;kernel_rfl
theorem ordA_eq:ordA=(ivs ordL).toArray:=by unfold ordA;rfl
theorem ordA_size:ordA.size=32:=by unfold ordA;rfl
theorem ordA_get {k:Nat}(h:k<32):ordA[k]?=some (.int .i64 (ordL.getD k 0)):=by
 rw[ordA_eq]
 exact ivs_get (bK h)
theorem wl_run {P:Program}{ops:Array Oper}{rest:List Oper}{o:Oper}{a:Act}{w:World}{Q:Exit→Act→World→Prop}(hgd:o.guard=none){v:Value}(hrun:(execOp a.eval o).run P w=.ok (.value v) w)
  (h:wpList P ops Q rest (a.put o.dst v) w):wpList P ops Q (o::rest) a w:=
 wpList_plain hgd fun K hK=>by
  unfold Oper.wp
  rw[hrun,Oper.upon_value]
  exact hK _ _ h
theorem order_r (w:World):Calls Tryz.prog 143 #[] w fun e w'=>e=.returned (.agg ordA)∧Below w.heap.size w w':=by
 have HS0:=aA ((St.init w NoB).alloc zer32 184)
 have hz:=zero32v
 go_enter Tryz.func143,Tryz.ntmps143
 go_upto_region 1 with fail
 refine wp_region_list ?_
 refine wl_run rfl (v:=.agg ordA) Fb ?_
 refine wpList_store_row rfl 184 (.tmp 0) (.tmp 1) rfl w.heap.size ordA rfl rfl 184 zer32 (HS0.out.heap 0 rfl) Fb (by unfold ordA zer32;rfl) Fb ?_
 refine wpList_nil ?_
 have HS:=aA (HS0.out.setRow 0 rfl ordA)
 go_wp2_with fail
 refine bodyPost_ret (results_cell_row rfl _ _ w.heap.size _ _ _ _ rfl (HS.out.heap 0 rfl) Tryz.underlying184 rfl Fb) rfl ?_
 exact⟨rfl,HS.out.below⟩
section
variable {P : Program} {ops : Array Oper} {rest : List Oper} {o : Oper} {a : Act} {w : World} {Q : Exit → Act → World → Prop}
theorem wl_callN (hgd:o.guard=none){f:FuncId}{xs:List Operand}{ts:Array TypeId}{vs:List Value}{R:Ending→World→Prop}
  (ho:o.op=.call { callee:=.value (.func f),args:=xs.toArray,argTypes:=ts })(hf:∀(args:Array Value) (w:World),(callFunc f args).run P w=.ok (.enter f args) w)
  (hx:xs.map a.eval=vs)(hc:Calls P f vs.toArray w R)(h:∀e w',R e w'→∃v,e=.returned v∧wpList P ops Q rest (a.put o.dst v) w'):wpList P ops Q (o::rest) a w:=
 wpList_plain hgd fun _ hK=>bG ho hf hx hc fun e w' hr=>by
  obtain⟨v,he,hk⟩:=h e w' hr
  exact⟨v,he,hK _ _ hk⟩
end
def BlRel (w:World)(g:Nat)(xs:List Int)(iv:Value)(wr:World):Prop:=
 ∃j:Nat,j≤32∧iv=.int .i64 ((j:Int) - 1)∧Abv xs j∧St w NoB wr [.cells g ordA 184,.cells w.heap.size (ivs xs).toArray 186]
theorem below_r (xs:List Int)(w:World)(hl:xs.length=33)(hb:Byt xs) :
  Calls Tryz.prog 144 #[.agg (ivs xs).toArray] w fun e w'=>e=.returned (.bool (decide (dv xs<(Lq:Int))))∧Below w.heap.size w w':=by
 have HL:=aA hl
 have HB:=aA hb
 obtain⟨bb,hbb⟩:∃b,b=decide (dv xs<(Lq:Int)):=⟨_,rfl⟩
 rw[←hbb]
 have HBB:=aA hbb
 have HS0:=aA ((St.init w NoB).alloc (ivs xs).toArray 186)
 have hz:=zero32v
 clear hl hb hbb
 go_enter Tryz.func144,Tryz.ntmps144
 go_upto_region 1 with fail
 refine wp_region_list ?_
 refine wl_callN rfl rfl enOrdR rfl (order_r _) ?_
 rintro e w1 ⟨rfl,hb1⟩
 refine⟨_,rfl,?_⟩
 have HS1:=aA (HS0.out.call hb1)
 refine wpList_plain rfl ?_
 intro K hK
 go_simp
 refine hK _ _ ?_
 clear hK K
 have HS2:=aA (HS1.out.alloc zer32 184)
 obtain⟨g,hg⟩:∃g,g=w1.heap.size:=⟨_,rfl⟩
 rw[←hg] at HS2
 have HS3:=aA (show St w NoB _ [.cells g ordA 184,.cells w.heap.size (ivs xs).toArray 186] from HS2.out.setRow 0 rfl ordA)
 refine wpList_store_row rfl 184 (.tmp 3) (.tmp 5) rfl g ordA (by rw[hg];rfl) rfl 184 _ (HS2.out.heap 0 rfl) (by rw[ordA_size];kernel_rfl) (by rw[ordA_size];unfold zer32;rfl) Fb ?_
 refine wpList_nil ?_
 have hgE:w1.heap.size=g:=hg.symm
 simp only[hgE]
 generalize ((w1.alloc (.cells zer32 184)).setRow g ordA)=wq at HS3 ⊢
 clear hgE hg HS2 HS1 hb1 hz
 have c32:wq.cell? ⟨w.heap.size,32,none⟩=some (.int .i64 (xs.getD 32 0)):=by rw[HS3.out.cell 1 rfl 32];exact ivs_get (bK Dp)
 have h32:=eG HB.out 32
 have HAB:=aA (fun h0=>abv_start HL.out h0)
 have HBG:=aA (fun h0=>big_not HL.out HB.out h0)
 obtain⟨t,ht⟩:∃t,t=xs.getD 32 0:=⟨_,rfl⟩
 rw[←ht] at c32 h32 HAB HBG
 clear ht
 by_cases ht0:0<t
 ·have d0:decide (0<t)=true:=by simp;omega
  have hbf:=HBB.out
  rw[HBG.out ht0] at hbf
  subst hbf
  go_wp2_with fail
  go_ret
  exact⟨rfl,HS3.out.below⟩
 ·have d0:decide (0<t)=false:=by simp;omega
  have HA:=aA (HAB.out An)
  clear ht0 HAB HBG
  go_wp2_with fail
  go_loopw [4] (fun i wr=>BlRel w g xs i wr) (fun i _=>(intOf i+1).toNat)
  case atStart=>exact⟨32,An,rfl,HA.out,HS3.out⟩
  case round =>
   clear HS3 c32 h32 d0 HA
   obtain⟨j,hj,rfl,hA,hS⟩:=hrel
   have HA:=aA hA
   have HS:=aA hS
   cases j with
   | zero =>
    have hbf:=HBB.out
    rw[abv_end hA] at hbf
    subst hbf
    clear hA hS
    go_wp2_with fail
    go_ret
    exact⟨rfl,HS.out.below⟩
   | succ i =>
    have dj:decide ((0:Int)≤(i:Int))=true:=B0
    have i33:(i:Int)<33:=An
    have i32:(i:Int)<32:=An
    have e1:(((i+1:Nat):Int) - 1)=(i:Int):=An
    have c0:wr.drew.cell? ⟨w.heap.size,i,none⟩=some (.int .i64 (xs.getD i 0)):=by rw[hS.drew.cell 1 rfl i];exact ivs_get (bK Dp)
    have c1:wr.drew.cell? ⟨g,i,none⟩=some (.int .i64 (ordL.getD i 0)):=by rw[hS.drew.cell 0 rfl i];exact ordA_get An
    have HST:=aA (fun he=>abv_step HL.out (i:=i) An hA he)
    have HNE:=aA (fun he=>abv_ne HL.out HB.out (i:=i) An hA he)
    rw[←HBB.out] at HNE
    obtain⟨x,hx⟩:∃x,x=xs.getD i 0:=⟨_,rfl⟩
    obtain⟨y,hy⟩:∃x,x=ordL.getD i 0:=⟨_,rfl⟩
    rw[←hx] at c0 HST HNE
    rw[←hy] at c1 HST HNE
    clear hx hy hA hS
    simp only[e1]
    by_cases hxy:x=y
    ·have dn:(x !=y)=false:=by simp[hxy]
     have dn2:decide (x=y)=true:=by simp[hxy]
     have HA2:=aA (HST.out hxy)
     subst hxy
     clear HST HNE
     go_upto_region 7 with fail
     refine aD [(0,1),(1,1),(2,0),(3,1),(4,1),(5,0),(6,1)] Bt Bt (fun _ _ _ _ h=>h) ?_
     go_wp2_with (first|(refine wpT_nil ?_)|((with_reducible refine fromT_refl ?_);(try refine nm ?_))|((with_reducible refine aE Df ?_);(try refine nm ?_))|(refine aI (v:=?_) rfl rfl ?_ ?_;rotate_left;(intro wx;go_simp;try go_bits)<;>(with_reducible rfl);(try refine nm ?_))|(refine aK (v:=?_) rfl rfl rfl ?_ ?_;rotate_left;(go_simp;try go_bits)<;>(with_reducible rfl);(try refine nm ?_))|(refine aL (v:=?_) rfl rfl ?_ ?_;rotate_left;(intro wx hx;go_simp;try go_bits)<;>(with_reducible rfl);(try refine nm ?_))|(refine aM rfl rfl ?_;intro K hK)|(refine wpT_late rfl rfl ?_;intro K hK)|(refine wpT_any rfl rfl ?_;intro K hK)|(refine wpT_skip rfl rfl ?_;(try refine nm ?_)))
     go_roundw
     case rel=>exact⟨i,An,Cg,HA2.out,HS.out.drew⟩
     case measure=>(simp[intOf])<;>omega
    ·have dn:(x !=y)=true:=by simp[hxy]
     have dn2:decide (x=y)=false:=by simp[hxy]
     have HN:=HNE.out hxy
     clear HST HNE hxy
     go_upto_region 7 with fail
     refine aD [(0,1),(1,1),(2,0),(3,1),(4,1),(5,0),(6,1)] Bt Bt (fun _ _ _ _ h=>h) ?_
     go_wp2_with (first|(refine wpT_nil ?_)|((with_reducible refine fromT_refl ?_);(try refine nm ?_))|((with_reducible refine aE Df ?_);(try refine nm ?_))|(refine aI (v:=?_) rfl rfl ?_ ?_;rotate_left;(intro wx;go_simp;try go_bits)<;>(with_reducible rfl);(try refine nm ?_))|(refine aK (v:=?_) rfl rfl rfl ?_ ?_;rotate_left;(go_simp;try go_bits)<;>(with_reducible rfl);(try refine nm ?_))|(refine aL (v:=?_) rfl rfl ?_ ?_;rotate_left;(intro wx hx;go_simp;try go_bits)<;>(with_reducible rfl);(try refine nm ?_))|(refine aM rfl rfl ?_;intro K hK)|(refine wpT_late rfl rfl ?_;intro K hK)|(refine wpT_any rfl rfl ?_;intro K hK)|(refine wpT_skip rfl rfl ?_;(try refine nm ?_)))
     refine aD [(0,1),(1,1),(2,0),(3,1),(4,1),(5,0),(6,1),(7,1)] Bt Bt (fun _ _ _ _ h=>h) ?_
     go_wp2_with (first|(refine wpT_nil ?_)|((with_reducible refine fromT_refl ?_);(try refine nm ?_))|((with_reducible refine aE Df ?_);(try refine nm ?_))|(refine aI (v:=?_) rfl rfl ?_ ?_;rotate_left;(intro wx;go_simp;try go_bits)<;>(with_reducible rfl);(try refine nm ?_))|(refine aK (v:=?_) rfl rfl rfl ?_ ?_;rotate_left;(go_simp;try go_bits)<;>(with_reducible rfl);(try refine nm ?_))|(refine aL (v:=?_) rfl rfl ?_ ?_;rotate_left;(intro wx hx;go_simp;try go_bits)<;>(with_reducible rfl);(try refine nm ?_))|(refine aM rfl rfl ?_;intro K hK)|(refine wpT_late rfl rfl ?_;intro K hK)|(refine wpT_any rfl rfl ?_;intro K hK)|(refine wpT_skip rfl rfl ?_;(try refine nm ?_)))
     go_ret
     exact⟨rfl,HS.out.drew.drew.below⟩
def MyRel (w:World)(l:List UInt8)(iv:Value)(wr:World):Prop:=
 ∃i:Nat,i≤32∧iv=.int .i64 (i:Int)∧St w NoB wr [.cells w.heap.size (ivs ((rwL l).take i++List.replicate (33 - i) 0)).toArray 186]
theorem zero33v (w:World):(zeroValue 186).run Tryz.prog w=.ok (.agg (ivs (List.replicate 33 0)).toArray) w:=Bt
theorem rwL_len (l:List UInt8):(rwL l).length=l.length:=by simp[rwL]
theorem rwL_get {l:List UInt8}{k:Nat}{c:UInt8}(h:l[k]?=some c):(rwL l)[k]?=some (c.toNat:Int):=by simp[rwL,h]
theorem part_get {xs:List Int}{n i:Nat}(hl:xs.length+1=n)(hi:i<xs.length):(xs.take i++List.replicate (n - i) 0)[i]?=some 0:=by
 have h:(xs.take i).length=i:=Cm
 rw[List.getElem?_append_right (by rw[h];exact Nat.le_refl _),h,Nat.sub_self,List.getElem?_replicate,if_pos An]
theorem part_set {xs:List Int}{n i:Nat}{x:Int}(hl:xs.length+1=n)(hx:xs[i]?=some x):(xs.take i++List.replicate (n - i) 0).set i x=xs.take (i+1)++List.replicate (n - (i+1)) 0:=by
 have hi:=(List.getElem?_eq_some_iff.1 hx).1
 have h:(xs.take i).length=i:=Cm
 rw[List.set_append_right _ _ (by rw[h];exact Nat.le_refl _),h,Nat.sub_self,show n - i=(n - (i+1))+1 from by omega,List.replicate_succ,List.set_cons_zero,List.take_add_one,hx,List.append_assoc]
 rfl
theorem enBelowR (args:Array Value)(w:World):(callFunc 144 args).run Tryz.prog w=.ok (.enter 144 args) w:=Bt
theorem mayR (A:Option Addr)(n c:Nat)(l:List UInt8)(w:World)(hl:l.length=n)(hr:Rd w (.slice A n c) 1 n (bvs l)) :
  Calls Tryz.prog 116 #[.slice A n c] w fun e w'=>e=.returned (.bool (mayS l))∧Below w.heap.size w w':=by
 have HR:=aA hr
 have HL:=aA hl
 by_cases h32:n=32
 ·subst h32
  have hz:=zero33v
  have HS0:=aA (show St w NoB _ [.cells w.heap.size (ivs ((rwL l).take 0++List.replicate (33 - 0) 0)).toArray 186] from(St.init w NoB).alloc (ivs (List.replicate 33 0)).toArray 186)
  clear hr hl
  go_enter Tryz.func116,Tryz.ntmps116
  go_wp2_with fail
  go_loopw [11] (fun i wr=>MyRel w l i wr) (fun i _=>32 - (intOf i).toNat)
  case atStart=>exact⟨0,An,rfl,HS0.out⟩
  case round =>
   clear HS0 hz
   obtain⟨i,hi,rfl,hS⟩:=hrel
   have HS:=aA hS
   by_cases hlt:i<32
   ·have d32:decide ((i:Int)<32)=true:=by simp;omega
    have i32:(i:Int)<32:=An
    have i33:(i:Int)<33:=An
    have hxb:l[i]?=some (l.getD i 0):=by rw[List.getD_eq_getElem?_getD,gE El];rfl
    obtain⟨b,o,rfl,hcb⟩:=rd_at' (HR.out.st hS) (bE hxb)
    obtain⟨ch,hch⟩:∃c:Nat,c=(l.getD i 0).toNat:=⟨_,rfl⟩
    have hc8:ch<256:=Eb
    rw[←hch] at hcb
    have hLL:(rwL l).length+1=33:=by rw[rwL_len,HL.out]
    have c0:wr.cell? ⟨w.heap.size,i,none⟩=some (.int .i64 0):=by rw[hS.cell 0 rfl i];exact ivs_get (part_get hLL An)
    have f0:=hS.free 0 rfl i
    have HT:=aA (part_set hLL (x:=(ch:Int)) (by rw[hch];exact rwL_get hxb))
    clear hS hch hxb hLL
    go_wp2_with fail
    go_roundw
    case rel =>
     have h3:=HS.out.setCell 0 rfl i (.int .i64 (ch:Int))
     rw[List.set_cons_zero,ivs_set,HT.out] at h3
     exact⟨i+1,An,Cg,h3⟩
    case measure=>(simp[intOf])<;>omega
   ·obtain rfl:i=32:=by omega
    have hx:(rwL l).take 32++List.replicate (33 - 32) 0=rwL l++[0]:=by rw[List.take_of_length_le (by rw[rwL_len,HL.out];exact Nat.le_refl _)];rfl
    rw[hx] at hS
    have hby:Byt (rwL l++[0]):=fun x hx=>by
     rcases List.mem_append.1 hx with h|h
     ·exact rwL_byt l x h
     ·simp at h;omega
    have hlen:(rwL l++[0]).length=33:=by rw[List.length_append,rwL_len,HL.out];rfl
    have hdv:dv (rwL l++[0])=(bval l:Int):=by rw[dv_append,rwL_dv];simp[dv]
    have HB:=aA (fun W=>below_r (rwL l++[0]) W hlen hby)
    rw[hdv] at HB
    have he:mayS l=decide ((bval l:Int)<(Lq:Int)):=by
     unfold mayS
     rw[decide_eq_true HL.out,Bool.true_and,decide_eq_decide]
     omega
    rw[←he] at HB
    obtain⟨xa,hxa⟩:∃a,a=(ivs (rwL l++[0])).toArray:=⟨_,rfl⟩
    have hsz:xa.size=33:=by rw[hxa,List.size_toArray,ivs_len,hlen]
    rw[←hxa] at HB hS
    have HS1:=aA hS
    clear hS HS hx hby hlen hdv he hxa
    go_upto_region 9 with fail
    refine wp_region_list ?_
    refine wpList_load_row rfl 186 (.tmp 3) rfl w.heap.size rfl 186 xa _ _ (HS1.out.heap 0 rfl) Tryz.underlying186 rfl De ?_
    refine wl_callN rfl rfl enBelowR rfl (HB.out _) ?_
    rintro e w2 ⟨rfl,hb2⟩
    refine⟨_,rfl,?_⟩
    have HS2:=aA (HS1.out.call hb2)
    go_wp2_with fail
    go_ret
    exact⟨rfl,HS2.out.below⟩
 ·have d32:decide ((n:Int)=32)=false:=by simp;omega
  have d32b:((n:Int) !=32)=true:=A9
  have n32:¬(n:Int)=32:=An
  have hm:mayS l=false:=by
   unfold mayS
   rw[HL.out,decide_eq_false h32,Bool.false_and]
  rw[hm]
  clear hr hl h32 hm
  go_enter Tryz.func116,Tryz.ntmps116
  go_wp2_with fail
  go_ret
  exact⟨rfl,Below.refl _ _⟩
def crS (c:Int)(ys:List Int):Nat→Int
 | 0=>c
 | k+1=>(crS c ys k+ys.getD k 0)/256
def dgS (c:Int)(ys:List Int)(k:Nat):Int:=(crS c ys k+ys.getD k 0)%256
def dgL (c:Int)(ys:List Int)(k:Nat):List Int:=(List.range k).map (dgS c ys)
theorem gM (c:Int)(ys:List Int)(k:Nat):(dgL c ys k).length=k:=by simp[dgL]
theorem dgL_succ (c:Int)(ys:List Int)(k:Nat):dgL c ys (k+1)=dgL c ys k++[dgS c ys k]:=by unfold dgL;rw[List.range_succ,List.map_append];rfl
theorem dgL_byt (c:Int)(ys:List Int)(k:Nat):Byt (dgL c ys k):=fun x hx=>by
 simp only[dgL,List.mem_map] at hx
 obtain⟨j,_,rfl⟩:=hx
 unfold dgS
 omega
theorem split256 (T s:Int):T*(s%256)+T*256*(s/256)=T*s:=by
 rw[Int.mul_assoc,←Int.mul_add,Int.emod_add_mul_ediv]
theorem dgL_dv (c:Int)(ys:List Int):∀k,k≤ys.length→dv (dgL c ys k)+256^k*crS c ys k=c+dv (ys.take k)
 | 0,_=>by simp[dgL,crS,dv]
 | k+1,h=>by
  have hx:ys[k]?=some ys[k]:=gE An
  have hs:=getD_of hx
  have ih:=dgL_dv c ys k An
  rw[dgL_succ,dv_append,gM,gK hx]
  simp only[dv,Int.mul_zero,Int.add_zero,dgS,crS,hs,Int.pow_succ]
  have h1:=split256 ((256:Int)^k) (crS c ys k+ys[k])
  rw[Int.mul_add] at h1
  rw[Int.mul_comm ys[k]]
  omega
theorem crS_bd (c:Int)(ys:List Int)(hc:-4≤c∧c≤4)(hy:∀k,-512≤ys.getD k 0∧ys.getD k 0≤512):∀k,-4≤crS c ys k∧crS c ys k≤4
 | 0=>hc
 | k+1=>by
  have ih:=crS_bd c ys hc hy k
  have:=hy k
  rw[crS]
  omega
theorem dgL_all (c:Int)(ys:List Int)(hl:ys.length=33)(h0:0≤c+dv ys)(h1:c+dv ys<256^33):dv (dgL c ys 33)=c+dv ys:=by
 have h:=dgL_dv c ys 33 An
 rw[List.take_of_length_le An] at h
 have hb:=dv_byt _ (dgL_byt c ys 33)
 rw[gM] at hb
 generalize crS c ys 33=k at *
 have hT:(256:Int)^33=29642774844752946028434172162224104410437116074403984394101141506025761187823616:=Bz
 rw[hT] at h hb h1
 omega
def wkS (c:Int)(ys xs:List Int)(k:Nat):List Int:=dgL c ys k++xs.drop k
theorem wkS_get (c:Int)(ys xs:List Int)(h:xs.length=33){k:Nat}(hk:k<33):(wkS c ys xs k)[k]?=some (xs.getD k 0):=by
 unfold wkS
 rw[List.getElem?_append_right (by rw[gM];omega),gM,Nat.sub_self,List.getElem?_drop,Nat.add_zero]
 exact bK An
theorem wkS_set (c:Int)(ys xs:List Int)(h:xs.length=33){k:Nat}(hk:k<33):(wkS c ys xs k).set k (dgS c ys k)=wkS c ys xs (k+1):=by
 unfold wkS
 rw[List.set_append_right _ _ (by rw[gM];omega),gM,Nat.sub_self,List.drop_eq_getElem_cons An,List.set_cons_zero,dgL_succ,List.append_assoc]
 rfl
theorem wkS_all (c:Int)(ys xs:List Int)(h:xs.length=33):wkS c ys xs 33=dgL c ys 33:=by
 unfold wkS
 rw[List.drop_of_length_le An,List.append_nil]
def dbL (xs:List Int):List Int:=xs.map (2*·)
def sbL (xs:List Int):List Int:=List.zipWith (·- ·) xs (ordL++[0])
theorem dbL_dv:∀xs:List Int,dv (dbL xs)=2*dv xs
 | []=>rfl
 | x::xs=>by
  show 2*x+256*dv (dbL xs)=_
  rw[dbL_dv xs,dv]
  omega
theorem dv_zip:∀(xs ys:List Int),xs.length=ys.length→dv (List.zipWith (·- ·) xs ys)=dv xs - dv ys
 | [],[],_=>rfl
 | x::xs,y::ys,h=>by
  simp only[List.zipWith_cons_cons,dv,dv_zip xs ys Cb]
  omega
 | [],_::_,h=>by simp at h
 | _::_,[],h=>by simp at h
theorem sbL_dv {xs:List Int}(h:xs.length=33):dv (sbL xs)=dv xs - (Lq:Int):=by
 unfold sbL
 rw[dv_zip _ _ (by rw[h];rfl),dv_append,ordL_dv]
 simp[dv]
theorem dbL_getD {xs:List Int}(h:xs.length=33){k:Nat}:(dbL xs).getD k 0=2*xs.getD k 0:=by
 unfold dbL
 simp only[List.getD_eq_getElem?_getD,List.getElem?_map]
 cases xs[k]?<;>simp
theorem sbL_getD {xs:List Int}(h:xs.length=33){k:Nat}(hk:k<33):(sbL xs).getD k 0=xs.getD k 0 - (if k<32 then ordL.getD k 0 else 0):=by
 unfold sbL
 rw[List.getD_eq_getElem?_getD,List.getElem?_zipWith,bK An]
 rcases Nat.lt_or_ge k 32 with h32|h32
 ·rw[if_pos h32,List.getElem?_append_left (by simpa[ordL] using h32),bK (by simpa[ordL] using h32)]
  rfl
 ·obtain rfl:k=32:=by omega
  rfl
theorem dbL_bd {xs:List Int}(h:xs.length=33)(hb:Byt xs)(k:Nat):-512≤(dbL xs).getD k 0∧(dbL xs).getD k 0≤512:=by
 rw[dbL_getD h]
 have:=eG hb k
 omega
theorem sbL_bd {xs:List Int}(h:xs.length=33)(hb:Byt xs)(k:Nat):-512≤(sbL xs).getD k 0∧(sbL xs).getD k 0≤512:=by
 rcases Nat.lt_or_ge k 33 with hk|hk
 ·rw[sbL_getD h hk]
  have:=eG hb k
  have:=eG ordL_byt k
  split<;>omega
 ·rw[List.getD_eq_getElem?_getD,List.getElem?_eq_none (by unfold sbL;rw[List.length_zipWith,h];exact Nat.le_trans (Nat.min_le_left _ _) hk)]
  simp
theorem bval_bit (l:List UInt8){q r:Nat}{c:UInt8}(hc:l[q]?=some c)(hr:r<8):c.toNat/2^r%2=bval l/2^(8*q+r)%2:=by
 have hq:=(List.getElem?_eq_some_iff.1 hc).1
 have h1:bval l=bval (l.take q)+256^q*(c.toNat+256*bval (l.drop (q+1))):=by
  have e:=bval_append (l.take q) (l.drop q)
  rw[List.take_append_drop,List.length_take,Nat.min_eq_left An] at e
  rw[e,List.drop_eq_getElem_cons hq]
  rw[gE hq] at hc
  injection hc with hc
  rw[hc,bval]
 have h2:=bval_lt (l.take q)
 rw[List.length_take,Nat.min_eq_left An] at h2
 have hp:(2:Nat)^(8*q+r)=256^q*2^r:=by rw[Nat.pow_add,Nat.pow_mul]
 rw[hp,←Nat.div_div_eq_div_mul,h1,Nat.add_mul_div_left _ _ (Nat.pos_of_ne_zero An),Nat.div_eq_of_lt h2,Nat.zero_add]
 generalize bval (l.drop (q+1))=R
 generalize c.toNat=C
 match r,hr with
 | 0,_=>omega
 | 1,_=>omega
 | 2,_=>omega
 | 3,_=>omega
 | 4,_=>omega
 | 5,_=>omega
 | 6,_=>omega
 | 7,_=>omega
theorem redR_step (B i:Nat)(bit:Nat)(hbit:bit=B/2^i%2):(2*(B/2^(i+1)%Lq)+bit)%Lq=B/2^i%Lq:=by
 have h1:B/2^i=2*(B/2^(i+1))+bit:=by
  rw[hbit,Nat.pow_succ,←Nat.div_div_eq_div_mul]
  omega
 rw[h1,Nat.add_mod,Nat.mul_mod_mod,←Nat.add_mod]
def RdI (l:List UInt8)(j:Nat)(xs:List Int):Prop:=xs.length=33∧Byt xs∧dv xs=((bval l/2^j%Lq:Nat):Int)
def RjRel (w:World)(l:List UInt8)(g3 g4:Nat)(iv:Value)(wr:World):Prop:=
 ∃(j:Nat) (xs:List Int),j≤8*l.length∧iv=.int .i64 ((j:Int) - 1)∧RdI l j xs∧St w NoB wr [.cells g4 (ivs xs).toArray 186,.cells g3 ordA 184]
def RkRel (w:World)(c:Int)(ys xs:List Int)(g3 g4:Nat)(cv kv:Value)(wr:World):Prop:=
 ∃k:Nat,k≤33∧kv=.int .i64 (k:Int)∧cv=.int .i64 (crS c ys k)∧St w NoB wr [.cells g4 (ivs (wkS c ys xs k)).toArray 186,.cells g3 ordA 184]
def RoRel (w:World)(xs:List Int)(g4 gb:Nat)(kv:Value)(wr:World):Prop:=
 ∃k:Nat,k≤32∧kv=.int .i64 (k:Int)∧St w NoB wr [.row (.slice (some ⟨gb,0,none⟩) 32 32) 5 1 32 (bvs ((xs.take k).map (fun x:Int=>UInt8.ofNat x.toNat)++List.replicate (32 - k) 0)),.cells g4 (ivs xs).toArray 186]
theorem reduceR (A:Option Addr)(n c:Nat)(l:List UInt8)(w:World)(hl:l.length=n)(hn:n≤64)(hr:Rd w (.slice A n c) 1 n (bvs l)) :
  Calls Tryz.prog 104 #[.slice A n c] w fun e w'=>∃B d,e=.returned (.slice B 32 d)∧Below w.heap.size w w'∧w'.ownsRow w.heap.size 5 1 (.slice B 32 d) 32 (bvs (redL l)):=by
 have HR:=aA hr
 have HL:=aA hl
 have HN:=aA hn
 have dn:decide (64<(n:Int))=false:=A9
 have n64:(n:Int)≤64:=An
 have hz:=zero32v
 have hz3:=zero33v
 have w8:wrap64 (8*(n:Int))=8*(n:Int):=IntWalk.wrap64_in _ ⟨An,An⟩
 clear hr hl hn
 go_enter Tryz.func104,Tryz.ntmps104
 go_upto_region 3 with fail
 refine wp_region_list ?_
 refine wl_callN rfl rfl enOrdR rfl (order_r _) ?_
 rintro e w1 ⟨rfl,hb1⟩
 refine⟨_,rfl,?_⟩
 have HS1:=aA ((St.init w NoB).call hb1)
 refine wpList_plain rfl ?_
 intro K hK
 go_simp
 refine hK _ _ ?_
 clear hK K
 have HS2:=aA (HS1.out.alloc zer32 184)
 obtain⟨g3,hg⟩:∃g,g=w1.heap.size:=⟨_,rfl⟩
 rw[←hg] at HS2
 have HS3:=aA (show St w NoB _ [.cells g3 ordA 184] from HS2.out.setRow 0 rfl ordA)
 refine wpList_store_row rfl 184 (.tmp 3) (.tmp 15) rfl g3 ordA (by rw[hg];rfl) rfl 184 _ (HS2.out.heap 0 rfl) (by rw[ordA_size];kernel_rfl) (by rw[ordA_size];unfold zer32;rfl) Fb ?_
 refine wpList_nil ?_
 have hgE:w1.heap.size=g3:=hg.symm
 simp only[hgE]
 generalize ((w1.alloc (.cells zer32 184)).setRow g3 ordA)=wq at HS3 ⊢
 clear hgE hg HS2 HS1 hb1 hz
 have HS4:=aA (HS3.out.alloc (ivs (List.replicate 33 0)).toArray 186)
 go_wp2_with fail
 obtain⟨g4,hg⟩:∃g,g=wq.heap.size:=⟨_,rfl⟩
 rw[←hg] at HS4 ⊢
 clear hg HS3 hz3
 have hI0:RdI l (8*n) (List.replicate 33 0):=by
  refine⟨rfl,fun x hx=>by have:=(List.mem_replicate.1 hx).2;omega,?_⟩
  have hb:=bval_lt l
  rw[HL.out] at hb
  rw[Nat.div_eq_of_lt (by rw[Nat.pow_mul];exact hb),Nat.zero_mod]
  decide
 have HI0:=aA hI0
 clear hI0
 go_loopw [5] (fun i wr=>RjRel w l g3 g4 i wr) (fun i _=>(intOf i+1).toNat)
 case atStart=>exact⟨8*n,_,Dp,Cg,HI0.out,HS4.out⟩
 case round =>
  clear HS4 HI0 w8
  obtain⟨j,xs,hj,rfl,hI,hS⟩:=hrel
  rw[HL.out] at hj
  have HS:=aA hS
  have HI:=aA hI
  clear hS hI
  cases j with
  | zero =>
   have d0:decide ((0:Int)≤-1)=false:=Bz
   have hI:=HI.out
   have hV:dv xs=((bval l%Lq:Nat):Int):=by rw[hI.2.2,Nat.pow_zero,Nat.div_one]
   have hV2:0≤dv xs∧dv xs<(Lq:Int):=by
    rw[hV]
    have:=Nat.mod_lt (bval l) (Lq_lt.2)
    omega
   have hx:=gK (bK (xs:=xs) (k:=32) (by rw[hI.1];omega))
   have hb32:=dv_byt _ (byt_take hI.2.1 32)
   rw[List.length_take,hI.1] at hb32
   rw[List.take_of_length_le (by rw[hI.1];omega)] at hx
   have hx32:=eG hI.2.1 32
   have hT:dv (xs.take 32)=dv xs:=by
    have h4:=Lq_pow.1
    rw[show min 32 33=32 from rfl] at hb32
    generalize xs.getD 32 0=t at *
    generalize (256:Int)^32=T at *
    rcases Int.lt_or_le 0 t with h0|h0
    ·have:1*T≤t*T:=Int.mul_le_mul_of_nonneg_right An An
     omega
    ·obtain rfl:t=0:=by omega
     omega
   have hout:(xs.take 32).map (fun x:Int=>UInt8.ofNat x.toNat)=redL l:=by
    have h:=byt_leB _ (byt_take hI.2.1 32)
    rw[List.length_take,hI.1,hT,hV] at h
    rw[h]
    unfold redL
    rfl
   have HOUT:=aA hout
   clear hI hV hV2 hx hb32 hx32 hT hout hj
   go_upto_region 27 with(refine wl_makeB (n:=32) rfl rfl Tryz.underlying22 infoB HS.out rfl rfl Bz ?_;intro gb w6 hS6 hb6;have HS6:=aA hS6;clear hS6 hb6)
   have HS7:=aA (HS6.out.pickL [0,1] Bz rfl:St w NoB w6 [.row (.slice (some ⟨gb,0,none⟩) 32 32) 5 1 32 (bvs (List.replicate 32 0)),.cells g4 (ivs xs).toArray 186])
   clear HS6 HS
   go_wp2_with fail
   go_loopw [79] (fun k wr=>RoRel w xs g4 gb k wr) (fun k _=>32 - (intOf k).toNat)
   case atStart=>exact⟨0,An,rfl,HS7.out⟩
   case round =>
    clear HS7
    obtain⟨k,hk,rfl,hS⟩:=hrel
    have HS:=aA hS
    by_cases hlt:k<32
    ·have d32:decide ((k:Int)<32)=true:=by simp;omega
     have k32:(k:Int)<32:=An
     have k33:(k:Int)<33:=An
     have c0:wr.cell? ⟨g4,k,none⟩=some (.int .i64 (xs.getD k 0)):=by rw[hS.cell 1 rfl k];exact ivs_get (bK (by rw[HI.out.1];omega))
     have hne:gb≠g4:=fun e=>hS.apart 0 1 _ _ g4 Bz rfl rfl (by rw[e];rfl) rfl
     have hne2:g4≠gb:=fun e=>hne e.symm
     obtain⟨g',c',hv,_,_,hcell,hfree,_⟩:=hS.rowOpen 0 rfl An
     injection hv with hv1 _ hv3
     injection hv1 with hv1
     injection hv1 with hv1
     subst hv1 hv3
     have hlen:((xs.take k).map (fun x:Int=>UInt8.ofNat x.toNat)).length=k:=by rw[List.length_map,List.length_take,HI.out.1];omega
     have ce:=hcell k (.int .u8 ((0:UInt8).toNat:Int)) (bE (by rw[List.getElem?_append_right (by rw[hlen];exact Nat.le_refl _),hlen,Nat.sub_self,List.getElem?_replicate,if_pos An]))
     have fe:=hfree k
     have hxb:=eG HI.out.2.1 k
     obtain⟨x,hx⟩:∃x:Nat,(x:Int)=xs.getD k 0:=⟨(xs.getD k 0).toNat,An⟩
     rw[←hx] at c0 hxb
     have x256:(x:Int)<256:=hxb.2
     have hT:((xs.take k).map (fun x:Int=>UInt8.ofNat x.toNat)++List.replicate (32 - k) 0).set k (UInt8.ofNat x)=(xs.take (k+1)).map (fun x:Int=>UInt8.ofNat x.toNat)++List.replicate (32 - (k+1)) 0:=by
      rw[List.set_append_right _ _ (by rw[hlen];exact Nat.le_refl _),hlen,Nat.sub_self,show 32 - k=(32 - (k+1))+1 from by omega,List.replicate_succ,List.set_cons_zero,List.take_add_one,bK (by rw[HI.out.1];omega),←hx,Option.toList_some,List.map_append,List.append_assoc]
      rfl
     have hRow:=hS.rowSet 0 rfl k (.int .u8 (x:Int)) An
     rw[List.set_cons_zero,fG _ _ _ An,hT] at hRow
     have HRow:=aA hRow
     clear hcell hfree hlen hx hxb hT hRow hS
     go_wp2_with fail
     go_roundw
     case rel=>exact⟨k+1,An,Cg,HRow.out⟩
     case measure=>(simp[intOf])<;>omega
    ·obtain rfl:k=32:=by omega
     rw[HOUT.out,Nat.sub_self,List.replicate_zero,List.append_nil] at hS
     have HS9:=aA hS
     clear hS HS
     go_wp2_with fail
     go_ret
     exact⟨_,_,rfl,HS9.out.below,HS9.out.ownsRow 0 rfl⟩
  | succ i =>
   have hn:=HN.out
   have HJ:=aA hj
   have e1:(((i+1:Nat):Int) - 1)=(i:Int):=An
   simp only[e1]
   have di:decide ((0:Int)≤(i:Int))=true:=B0
   have i512:(i:Int)<512:=An
   obtain⟨q,hq⟩:∃q,q=i/8:=⟨_,rfl⟩
   obtain⟨r,hr⟩:∃r,r=i%8:=⟨_,rfl⟩
   have td:(i:Int).tdiv 8=(q:Int):=Fi
   have tm:(i:Int).tmod 8=(r:Int):=Fj
   have ed:(i:Int)/8=(q:Int):=An
   have em:(i:Int)%8=(r:Int):=An
   have qn:(q:Int)<(n:Int):=An
   have r8:(r:Int)<8:=An
   have hxb:l[q]?=some (l.getD q 0):=by rw[List.getD_eq_getElem?_getD,gE Dp];rfl
   obtain⟨b,o,rfl,hcb⟩:=rd_at' (HR.out.st HS.out) (bE hxb)
   have hbit:=bval_bit l hxb (show r<8 by omega)
   obtain⟨ch,hch⟩:∃c:Nat,c=(l.getD q 0).toNat:=⟨_,rfl⟩
   have hc8:ch<256:=Eb
   rw[←hch] at hcb hbit
   obtain⟨bt,hbt⟩:∃t,t=ch/2^r%2:=⟨_,rfl⟩
   obtain⟨cs,hcs⟩:∃t,t=ch/2^r:=⟨_,rfl⟩
   have s1:(ch:Int)/2^r=(cs:Int):=Eh
   have cs8:(cs:Int)<256:=Ei
   have s2:bits .and .i64 (cs:Int) 1=(bt:Int):=by rw[i64_and1,hbt,←hcs];omega
   have bt2:bt<2:=An
   have bti:(bt:Int)<2:=An
   have hstep:=redR_step (bval l) i bt (by rw[hbt,hbit];congr 3;omega)
   have HST:=aA hstep
   clear hq hr hxb hch hbit hbt hcs hstep hj hn e1
   go_wp2_with fail
   go_loopw [6,35] (fun cv kv wr=>RkRel w (bt:Int) (dbL xs) xs g3 g4 cv kv wr) (fun _ k _=>33 - (intOf k).toNat)
   case atStart=>exact⟨0,An,rfl,rfl,HS.out⟩
   case round =>
    clear HS
    obtain⟨k,hk,rfl,rfl,hS⟩:=hrel
    have HS:=aA hS
    by_cases hlt:k<33
    ·have d33:decide ((k:Int)<33)=true:=by simp;omega
     have k33:(k:Int)<33:=An
     have c0:wr.cell? ⟨g4,k,none⟩=some (.int .i64 (xs.getD k 0)):=by rw[hS.cell 0 rfl k];exact ivs_get (wkS_get _ _ xs HI.out.1 hlt)
     have f0:=hS.free 0 rfl k
     have hcb:=crS_bd (bt:Int) (dbL xs) An (dbL_bd HI.out.1 HI.out.2.1) k
     have hxb:=eG HI.out.2.1 k
     have HT:=aA (wkS_set (bt:Int) (dbL xs) xs HI.out.1 hlt)
     have hD:dgS (bt:Int) (dbL xs) k=(crS (bt:Int) (dbL xs) k+(dbL xs).getD k 0)%256:=rfl
     have hE:crS (bt:Int) (dbL xs) (k+1)=(crS (bt:Int) (dbL xs) k+(dbL xs).getD k 0)/256:=rfl
     rw[dbL_getD HI.out.1] at hD hE
     obtain⟨cc,hcc⟩:∃x,x=crS (bt:Int) (dbL xs) k:=⟨_,rfl⟩
     obtain⟨x,hx⟩:∃y,y=xs.getD k 0:=⟨_,rfl⟩
     obtain⟨D,hDD⟩:∃y,y=dgS (bt:Int) (dbL xs) k:=⟨_,rfl⟩
     obtain⟨E,hEE⟩:∃y,y=crS (bt:Int) (dbL xs) (k+1):=⟨_,rfl⟩
     rw[←hcc] at hD hE hcb
     rw[←hx] at hD hE hxb c0
     rw[←hDD] at hD HT
     rw[←hEE] at hE
     simp only[←hcc]
     have HEE:=aA hEE
     have a1:bits .and .i64 (cc+2*x) 255=D:=by rw[i64_and255];exact hD.symm
     have a2:(cc+2*x)/256=E:=hE.symm
     obtain⟨b0,b1⟩:=hcb
     obtain⟨b2,b3⟩:=hxb
     clear hD hE hcc hx hDD hEE hS
     go_wp2_with fail
     go_roundw
     case rel =>
      have h3:=HS.out.setCell 0 rfl k (.int .i64 D)
      rw[List.set_cons_zero,ivs_set,HT.out] at h3
      exact⟨k+1,An,Cg,by rw[HEE.out],h3⟩
     case measure=>(simp[intOf])<;>omega
    ·obtain rfl:k=33:=by omega
     have hI:=HI.out
     rw[wkS_all _ _ xs hI.1] at hS
     have hV:0≤(bt:Int)+dv (dbL xs)∧(bt:Int)+dv (dbL xs)<256^33∧dv (dbL xs)=2*dv xs∧dv xs<(Lq:Int):=by
      have h1:=dbL_dv xs
      have h2:=dv_byt _ hI.2.1
      have h3:dv xs<(Lq:Int):=by
       rw[hI.2.2]
       have:=Nat.mod_lt (bval l/2^(i+1)) (Lq_lt.2)
       omega
      have h4:=Lq_pow.1
      have h5:(256:Int)^33=256^32*256:=Int.pow_succ _ _
      omega
     have hdv:=dgL_all (bt:Int) (dbL xs) (by unfold dbL;rw[List.length_map];exact hI.1) hV.1 hV.2.1
     rw[hV.2.2.1] at hdv
     obtain⟨ds,hds⟩:∃d,d=dgL (bt:Int) (dbL xs) 33:=⟨_,rfl⟩
     have hdl:ds.length=33:=by rw[hds];exact gM _ _ _
     have hdb:Byt ds:=by rw[hds];exact dgL_byt _ _ _
     rw[←hds] at hS hdv
     have HB:=aA (fun W=>below_r ds W hdl hdb)
     have HDL:=aA hdl
     have HDB:=aA hdb
     have HDV:=aA hdv
     have HVV:=aA hV.2.2.2
     obtain⟨da,hda⟩:∃a,a=(ivs ds).toArray:=⟨_,rfl⟩
     have hsz:da.size=33:=by rw[hda,List.size_toArray,ivs_len,hdl]
     have HS1:=aA hS
     rw[←hda] at HB
     have HS2:=aA (show St w NoB wr [.cells g4 da 186,.cells g3 ordA 184] by rw[hda];exact hS)
     obtain⟨bb,hbb⟩:∃b,b=decide (dv ds<(Lq:Int)):=⟨_,rfl⟩
     rw[←hbb] at HB
     have HBB:=aA hbb
     clear hS hI hV hdv hds hdl hdb hda HS hbb
     go_upto_region 15 with fail
     refine wp_region_list ?_
     refine wpList_load_row rfl 186 (.tmp 4) rfl g4 rfl 186 da _ _ (HS2.out.heap 0 rfl) Tryz.underlying186 rfl De ?_
     refine wl_callN rfl rfl enBelowR rfl (HB.out _) ?_
     rintro e w5 ⟨rfl,hb5⟩
     refine⟨_,rfl,?_⟩
     have HS:=aA (HS1.out.call hb5)
     clear HS1 HS2 HB hb5
     cases bb with
     | true =>
      have hlt:=of_decide_eq_true HBB.out.symm
      have HR2:=aA (show RdI l i ds from⟨HDL.out,HDB.out,by
       have h:=HDV.out
       have h2:=HI.out.2.2
       rw[←HST.out]
       generalize bval l/2^(i+1)%Lq=V at *
       rw[h2] at h
       rw[h] at hlt ⊢
       rw[Nat.mod_eq_of_lt An]
       omega⟩)
      clear hlt HBB
      go_wp2_with fail
      go_roundw
      case rel=>exact⟨i,ds,by (have:=HJ.out);(rw[HL.out]);omega,Cg,HR2.out,HS.out⟩
      case measure=>(simp[intOf])<;>omega
     | false =>
      have hge:=of_decide_eq_false HBB.out.symm
      have HGE:=aA hge
      clear hge HBB
      go_wp2_with fail
      go_loopw [8,54] (fun cv kv wr=>RkRel w 0 (sbL ds) ds g3 g4 cv kv wr) (fun _ k _=>33 - (intOf k).toNat)
      case atStart=>exact⟨0,An,rfl,rfl,HS.out⟩
      case round =>
       clear HS
       obtain⟨k,hk,rfl,rfl,hS⟩:=hrel
       have HS:=aA hS
       by_cases hlt:k<33
       ·have d33:decide ((k:Int)<33)=true:=by simp;omega
        have k33:(k:Int)<33:=An
        have c0:wr.cell? ⟨g4,k,none⟩=some (.int .i64 (ds.getD k 0)):=by rw[hS.cell 0 rfl k];exact ivs_get (wkS_get _ _ ds HDL.out hlt)
        have f0:=hS.free 0 rfl k
        have hcb:=crS_bd 0 (sbL ds) An (sbL_bd HDL.out HDB.out) k
        have hxb:=eG HDB.out k
        have HT:=aA (wkS_set 0 (sbL ds) ds HDL.out hlt)
        have hD:dgS 0 (sbL ds) k=(crS 0 (sbL ds) k+(sbL ds).getD k 0)%256:=rfl
        have hE:crS 0 (sbL ds) (k+1)=(crS 0 (sbL ds) k+(sbL ds).getD k 0)/256:=rfl
        rw[sbL_getD HDL.out hlt] at hD hE
        have hob:=eG ordL_byt k
        obtain⟨cc,hcc⟩:∃x,x=crS 0 (sbL ds) k:=⟨_,rfl⟩
        obtain⟨x,hx⟩:∃y,y=ds.getD k 0:=⟨_,rfl⟩
        obtain⟨D,hDD⟩:∃y,y=dgS 0 (sbL ds) k:=⟨_,rfl⟩
        obtain⟨E,hEE⟩:∃y,y=crS 0 (sbL ds) (k+1):=⟨_,rfl⟩
        rw[←hcc] at hD hE hcb
        rw[←hx] at hD hE hxb c0
        rw[←hDD] at hD HT
        rw[←hEE] at hE
        simp only[←hcc]
        have HEE:=aA hEE
        obtain⟨b0,b1⟩:=hcb
        obtain⟨b2,b3⟩:=hxb
        by_cases h32:k<32
        ·have d32:decide ((k:Int)<32)=true:=by simp;omega
         have k32:(k:Int)<32:=An
         have c1:wr.cell? ⟨g3,k,none⟩=some (.int .i64 (ordL.getD k 0)):=by rw[hS.cell 1 rfl k];exact ordA_get h32
         rw[if_pos h32] at hD hE
         obtain⟨y,hy⟩:∃y,y=ordL.getD k 0:=⟨_,rfl⟩
         rw[←hy] at hD hE hob c1
         obtain⟨b4,b5⟩:=hob
         have a1:bits .and .i64 (cc+x - y) 255=D:=by rw[i64_and255,hD];congr 1;omega
         have a2:(cc+x - y)/256=E:=by rw[hE];congr 1;omega
         clear hD hE hcc hx hDD hEE hS hy
         go_wp2_with fail
         go_roundw
         case rel =>
          have h3:=HS.out.setCell 0 rfl k (.int .i64 D)
          rw[List.set_cons_zero,ivs_set,HT.out] at h3
          exact⟨k+1,An,Cg,by rw[HEE.out],h3⟩
         case measure=>(simp[intOf])<;>omega
        ·obtain rfl:k=32:=by omega
         rw[if_neg h32,Int.sub_zero] at hD hE
         have a1:bits .and .i64 (cc+x) 255=D:=by rw[i64_and255,hD]
         have a2:(cc+x)/256=E:=hE.symm
         clear hD hE hcc hx hDD hEE hS hob h32
         go_wp2_with fail
         go_roundw
         case rel =>
          have h3:=HS.out.setCell 0 rfl 32 (.int .i64 D)
          rw[List.set_cons_zero,ivs_set,HT.out] at h3
          exact⟨33,An,rfl,by rw[HEE.out],h3⟩
         case measure=>(simp[intOf])<;>omega
       ·obtain rfl:k=33:=by omega
        rw[wkS_all _ _ ds HDL.out] at hS
        have hsv:=sbL_dv HDL.out
        have hge:=HGE.out
        have hdv:=HDV.out
        have hvv:=HVV.out
        have hlp:=Lq_pow
        have h2:=dgL_all 0 (sbL ds) (by unfold sbL;rw[List.length_zipWith,HDL.out];rfl) (by rw[hsv];omega) (by
         rw[hsv]
         have h5:(256:Int)^33=256^32*256:=Int.pow_succ _ _
         omega)
        have HR2:=aA (show RdI l i (dgL 0 (sbL ds) 33) from⟨gM _ _ _,dgL_byt _ _ _,by
         rw[h2,hsv,hdv,HI.out.2.2,←HST.out]
         rw[HI.out.2.2] at hdv hvv
         rw[hdv] at hge
         generalize bval l/2^(i+1)%Lq=V at *
         have e:2*V+bt=(2*V+bt - Lq)+Lq:=An
         rw[e,Nat.add_mod_right,Nat.mod_eq_of_lt An]
         omega⟩)
        have HS9:=aA hS
        clear hS HS hsv hge hdv hvv hlp h2
        go_wp2_with fail
        go_roundw
        case rel=>exact⟨i,_,by (have:=HJ.out);(rw[HL.out]);omega,Cg,HR2.out,HS9.out⟩
        case measure=>(simp[intOf])<;>omega
def muR (a:Int)(b:List Int)(i:Nat):Nat→List Int→List Int
 | 0,t=>t
 | j+1,t=>(muR a b i j t).set (i+j) ((muR a b i j t).getD (i+j) 0+a*b.getD j 0)
theorem muR_len (a:Int)(b:List Int)(i:Nat)(t:List Int):∀j,(muR a b i j t).length=t.length
 | 0=>rfl
 | j+1=>by rw[muR,List.length_set,muR_len a b i t j]
theorem muR_bd (a:Int)(b:List Int)(i:Nat)(t:List Int)(C M:Int)(hM:0≤M)(ht:∀k,0≤t.getD k 0∧t.getD k 0≤C)(hm:∀k,0≤a*b.getD k 0∧a*b.getD k 0≤M) :
  ∀(j:Nat) (k:Nat),0≤(muR a b i j t).getD k 0∧(muR a b i j t).getD k 0≤C+j*M
 | 0,k=>by have:=ht k;simp only[muR];omega
 | j+1,k=>by
  have ih:=muR_bd a b i t C M hM ht hm j
  have h1:=ih k
  have h2:=ih (i+j)
  have h3:=hm j
  rw[muR,getD_set]
  have e:((j+1:Nat):Int)*M=(j:Int)*M+M:=by rw[Int.natCast_add,Int.add_mul];omega
  rw[e]
  split<;>omega
theorem bnx {w0 w w':World}(h:Below w0.heap.size w0 w)(h2:Below w.heap.size w w'):Below w0.heap.size w0 w':=h.trans (h2.mono h.size)
def MoRel (w:World)(t:List Int)(g gb:Nat)(cv kv:Value)(wr:World):Prop:=
 ∃k:Nat,k≤64∧kv=.int .i64 (k:Int)∧cv=.int .i64 (crS 0 t k)∧St w NoB wr [.row (.slice (some ⟨gb,0,none⟩) 64 64) 5 1 64 (bvs ((dgL 0 t k).map (fun x:Int=>UInt8.ofNat x.toNat)++List.replicate (64 - k) 0)),.cells g (ivs t).toArray 188]
theorem clamp_walkR (A:Option Addr)(c:Nat)(l:List UInt8)(w:World)(hl:l.length=32)(hr:Rd w (.slice A 32 c) 1 32 (bvs l)) :
  Calls Tryz.prog 102 #[.slice A 32 c] w (iI 5 w (clampL l)):=by
 obtain⟨a,ha⟩:∃a,l[0]?=some a:=⟨l[0],gE _⟩
 obtain⟨b,hb⟩:∃b,l[31]?=some b:=⟨l[31],gE _⟩
 have e:=clampL_eq l a b ha hb
 have a2:=UInt8.toNat_lt a
 have b2:=UInt8.toNat_lt b
 have ga:=bE ha
 have gb:=bE hb
 obtain⟨an,han⟩:∃an,an=a.toNat:=⟨_,rfl⟩
 obtain⟨bn,hbn⟩:∃bn,bn=b.toNat:=⟨_,rfl⟩
 rw[←han] at e a2 ga
 rw[←hbn] at e b2 gb
 have eA:=clA_eq an a2
 have eB:=clB_eq bn b2
 have hS:=St.init w NoB
 have HR:=aA hr
 have HE:=aA e
 have HL:=aA hl
 have GA:=aA ga
 have GB:=aA gb
 have LA:=aA (clA_lt an a2)
 have LB:=aA (clB_lt bn b2)
 clear hr e hl ga gb ha hb han hbn
 go_enter Tryz.func102,Tryz.ntmps102
 go_wp2_with (at_builtin;refine bJ rfl rfl tyB hS rfl rfl HR.out (bD _) An Bz ?_;intro A1 c1 w1 hS1;obtain⟨g,c1',hv,hc1,hcm,hcs,hfr,_⟩:=hS1.rowOpen 0 rfl An;injection hv with hv1 _ hv3;subst hv1 hv3;have k0:=hcs 0 _ GA.out;have k31:=hcs 31 _ GB.out;have f0:=hfr 0;have f31:=hfr 31;have HS1:=aA hS1;clear hS1 hcs hfr)
 go_ret
 have h2:=(HS1.out.rowSet 0 rfl 0 (.int .u8 (clA an:Nat)) An).rowSet 0 rfl 31 (.int .u8 (clB bn:Nat)) An
 rw[fG _ _ _ LA.out,fG _ _ _ LB.out,←HE.out] at h2
 have h3:=dY (l:=clampL l) h2 0 rfl rfl
 exact h3
end Go.Proofs.YtnohmgpmmhlloaaGreatDoor.S3
namespace Go.Proofs.YtnohmgpmmhlloaaGreatDoor.S1
open Go.RowKit
theorem enConst2 (args:Array Value)(w:World):(callFunc 141 args).run Tryz.prog w=.ok (.enter 141 args) w:=Bt
theorem gQ (args:Array Value)(w:World):(callFunc 142 args).run Tryz.prog w=.ok (.enter 142 args) w:=Bt
def lenOf:Value→Nat
 | .slice _ n _=>n
 | _=>0
abbrev RC (g3 g4:Nat)(B:Option Addr)(m d:Nat)(x:List UInt8)(s:List Nat):List Chunk:=
 [.row (.slice B m d) 5 1 m (bvs x),.cells g4 kA 181,.cells g3 (uvs s).toArray 170]
def PadRel (w:World)(g3 g4 n:Nat)(l:List UInt8)(v:Value)(wr:World):Prop:=
 ∃(k:Nat) (B:Option Addr) (m d:Nat),k≤zsL n∧m=n+1+k∧v=.slice B m d∧St w NoB wr (RC g3 g4 B m d (l++[128]++List.replicate k 0) h0L)
theorem rep_snoc (x:List UInt8)(k:Nat):bvs (x++List.replicate k 0)++[.int .u8 0]=bvs (x++List.replicate (k+1) 0):=by
 rw[List.replicate_succ',←List.append_assoc]
 exact(bvs_snoc _ 0 Bz).symm
def LenRel (w:World)(g3 g4 N n8:Nat)(x:List UInt8)(v i:Value)(wr:World):Prop:=
 ∃(j:Nat) (B:Option Addr) (m d:Nat) (y:List UInt8),j≤8∧i=.int .i64 ((j:Int) - 1)∧v=.slice B m d∧m+j=N∧y++beL j n8=x∧St w NoB wr (RC g3 g4 B m d y h0L)
def BlkRel (w:World)(g3 g4 b o N d:Nat)(x:List UInt8)(v:Value)(wr:World):Prop:=
 ∃(i a:Nat),128*i≤N∧(128*i<N→a=o+128*i)∧v=.slice (some ⟨b,a,none⟩) (N - 128*i) (d - 128*i)∧St w NoB wr (RC g3 g4 (some ⟨b,o,none⟩) N d x (runN h0L i x))
def W4Rel (w:World)(gW:Nat)(bb:List UInt8)(H:List Chunk)(iv:Value)(wr:World):Prop:=
 ∃j:Nat,j≤16∧iv=.int .i64 (j:Int)∧St w NoB wr (.cells gW (uvs (dB bb j)).toArray 181::H)
def W5Rel (w:World)(gW j:Nat)(bb:List UInt8)(H:List Chunk)(iv:Value)(wr:World):Prop:=
 ∃t:Nat,t≤8∧iv=.int .i64 (t:Int)∧St w NoB wr (.cells gW (uvs ((dB bb j).set j (beV (((bb.drop (8*j)).take 8).take t)))).toArray 181::H)
theorem byte_at (x:List UInt8)(i j t:Nat)(h:128*i+128≤x.length)(hj:j<16)(ht:t<8) :
  ∃cc,x[128*i+(8*j+t)]?=some cc∧((((x.drop (128*i)).take 128).drop (8*j)).take 8)[t]?=some cc:=by
 have hlt:128*i+(8*j+t)<x.length:=An
 refine⟨x[128*i+(8*j+t)],gE hlt,?_⟩
 rw[List.getElem?_take_of_lt ht,List.getElem?_drop,List.getElem?_take_of_lt An,List.getElem?_drop]
 exact gE hlt
theorem schA_zero (b:List UInt8)(i:Nat)(h:i<80):(dB b i).set i 0=dB b i:=by
 apply List.ext_getElem?
 intro k
 rw[List.getElem?_set]
 split
 ·subst_vars
  rw[if_pos (by rw[hJ b _ An];exact h)]
  unfold dB
  rw[List.getElem?_append_right (by rw[cL];exact Nat.le_refl _),cL,Nat.sub_self,List.getElem?_replicate,if_pos An]
 ·rfl
theorem z80_eq (b:List UInt8):z80=(uvs (dB b 0)).toArray:=by unfold z80 dB dE;rfl
theorem beV8 (l:List UInt8)(t:Nat)(ht:t≤7)(h:t≤l.length):beV (l.take t)<72057594037927936:=by
 have h1:=beV_lt l t h
 have h2:256^t≤256^7:=Nat.pow_le_pow_right An ht
 exact Nat.lt_of_lt_of_le h1 (Nat.le_trans h2 Bz)
def W6Rel (w:World)(gW:Nat)(bb:List UInt8)(H:List Chunk)(iv:Value)(wr:World):Prop:=
 ∃j:Nat,16≤j∧j≤80∧iv=.int .i64 (j:Int)∧St w NoB wr (.cells gW (uvs (dB bb j)).toArray 181::H)
theorem spr_of (x a b s d:Nat)(hx:x<W1)(hds:d=2^s):bits .xor .u64 (bits .xor .u64 ((rot x a:Nat):Int) ((rot x b:Nat):Int)) ((x:Int)/(d:Int))=((spr x a b s:Nat):Int):=by
 subst hds
 have hd:(x:Int)/((2^s:Nat):Int)=((x/2^s:Nat):Int):=by rw[Int.natCast_ediv]
 rw[u64_xor_nat _ _ (cS _ _ hx) (cS _ _ hx),hd,u64_xor_nat _ _ (xor_lt _ _ (cS _ _ hx) (cS _ _ hx)) (Nat.lt_of_le_of_lt (Nat.div_le_self _ _) hx)]
 unfold spr
 rfl
theorem mix_of (x a b c:Nat)(hx:x<W1):bits .xor .u64 (bits .xor .u64 ((rot x a:Nat):Int) ((rot x b:Nat):Int)) ((rot x c:Nat):Int)=((mix x a b c:Nat):Int):=by
 rw[u64_xor_nat _ _ (cS _ _ hx) (cS _ _ hx),u64_xor_nat _ _ (xor_lt _ _ (cS _ _ hx) (cS _ _ hx)) (cS _ _ hx)]
 unfold mix
 rfl
def W7Rel (w:World)(g6 gW:Nat)(st ws:List Nat)(H:List Chunk)(iv:Value)(wr:World):Prop:=
 ∃j:Nat,j≤80∧iv=.int .i64 (j:Int)∧St w NoB wr (.cells g6 (uvs (rnds st ws j)).toArray 170::.cells gW (uvs ws).toArray 181::H)
def W8Rel (w:World)(g3 g4 g6 gW:Nat)(st s ws:List Nat)(B:Option Addr)(N d:Nat)(y:List UInt8)(iv:Value)(wr:World):Prop:=
 ∃j:Nat,j≤8∧iv=.int .i64 (j:Int)∧St w NoB wr (.cells g6 (uvs s).toArray 170::.cells gW (uvs ws).toArray 181::RC g3 g4 B N d y (zipP st s j))
def OutRel (w:World)(s:List Nat)(v i:Value)(wr:World):Prop:=
 ∃(j:Nat) (B:Option Addr) (d:Nat),j≤8∧i=.int .i64 (j:Int)∧v=.slice B (8*j) d∧St w NoB wr [.row (.slice B (8*j) d) 5 1 (8*j) (bvs (outL (s.take j)))]
def LenO (w:World)(N x:Nat)(T:List UInt8)(v i:Value)(wr:World):Prop:=
 ∃(t:Nat) (B:Option Addr) (m d:Nat) (y:List UInt8),t≤8∧i=.int .i64 ((t:Int) - 1)∧v=.slice B m d∧m+t=N∧y++beL t x=T∧St w NoB wr [.row (.slice B m d) 5 1 m (bvs y)]
theorem shaR_any (A:Option Addr)(n c:Nat)(l:List UInt8)(w:World)(hl:l.length=n)(hm:n≤3000)(hr:Rd w (.slice A n c) 1 n (bvs l)) :
  Calls Tryz.prog 103 #[.slice A n c] w (Sum64 w (shaL l)):=by
 have HR:=aA hr
 have HL:=aA hl
 clear hr hl
 go_enter Tryz.func103,Tryz.ntmps103
 go_upto_region 2 with fail
 have HSA:=aA ((St.init w NoB).alloc (uvs h0L).toArray 170)
 refine wp_region_list ?_
 refine wl_call rfl rfl enConst2 rfl (const2_any _) ?_
 rintro e w1 ⟨rfl,hb1⟩
 refine⟨_,rfl,?_⟩
 (try refine nm ?_)
 refine wl_allocS rfl (zs:=z80) (e:=181) (fun W=>alloc80 rfl W) (HSA.out.call hb1) ?_
 intro g4 w3 hS3
 (try refine nm ?_)
 refine wl_storeRow rfl rfl hS3 0 rfl rfl rfl (info80 _ kA_size) (z80_size.trans kA_size.symm) kA_all ?_
 intro w5 hS5
 refine wpList_nil ?_
 (try refine nm ?_)
 replace hS5:St w NoB w5 [.cells g4 kA 181,.cells w.heap.size (uvs h0L).toArray 170]:=hS5
 generalize w.heap.size=g3 at hS5 ⊢
 have HS5:=aA hS5
 clear hS3 hS5 hb1 HSA
 go_upto_region 4 with(first
  |(have _q:=HS6;at_builtin;refine bQ rfl rfl tyB HS6.out 0 rfl rfl (us:=[_]) rfl rfl ?_ ?_ Bz ?_;(intro u hu;simp only[List.mem_singleton] at hu;subst hu;rfl);(simp only[List.length_singleton];omega);intro B7 d7 w7 hS7;have HS7:=aA hS7;clear hS7)
  |(at_builtin;refine bJ rfl rfl tyB HS5.out rfl rfl (HR.out.st HS5.out) (bD _) An Bz ?_;intro B6 d6 w6 hS6;have HS6:=aA hS6;clear hS6))
 have HP0:Hid (St w NoB w7 (RC g3 g4 B7 (n+1) d7 (l++[128]++List.replicate 0 0) h0L)):=aA (by
  have h:=HS7.out
  have e:bvs l++[.int .u8 128]=bvs (l++[128]++List.replicate 0 0):=by rw[List.replicate_zero,List.append_nil];exact(bvs_snoc l 128 Bz).symm
  rw[e] at h
  exact h)
 clear HS5 HS6 HS7 _q
 have HZ:=aA (show zsL n≤127∧(n+1+zsL n)%128=112 from by unfold zsL;omega)
 have hz127:=HZ.out.1
 have hz112:=HZ.out.2
 obtain⟨z,hz⟩:∃z,z=zsL n:=⟨_,rfl⟩
 rw[←hz] at hz127 hz112
 have HZ:=aA hz
 clear hz
 go_loopw [5] (fun v wr=>PadRel w g3 g4 n l v wr) (fun v _=>(n+1+z - lenOf v))
 case atStart=>exact⟨0,B7,n+1,d7,An,rfl,rfl,HP0.out⟩
 case round =>
  clear HP0
  obtain⟨k,B,m,d,hk,hmk,rfl,hS⟩:=hrel
  rw[←HZ.out] at hk
  have hmt:(m:Int).tmod 128=((m%128:Nat):Int):=Fj
  have HS:=aA hS
  have HMK:=aA hmk
  have hmb:m≤3200:=An
  by_cases hlt:k<z
  ·have hr112:m%128≠112:=by omega
   clear hS hz112 hmk
   generalize m%128=r at hmt hr112
   have ir:((r:Int)==112)=false:=A9
   go_wp2_with (at_builtin;refine bQ rfl rfl tyB HS.out 0 rfl rfl (us:=[_]) rfl rfl ?_ ?_ Bz ?_;(intro u hu;simp only[List.mem_singleton] at hu;subst hu;rfl);(simp only[List.length_singleton];omega);intro B8 d8 w8 hS8;have HS8:=aA hS8;clear hS8)
   go_roundw
   case rel =>
    refine⟨k+1,B8,m+1,d8,by rw[←HZ.out];omega,by have:=HMK.out;omega,rfl,?_⟩
    have h:=HS8.out
    rw[rep_snoc] at h
    exact h
   case measure=>(have:=HMK.out);(simp[lenOf])<;>omega
  ·obtain rfl:k=z:=by omega
   have hr112:m%128=112:=An
   have ir:((112:Int)==112)=true:=Bz
   have H112:=aA hr112
   rw[hr112] at hmt
   clear hS hz112 hmk hr112
   go_upto_region 7 with(at_builtin;refine wl_appendZ (k:=8) (l:=l++[128]++List.replicate k 0) rfl rfl Tryz.underlying22 Tryz.underlying3 infoB HS.out 0 rfl rfl rfl An An ?_;intro B9 d9 w9 hS9;have HS9:=aA hS9;clear hS9)
   obtain⟨n8,hn8⟩:∃q,q=8*n:=⟨_,rfl⟩
   have HN8:=aA hn8
   have h8b:n8<18446744073709551616:=An
   have h8w:IntKind.u64.wrap ((n:Int)*8)=(n8:Int):=Cl
   obtain⟨x,hx⟩:∃x,x=l++padL n:=⟨_,rfl⟩
   have hT:l++[128]++List.replicate k 0++List.replicate 8 0++beL 8 n8=x:=by
    rw[hx,hn8]
    unfold padL
    rw[←HZ.out,show beL 8 0=List.replicate 8 0 from by decide +kernel]
    simp only[List.append_assoc]
   have HX:=aA hx
   have HT:=aA hT
   have HNX:Hid (x.length=m+8+8):=aA (by
    have:=congrArg List.length hT
    rw[←this]
    simp only[List.length_append,List.length_replicate,beL_len,HL.out,List.length_singleton]
    have:=HMK.out
    omega)
   clear hn8 hx hT
   go_wp2_with fail
   go_loopw [5,6] (fun v i wr=>LenRel w g3 g4 (m+8+8) n8 x v i wr) (fun _ i _=>(intOf i+1).toNat)
   case atStart=>exact⟨8,B9,m+8,d9,_,Nat.le_refl _,rfl,rfl,rfl,HT.out,HS9.out⟩
   case round =>
    clear HS9
    obtain⟨j,B2,m2,d2,y,hj,rfl,rfl,hmj,hy,hS⟩:=hrel
    have HY:=aA hy
    have HMJ:=aA hmj
    have HS2:=aA hS
    have hm2:m2≤4000:=An
    clear hy hS hmj
    cases j with
    | zero =>
     rw[show(((0:Nat):Int) - 1)=(-1:Int) from rfl]
     obtain rfl:m2=m+8+8:=by have:=HMJ.out;omega
     obtain rfl:y=x:=by have:=HY.out;rwa [beL,List.append_nil] at this
     obtain⟨N,hN⟩:∃N,N=m+8+8:=⟨_,rfl⟩
     obtain⟨Q,hQ⟩:∃Q,N=128*Q:=⟨N/128,by have:=H112.out;omega⟩
     have hN1:1≤Q:=An
     rw[←hN] at HS2 HNX ⊢
     have hNb:N≤4000:=An
     obtain⟨b,o,rfl⟩:=rd_some (HS2.out.rd 0 rfl) An
     have HNX:=aA HNX.out
     clear HMJ HY H112 hN hmt hk hlt ir hz127 h8b h8w HS HMK hmb hj hm2 HT HN8
     go_wp2_with fail
     go_loopw [5] (fun v wr=>BlkRel w g3 g4 b o N d2 y v wr) (fun v _=>lenOf v)
     case atStart=>exact⟨0,o,An,fun _=>rfl,rfl,HS2.out⟩
     case round =>
      clear HS2
      obtain⟨i,oo,hi,hoo,rfl,hS⟩:=hrel
      have HS:=aA hS
      clear hS
      by_cases hlt:128*i<N
      ·have hi1:128*i+128≤N:=by omega
       have hst:=runN_ok i h0L y h0_ok.1 h0_ok.2
       have HSN:=aA (runN_snoc i h0L y)
       obtain⟨st,hst0⟩:∃s,s=runN h0L i y:=⟨_,rfl⟩
       rw[←hst0] at HS hst HSN
       have HST:=aA hst
       obtain⟨L,hLe⟩:∃q,q=N - 128*i:=⟨_,rfl⟩
       obtain⟨d',hde⟩:∃q,q=d2 - 128*i:=⟨_,rfl⟩
       rw[←hLe,←hde]
       replace hoo:=hoo hlt
       have hdc:N≤d2:=rd_cap (HS.out.rd 0 rfl)
       have HOO:=aA hoo
       have HLE:=aA hLe
       have HDE:=aA hde
       have hL1:128≤L:=An
       have hLb:L≤4000:=An
       have hdL:L≤d':=An
       have dL:decide ((0:Int)<(L:Int))=true:=A9
       clear hoo hLe hde hst hst0
       go_upto_region 13 with fail
       refine wp_region_list ?_
       refine wl_allocS rfl (zs:=z80) (e:=181) (fun W=>alloc80 rfl W) HS.out ?_
       intro gW w3 hS3
       refine wpList_nil ?_
       (try refine nm ?_)
       obtain⟨bb,hbb⟩:∃l,l=(y.drop (128*i)).take 128:=⟨_,rfl⟩
       have hbl:bb.length=128:=by rw[hbb,List.length_take,List.length_drop,HNX.out];omega
       rw[z80_eq bb] at hS3
       rw[←hbb] at HSN
       have HBA:Hid (∀j t,j<16→t<8→∃cc,y[128*i+(8*j+t)]?=some cc∧((bb.drop (8*j)).take 8)[t]?=some cc):=aA (fun j t hj ht=>by rw[hbb];exact byte_at y i j t (by rw[HNX.out];exact hi1) hj ht)
       have HBL:=aA hbl
       have HS3:=aA hS3
       clear hS3 HS hbb hbl
       go_wp2_with fail
       go_loopw [60] (fun q wr=>W4Rel w gW bb (RC g3 g4 (some ⟨b,o,none⟩) N d2 y st) q wr) (fun q _=>16 - (intOf q).toNat)
       case atStart=>exact⟨0,An,rfl,HS3.out⟩
       case round =>
        clear HS3
        obtain⟨j,hj,rfl,hS⟩:=hrel
        by_cases hlt2:j<16
        ·rw[←schA_zero bb j An] at hS
         have HS:=aA hS
         have HSE:=aA (schA_set bb j An)
         have dj:decide ((j:Int)<16)=true:=A9
         have hj15:j≤15:=An
         have HRL:Hid (((bb.drop (8*j)).take 8).length=8):=aA (by rw[List.length_take,List.length_drop,HBL.out];omega)
         clear hS hj
         go_wp2_with fail
         go_loopw [63] (fun q wr=>W5Rel w gW j bb (RC g3 g4 (some ⟨b,o,none⟩) N d2 y st) q wr) (fun q _=>8 - (intOf q).toNat)
         case atStart=>exact⟨0,An,rfl,HS.out⟩
         case round =>
          clear HS
          obtain⟨t,ht,rfl,hS⟩:=hrel
          by_cases hlt3:t<8
          ·obtain⟨cc,hc1,hc2⟩:=HBA.out j t An hlt3
           have hV:=beV8 ((bb.drop (8*j)).take 8) t An (by rw[HRL.out];omega)
           have hVN:=beV_take hc2
           have HS:=aA hS.drew
           obtain⟨V,hVe⟩:∃q,q=beV (((bb.drop (8*j)).take 8).take t):=⟨_,rfl⟩
           rw[←hVe] at HS hV hVN
           have HVN:=aA hVN
           have HVE:=aA hVe
           have hor:=shl_or V cc.toNat hV cc.toNat_lt
           obtain⟨e,he⟩:∃q,q=8*j+t:=⟨_,rfl⟩
           rw[←he] at hc1
           obtain⟨s8,hs8⟩:∃q,q=8*j:=⟨_,rfl⟩
           have hsj:(8:Int)*(j:Int)=(s8:Int):=An
           have hse:(s8:Int)+(t:Int)=(e:Int):=An
           have he127:e≤127:=An
           have hw1:IntKind.i64.wrap (s8:Int)=(s8:Int):=Ct
           have hw2:IntKind.i64.wrap ((s8:Int)+(t:Int))=(e:Int):=Ct
           have hs120:s8≤120:=An
           have ie:(e:Int)<(L:Int):=An
           have dt:decide ((t:Int)<8)=true:=A9
           have ij:(j:Int)<80:=An
           have ct:∀z,aC wr.drew z→z.cell? ⟨gW,j,none⟩=some (.int .u64 (V:Int)):=fun z hz=>by
            rw[hz.cell (p:=⟨gW,j,none⟩) (Chunk.lt (HS.out.sat 0 _ rfl) rfl),HS.out.cell 0 rfl j]
            exact aR (by rw[List.getElem?_set,if_pos rfl,if_pos (by rw[hJ bb j An];omega)])
           have cb:∀z,aC wr.drew z→z.cell? ⟨b,oo+e,none⟩=some (.int .u8 (cc.toNat:Int)):=fun z hz=>by
            have h:=rd_at0 ((HS.out.rd 1 rfl).below hz) (bE hc1)
            rw[HOO.out,Nat.add_assoc]
            exact h
           have hcw:IntKind.u64.wrap (cc.toNat:Int)=(cc.toNat:Int):=by (have:=cc.toNat_lt);rw[IntKind.wrap_u64];omega
           have HC:=aA cc.toNat_lt
           have HSL:=aA (hJ bb j An)
           generalize cc.toNat=cn at *
           clear hS hc1 hc2 hV hVN hVe he hs8 hse
           generalize V*256+cn=V2 at *
           go_wp2_with fail
           refine aW (fun i=>i==15) (aC wr.drew) Bt ?_
           (refine mU 0 (v:=?_) (aC.refl wr.drew) ?_;(try refine nm ?_));(refine mU 1 (v:=?_) (aC.refl wr.drew) ?_;(try refine nm ?_));(refine mU 2 (v:=?_) (aC.refl wr.drew) ?_;(try refine nm ?_))
           (refine mT 3 (v:=?_) (aC.refl wr.drew) ?_;(try refine nm ?_))
           (refine mU 4 (v:=?_) (aC.refl wr.drew) ?_;(try refine nm ?_));(refine mU 5 (v:=?_) (aC.refl wr.drew) ?_;(try refine nm ?_));(refine mU 6 (v:=?_) (aC.refl wr.drew) ?_;(try refine nm ?_));(refine mU 7 (v:=?_) (aC.refl wr.drew) ?_;(try refine nm ?_));(refine mU 8 (v:=?_) (aC.refl wr.drew) ?_;(try refine nm ?_));(refine mU 9 (v:=?_) (aC.refl wr.drew) ?_;(try refine nm ?_));(refine mU 10 (v:=?_) (aC.refl wr.drew) ?_;(try refine nm ?_))
           (refine mT 11 (v:=?_) (aC.refl wr.drew) ?_;(try refine nm ?_))
           (refine mU 12 (v:=?_) (aC.refl wr.drew) ?_;(try refine nm ?_));(refine mU 13 (v:=?_) (aC.refl wr.drew) ?_;(try refine nm ?_));(refine mU 14 (v:=?_) (aC.refl wr.drew) ?_;(try refine nm ?_))
           (refine aZ (i:=15) Bt rfl rfl ?_;intro K hK;(try refine nm ?_))
           refine bO rfl rfl tyU64 HS.out 0 rfl j (by rw[List.size_toArray,cE,List.length_set,HSL.out];omega) rfl (v:=.int .u64 (V2:Int)) (by first|rfl|exact congrArg (Value.int .u64) hor) rfl ?_
           intro w9 hS9
           refine hK _ _ ?_
           clear hK K
           (try refine nm ?_)
           refine wpAny_done Bt ?_ _
           go_wp2_with fail
           go_roundw
           case rel =>
            refine⟨t+1,An,Cg,?_⟩
            have h:=hS9
            rw[List.set_cons_zero,bH,List.set_set,←HVN.out] at h
            exact h
           case measure=>(simp[intOf])<;>omega
          ·obtain rfl:t=8:=by omega
           have h8:((bb.drop (8*j)).take 8).take 8=(bb.drop (8*j)).take 8:=List.take_of_length_le (by rw[HRL.out];exact Nat.le_refl _)
           have hse:=HSE.out
           rw[if_pos An] at hse
           rw[h8,hse] at hS
           have HS:=aA hS
           clear hS h8 hse
           go_wp2_with fail
           go_roundw
           case rel=>exact⟨j+1,An,Cg,HS.out⟩
           case measure=>(simp[intOf])<;>omega
        ·obtain rfl:j=16:=by omega
         have HS4:=aA hS
         clear hS
         go_wp2_with fail
         go_loopw [10] (fun q wr=>W6Rel w gW bb (RC g3 g4 (some ⟨b,o,none⟩) N d2 y st) q wr) (fun q _=>80 - (intOf q).toNat)
         case atStart=>exact⟨16,An,An,rfl,HS4.out⟩
         case round =>
          clear HS4
          obtain⟨j,hj16,hj,rfl,hS⟩:=hrel
          by_cases hlt4:j<80
          ·have dj:decide ((j:Int)<80)=true:=by simp;omega
           have HT:=aA (schA_set bb j hlt4)
           have HS':=aA hS.drew
           obtain⟨i2,hi2⟩:∃m,m=j - 2:=⟨_,rfl⟩
           obtain⟨y2,hy2⟩:∃y,y=(dE bb j).getD i2 0:=⟨_,rfl⟩
           have g2:(dB bb j)[i2]?=some y2:=by rw[hy2];exact eZ bb j i2 An
           have b2:y2<W1:=by rw[hy2,List.getD_eq_getElem?_getD,gE Eo];exact bS bb j _ (List.getElem_mem _)
           have s2:IntKind.i64.wrap ((j:Int) - 2)=(i2:Int):=Ct
           have t2:(i2:Int)<80:=An
           have c2:∀z,aC wr.drew z→z.cell? ⟨gW,i2,none⟩=some (.int .u64 (y2:Int)):=fun z hz=>by rw[hz.cell (p:=⟨gW,i2,none⟩) (Chunk.lt (HS'.out.sat 0 _ rfl) rfl),HS'.out.cell 0 rfl i2];exact aR g2
           obtain⟨i7,hi7⟩:∃m,m=j - 7:=⟨_,rfl⟩
           obtain⟨y7,hy7⟩:∃y,y=(dE bb j).getD i7 0:=⟨_,rfl⟩
           have g7:(dB bb j)[i7]?=some y7:=by rw[hy7];exact eZ bb j i7 An
           have b7:y7<W1:=by rw[hy7,List.getD_eq_getElem?_getD,gE Eo];exact bS bb j _ (List.getElem_mem _)
           have s7:IntKind.i64.wrap ((j:Int) - 7)=(i7:Int):=Ct
           have t7:(i7:Int)<80:=An
           have c7:∀z,aC wr.drew z→z.cell? ⟨gW,i7,none⟩=some (.int .u64 (y7:Int)):=fun z hz=>by rw[hz.cell (p:=⟨gW,i7,none⟩) (Chunk.lt (HS'.out.sat 0 _ rfl) rfl),HS'.out.cell 0 rfl i7];exact aR g7
           obtain⟨i15,hi15⟩:∃m,m=j - 15:=⟨_,rfl⟩
           obtain⟨y15,hy15⟩:∃y,y=(dE bb j).getD i15 0:=⟨_,rfl⟩
           have g15:(dB bb j)[i15]?=some y15:=by rw[hy15];exact eZ bb j i15 An
           have b15:y15<W1:=by rw[hy15,List.getD_eq_getElem?_getD,gE Eo];exact bS bb j _ (List.getElem_mem _)
           have s15:IntKind.i64.wrap ((j:Int) - 15)=(i15:Int):=Ct
           have t15:(i15:Int)<80:=An
           have c15:∀z,aC wr.drew z→z.cell? ⟨gW,i15,none⟩=some (.int .u64 (y15:Int)):=fun z hz=>by rw[hz.cell (p:=⟨gW,i15,none⟩) (Chunk.lt (HS'.out.sat 0 _ rfl) rfl),HS'.out.cell 0 rfl i15];exact aR g15
           obtain⟨i16,hi16⟩:∃m,m=j - 16:=⟨_,rfl⟩
           obtain⟨y16,hy16⟩:∃y,y=(dE bb j).getD i16 0:=⟨_,rfl⟩
           have g16:(dB bb j)[i16]?=some y16:=by rw[hy16];exact eZ bb j i16 An
           have b16:y16<W1:=by rw[hy16,List.getD_eq_getElem?_getD,gE Eo];exact bS bb j _ (List.getElem_mem _)
           have s16:IntKind.i64.wrap ((j:Int) - 16)=(i16:Int):=Ct
           have t16:(i16:Int)<80:=An
           have c16:∀z,aC wr.drew z→z.cell? ⟨gW,i16,none⟩=some (.int .u64 (y16:Int)):=fun z hz=>by rw[hz.cell (p:=⟨gW,i16,none⟩) (Chunk.lt (HS'.out.sat 0 _ rfl) rfl),HS'.out.cell 0 rfl i16];exact aR g16
           have hF:schF (dE bb j) j=wad (wad (wad (spr y2 19 61 6) y7) (spr y15 1 8 7)) y16:=Ep
           have i80:(j:Int)<80:=An
           have o2:bits .xor .u64 (bits .xor .u64 ((rot y2 19:Nat):Int) ((rot y2 61:Nat):Int)) ((y2:Int)/64)=((spr y2 19 61 6:Nat):Int):=spr_of y2 19 61 6 64 b2 rfl
           have o15:bits .xor .u64 (bits .xor .u64 ((rot y15 1:Nat):Int) ((rot y15 8:Nat):Int)) ((y15:Int)/128)=((spr y15 1 8 7:Nat):Int):=spr_of y15 1 8 7 128 b15 rfl
           have HA1:=aA (fun W=>dJ y2 19 W b2 Bz Bz)
           have HA2:=aA (fun W=>dJ y2 61 W b2 Bz Bz)
           have HB1:=aA (fun W=>dJ y15 1 W b15 Bz Bz)
           have HB2:=aA (fun W=>dJ y15 8 W b15 Bz Bz)
           have w1:IntKind.u64.wrap (((spr y2 19 61 6:Nat):Int)+(y7:Int))=((wad (spr y2 19 61 6) y7:Nat):Int):=bA _ _
           have w2:IntKind.u64.wrap (((wad (spr y2 19 61 6) y7:Nat):Int)+((spr y15 1 8 7:Nat):Int))=((wad (wad (spr y2 19 61 6) y7) (spr y15 1 8 7):Nat):Int):=bA _ _
           have w3:IntKind.u64.wrap (((wad (wad (spr y2 19 61 6) y7) (spr y15 1 8 7):Nat):Int)+(y16:Int))=((wad (wad (wad (spr y2 19 61 6) y7) (spr y15 1 8 7)) y16:Nat):Int):=bA _ _
           generalize wad (wad (wad (spr y2 19 61 6) y7) (spr y15 1 8 7)) y16=z3 at *
           generalize wad (wad (spr y2 19 61 6) y7) (spr y15 1 8 7)=z2 at *
           generalize wad (spr y2 19 61 6) y7=z1 at *
           generalize spr y2 19 61 6=p1 at *
           generalize spr y15 1 8 7=p2 at *
           have HF:=aA hF
           have HLEN:=aA (hJ bb j hj)
           clear hF hS hi2 hy2 g2 b2 hi7 hy7 g7 b7 hi15 hy15 g15 b15 hi16 hy16 g16 b16
           go_upto_region 26 with fail
           refine cW Bt ?_
           (refine gT 0 (v:=?_) fR ?_;(try refine nm ?_));(refine gT 1 (v:=?_) fR ?_;(try refine nm ?_));(refine gT 2 (v:=?_) fR ?_;(try refine nm ?_));(refine gT 3 (v:=?_) fR ?_;(try refine nm ?_));(refine gT 4 (v:=?_) fR ?_;(try refine nm ?_));(refine gT 5 (v:=?_) fR ?_;(try refine nm ?_));(refine gT 6 (v:=?_) fR ?_;(try refine nm ?_));(refine gT 7 (v:=?_) fR ?_;(try refine nm ?_));(refine gT 8 (v:=?_) fR ?_;(try refine nm ?_));(refine gT 9 (v:=?_) fR ?_;(try refine nm ?_))
           refine cX Bt ?_ _
           go_wp2_with fail
           have F0:aC wr.drew wr.drew.drew:=(Below.refl _ _).drew
           refine aW (fun i=>i==29) (aC wr.drew) Bt ?_
           (refine mU 0 (v:=?_) F0 ?_;(try refine nm ?_));(refine mU 1 (v:=?_) F0 ?_;(try refine nm ?_));(refine mU 3 (v:=?_) F0 ?_;(try refine nm ?_));(refine mU 6 (v:=?_) F0 ?_;(try refine nm ?_));(refine mU 7 (v:=?_) F0 ?_;(try refine nm ?_));(refine mU 9 (v:=?_) F0 ?_;(try refine nm ?_));(refine mU 10 (v:=?_) F0 ?_;(try refine nm ?_));(refine mU 11 (v:=?_) F0 ?_;(try refine nm ?_))
           (refine mT 12 (v:=?_) F0 ?_;(try refine nm ?_))
           (refine mU 14 (v:=?_) F0 ?_;(try refine nm ?_));(refine mU 16 (v:=?_) F0 ?_;(try refine nm ?_));(refine mU 19 (v:=?_) F0 ?_;(try refine nm ?_));(refine mU 20 (v:=?_) F0 ?_;(try refine nm ?_));(refine mU 23 (v:=?_) F0 ?_;(try refine nm ?_));(refine mU 24 (v:=?_) F0 ?_;(try refine nm ?_));(refine mU 25 (v:=?_) F0 ?_;(try refine nm ?_))
           (refine mT 26 (v:=?_) F0 ?_;(try refine nm ?_))
           (refine cC (i:=2) Bt rfl rfl ?_;intro K hK;(try refine nm ?_))
           refine aO rfl rfl gQ rfl (HA1.out _) ?_
           rintro e v ⟨rfl,rfl⟩
           refine⟨_,rfl,hK (aC wr.drew) _ _ (fun _ h=>h) F0 ?_⟩
           clear hK K
           (try refine nm ?_)
           (refine cC (i:=4) Bt rfl rfl ?_;intro K hK;(try refine nm ?_))
           refine aO rfl rfl gQ rfl (HA2.out _) ?_
           rintro e v ⟨rfl,rfl⟩
           refine⟨_,rfl,hK (aC wr.drew) _ _ (fun _ h=>h) F0 ?_⟩
           clear hK K
           (try refine nm ?_)
           (refine mU 5 (v:=?_) F0 ?_;(try refine nm ?_));(refine mU 8 (v:=?_) F0 ?_;(try refine nm ?_));(refine mU 13 (v:=?_) F0 ?_;(try refine nm ?_))
           (refine cC (i:=15) Bt rfl rfl ?_;intro K hK;(try refine nm ?_))
           refine aO rfl rfl gQ rfl (HB1.out _) ?_
           rintro e v ⟨rfl,rfl⟩
           refine⟨_,rfl,hK (aC wr.drew) _ _ (fun _ h=>h) F0 ?_⟩
           clear hK K
           (try refine nm ?_)
           (refine cC (i:=17) Bt rfl rfl ?_;intro K hK;(try refine nm ?_))
           refine aO rfl rfl gQ rfl (HB2.out _) ?_
           rintro e v ⟨rfl,rfl⟩
           refine⟨_,rfl,hK (aC wr.drew) _ _ (fun _ h=>h) F0 ?_⟩
           clear hK K
           (try refine nm ?_)
           (refine mU 18 (v:=?_) F0 ?_;(try refine nm ?_));(refine mU 21 (v:=?_) F0 ?_;(try refine nm ?_));(refine mU 22 (v:=?_) F0 ?_;(try refine nm ?_));(refine mU 27 (v:=?_) F0 ?_;(try refine nm ?_));(refine mU 28 (v:=?_) F0 ?_;(try refine nm ?_))
           (refine aZ (i:=29) Bt rfl rfl ?_;intro K hK;(try refine nm ?_))
           refine bO rfl rfl tyU64 HS'.out.drew 0 rfl j (by rw[List.size_toArray,cE,HLEN.out];omega) rfl (v:=.int .u64 (z3:Int)) rfl rfl ?_
           intro w9 hS9
           refine hK _ _ ?_
           clear hK K
           (try refine nm ?_)
           refine wpAny_done Bt ?_ _
           go_wp2_with fail
           go_roundw
           case rel =>
            have ht:=HT.out
            rw[if_neg An,HF.out] at ht
            rw[List.set_cons_zero,bH,ht] at hS9
            exact⟨j+1,An,An,Cg,hS9⟩
           case measure=>(simp[intOf])<;>omega
          ·obtain rfl:j=80:=by omega
           have hA:dB bb 80=dE bb 80:=by unfold dB;simp
           rw[hA] at hS
           have HWL:Hid ((dE bb 80).length=80):=aA (cL bb 80)
           have HWW:=aA (bS bb 80)
           have HSN2:Hid (runN h0L (i+1) y=List.zipWith wad st (rnds st (dE bb 80) 80)):=aA HSN.out
           obtain⟨ws,hws⟩:∃ws,ws=dE bb 80:=⟨_,rfl⟩
           rw[←hws] at hS HWL HWW HSN2
           obtain⟨a0,a1,a2,a3,a4,a5,a6,a7,hst8⟩:=list8 HST.out.1
           rw[hst8] at hS
           have m0:wr.cell? ⟨g3,0,none⟩=some (.int .u64 (a0:Int)):=hS.cell 3 rfl 0
           have m1:wr.cell? ⟨g3,1,none⟩=some (.int .u64 (a1:Int)):=hS.cell 3 rfl 1
           have m2:wr.cell? ⟨g3,2,none⟩=some (.int .u64 (a2:Int)):=hS.cell 3 rfl 2
           have m3:wr.cell? ⟨g3,3,none⟩=some (.int .u64 (a3:Int)):=hS.cell 3 rfl 3
           have m4:wr.cell? ⟨g3,4,none⟩=some (.int .u64 (a4:Int)):=hS.cell 3 rfl 4
           have m5:wr.cell? ⟨g3,5,none⟩=some (.int .u64 (a5:Int)):=hS.cell 3 rfl 5
           have m6:wr.cell? ⟨g3,6,none⟩=some (.int .u64 (a6:Int)):=hS.cell 3 rfl 6
           have m7:wr.cell? ⟨g3,7,none⟩=some (.int .u64 (a7:Int)):=hS.cell 3 rfl 7
           have HS6:=aA (hS.alloc (uvs [a0,a1,a2,a3,a4,a5,a6,a7]).toArray 170)
           clear hS hA hws
           go_wp2_with fail
           clear m0 m1 m2 m3 m4 m5 m6 m7
           generalize wr.heap.size=g6 at HS6 ⊢
           have HS7:Hid (St w NoB (wr.alloc (.cells #[.int .u64 (a0:Int),.int .u64 (a1:Int),.int .u64 (a2:Int),.int .u64 (a3:Int),.int .u64 (a4:Int),.int .u64 (a5:Int),.int .u64 (a6:Int),.int .u64 (a7:Int)] 170)) (.cells g6 (uvs st).toArray 170::.cells gW (uvs ws).toArray 181::RC g3 g4 (some ⟨b,o,none⟩) N d2 y st)):=aA (by rw[hst8];exact HS6.out)
           clear HS6 hst8
           go_loopw [125] (fun q wr=>W7Rel w g6 gW st ws (RC g3 g4 (some ⟨b,o,none⟩) N d2 y st) q wr) (fun q _=>80 - (intOf q).toNat)
           case atStart=>exact⟨0,An,rfl,HS7.out⟩
           case round =>
            clear HS7
            obtain⟨j,hj,rfl,hS⟩:=hrel
            by_cases hlt5:j<80
            ·have HST2:=HST.out
             obtain⟨hl2,hw2⟩:=rnds_ok HST2.1 HST2.2 ws j
             have HNX:Hid (rnds st ws (j+1)=rnd (rnds st ws j) (kL.getD j 0) (ws.getD j 0)):=aA rfl
             obtain⟨b0,b1,b2,b3,b4,b5,b6,b7,hs8⟩:=list8 hl2
             rw[hs8] at hS HNX hw2
             obtain⟨hk,hkw⟩:=kL_get j hlt5
             obtain⟨x,hx⟩:∃x,ws[j]?=some x:=⟨ws[j]'(by rw[HWL.out];exact hlt5),gE _⟩
             have hxw:=HWW.out x (mG hx)
             rw[show ws.getD j 0=x from by rw[List.getD_eq_getElem?_getD,hx];rfl] at HNX
             generalize kL.getD j 0=kk at hk hkw HNX
             have HS:=aA hS.drew
             have e0:b0<W1:=hw2 _ B0
             have e1:b1<W1:=hw2 _ B0
             have e2:b2<W1:=hw2 _ B0
             have e3:b3<W1:=hw2 _ B0
             have e4:b4<W1:=hw2 _ B0
             have e5:b5<W1:=hw2 _ B0
             have e6:b6<W1:=hw2 _ B0
             have e7:b7<W1:=hw2 _ B0
             have n0:wr.cell? ⟨g6,0,none⟩=some (.int .u64 (b0:Int)):=hS.cell 0 rfl 0
             have n1:wr.cell? ⟨g6,1,none⟩=some (.int .u64 (b1:Int)):=hS.cell 0 rfl 1
             have n2:wr.cell? ⟨g6,2,none⟩=some (.int .u64 (b2:Int)):=hS.cell 0 rfl 2
             have n3:wr.cell? ⟨g6,3,none⟩=some (.int .u64 (b3:Int)):=hS.cell 0 rfl 3
             have n4:wr.cell? ⟨g6,4,none⟩=some (.int .u64 (b4:Int)):=hS.cell 0 rfl 4
             have n5:wr.cell? ⟨g6,5,none⟩=some (.int .u64 (b5:Int)):=hS.cell 0 rfl 5
             have n6:wr.cell? ⟨g6,6,none⟩=some (.int .u64 (b6:Int)):=hS.cell 0 rfl 6
             have n7:wr.cell? ⟨g6,7,none⟩=some (.int .u64 (b7:Int)):=hS.cell 0 rfl 7
             have f0:=hS.free 0 rfl 0
             have f1:=hS.free 0 rfl 1
             have f2:=hS.free 0 rfl 2
             have f3:=hS.free 0 rfl 3
             have f4:=hS.free 0 rfl 4
             have f5:=hS.free 0 rfl 5
             have f6:=hS.free 0 rfl 6
             have f7:=hS.free 0 rfl 7
             have p0:∀z,aC wr.drew z→z.cell? ⟨g6,0,none⟩=some (.int .u64 (b0:Int)):=fun z hz=>by rw[hz.cell (p:=⟨g6,0,none⟩) (Chunk.lt (HS.out.sat 0 _ rfl) rfl)];exact HS.out.cell 0 rfl 0
             have p1:∀z,aC wr.drew z→z.cell? ⟨g6,1,none⟩=some (.int .u64 (b1:Int)):=fun z hz=>by rw[hz.cell (p:=⟨g6,1,none⟩) (Chunk.lt (HS.out.sat 0 _ rfl) rfl)];exact HS.out.cell 0 rfl 1
             have p2:∀z,aC wr.drew z→z.cell? ⟨g6,2,none⟩=some (.int .u64 (b2:Int)):=fun z hz=>by rw[hz.cell (p:=⟨g6,2,none⟩) (Chunk.lt (HS.out.sat 0 _ rfl) rfl)];exact HS.out.cell 0 rfl 2
             have p3:∀z,aC wr.drew z→z.cell? ⟨g6,3,none⟩=some (.int .u64 (b3:Int)):=fun z hz=>by rw[hz.cell (p:=⟨g6,3,none⟩) (Chunk.lt (HS.out.sat 0 _ rfl) rfl)];exact HS.out.cell 0 rfl 3
             have p4:∀z,aC wr.drew z→z.cell? ⟨g6,4,none⟩=some (.int .u64 (b4:Int)):=fun z hz=>by rw[hz.cell (p:=⟨g6,4,none⟩) (Chunk.lt (HS.out.sat 0 _ rfl) rfl)];exact HS.out.cell 0 rfl 4
             have p5:∀z,aC wr.drew z→z.cell? ⟨g6,5,none⟩=some (.int .u64 (b5:Int)):=fun z hz=>by rw[hz.cell (p:=⟨g6,5,none⟩) (Chunk.lt (HS.out.sat 0 _ rfl) rfl)];exact HS.out.cell 0 rfl 5
             have p6:∀z,aC wr.drew z→z.cell? ⟨g6,6,none⟩=some (.int .u64 (b6:Int)):=fun z hz=>by rw[hz.cell (p:=⟨g6,6,none⟩) (Chunk.lt (HS.out.sat 0 _ rfl) rfl)];exact HS.out.cell 0 rfl 6
             have p7:∀z,aC wr.drew z→z.cell? ⟨g6,7,none⟩=some (.int .u64 (b7:Int)):=fun z hz=>by rw[hz.cell (p:=⟨g6,7,none⟩) (Chunk.lt (HS.out.sat 0 _ rfl) rfl)];exact HS.out.cell 0 rfl 7
             have ck:∀z,aC wr.drew z→z.cell? ⟨g4,j,none⟩=some (.int .u64 (kk:Int)):=fun z hz=>by
              rw[hz.cell (p:=⟨g4,j,none⟩) (Chunk.lt (HS.out.sat 3 _ rfl) rfl),HS.out.cell 3 rfl j]
              unfold kA
              exact aR hk
             have cx:∀z,aC wr.drew z→z.cell? ⟨gW,j,none⟩=some (.int .u64 (x:Int)):=fun z hz=>by
              rw[hz.cell (p:=⟨gW,j,none⟩) (Chunk.lt (HS.out.sat 1 _ rfl) rfl),HS.out.cell 1 rfl j]
              exact aR hx
             have dk:decide ((j:Int)<80)=true:=A9
             have ik:(j:Int)<80:=An
             have hmx:IntKind.u64.max=((18446744073709551615:Nat):Int):=rfl
             have x1:=u64_and_nat b4 b5 e4 e5
             have x2:bits .xor .u64 IntKind.u64.max (b4:Int)=((18446744073709551615 ^^^ b4:Nat):Int):=Fp
             have x2b:bits .xor .u64 (if IntKind.u64.signed=true then -1 else IntKind.u64.max) (b4:Int)=((18446744073709551615 ^^^ b4:Nat):Int):=by rw[if_neg Bz];exact x2
             have l2:18446744073709551615 ^^^ b4<W1:=xor_lt _ _ Bz e4
             have x3:=u64_and_nat (18446744073709551615 ^^^ b4) b6 l2 e6
             have x4:=u64_xor_nat (b4 &&& b5) ((18446744073709551615 ^^^ b4) &&& b6) (eH _ _ e4) (eH _ _ l2)
             have y1:=u64_and_nat b0 b1 e0 e1
             have y2:=u64_and_nat b0 b2 e0 e2
             have y3:=u64_and_nat b1 b2 e1 e2
             have y4:=u64_xor_nat (b0 &&& b1) (b0 &&& b2) (eH _ _ e0) (eH _ _ e0)
             have y5:=u64_xor_nat ((b0 &&& b1) ^^^ (b0 &&& b2)) (b1 &&& b2) (xor_lt _ _ (eH _ _ e0) (eH _ _ e0)) (eH _ _ e1)
             have ech:((b4 &&& b5) ^^^ ((18446744073709551615 ^^^ b4) &&& b6))=chz b4 b5 b6:=rfl
             have emj:(((b0 &&& b1) ^^^ (b0 &&& b2)) ^^^ (b1 &&& b2))=mjr b0 b1 b2:=rfl
             rw[ech] at x4
             rw[emj] at y5
             have v1:=mix_of b4 14 18 41 e4
             have v2:=mix_of b0 28 34 39 e0
             have HA1:=aA (fun W=>dJ b4 14 W e4 Bz Bz)
             have HA2:=aA (fun W=>dJ b4 18 W e4 Bz Bz)
             have HA3:=aA (fun W=>dJ b4 41 W e4 Bz Bz)
             have HB1:=aA (fun W=>dJ b0 28 W e0 Bz Bz)
             have HB2:=aA (fun W=>dJ b0 34 W e0 Bz Bz)
             have HB3:=aA (fun W=>dJ b0 39 W e0 Bz Bz)
             simp only[rnd] at HNX
             clear ech emj hmx
             generalize (18446744073709551615 ^^^ b4) &&& b6=q3 at *
             generalize 18446744073709551615 ^^^ b4=q2 at *
             generalize b4 &&& b5=q1 at *
             generalize (b0 &&& b1) ^^^ (b0 &&& b2)=r4 at *
             generalize b0 &&& b1=r1 at *
             generalize b0 &&& b2=r2 at *
             generalize b1 &&& b2=r3 at *
             generalize chz b4 b5 b6=ch at *
             generalize mjr b0 b1 b2=mj at *
             generalize mix b4 14 18 41=m1 at *
             generalize mix b0 28 34 39=m2 at *
             have w1:=bA b7 m1
             have w2:=bA (wad b7 m1) ch
             have w3:=bA (wad (wad b7 m1) ch) kk
             have w4:=bA (wad (wad (wad b7 m1) ch) kk) x
             have w5:=bA m2 mj
             have w6':=bA (wad (wad (wad (wad b7 m1) ch) kk) x) (wad m2 mj)
             have w7':=bA b3 (wad (wad (wad (wad b7 m1) ch) kk) x)
             generalize wad (wad (wad (wad (wad b7 m1) ch) kk) x) (wad m2 mj)=z0 at *
             generalize wad b3 (wad (wad (wad (wad b7 m1) ch) kk) x)=z4 at *
             generalize wad (wad (wad (wad b7 m1) ch) kk) x=t1 at *
             generalize wad (wad (wad b7 m1) ch) kk=u3 at *
             generalize wad (wad b7 m1) ch=u2 at *
             generalize wad b7 m1=u1 at *
             generalize wad m2 mj=t2 at *
             have HSW:=aA hS
             clear hs8 hl2 hk hx hS e0 e1 e2 e3 e4 e5 e6 e7 hxw hkw hw2 l2 HST2
             have F0:aC wr.drew wr.drew.drew:=(Below.refl _ _).drew
             have F1:aC wr.drew wr.drew.drew.drew:=((Below.refl _ _).drew).drew
             go_wp2_with fail
             refine eT (aC wr.drew) Bt ?_
             (refine gT 0 (v:=?_) (aC.refl wr.drew) ?_;(try refine nm ?_));(refine gT 1 (v:=?_) (aC.refl wr.drew) ?_;(try refine nm ?_));(refine gT 2 (v:=?_) (aC.refl wr.drew) ?_;(try refine nm ?_));(refine gT 3 (v:=?_) (aC.refl wr.drew) ?_;(try refine nm ?_));(refine gT 4 (v:=?_) (aC.refl wr.drew) ?_;(try refine nm ?_));(refine gT 5 (v:=?_) (aC.refl wr.drew) ?_;(try refine nm ?_))
             refine cX Bt ?_ _
             go_upto_region 33 with fail
             refine eT (aC wr.drew) Bt ?_
             (refine gT 0 (v:=?_) F0 ?_;(try refine nm ?_));(refine gT 1 (v:=?_) F0 ?_;(try refine nm ?_));(refine gT 2 (v:=?_) F0 ?_;(try refine nm ?_));(refine gT 4 (v:=?_) F0 ?_;(try refine nm ?_));(refine gT 7 (v:=?_) F0 ?_;(try refine nm ?_));(refine gT 11 (v:=?_) F0 ?_;(try refine nm ?_));(refine gT 12 (v:=?_) F0 ?_;(try refine nm ?_));(refine gT 13 (v:=?_) F0 ?_;(try refine nm ?_));(refine gT 14 (v:=?_) F0 ?_;(try refine nm ?_));(refine gT 15 (v:=?_) F0 ?_;(try refine nm ?_));(refine gT 16 (v:=?_) F0 ?_;(try refine nm ?_));(refine gT 17 (v:=?_) F0 ?_;(try refine nm ?_));(refine gT 18 (v:=?_) F0 ?_;(try refine nm ?_));(refine gT 19 (v:=?_) F0 ?_;(try refine nm ?_));(refine gT 20 (v:=?_) F0 ?_;(try refine nm ?_));(refine gT 22 (v:=?_) F0 ?_;(try refine nm ?_));(refine gT 23 (v:=?_) F0 ?_;(try refine nm ?_));(refine gT 24 (v:=?_) F0 ?_;(try refine nm ?_));(refine gT 26 (v:=?_) F0 ?_;(try refine nm ?_));(refine gT 27 (v:=?_) F0 ?_;(try refine nm ?_));(refine gT 28 (v:=?_) F0 ?_;(try refine nm ?_))
             (refine cD (i:=3) Bt rfl ?_;intro K hK;(try refine nm ?_))
             refine aO rfl rfl gQ rfl (HA1.out _) ?_
             rintro e v ⟨rfl,rfl⟩
             refine⟨_,rfl,hK (aC wr.drew) _ _ (fun _ h=>h) F0 ?_⟩
             clear hK K
             (try refine nm ?_)
             (refine cD (i:=5) Bt rfl ?_;intro K hK;(try refine nm ?_))
             refine aO rfl rfl gQ rfl (HA2.out _) ?_
             rintro e v ⟨rfl,rfl⟩
             refine⟨_,rfl,hK (aC wr.drew) _ _ (fun _ h=>h) F0 ?_⟩
             clear hK K
             (try refine nm ?_)
             (refine gT 6 (v:=?_) F0 ?_;(try refine nm ?_))
             (refine cD (i:=8) Bt rfl ?_;intro K hK;(try refine nm ?_))
             refine aO rfl rfl gQ rfl (HA3.out _) ?_
             rintro e v ⟨rfl,rfl⟩
             refine⟨_,rfl,hK (aC wr.drew) _ _ (fun _ h=>h) F0 ?_⟩
             clear hK K
             (try refine nm ?_)
             (refine gT 9 (v:=?_) F0 ?_;(try refine nm ?_));(refine gT 10 (v:=?_) F0 ?_;(try refine nm ?_));(refine gT 21 (v:=?_) F0 ?_;(try refine nm ?_));(refine gT 25 (v:=?_) F0 ?_;(try refine nm ?_));(refine gT 29 (v:=?_) F0 ?_;(try refine nm ?_));(refine gT 30 (v:=?_) F0 ?_;(try refine nm ?_))
             refine cX Bt ?_ _
             go_upto_region 34 with fail
             refine eT (aC wr.drew) Bt ?_
             (refine gT 0 (v:=?_) F1 ?_;(try refine nm ?_));(refine gT 2 (v:=?_) F1 ?_;(try refine nm ?_));(refine gT 5 (v:=?_) F1 ?_;(try refine nm ?_));(refine gT 8 (v:=?_) F1 ?_;(try refine nm ?_));(refine gT 9 (v:=?_) F1 ?_;(try refine nm ?_));(refine gT 10 (v:=?_) F1 ?_;(try refine nm ?_));(refine gT 11 (v:=?_) F1 ?_;(try refine nm ?_));(refine gT 12 (v:=?_) F1 ?_;(try refine nm ?_));(refine gT 13 (v:=?_) F1 ?_;(try refine nm ?_));(refine gT 14 (v:=?_) F1 ?_;(try refine nm ?_));(refine gT 15 (v:=?_) F1 ?_;(try refine nm ?_));(refine gT 16 (v:=?_) F1 ?_;(try refine nm ?_));(refine gT 17 (v:=?_) F1 ?_;(try refine nm ?_));(refine gT 18 (v:=?_) F1 ?_;(try refine nm ?_));(refine gT 19 (v:=?_) F1 ?_;(try refine nm ?_));(refine gT 20 (v:=?_) F1 ?_;(try refine nm ?_));(refine gT 21 (v:=?_) F1 ?_;(try refine nm ?_));(refine gT 22 (v:=?_) F1 ?_;(try refine nm ?_))
             (refine cD (i:=1) Bt rfl ?_;intro K hK;(try refine nm ?_))
             refine aO rfl rfl gQ rfl (HB1.out _) ?_
             rintro e v ⟨rfl,rfl⟩
             refine⟨_,rfl,hK (aC wr.drew) _ _ (fun _ h=>h) F1 ?_⟩
             clear hK K
             (try refine nm ?_)
             (refine cD (i:=3) Bt rfl ?_;intro K hK;(try refine nm ?_))
             refine aO rfl rfl gQ rfl (HB2.out _) ?_
             rintro e v ⟨rfl,rfl⟩
             refine⟨_,rfl,hK (aC wr.drew) _ _ (fun _ h=>h) F1 ?_⟩
             clear hK K
             (try refine nm ?_)
             (refine gT 4 (v:=?_) F1 ?_;(try refine nm ?_))
             (refine cD (i:=6) Bt rfl ?_;intro K hK;(try refine nm ?_))
             refine aO rfl rfl gQ rfl (HB3.out _) ?_
             rintro e v ⟨rfl,rfl⟩
             refine⟨_,rfl,hK (aC wr.drew) _ _ (fun _ h=>h) F1 ?_⟩
             clear hK K
             (try refine nm ?_)
             (refine gT 7 (v:=?_) F1 ?_;(try refine nm ?_));(refine gT 23 (v:=?_) F1 ?_;(try refine nm ?_));(refine gT 24 (v:=?_) F1 ?_;(try refine nm ?_))
             refine cX Bt ?_ _
             clear p0 p1 p2 p3 p4 p5 p6 p7 ck cx
             go_wp2_with fail
             go_roundw
             case rel =>
              have h3:=((((((((HSW.out.setCell 0 rfl 0 (.int .u64 (z0:Int))).setCell 0 rfl 1 (.int .u64 (b0:Int))).setCell 0 rfl 2 (.int .u64 (b1:Int))).setCell 0 rfl 3 (.int .u64 (b2:Int))).setCell 0 rfl 4 (.int .u64 (z4:Int))).setCell 0 rfl 5 (.int .u64 (b4:Int))).setCell 0 rfl 6 (.int .u64 (b5:Int))).setCell 0 rfl 7 (.int .u64 (b6:Int))).drew.drew.drew
              simp only[List.set_cons_zero,bH,List.set_cons_succ] at h3
              rw[←HNX.out] at h3
              exact⟨j+1,An,Cg,h3⟩
             case measure=>(simp[intOf])<;>omega
            ·obtain rfl:j=80:=by omega
             have HST2:=HST.out
             obtain⟨hl2,hw2⟩:=rnds_ok HST2.1 HST2.2 ws 80
             obtain⟨s,hs⟩:∃s,s=rnds st ws 80:=⟨_,rfl⟩
             rw[←hs] at hS hl2 hw2 HSN2
             have HL2:=aA hl2
             have HL8:=aA HST2.1
             have HS:=aA hS
             clear hs hS hl2 hw2 HST2
             go_wp2_with fail
             go_loopw [207] (fun q wr=>W8Rel w g3 g4 g6 gW st s ws (some ⟨b,o,none⟩) N d2 y q wr) (fun q _=>8 - (intOf q).toNat)
             case atStart=>exact⟨0,An,rfl,HS.out⟩
             case round =>
              clear HS
              obtain⟨j,hj,rfl,hS⟩:=hrel
              by_cases hlt6:j<8
              ·obtain⟨x,hx⟩:∃x,st[j]?=some x:=⟨st[j]'(by rw[HL8.out];exact hlt6),gE _⟩
               obtain⟨yy,hy⟩:∃y,s[j]?=some y:=⟨s[j]'(by rw[HL2.out];exact hlt6),gE _⟩
               have HS:=aA hS.drew
               have cx:∀z,aC wr.drew z→z.cell? ⟨g3,j,none⟩=some (.int .u64 (x:Int)):=fun z hz=>by
                rw[hz.cell (p:=⟨g3,j,none⟩) (Chunk.lt (HS.out.sat 4 _ rfl) rfl),HS.out.cell 4 rfl j]
                exact aR (zipP_get _ _ _ _ HL8.out HL2.out hx)
               have cy:∀z,aC wr.drew z→z.cell? ⟨g6,j,none⟩=some (.int .u64 (yy:Int)):=fun z hz=>by
                rw[hz.cell (p:=⟨g6,j,none⟩) (Chunk.lt (HS.out.sat 0 _ rfl) rfl),HS.out.cell 0 rfl j]
                exact aR hy
               have HT:=aA (zipP_set _ _ _ _ _ HL8.out HL2.out hx hy)
               have HZL:=aA (zipP_len st s j HL8.out HL2.out hj)
               have hwd:=bA x yy
               have dk:decide ((j:Int)<8)=true:=A9
               have ik:(j:Int)<8:=An
               generalize wad x yy=z at *
               clear hS hx hy
               go_wp2_with fail
               refine aW (fun i=>i==8) (aC wr.drew) Bt ?_
               (refine mU 0 (v:=?_) (aC.refl wr.drew) ?_;(try refine nm ?_));(refine mU 1 (v:=?_) (aC.refl wr.drew) ?_;(try refine nm ?_))
               (refine mT 2 (v:=?_) (aC.refl wr.drew) ?_;(try refine nm ?_))
               (refine mU 3 (v:=?_) (aC.refl wr.drew) ?_;(try refine nm ?_));(refine mU 4 (v:=?_) (aC.refl wr.drew) ?_;(try refine nm ?_))
               (refine mT 5 (v:=?_) (aC.refl wr.drew) ?_;(try refine nm ?_))
               (refine mU 6 (v:=?_) (aC.refl wr.drew) ?_;(try refine nm ?_));(refine mU 7 (v:=?_) (aC.refl wr.drew) ?_;(try refine nm ?_))
               (refine aZ (i:=8) Bt rfl rfl ?_;intro K hK;(try refine nm ?_))
               refine bO rfl rfl tyU64 HS.out 4 rfl j (by rw[List.size_toArray,cE,HZL.out];exact hlt6) rfl (v:=.int .u64 (z:Int)) (by first|rfl|exact congrArg (Value.int .u64) hwd) rfl ?_
               intro w9 hS9
               refine hK _ _ ?_
               clear hK K
               (try refine nm ?_)
               refine wpAny_done Bt ?_ _
               go_wp2_with fail
               go_roundw
               case rel =>
                refine⟨j+1,An,Cg,?_⟩
                have h:=hS9
                simp only[List.set_cons_zero,bH,List.set_cons_succ] at h
                rw[HT.out] at h
                exact h
               case measure=>(simp[intOf])<;>omega
              ·obtain rfl:j=8:=by omega
               have hz:zipP st s 8=List.zipWith wad st s:=by
                unfold zipP
                rw[List.take_of_length_le (by rw[List.length_zipWith,HL8.out,HL2.out];decide),List.drop_eq_nil_of_le (by rw[HL8.out];exact Nat.le_refl _),List.append_nil]
               rw[hz,←HSN2.out] at hS
               have HS:=aA hS.tail.tail
               clear hS hz
               have hLi:(128:Int)≤(L:Int):=An
               have hdi:(L:Int)≤(d':Int):=An
               go_wp2_with fail
               go_roundw
               case rel =>
                have e1:L - 128=N - 128*(i+1):=by have:=HLE.out;omega
                have e2:d' - 128=d2 - 128*(i+1):=by have:=HDE.out;omega
                refine⟨i+1,(if d'=128 then oo else oo+128),An,?_,?_,HS.out⟩
                ·intro h
                 rw[if_neg (by have:=HDE.out;omega),HOO.out]
                 omega
                ·rw[←e1,←e2]
                 split<;>rfl
               case measure =>
                show L - 128<L
                omega
      ·obtain⟨s,hs⟩:∃s,s=runN h0L i y:=⟨_,rfl⟩
       have hQi:i=N/128:=An
       have hok:=runN_ok i h0L y h0_ok.1 h0_ok.2
       have hsh:shaL l=outL s:=by unfold shaL stO;rw[HL.out,←HX.out,HNX.out,hs,hQi]
       rw[←hs] at hok HS
       obtain⟨b0,b1,b2,b3,b4,b5,b6,b7,hsb⟩:=list8 hok.1
       have hS9:=HS.out
       rw[hsb] at hS9
       have p0:wr.cell? ⟨g3,0,none⟩=some (.int .u64 (b0:Int)):=hS9.cell 2 rfl 0
       have p1:wr.cell? ⟨g3,1,none⟩=some (.int .u64 (b1:Int)):=hS9.cell 2 rfl 1
       have p2:wr.cell? ⟨g3,2,none⟩=some (.int .u64 (b2:Int)):=hS9.cell 2 rfl 2
       have p3:wr.cell? ⟨g3,3,none⟩=some (.int .u64 (b3:Int)):=hS9.cell 2 rfl 3
       have p4:wr.cell? ⟨g3,4,none⟩=some (.int .u64 (b4:Int)):=hS9.cell 2 rfl 4
       have p5:wr.cell? ⟨g3,5,none⟩=some (.int .u64 (b5:Int)):=hS9.cell 2 rfl 5
       have p6:wr.cell? ⟨g3,6,none⟩=some (.int .u64 (b6:Int)):=hS9.cell 2 rfl 6
       have p7:wr.cell? ⟨g3,7,none⟩=some (.int .u64 (b7:Int)):=hS9.cell 2 rfl 7
       have HS10:Hid (St w NoB wr [.row (.slice none 0 0) 5 1 0 []]):=aA (HS.out.tail.tail.tail.row (Below.refl _ _) (World.ownsRow_nil _ _ 5 1))
       have hz0:N - 128*i=0:=An
       rw[hz0]
       have HSB:=aA hsb
       have HSH:=aA hsh
       have HSW:=aA hok.2
       have HSL:=aA hok.1
       clear hoo hS9 hs hQi hok hsh hsb hz0 HS hi hlt hQ hN1
       go_wp2_with fail
       clear p0 p1 p2 p3 p4 p5 p6 p7
       go_loopw [20,220] (fun v q wr=>OutRel w s v q wr) (fun _ q _=>8 - (intOf q).toNat)
       case atStart=>exact⟨0,none,0,An,rfl,rfl,HS10.out⟩
       case round =>
        clear HS10
        obtain⟨j,B,d,hj,rfl,rfl,hS⟩:=hrel
        by_cases hlt7:j<8
        ·obtain⟨x,hx⟩:∃x,s[j]?=some x:=⟨s[j]'(by rw[HSL.out];exact hlt7),gE _⟩
         have hix:=ixh b0 b1 b2 b3 b4 b5 b6 b7 j x (by rw[←HSB.out];exact hx)
         have HT:=aA (outL_take s j x hx)
         have dk:decide ((j:Int)<8)=true:=A9
         have ik:(j:Int)<8:=An
         have hl8:(outL (s.take j)).length=8*j:=by rw[outL_len,List.length_take,HSL.out];show 8*min j 8=_;omega
         obtain⟨z0,hz0⟩:∃z,z=outL (s.take j):=⟨_,rfl⟩
         rw[←hz0] at hS hl8 HT
         have HS:=aA hS
         have HZL:=aA hl8
         clear hS hx hz0 hl8
         go_wp2_with fail
         go_loopw [20,23] (fun v q wr=>LenO w (8*j+8) x (z0++beL 8 x) v q wr) (fun _ q _=>(intOf q+1).toNat)
         case atStart=>exact⟨8,B,8*j,d,z0,Nat.le_refl _,rfl,rfl,rfl,rfl,HS.out⟩
         case round =>
          clear HS hix
          obtain⟨t,B2,m2,e2,zz,ht,rfl,rfl,hmj,hy,hS⟩:=hrel
          have HY:=aA hy
          have HMJ:=aA hmj
          have HS2:=aA hS
          have hm2:m2≤4000:=An
          clear hy hS hmj
          cases t with
          | zero =>
           obtain rfl:m2=8*j+8:=HMJ.out
           have hyz:zz=z0++beL 8 x:=by have:=HY.out;rwa [beL,List.append_nil] at this
           have HYZ:=aA hyz
           clear hyz
           go_wp2_with fail
           go_roundw
           case rel =>
            refine⟨j+1,B2,e2,An,Cg,by rw[Nat.mul_succ],?_⟩
            rw[HT.out,←HYZ.out,Nat.mul_succ]
            exact HS2.out
           case measure=>(simp[intOf])<;>omega
          | succ i2 =>
           have hi:(((i2+1:Nat):Int) - 1)=(i2:Int):=An
           rw[hi]
           have hby:=byte_of x (8*i2)
           have hb2:x/2^(8*i2)%256<256:=Nat.mod_lt _ Bz
           have hd:decide ((0:Int)≤(i2:Int))=true:=B0
           have hi7:i2≤7:=An
           obtain⟨sh,hs⟩:∃s,s=8*i2:=⟨_,rfl⟩
           have hsi:(8:Int)*(i2:Int)=(sh:Int):=An
           rw[←hs] at hby hb2
           obtain⟨q,hq⟩:∃q,q=x/2^sh%256:=⟨_,rfl⟩
           rw[←hq] at hby hb2
           have hs56:sh≤56:=An
           have HQ:=aA hq
           have HSS:=aA hs
           clear hq hs ht hi
           go_wp2_with (at_builtin;refine bQ rfl rfl tyB HS2.out 0 rfl rfl (us:=[_]) rfl rfl ?_ ?_ Bz ?_;(intro u hu;simp only[List.mem_singleton] at hu;subst hu;rfl);(simp only[List.length_singleton];omega);intro B3 d3 w3 hS3)
           go_roundw
           case rel =>
            refine⟨i2,B3,m2+1,d3,zz++[UInt8.ofNat q],An,congrArg (Value.int .i64) An,rfl,by have:=HMJ.out;omega,?_,?_⟩
            ·have:=HY.out
             rw[beL,←HSS.out,←HQ.out] at this
             rw[←this,List.append_assoc]
             rfl
            ·rw[bvs_snoc _ _ hb2]
             exact hS3
           case measure=>(simp[intOf])<;>omega
        ·obtain rfl:j=8:=by omega
         have h8:s.take 8=s:=List.take_of_length_le (by rw[HSL.out];exact Nat.le_refl _)
         rw[h8,←HSH.out] at hS
         have HS:=aA hS
         clear hS h8
         go_wp2_with fail
         go_ret
         exact⟨B,d,rfl,HS.out.below,HS.out.ownsRow 0 rfl⟩
    | succ i =>
     have hi:(((i+1:Nat):Int) - 1)=(i:Int):=An
     rw[hi]
     have hby:=byte_of n8 (8*i)
     have hb2:n8/2^(8*i)%256<256:=Nat.mod_lt _ Bz
     have hd:decide ((0:Int)≤(i:Int))=true:=B0
     have hi7:i≤7:=An
     obtain⟨s,hs⟩:∃s,s=8*i:=⟨_,rfl⟩
     have hsi:(8:Int)*(i:Int)=(s:Int):=An
     rw[←hs] at hby hb2
     obtain⟨q,hq⟩:∃q,q=n8/2^s%256:=⟨_,rfl⟩
     rw[←hq] at hby hb2
     have hs56:s≤56:=An
     have HQ:=aA hq
     have HSS:=aA hs
     clear hq hs hj hi
     go_wp2_with (at_builtin;refine bQ rfl rfl tyB HS2.out 0 rfl rfl (us:=[_]) rfl rfl ?_ ?_ Bz ?_;(intro u hu;simp only[List.mem_singleton] at hu;subst hu;rfl);(simp only[List.length_singleton];omega);intro B3 d3 w3 hS3)
     go_roundw
     case rel =>
      refine⟨i,B3,m2+1,d3,y++[UInt8.ofNat q],An,congrArg (Value.int .i64) An,rfl,by have:=HMJ.out;omega,?_,?_⟩
      ·have:=HY.out
       rw[beL,←HSS.out,←HQ.out] at this
       rw[←this,List.append_assoc]
       rfl
      ·unfold RC
       rw[bvs_snoc _ _ hb2]
       exact hS3
     case measure=>(simp[intOf])<;>omega
end Go.Proofs.YtnohmgpmmhlloaaGreatDoor.S1
