/-
 Joined of texts of mine,in build order: Nf,Ng,Nh,Be,Bf,Bk,Bm,Bg. Each says what it proves at its own head.
-/
import Derived.Test.YtnohmgpmmhlloaaGreatDoorYd
set_option linter.unusedSimpArgs false
set_option linter.unusedVariables false
set_option maxRecDepth 100000
set_option maxHeartbeats 25600000
namespace Go.Proofs.YtnohmgpmmhlloaaGreatDoor
open Go.RowKit
theorem rd_at' {w:World}{B:Option Addr}{n d:Nat}{xs:List Value}{k:Nat}{u:Value}(h:Rd w (.slice B n d) 1 n xs)(hk:xs[k]?=some u):∃b o,B=some ⟨b,o,none⟩∧w.cell? ⟨b,o+k,none⟩=some u:=by
 rcases h.cases with⟨_,_,h0⟩|⟨b,o,sp,c',hv,_,_,_,hl,h4,hc⟩
 ·rw[h0] at hk;simp at hk
 ·injection hv with hv1 _ _
  have hkl:k<xs.length:=(List.getElem?_eq_some_iff.1 hk).1
  have:=h4 An
  subst this hv1
  exact⟨b,o,rfl,hc k u hk⟩
def frL (l:List UInt8):Nat→List Int
 | 0=>List.replicate 16 0
 | k+1=>(frL l k).set (k/2) ((frL l k).getD (k/2) 0+((l.getD k 0).toNat:Int)*256^(k%2))
theorem frL_len (l:List UInt8):∀k,(frL l k).length=16
 | 0=>rfl
 | k+1=>by rw[frL,List.length_set,frL_len l k]
theorem frL_bd (l:List UInt8):∀(k j:Nat),0≤(frL l k).getD j 0∧(frL l k).getD j 0≤(if 2*j<k then 255 else 0)+(if 2*j+1<k then 65280 else 0)
 | 0,j=>by
  have:(List.replicate 16 (0:Int)).getD j 0=0:=by rw[List.getD_eq_getElem?_getD,List.getElem?_replicate];split<;>rfl
  rw[frL,this]
  simp
 | k+1,j=>by
  have ih:=frL_bd l k j
  have ih2:=frL_bd l k (k/2)
  have hc:=UInt8.toNat_lt (l.getD k 0)
  rw[frL,getD_set]
  split
  ·rename_i h
   obtain⟨h,_⟩:=h
   subst h
   rcases Nat.mod_two_eq_zero_or_one k with hm|hm
   ·rw[hm,Int.pow_zero,Int.mul_one]
    rw[if_neg An,if_neg An] at ih2
    rw[if_pos An,if_neg An]
    omega
   ·rw[hm,Int.pow_one]
    rw[if_pos An,if_neg An] at ih2
    rw[if_pos An,if_pos An]
    omega
  ·refine⟨ih.1,Int.le_trans ih.2 ?_⟩
   split<;>split<;>split<;>split<;>omega
theorem frL_nv (l:List UInt8):∀k,k≤32→k≤l.length→nv (frL l k)=(bval (l.take k):Int)
 | 0,_,_=>by rw[List.take_zero];rfl
 | k+1,hk,hl=>by
  have hx:l[k]?=some l[k]:=gE An
  have hg:l.getD k 0=l[k]:=by rw[List.getD_eq_getElem?_getD,hx];rfl
  have e:(256:Int)^(k%2)*65536^(k/2)=256^k:=by
   rw[show(65536:Int)=256^2 from rfl,←Int.pow_mul,←Int.pow_add]
   congr 1
   omega
  rw[frL,nv_set _ _ _ (by rw[frL_len];omega),frL_nv l k An An,iH hx,hg]
  rw[show(frL l k).getD (k/2) 0+((l[k]).toNat:Int)*256^(k%2) - (frL l k).getD (k/2) 0=((l[k]).toNat:Int)*256^(k%2) from by omega,Int.mul_assoc,e]
  rw[Int.natCast_add,Int.natCast_mul,Int.natCast_pow]
  rfl
theorem bval_fullT (l:List UInt8):bval (fullL l)=bval (l.take (min l.length 32)):=by
 unfold fullL
 rcases Nat.le_total l.length 32 with h|h
 ·rw[Nat.min_eq_left h,List.take_of_length_le (Nat.le_refl _),List.take_append,List.take_of_length_le h,bval_append,List.take_replicate,bval_zeros]
  omega
 ·rw[Nat.min_eq_right h,List.take_append_of_le_length h]
def NE (xs:List Int)(X:FK):Prop:=NB xs∧nv xs%(Pq:Int)=(X.val:Int)
theorem frL_ne (l:List UInt8):NE (frL l (min l.length 32)) (fbytes l):=by
 refine⟨⟨frL_len _ _,fun k x hx=>?_⟩,?_⟩
 ·have h:=frL_bd l (min l.length 32) k
  rw[getD_of hx] at h
  split at h<;>split at h<;>split<;>omega
 ·rw[frL_nv l _ (Nat.min_le_right _ _) (Nat.min_le_left _ _),←bval_fullT]
  rfl
def FrRel (w:World)(l:List UInt8)(m:Nat)(iv:Value)(wr:World):Prop:=
 ∃i:Nat,i≤m∧iv=.int .i64 (i:Int)∧St w NoB wr [.cells (w.heap.size+1) (ivs (frL l i)).toArray 130,.cells w.heap.size (ivs (List.replicate 16 0)).toArray 130]
theorem frBytes_lo (A:Option Addr)(n c:Nat)(l:List UInt8)(w:World)(hl:l.length=n)(hn:n≤1000)(hr:Rd w (.slice A n c) 1 n (bvs l))(h32:n≤32) :
  Calls Tryz.prog 154 #[.slice A n c] w fun e w'=>e=.returned (.agg (ivs (frL l n)).toArray)∧Below w.heap.size w w':=by
 have HR:=aA hr
 have HL:=aA hl
 have HS0:=((St.init w NoB).alloc (ivs (List.replicate 16 0)).toArray 130).alloc (ivs (List.replicate 16 0)).toArray 130
 rw[size_alloc1] at HS0
 have HS:=aA HS0
 have dn:decide ((32:Int)<(n:Int))=false:=A9
 have HNN:=aA h32
 clear HS0 hr hl
 go_enter Tryz.func154,Tryz.ntmps154
 go_wp2_with fail
 go_loopw [8] (fun i wr=>FrRel w l n i wr) (fun i _=>n - (intOf i).toNat)
 case atStart=>exact⟨0,An,rfl,HS.out⟩
 case round =>
  clear HS h32
  obtain⟨i,hi,rfl,hS⟩:=hrel
  have HS:=aA hS
  by_cases hlt:i<n
  ·have dm:decide ((i:Int)<(n:Int))=true:=by simp;omega
   have im:(i:Int)<(n:Int):=An
   have hin:i<n:=Ea
   have i32:i<32:=Ea
   have inn:(i:Int)<(n:Int):=An
   have hxb:l[i]?=some (l.getD i 0):=by rw[List.getD_eq_getElem?_getD,gE (by rw[HL.out];exact hin)];rfl
   obtain⟨b,o,rfl,hcb⟩:=rd_at' (HR.out.st hS.drew) (bE hxb)
   obtain⟨ch,hch⟩:∃c:Nat,c=(l.getD i 0).toNat:=⟨_,rfl⟩
   have hc8:ch<256:=Eb
   have HCH:=aA hch
   rw[←hch] at hcb
   obtain⟨q,hq⟩:∃q,q=i/2:=⟨_,rfl⟩
   have hbd:=frL_bd l i q
   have e1:(i:Int).tdiv 2=(q:Int):=Fi
   have q16:q<16:=An
   have c0:wr.drew.cell? ⟨w.heap.size+1,q,none⟩=some (.int .i64 ((frL l i).getD q 0)):=Ec
   have f0:=hS.drew.free 0 rfl q
   have qi:(q:Int)<16:=An
   have HT:=aA (show(frL l i).set q ((frL l i).getD q 0+(ch:Int)*256^(i%2))=frL l (i+1) by rw[hq,hch];rfl)
   obtain⟨x,hx⟩:∃x,x=(frL l i).getD q 0:=⟨_,rfl⟩
   rw[←hx] at c0 hbd HT
   have x0:0≤x:=hbd.1
   have x1:x≤65535:=by have:=hbd.2;split at this<;>split at this<;>omega
   clear hx hbd hch hS hxb
   rcases Nat.mod_two_eq_zero_or_one i with hm2|hm2
   ·have e2:(i:Int).tmod 2=0:=by rw[Int.tmod_eq_emod_of_nonneg An];omega
    rw[hm2,Int.pow_zero,Int.mul_one] at HT
    clear hq hm2
    go_upto_region 5 with fail
    refine aD [(0,1),(1,1),(2,1),(3,0),(4,1),(5,1),(6,1),(7,0),(8,1),(9,1),(10,1),(11,1),(12,1),(13,1),(14,1),(15,1),(16,3)] Bt Bt (fun _ _ _ _ h=>h) ?_
    go_wp2_with (first|(refine wpT_nil ?_)|((with_reducible refine fromT_refl ?_);(try refine nm ?_))|((with_reducible refine aE Df ?_);(try refine nm ?_))|(refine aI (v:=?_) rfl rfl ?_ ?_;rotate_left;(intro wx;go_simp;try go_bits)<;>(with_reducible rfl);(try refine nm ?_))|(refine aK (v:=?_) rfl rfl rfl ?_ ?_;rotate_left;(go_simp;try go_bits)<;>(with_reducible rfl);(try refine nm ?_))|(refine aL (v:=?_) rfl rfl ?_ ?_;rotate_left;(intro wx hx;go_simp;try go_bits)<;>(with_reducible rfl);(try refine nm ?_))|(refine aM rfl rfl ?_;intro K hK)|(refine wpT_late rfl rfl ?_;intro K hK)|(refine wpT_any rfl rfl ?_;intro K hK)|(refine wpT_skip rfl rfl ?_;(try refine nm ?_)))
    go_roundw
    case rel =>
     have h3:=HS.out.drew.setCell 0 rfl q (.int .i64 (x+(ch:Int)))
     simp only[List.set_cons_zero,ivs_set] at h3
     rw[HT.out] at h3
     exact⟨i+1,An,Cg,h3⟩
    case measure=>(simp[intOf])<;>omega
   ·have e2:(i:Int).tmod 2=1:=by rw[Int.tmod_eq_emod_of_nonneg An];omega
    rw[hm2,Int.pow_succ,Int.pow_zero,Int.one_mul] at HT
    clear hq hm2
    go_upto_region 5 with fail
    refine aD [(0,1),(1,1),(2,1),(3,0),(4,1),(5,1),(6,1),(7,0),(8,1),(9,1),(10,1),(11,1),(12,1),(13,1),(14,1),(15,1),(16,3)] Bt Bt (fun _ _ _ _ h=>h) ?_
    go_wp2_with (first|(refine wpT_nil ?_)|((with_reducible refine fromT_refl ?_);(try refine nm ?_))|((with_reducible refine aE Df ?_);(try refine nm ?_))|(refine aI (v:=?_) rfl rfl ?_ ?_;rotate_left;(intro wx;go_simp;try go_bits)<;>(with_reducible rfl);(try refine nm ?_))|(refine aK (v:=?_) rfl rfl rfl ?_ ?_;rotate_left;(go_simp;try go_bits)<;>(with_reducible rfl);(try refine nm ?_))|(refine aL (v:=?_) rfl rfl ?_ ?_;rotate_left;(intro wx hx;go_simp;try go_bits)<;>(with_reducible rfl);(try refine nm ?_))|(refine aM rfl rfl ?_;intro K hK)|(refine wpT_late rfl rfl ?_;intro K hK)|(refine wpT_any rfl rfl ?_;intro K hK)|(refine wpT_skip rfl rfl ?_;(try refine nm ?_)))
    go_roundw
    case rel =>
     have h3:=HS.out.drew.setCell 0 rfl q (.int .i64 (x+(ch:Int)*256))
     simp only[List.set_cons_zero,ivs_set] at h3
     rw[HT.out] at h3
     exact⟨i+1,An,Cg,h3⟩
    case measure=>(simp[intOf])<;>omega
  ·obtain rfl:n=i:=by omega
   obtain⟨ra,hra⟩:∃a,a=(ivs (frL l n)).toArray:=⟨_,rfl⟩
   have hsr:ra.size=16:=by rw[hra,List.size_toArray,ivs_len,frL_len]
   have hor:ra.all (·.oneCell')=true:=by rw[hra];exact ivs_all _
   rw[←hra] at hS
   have HRA:=aA hra
   have HS1:=aA hS
   have HS2:=aA (hS.setRow 1 rfl ra)
   clear hS HS hra
   go_upto_region 7 with fail
   refine wp_region_list ?_
   refine wpList_load_row rfl 130 (.tmp 3) rfl (w.heap.size+1) rfl 130 ra _ _ (HS1.out.heap 0 rfl) Tryz.underlying130 rfl Dn ?_
   refine wpList_store_row rfl 130 (.tmp 2) (.tmp 28) rfl w.heap.size ra rfl rfl 130 _ (HS1.out.heap 1 rfl) Dn (by rw[hsr];rfl) hor ?_
   refine wpList_nil ?_
   go_wp2_with fail
   refine bodyPost_ret (results_cell_row rfl _ _ w.heap.size _ _ _ _ rfl (HS2.out.heap 1 rfl) Tryz.underlying130 rfl Dn) rfl ?_
   exact⟨by rw[HRA.out],HS2.out.below⟩
theorem frBytes_hi (A:Option Addr)(n c:Nat)(l:List UInt8)(w:World)(hl:l.length=n)(hn:n≤1000)(hr:Rd w (.slice A n c) 1 n (bvs l))(h32:32<n) :
  Calls Tryz.prog 154 #[.slice A n c] w fun e w'=>e=.returned (.agg (ivs (frL l 32)).toArray)∧Below w.heap.size w w':=by
 have HR:=aA hr
 have HL:=aA hl
 have HS0:=((St.init w NoB).alloc (ivs (List.replicate 16 0)).toArray 130).alloc (ivs (List.replicate 16 0)).toArray 130
 rw[size_alloc1] at HS0
 have HS:=aA HS0
 have dn:decide ((32:Int)<(n:Int))=true:=A9
 have HNN:=aA h32
 clear HS0 hr hl
 go_enter Tryz.func154,Tryz.ntmps154
 go_wp2_with fail
 go_loopw [8] (fun i wr=>FrRel w l 32 i wr) (fun i _=>32 - (intOf i).toNat)
 case atStart=>exact⟨0,An,rfl,HS.out⟩
 case round =>
  clear HS h32
  obtain⟨i,hi,rfl,hS⟩:=hrel
  have HS:=aA hS
  by_cases hlt:i<32
  ·have dm:decide ((i:Int)<32)=true:=by simp;omega
   have im:(i:Int)<32:=An
   have hin:i<n:=Ea
   have i32:i<32:=Ea
   have inn:(i:Int)<(n:Int):=An
   have hxb:l[i]?=some (l.getD i 0):=by rw[List.getD_eq_getElem?_getD,gE (by rw[HL.out];exact hin)];rfl
   obtain⟨b,o,rfl,hcb⟩:=rd_at' (HR.out.st hS.drew) (bE hxb)
   obtain⟨ch,hch⟩:∃c:Nat,c=(l.getD i 0).toNat:=⟨_,rfl⟩
   have hc8:ch<256:=Eb
   have HCH:=aA hch
   rw[←hch] at hcb
   obtain⟨q,hq⟩:∃q,q=i/2:=⟨_,rfl⟩
   have hbd:=frL_bd l i q
   have e1:(i:Int).tdiv 2=(q:Int):=Fi
   have q16:q<16:=An
   have c0:wr.drew.cell? ⟨w.heap.size+1,q,none⟩=some (.int .i64 ((frL l i).getD q 0)):=Ec
   have f0:=hS.drew.free 0 rfl q
   have qi:(q:Int)<16:=An
   have HT:=aA (show(frL l i).set q ((frL l i).getD q 0+(ch:Int)*256^(i%2))=frL l (i+1) by rw[hq,hch];rfl)
   obtain⟨x,hx⟩:∃x,x=(frL l i).getD q 0:=⟨_,rfl⟩
   rw[←hx] at c0 hbd HT
   have x0:0≤x:=hbd.1
   have x1:x≤65535:=by have:=hbd.2;split at this<;>split at this<;>omega
   clear hx hbd hch hS hxb
   rcases Nat.mod_two_eq_zero_or_one i with hm2|hm2
   ·have e2:(i:Int).tmod 2=0:=by rw[Int.tmod_eq_emod_of_nonneg An];omega
    rw[hm2,Int.pow_zero,Int.mul_one] at HT
    clear hq hm2
    go_upto_region 5 with fail
    refine aD [(0,1),(1,1),(2,1),(3,0),(4,1),(5,1),(6,1),(7,0),(8,1),(9,1),(10,1),(11,1),(12,1),(13,1),(14,1),(15,1),(16,3)] Bt Bt (fun _ _ _ _ h=>h) ?_
    go_wp2_with (first|(refine wpT_nil ?_)|((with_reducible refine fromT_refl ?_);(try refine nm ?_))|((with_reducible refine aE Df ?_);(try refine nm ?_))|(refine aI (v:=?_) rfl rfl ?_ ?_;rotate_left;(intro wx;go_simp;try go_bits)<;>(with_reducible rfl);(try refine nm ?_))|(refine aK (v:=?_) rfl rfl rfl ?_ ?_;rotate_left;(go_simp;try go_bits)<;>(with_reducible rfl);(try refine nm ?_))|(refine aL (v:=?_) rfl rfl ?_ ?_;rotate_left;(intro wx hx;go_simp;try go_bits)<;>(with_reducible rfl);(try refine nm ?_))|(refine aM rfl rfl ?_;intro K hK)|(refine wpT_late rfl rfl ?_;intro K hK)|(refine wpT_any rfl rfl ?_;intro K hK)|(refine wpT_skip rfl rfl ?_;(try refine nm ?_)))
    go_roundw
    case rel =>
     have h3:=HS.out.drew.setCell 0 rfl q (.int .i64 (x+(ch:Int)))
     simp only[List.set_cons_zero,ivs_set] at h3
     rw[HT.out] at h3
     exact⟨i+1,An,Cg,h3⟩
    case measure=>(simp[intOf])<;>omega
   ·have e2:(i:Int).tmod 2=1:=by rw[Int.tmod_eq_emod_of_nonneg An];omega
    rw[hm2,Int.pow_succ,Int.pow_zero,Int.one_mul] at HT
    clear hq hm2
    go_upto_region 5 with fail
    refine aD [(0,1),(1,1),(2,1),(3,0),(4,1),(5,1),(6,1),(7,0),(8,1),(9,1),(10,1),(11,1),(12,1),(13,1),(14,1),(15,1),(16,3)] Bt Bt (fun _ _ _ _ h=>h) ?_
    go_wp2_with (first|(refine wpT_nil ?_)|((with_reducible refine fromT_refl ?_);(try refine nm ?_))|((with_reducible refine aE Df ?_);(try refine nm ?_))|(refine aI (v:=?_) rfl rfl ?_ ?_;rotate_left;(intro wx;go_simp;try go_bits)<;>(with_reducible rfl);(try refine nm ?_))|(refine aK (v:=?_) rfl rfl rfl ?_ ?_;rotate_left;(go_simp;try go_bits)<;>(with_reducible rfl);(try refine nm ?_))|(refine aL (v:=?_) rfl rfl ?_ ?_;rotate_left;(intro wx hx;go_simp;try go_bits)<;>(with_reducible rfl);(try refine nm ?_))|(refine aM rfl rfl ?_;intro K hK)|(refine wpT_late rfl rfl ?_;intro K hK)|(refine wpT_any rfl rfl ?_;intro K hK)|(refine wpT_skip rfl rfl ?_;(try refine nm ?_)))
    go_roundw
    case rel =>
     have h3:=HS.out.drew.setCell 0 rfl q (.int .i64 (x+(ch:Int)*256))
     simp only[List.set_cons_zero,ivs_set] at h3
     rw[HT.out] at h3
     exact⟨i+1,An,Cg,h3⟩
    case measure=>(simp[intOf])<;>omega
  ·obtain rfl:32=i:=by omega
   obtain⟨ra,hra⟩:∃a,a=(ivs (frL l 32)).toArray:=⟨_,rfl⟩
   have hsr:ra.size=16:=by rw[hra,List.size_toArray,ivs_len,frL_len]
   have hor:ra.all (·.oneCell')=true:=by rw[hra];exact ivs_all _
   rw[←hra] at hS
   have HRA:=aA hra
   have HS1:=aA hS
   have HS2:=aA (hS.setRow 1 rfl ra)
   clear hS HS hra
   go_upto_region 7 with fail
   refine wp_region_list ?_
   refine wpList_load_row rfl 130 (.tmp 3) rfl (w.heap.size+1) rfl 130 ra _ _ (HS1.out.heap 0 rfl) Tryz.underlying130 rfl Dn ?_
   refine wpList_store_row rfl 130 (.tmp 2) (.tmp 28) rfl w.heap.size ra rfl rfl 130 _ (HS1.out.heap 1 rfl) Dn (by rw[hsr];rfl) hor ?_
   refine wpList_nil ?_
   go_wp2_with fail
   refine bodyPost_ret (results_cell_row rfl _ _ w.heap.size _ _ _ _ rfl (HS2.out.heap 1 rfl) Tryz.underlying130 rfl Dn) rfl ?_
   exact⟨by rw[HRA.out],HS2.out.below⟩
theorem frN_any (A:Option Addr)(n c:Nat)(l:List UInt8)(w:World)(hl:l.length=n)(hn:n≤1000)(hr:Rd w (.slice A n c) 1 n (bvs l)) :
  Calls Tryz.prog 154 #[.slice A n c] w fun e w'=>∃xs,NE xs (fbytes l)∧e=.returned (.agg (ivs xs).toArray)∧Below w.heap.size w w':=by
 have hne:=frL_ne l
 rw[hl] at hne
 rcases Nat.lt_or_ge 32 n with h|h
 ·rw[Nat.min_eq_right An] at hne
  exact(frBytes_hi A n c l w hl hn hr h).mono fun e w' he=>⟨_,hne,he⟩
 ·rw[Nat.min_eq_left h] at hne
  exact(frBytes_lo A n c l w hl hn hr h).mono fun e w' he=>⟨_,hne,he⟩
theorem ne_small (n:Nat)(h:n<4294967296):NB [((n%65536:Nat):Int),((n/65536:Nat):Int),0,0,0,0,0,0,0,0,0,0,0,0,0,0]∧nv [((n%65536:Nat):Int),((n/65536:Nat):Int),0,0,0,0,0,0,0,0,0,0,0,0,0,0]=(n:Int):=by
 refine⟨⟨rfl,fun k x hx=>?_⟩,by simp only[nv];omega⟩
 match k,hx with
 | 0,hx=>simp at hx;subst hx;omega
 | 1,hx=>simp at hx;subst hx;omega
 | k+2,hx =>
  have:x=0:=by
   have hm:=mG hx
   have h2:=mG (l:=List.replicate 14 (0:Int)) (i:=k) (a:=x) (by simpa using hx)
   exact(List.mem_replicate.1 h2).2
  subst this
  simp
theorem smallN_any (n:Nat)(w:World)(h:n<4294967296) :
  Calls Tryz.prog 140 #[.int .u32 (n:Int)] w fun e w'=>e=.returned (.agg (ivs [((n%65536:Nat):Int),((n/65536:Nat):Int),0,0,0,0,0,0,0,0,0,0,0,0,0,0]).toArray)∧Below w.heap.size w w':=by
 have e1:bits .and .u32 (n:Int) 65535=((n%65536:Nat):Int):=by
  rw[show n%65536=n &&& 65535 from(Nat.and_two_pow_sub_one_eq_mod n 16).symm]
  exact u32_and_nat n 65535 h An
 have e2:(n:Int)/65536=((n/65536:Nat):Int):=An
 obtain⟨p,hp⟩:∃p,p=n%65536:=⟨_,rfl⟩
 obtain⟨q,hq⟩:∃q,q=n/65536:=⟨_,rfl⟩
 have p1:(p:Int)<65536:=An
 have q1:(q:Int)<65536:=An
 rw[←hp] at e1 ⊢
 rw[←hq] at e2 ⊢
 have hN:(n:Int)<4294967296:=An
 clear hp hq h
 go_enter Tryz.func140,Tryz.ntmps140
 have HS:=aA ((St.init w NoB).alloc (ivs [(p:Int),(q:Int),0,0,0,0,0,0,0,0,0,0,0,0,0,0]).toArray 130)
 go_wp2_with fail
 refine bodyPost_ret (results_cell_row rfl _ _ w.heap.size _ _ _ _ rfl (HS.out.heap 0 rfl) Tryz.underlying130 rfl Bt) rfl ?_
 exact⟨rfl,HS.out.below⟩
theorem pq_cast (n:Nat):((n%Pq:Nat):Int)=(n:Int)%(Pq:Int):=Int.natCast_emod n Pq
theorem ne_add {xs ys:List Int}{X Y:FK}(h:NE xs X)(h2:NE ys Y):NE (carL (List.zipWith (·+·) xs ys)) (X+Y):=by
 refine⟨nb_addN h.1 h2.1,?_⟩
 rw[carL_mod _ (by rw[List.length_zipWith,h.1.1,h2.1.1];rfl),nv_zipAdd _ _ (by rw[h.1.1,h2.1.1]),cZ,pq_cast,Int.natCast_add,←h.2,←h2.2,←Int.add_emod]
theorem ne_sub {xs ys:List Int}{X Y:FK}(h:NE xs X)(h2:NE ys Y):NE (carL (List.zipWith (·- ·) xs ys)) (X - Y):=by
 refine⟨nb_subN h.1 h2.1,?_⟩
 have hy:=Y.isLt
 rw[carL_mod _ (by rw[List.length_zipWith,h.1.1,h2.1.1];rfl),nv_zip _ _ (by rw[h.1.1,h2.1.1]),fsub_val,pq_cast,Int.natCast_add,Int.natCast_sub An,←h.2,←h2.2]
 rw[show nv xs%(Pq:Int)+((Pq:Int) - nv ys%(Pq:Int))=nv xs%(Pq:Int) - nv ys%(Pq:Int)+(Pq:Int) from by omega,Int.add_emod_right,←Int.sub_emod]
theorem ne_mul {xs ys:List Int}{X Y:FK}(h:NE xs X)(h2:NE ys Y):NE (muN xs ys) (X*Y):=by
 obtain⟨h3,h4⟩:=muN_ok h.1 h2.1
 refine⟨h3,?_⟩
 rw[h4,cN,pq_cast,Int.natCast_mul,←h.2,←h2.2,←Int.mul_emod]
theorem ne_toNat {xs:List Int}{X:FK}(h:NE xs X):(nv xs%(Pq:Int)).toNat=X.val:=by rw[h.2];rfl
def zerN:List Int:=List.replicate 16 0
theorem ne_zero:NE zerN 0:=by
 refine⟨⟨rfl,fun k x hx=>?_⟩,?_⟩
 ·have:=(List.mem_replicate.1 (mG hx)).2
  subst this
  split<;>omega
 ·rw[fzero_val]
  show nv (List.replicate 16 0)%_=_
  rw[show nv (List.replicate 16 0)=0 from by decide]
  simp
def ResN (w:World)(X:FK)(e:Ending)(w':World):Prop:=∃zs,NE zs X∧e=.returned (.agg (ivs zs).toArray)∧Below w.heap.size w w'
section
variable {xs ys : List Int} {X Y : FK}
theorem addC (w:World)(h:NE xs X)(h2:NE ys Y):Calls Tryz.prog 157 #[.agg (ivs xs).toArray,.agg (ivs ys).toArray] w (ResN w (X+Y)):=
 (addN_any xs ys w h.1 h2.1).mono fun _ _ he=>⟨_,ne_add h h2,he.1,he.2⟩
theorem subC (w:World)(h:NE xs X)(h2:NE ys Y):Calls Tryz.prog 156 #[.agg (ivs xs).toArray,.agg (ivs ys).toArray] w (ResN w (X - Y)):=
 (subN_any xs ys w h.1 h2.1).mono fun _ _ he=>⟨_,ne_sub h h2,he.1,he.2⟩
theorem mulC (w:World)(h:NE xs X)(h2:NE ys Y):Calls Tryz.prog 137 #[.agg (ivs xs).toArray,.agg (ivs ys).toArray] w (ResN w (X*Y)):=
 (mulN_any xs ys w h.1 h2.1).mono fun _ _ he=>⟨_,ne_mul h h2,he.1,he.2⟩
theorem bytesC (w:World)(h:NE xs X):Calls Tryz.prog 136 #[.agg (ivs xs).toArray] w fun e w'=>∃B d,e=.returned (.slice B 32 d)∧Below w.heap.size w w'∧w'.ownsRow w.heap.size 5 1 (.slice B 32 d) 32 (bvs (leB 32 X.val)):=by
 rw[←ne_toNat h]
 exact bytesN_any xs w h.1
end
theorem leB_injP {x y:Nat}(hx:x<Pq)(hy:y<Pq)(h:leB 32 x=leB 32 y):x=y:=by
 have hp:=Pq_256.1
 have h1:=bval_leB 32 x
 have h2:=bval_leB 32 y
 rw[Nat.mod_eq_of_lt An] at h1 h2
 rw[←h1,←h2,h]
theorem leB_beq (X Y:FK):(leB 32 X.val==leB 32 Y.val)=decide (X.val=Y.val):=by
 by_cases h:X.val=Y.val
 ·rw[h];simp
 ·rw[decide_eq_false h,beq_eq_false_iff_ne]
  exact fun e=>h (leB_injP X.isLt Y.isLt e)
theorem enBytesN (args:Array Value)(w:World):(callFunc 136 args).run Tryz.prog w=.ok (.enter 136 args) w:=Bt
theorem sameC {xs ys:List Int}{X Y:FK}(w:World)(h:NE xs X)(h2:NE ys Y) :
  Calls Tryz.prog 159 #[.agg (ivs xs).toArray,.agg (ivs ys).toArray] w fun e w'=>e=.returned (.bool (decide (X.val=Y.val)))∧Below w.heap.size w w':=by
 have HB1:=aA (fun W=>bytesC W h)
 have HB2:=aA (fun W=>bytesC W h2)
 obtain⟨xa,hxa⟩:∃a,a=(ivs xs).toArray:=⟨_,rfl⟩
 have hsz:xa.size=16:=by rw[hxa,List.size_toArray,ivs_len];exact h.1.1
 obtain⟨ya,hya⟩:∃a,a=(ivs ys).toArray:=⟨_,rfl⟩
 have hsy:ya.size=16:=by rw[hya,List.size_toArray,ivs_len];exact h2.1.1
 rw[←hxa] at HB1 ⊢
 rw[←hya] at HB2 ⊢
 have HS:=aA ((((St.init w NoB).alloc xa 130).alloc ya 130).drew)
 rw[size_alloc1] at HS
 have hbq:=leB_beq X Y
 clear hxa hya h h2
 go_enter Tryz.func159,Tryz.ntmps159
 go_upto_region 1 with fail
 refine aD [(0,0),(3,0),(1,2),(2,0),(4,2),(5,0),(6,1),(7,1)] Bt Bt (fun _ _ _ _ h=>h) ?_
 generalize ((w.alloc (.cells xa 130)).alloc (.cells ya 130)).drew=wd at HS ⊢
 go_wp2_with (first
   |(refine wpT_loadRow rfl rfl rfl HS.out 1 rfl rfl Tryz.underlying130 rfl De ?_;(try refine nm ?_))
   |(refine wpT_loadRow rfl rfl rfl HS.out 0 rfl rfl Tryz.underlying130 rfl (by rw[hsy];kernel_rfl) ?_;(try refine nm ?_))
   |(refine wpT_nil ?_)|((with_reducible refine fromT_refl ?_);(try refine nm ?_))|((with_reducible refine aE Df ?_);(try refine nm ?_))|(refine aI (v:=?_) rfl rfl ?_ ?_;rotate_left;(intro wx;go_simp;try go_bits)<;>(with_reducible rfl);(try refine nm ?_))|(refine aK (v:=?_) rfl rfl rfl ?_ ?_;rotate_left;(go_simp;try go_bits)<;>(with_reducible rfl);(try refine nm ?_))|(refine aL (v:=?_) rfl rfl ?_ ?_;rotate_left;(intro wx hx;go_simp;try go_bits)<;>(with_reducible rfl);(try refine nm ?_))|(refine aM rfl rfl ?_;intro K hK)|(refine wpT_late rfl rfl ?_;intro K hK)|(refine wpT_any rfl rfl ?_;intro K hK)|(refine wpT_skip rfl rfl ?_;(try refine nm ?_))
   |(go_at_call 136;(with_reducible refine(HB1.out _).mono ?_);rintro e w1 ⟨B1,d1,rfl,hb1,ho1⟩;have HS1:=aA (HS.out.row hb1 ho1);have cv1:∀x,aC w1 x→(convert 22 9 (.slice B1 32 d1)).run Tryz.prog x=.ok (.string (strOf (leB 32 X.val))) x:=fun x hx=>aY Tryz.underlying22 Tryz.underlying5 Tryz.underlying9 ((HS1.out.rd 0 rfl).below hx);clear ho1)
   |(go_at_call 136;(with_reducible refine(HB2.out _).mono ?_);rintro e w2 ⟨B2,d2,rfl,hb2,ho2⟩;have HS2:=aA (HS1.out.row hb2 ho2);have cv2:∀x,aC w2 x→(convert 22 9 (.slice B2 32 d2)).run Tryz.prog x=.ok (.string (strOf (leB 32 Y.val))) x:=fun x hx=>aY Tryz.underlying22 Tryz.underlying5 Tryz.underlying9 ((HS2.out.rd 0 rfl).below hx);clear ho2))
 go_ret
 exact⟨rfl,HS2.out.below⟩
theorem and_one8 (n:Nat)(h:n<256):bits .and .u8 (n:Int) 1=((n%2:Nat):Int):=by
 rw[show n%2=n &&& 1 from(Nat.and_two_pow_sub_one_eq_mod n 1).symm]
 exact u8_and_nat n 1 h An
theorem oddC {xs:List Int}{X:FK}(w:World)(h:NE xs X) :
  Calls Tryz.prog 138 #[.agg (ivs xs).toArray] w fun e w'=>e=.returned (.bool (decide (X.val%2=1)))∧Below w.heap.size w w':=by
 have HB1:=aA (fun W=>bytesC W h)
 obtain⟨xa,hxa⟩:∃a,a=(ivs xs).toArray:=⟨_,rfl⟩
 have hsz:xa.size=16:=by rw[hxa,List.size_toArray,ivs_len];exact h.1.1
 rw[←hxa] at HB1 ⊢
 have HS:=aA ((St.init w NoB).alloc xa 130)
 clear hxa h
 go_enter Tryz.func138,Tryz.ntmps138
 go_upto_region 1 with fail
 refine wp_region_list ?_
 refine wpList_load_row rfl 130 (.tmp 1) rfl w.heap.size rfl 130 xa _ _ (HS.out.heap 0 rfl) Tryz.underlying130 rfl De ?_
 refine wl_callN rfl rfl enBytesN rfl (HB1.out _) ?_
 rintro e w1 ⟨B1,d1,rfl,hb1,ho1⟩
 refine⟨_,rfl,?_⟩
 have HS1:=aA (HS.out.call hb1)
 obtain⟨b,o,rfl,hc⟩:=rd_at' (rd_own ho1) (bE (l:=leB 32 X.val) (j:=0) (c:=UInt8.ofNat (X.val%256)) rfl)
 obtain⟨p,hp⟩:∃p,p=X.val%256:=⟨_,rfl⟩
 have p256:p<256:=An
 rw[UInt8.toNat_ofNat',←hp,Nat.mod_eq_of_lt (by omega:p<2^8),Nat.add_zero] at hc
 have e1:=and_one8 p p256
 have e2:(((p%2:Nat):Int)==1)=decide (X.val%2=1):=by
  rw[Bool.eq_iff_iff,beq_iff_eq,decide_eq_true_iff]
  omega
 have e3:decide (((p%2:Nat):Int)=1)=decide (X.val%2=1):=by
  rw[decide_eq_decide]
  omega
 obtain⟨r,hr⟩:∃r,r=p%2:=⟨_,rfl⟩
 obtain⟨bb,hbb⟩:∃b,b=decide (X.val%2=1):=⟨_,rfl⟩
 rw[←hr] at e1 e2 e3
 rw[←hbb] at e2 e3
 have HBB:=aA hbb
 clear hr hbb hp ho1
 go_wp2_with fail
 go_ret
 exact⟨by rw[←HBB.out];rfl,HS1.out.below⟩
def fpw (X:FK)(e:Nat):FK:=⟨X.val^e%Pq,Nat.mod_lt _ pq_pos⟩
theorem fpw_val (X:FK)(e:Nat):(fpw X e).val=X.val^e%Pq:=rfl
theorem fpw_mul (X:FK)(e f:Nat):fpw X e*fpw X f=fpw X (e+f):=Fin.ext (by rw[cN,fpw_val,fpw_val,fpw_val,Nat.pow_add,←Nat.mul_mod])
theorem fpw_one (X:FK):fpw X 1=X:=Fin.ext (by rw[fpw_val,Nat.pow_one];exact Nat.mod_eq_of_lt X.isLt)
theorem fpw_zero (X:FK):(fpw X 0).val=1:=by rw[fpw_val,Nat.pow_zero];exact Nat.mod_eq_of_lt Ce
def bitE (bs:List Bool):Nat→Nat
 | 0=>0
 | j+1=>2*bitE bs j+(if bs.getD (254 - j) false then 1 else 0)
def blv (bs:List Bool):List Value:=bs.map Value.bool
theorem blv_len (bs:List Bool):(blv bs).length=bs.length:=by simp[blv]
theorem blv_get {bs:List Bool}{k:Nat}{x:Bool}(h:bs[k]?=some x):(blv bs).toArray[k]?=some (.bool x):=by simp[blv,h]
def PwRel (w:World)(X:FK)(xs:List Int)(bs:List Bool)(g:Nat)(iv:Value)(wr:World):Prop:=
 ∃(j:Nat) (zs:List Int),j≤255∧iv=.int .i64 (254 - (j:Int))∧NE zs (fpw X (bitE bs j))∧St w NoB wr [.cells g (ivs zs).toArray 130,.cells (w.heap.size+2) (ivs (List.replicate 16 0)).toArray 130,.cells (w.heap.size+1) (blv bs).toArray 206,.cells w.heap.size (ivs xs).toArray 130]
theorem enMulN (args:Array Value)(w:World):(callFunc 137 args).run Tryz.prog w=.ok (.enter 137 args) w:=Bt
theorem enSmallN (args:Array Value)(w:World):(callFunc 140 args).run Tryz.prog w=.ok (.enter 140 args) w:=Bt
theorem bW {zs:List Int}{X:FK}(h:NE zs X):(ivs zs).toArray.size=16:=by rw[List.size_toArray,ivs_len];exact h.1.1
theorem powerN_any (xs:List Int)(X:FK)(bs:List Bool)(w:World)(h:NE xs X)(hb:bs.length=255) :
  Calls Tryz.prog 165 #[.agg (ivs xs).toArray,.agg (blv bs).toArray] w (ResN w (fpw X (bitE bs 255))):=by
 have HN:=aA h
 have HL:=aA hb
 have hS0:=(((St.init w NoB).alloc (ivs xs).toArray 130).alloc (blv bs).toArray 206).alloc (ivs (List.replicate 16 0)).toArray 130
 rw[size_alloc1,size_alloc1] at hS0
 have HS0:=aA hS0
 clear hS0
 have HSM:=aA (fun W=>smallN_any 1 W An)
 clear h hb
 go_enter Tryz.func165,Tryz.ntmps165
 go_upto_region 1 with fail
 refine wp_region_list ?_
 refine wl_callN rfl rfl enSmallN rfl (HSM.out _) ?_
 rintro e w1 ⟨rfl,hb1⟩
 refine⟨_,rfl,?_⟩
 have HS1:=aA (HS0.out.call hb1)
 have hne1:NE [((1%65536:Nat):Int),((1/65536:Nat):Int),0,0,0,0,0,0,0,0,0,0,0,0,0,0] (fpw X 0):=by
  refine⟨(ne_small 1 An).1,?_⟩
  rw[(ne_small 1 An).2,fpw_zero]
  have:=Pq_256.2
  exact Int.emod_eq_of_lt An An
 obtain⟨z1,hz1⟩:∃z,z=[((1%65536:Nat):Int),((1/65536:Nat):Int),0,0,0,0,0,0,0,0,0,0,0,0,0,0]:=⟨_,rfl⟩
 rw[←hz1] at hne1 ⊢
 have HZ1:=aA hne1
 clear hne1 hz1
 refine wpList_plain rfl ?_
 intro K hK
 go_simp
 refine hK _ _ ?_
 clear hK K
 have HS2:=aA (show St w NoB _ _ from HS1.out.alloc #[.int .i64 0,.int .i64 0,.int .i64 0,.int .i64 0,.int .i64 0,.int .i64 0,.int .i64 0,.int .i64 0,.int .i64 0,.int .i64 0,.int .i64 0,.int .i64 0,.int .i64 0,.int .i64 0,.int .i64 0,.int .i64 0] 130)
 obtain⟨g,hg⟩:∃g,g=w1.heap.size:=⟨_,rfl⟩
 rw[←hg] at HS2
 have HS3:=aA (show St w NoB _ [.cells g (ivs z1).toArray 130,.cells (w.heap.size+2) (ivs (List.replicate 16 0)).toArray 130,.cells (w.heap.size+1) (blv bs).toArray 206,.cells w.heap.size (ivs xs).toArray 130] from HS2.out.setRow 0 rfl (ivs z1).toArray)
 refine wpList_store_row rfl 130 (.tmp 5) (.tmp 7) rfl g (ivs z1).toArray (by rw[hg];rfl) rfl 130 _ (HS2.out.heap 0 rfl) (by rw[bW HZ1.out];kernel_rfl) (by rw[bW HZ1.out];rfl) (ivs_all _) ?_
 refine wpList_nil ?_
 have hgE:w1.heap.size=g:=hg.symm
 simp only[hgE]
 generalize ((w1.alloc (.cells #[.int .i64 0,.int .i64 0,.int .i64 0,.int .i64 0,.int .i64 0,.int .i64 0,.int .i64 0,.int .i64 0,.int .i64 0,.int .i64 0,.int .i64 0,.int .i64 0,.int .i64 0,.int .i64 0,.int .i64 0,.int .i64 0] 130)).setRow g (ivs z1).toArray)=wq at HS3 ⊢
 have hlt0:=Nat.le_refl w1.heap.size
 clear hgE hg HS2 HS1
 go_wp2_with fail
 go_loopw [6] (fun i wr=>PwRel w X xs bs g i wr) (fun i _=>(intOf i+1).toNat)
 case atStart=>exact⟨0,z1,An,rfl,HZ1.out,HS3.out⟩
 case round =>
  clear HS3 HZ1
  obtain⟨j,zs,hj,rfl,hz,hS⟩:=hrel
  have HZ:=aA hz
  have HS:=aA hS
  by_cases hlt:j<255
  ·have dj:decide ((0:Int)≤254 - (j:Int))=true:=by simp;omega
   have jj:(0:Int)≤254 - (j:Int):=An
   have HM:=aA (fun W=>mulC W hz hz)
   obtain⟨bb,hbb⟩:∃b,bs[254 - j]?=some b:=⟨bs[254 - j]'Dp,gE _⟩
   have hE:bitE bs (j+1)=2*bitE bs j+(if bb then 1 else 0):=by rw[bitE,List.getD_eq_getElem?_getD,hbb];rfl
   rw[fpw_mul,←Nat.two_mul] at HM
   have HE:=aA hE
   clear hz hS hE
   go_upto_region 5 with fail
   refine wp_region_list ?_
   refine wpList_load_row rfl 130 (.tmp 5) rfl g rfl 130 (ivs zs).toArray _ _ (HS.out.heap 0 rfl) Tryz.underlying130 rfl Dq ?_
   refine wpList_load_row rfl 130 (.tmp 5) rfl g rfl 130 (ivs zs).toArray _ _ (HS.out.heap 0 rfl) Tryz.underlying130 rfl Dq ?_
   refine wl_callN rfl rfl enMulN rfl (HM.out _) ?_
   rintro e w2 ⟨ys,hy,rfl,hb2⟩
   refine⟨_,rfl,?_⟩
   have HY:=aA hy
   have HS1:=aA (HS.out.call hb2)
   have HS2:=aA (show St w NoB (w2.setRow g (ivs ys).toArray) [.cells g (ivs ys).toArray 130,.cells (w.heap.size+2) (ivs (List.replicate 16 0)).toArray 130,.cells (w.heap.size+1) (blv bs).toArray 206,.cells w.heap.size (ivs xs).toArray 130] from HS1.out.setRow 0 rfl (ivs ys).toArray)
   refine wpList_store_row rfl 130 (.tmp 5) (.tmp 14) rfl g (ivs ys).toArray rfl rfl 130 _ (HS1.out.heap 0 rfl) Dr (by rw[bW HY.out,bW HZ.out]) (ivs_all _) ?_
   refine wpList_nil ?_
   generalize w2.setRow g (ivs ys).toArray=w3 at HS2 ⊢
   have cb:w3.cell? ⟨w.heap.size+1,254 - j,none⟩=some (.bool bb):=by rw[HS2.out.cell 2 rfl (254 - j)];exact blv_get hbb
   obtain⟨q,hq⟩:∃q,q=254 - j:=⟨_,rfl⟩
   rw[←hq] at cb
   have hqi:(254:Int) - (j:Int)=(q:Int):=An
   have q255:(q:Int)<255:=An
   have HQ:=aA hqi
   rw[hqi] at jj dj
   clear HS HS1 hb2 hy hbb hq
   simp only[hqi]
   clear hqi
   cases bb with
   | false =>
    have hE2:=HE.out
    rw[if_neg Bool.false_ne_true,Nat.add_zero] at hE2
    have HE2:=aA hE2
    clear hE2 HE
    go_wp2_with fail
    go_roundw
    case rel=>exact⟨j+1,ys,An,by rw[←HQ.out];go_num,HE2.out▸HY.out,HS2.out⟩
    case measure=>(have:=HQ.out);(simp[intOf])<;>omega
   | true =>
    have hE2:=HE.out
    rw[if_pos rfl] at hE2
    have HM2:=aA (fun W=>mulC W HY.out HN.out)
    have hx1:fpw X (2*bitE bs j)*X=fpw X (bitE bs (j+1)):=by rw[hE2,←fpw_mul,fpw_one]
    rw[hx1] at HM2
    clear hE2 HE hx1
    go_upto_region 7 with fail
    refine wp_region_list ?_
    refine wpList_load_row rfl 130 (.tmp 5) rfl g rfl 130 (ivs ys).toArray _ _ (HS2.out.heap 0 rfl) Tryz.underlying130 rfl Dr ?_
    refine wpList_load_row rfl 130 (.tmp 2) rfl w.heap.size rfl 130 (ivs xs).toArray _ _ (HS2.out.heap 3 rfl) Tryz.underlying130 rfl Ds ?_
    refine wl_callN rfl rfl enMulN rfl (HM2.out _) ?_
    rintro e w4 ⟨us,hu,rfl,hb4⟩
    refine⟨_,rfl,?_⟩
    have HU:=aA hu
    have HS3:=aA (HS2.out.call hb4)
    have HS4:=aA (show St w NoB (w4.setRow g (ivs us).toArray) [.cells g (ivs us).toArray 130,.cells (w.heap.size+2) (ivs (List.replicate 16 0)).toArray 130,.cells (w.heap.size+1) (blv bs).toArray 206,.cells w.heap.size (ivs xs).toArray 130] from HS3.out.setRow 0 rfl (ivs us).toArray)
    refine wpList_store_row rfl 130 (.tmp 5) (.tmp 20) rfl g (ivs us).toArray rfl rfl 130 _ (HS3.out.heap 0 rfl) (by rw[bW HU.out];kernel_rfl) (by rw[bW HU.out,bW HY.out]) (ivs_all _) ?_
    refine wpList_nil ?_
    generalize w4.setRow g (ivs us).toArray=w5 at HS4 ⊢
    clear HS2 HS3 hb4 hu cb
    go_wp2_with fail
    go_roundw
    case rel=>exact⟨j+1,us,An,by rw[←HQ.out];go_num,HU.out,HS4.out⟩
    case measure=>(have:=HQ.out);(simp[intOf])<;>omega
  ·obtain rfl:j=255:=by omega
   clear hz hS
   go_upto_region 8 with fail
   refine wp_region_list ?_
   refine wpList_load_row rfl 130 (.tmp 5) rfl g rfl 130 (ivs zs).toArray _ _ (HS.out.heap 0 rfl) Tryz.underlying130 rfl Dq ?_
   have HS3:=aA (HS.out.setRow 1 rfl (ivs zs).toArray)
   refine wpList_store_row rfl 130 (.tmp 4) (.tmp 21) rfl (w.heap.size+2) (ivs zs).toArray rfl rfl 130 _ (HS.out.heap 1 rfl) Dq (by rw[bW HZ.out];rfl) (ivs_all _) ?_
   refine wpList_nil ?_
   go_wp2_with fail
   refine bodyPost_ret (results_cell_row rfl _ _ (w.heap.size+2) _ _ _ _ rfl (HS3.out.heap 1 rfl) Tryz.underlying130 rfl Dq) rfl ?_
   exact⟨zs,HZ.out,rfl,HS3.out.below⟩
def invB (i:Nat):List Bool:=(List.range 255).map (fun j=>decide (j<i∧j≠2∧j≠4))
theorem invB_len (i:Nat):(invB i).length=255:=by simp[invB]
theorem invB_get (i k:Nat)(h:k<255):(invB i)[k]?=some (decide (k<i∧k≠2∧k≠4)):=by
 unfold invB
 rw[List.getElem?_map,List.getElem?_range h]
 rfl
theorem invB_set (i:Nat)(h:i<255):(invB i).set i (decide (i≠2∧i≠4))=invB (i+1):=by
 apply List.ext_getElem?
 intro k
 rcases Nat.lt_or_ge k 255 with hk|hk
 ·rw[invB_get _ _ hk,List.getElem?_set]
  split
  ·rename_i e
   subst e
   rw[if_pos (by rw[invB_len];exact hk)]
   congr 1
   rw[decide_eq_decide]
   omega
  ·rw[invB_get _ _ hk]
   congr 1
   rw[decide_eq_decide]
   omega
 ·rw[List.getElem?_eq_none (by rw[List.length_set,invB_len];exact hk),List.getElem?_eq_none (by rw[invB_len];exact hk)]
theorem invBE:bitE (invB 255) 255=Pq - 2:=Dc
theorem fpw_inv (X:FK):fpw X (Pq - 2)=finv X:=Fin.ext (by rw[fpw_val,finv_val])
theorem blv_set (bs:List Bool)(k:Nat)(b:Bool):(blv bs).toArray.setIfInBounds k (.bool b)=(blv (bs.set k b)).toArray:=by simp[blv,List.map_set]
def IvRel (w:World)(xs:List Int)(iv:Value)(wr:World):Prop:=
 ∃i:Nat,i≤255∧iv=.int .i64 (i:Int)∧St w NoB wr [.cells (w.heap.size+2) (blv (invB i)).toArray 206,.cells (w.heap.size+1) (ivs (List.replicate 16 0)).toArray 130,.cells w.heap.size (ivs xs).toArray 130]
theorem zero255 (W:World):(zeroValue 206).run Tryz.prog W=.ok (.agg (blv (invB 0)).toArray) W:=Bt
theorem enPowerN (args:Array Value)(w:World):(callFunc 165 args).run Tryz.prog w=.ok (.enter 165 args) w:=Bt
theorem invN_any (xs:List Int)(X:FK)(w:World)(h:NE xs X) :
  Calls Tryz.prog 135 #[.agg (ivs xs).toArray] w (ResN w (finv X)):=by
 have HN:=aA h
 have HP:=aA (fun W=>powerN_any xs X (invB 255) W h (invB_len 255))
 rw[invBE,fpw_inv] at HP
 have hS0:=(((St.init w NoB).alloc (ivs xs).toArray 130).alloc (ivs (List.replicate 16 0)).toArray 130).alloc (blv (invB 0)).toArray 206
 rw[size_alloc1,size_alloc1] at hS0
 have HS0:=aA hS0
 have hz:=zero255
 clear hS0 h
 go_enter Tryz.func135,Tryz.ntmps135
 go_wp2_with fail
 go_loopw [5] (fun i wr=>IvRel w xs i wr) (fun i _=>255 - (intOf i).toNat)
 case atStart=>exact⟨0,An,rfl,HS0.out⟩
 case round =>
  clear HS0 hz
  obtain⟨i,hi,rfl,hS⟩:=hrel
  have HS:=aA hS
  by_cases hlt:i<255
  ·have d255:decide ((i:Int)<255)=true:=by simp;omega
   have i255:(i:Int)<255:=An
   have c0:wr.cell? ⟨w.heap.size+2,i,none⟩=some (.bool (decide (i<i∧i≠2∧i≠4))):=by rw[hS.cell 0 rfl i];exact blv_get (invB_get i i hlt)
   have f0:=hS.free 0 rfl i
   have HT:=aA (invB_set i hlt)
   clear hS
   by_cases h2:i=2
   ·subst h2
    go_wp2_with fail
    go_roundw
    case rel =>
     have h3:=HS.out.setCell 0 rfl 2 (.bool false)
     rw[List.set_cons_zero,blv_set] at h3
     exact⟨3,An,rfl,by have:=HT.out;rw[show decide ((2:Nat)≠2∧(2:Nat)≠4)=false from by decide] at this;rw[←this];exact h3⟩
    case measure=>(simp[intOf])<;>omega
   ·by_cases h4:i=4
    ·subst h4
     go_wp2_with fail
     go_roundw
     case rel =>
      have h3:=HS.out.setCell 0 rfl 4 (.bool false)
      rw[List.set_cons_zero,blv_set] at h3
      exact⟨5,An,rfl,by have:=HT.out;rw[show decide ((4:Nat)≠2∧(4:Nat)≠4)=false from by decide] at this;rw[←this];exact h3⟩
     case measure=>(simp[intOf])<;>omega
    ·have n2:¬(i:Int)=2:=by omega
     have n4:¬(i:Int)=4:=An
     have e2:((i:Int) !=2)=true:=A9
     have e4:((i:Int) !=4)=true:=A9
     have e2':decide ((i:Int)=2)=false:=A9
     have e4':decide ((i:Int)=4)=false:=A9
     have HT2:=aA (show(invB i).set i true=invB (i+1) by have:=HT.out;rw[show decide (i≠2∧i≠4)=true from by simp;omega] at this;exact this)
     clear h2 h4 HT
     go_wp2_with fail
     go_roundw
     case rel =>
      have h3:=HS.out.setCell 0 rfl i (.bool true)
      rw[List.set_cons_zero,blv_set,HT2.out] at h3
      exact⟨i+1,An,Cg,h3⟩
     case measure=>(simp[intOf])<;>omega
  ·obtain rfl:i=255:=by omega
   have hszB:(blv (invB 255)).toArray.size=255:=by rw[List.size_toArray,blv_len,invB_len]
   clear hS
   go_upto_region 7 with fail
   refine wp_region_list ?_
   refine wpList_load_row rfl 130 (.tmp 1) rfl w.heap.size rfl 130 (ivs xs).toArray _ _ (HS.out.heap 2 rfl) Tryz.underlying130 rfl Ds ?_
   refine wpList_load_row rfl 206 (.tmp 3) rfl (w.heap.size+2) rfl 206 (blv (invB 255)).toArray _ _ (HS.out.heap 0 rfl) Tryz.underlying206 rfl (by rw[hszB];kernel_rfl) ?_
   refine wl_callN rfl rfl enPowerN rfl (HP.out _) ?_
   rintro e w2 ⟨ys,hy,rfl,hb2⟩
   refine⟨_,rfl,?_⟩
   have HY:=aA hy
   have HS1:=aA (HS.out.call hb2)
   have HS3:=aA (HS1.out.setRow 1 rfl (ivs ys).toArray)
   clear HS hy
   refine wpList_store_row rfl 130 (.tmp 2) (.tmp 19) rfl (w.heap.size+1) (ivs ys).toArray rfl rfl 130 _ (HS1.out.heap 1 rfl) Dr (by rw[bW HY.out];rfl) (ivs_all _) ?_
   refine wpList_nil ?_
   go_wp2_with fail
   refine bodyPost_ret (results_cell_row rfl _ _ (w.heap.size+1) _ _ _ _ rfl (HS3.out.heap 1 rfl) Tryz.underlying130 rfl Dr) rfl ?_
   exact⟨ys,HY.out,rfl,HS3.out.below⟩
structure EA (a:Array Value)(X:FK):Prop where
 ex:∃p q s t u:Nat,a=#[.int .u64 (p:Int),.int .u64 (q:Int),.int .u64 (s:Int),.int .u64 (t:Int),.int .u64 (u:Int)]∧ev [p,q,s,t,u]=X.val∧Red [p,q,s,t,u]
theorem EA.arr {a:Array Value}{X:FK}(h:EA a X):Arr 5 a:=by
 obtain⟨p,q,s,t,u,rfl,_,_⟩:=h.ex
 exact⟨rfl,by simp[Value.oneCell']⟩
structure NA (a:Array Value)(X:FK):Prop where
 ex:∃xs,a=(ivs xs).toArray∧NE xs X
theorem NA.arr {a:Array Value}{X:FK}(h:NA a X):Arr 16 a:=by
 obtain⟨xs,rfl,hx⟩:=h.ex
 exact⟨bW hx,by rw[List.all_toArray,List.all_eq_true];intro v hv;unfold ivs at hv;obtain⟨n,_,rfl⟩:=List.mem_map.1 hv;rfl⟩
def ResE (w:World)(X:FK)(e:Ending)(w':World):Prop:=∃z,EA z X∧e=.returned (.agg z)∧Below w.heap.size w w'
def ResA (w:World)(X:FK)(e:Ending)(w':World):Prop:=∃z,NA z X∧e=.returned (.agg z)∧Below w.heap.size w w'
theorem ResN.ra {w:World}{X:FK}{e:Ending}{w':World}(h:ResN w X e w'):ResA w X e w':=by
 obtain⟨zs,h1,h2,h3⟩:=h
 exact⟨_,⟨zs,rfl,h1⟩,h2,h3⟩
theorem eP {w:World}{X:FK}{e:Ending}{w':World}(h:∃p q s t u:Nat,ev [p,q,s,t,u]=X.val∧Red [p,q,s,t,u]∧e=.returned (.agg #[.int .u64 (p:Int),.int .u64 (q:Int),.int .u64 (s:Int),.int .u64 (t:Int),.int .u64 (u:Int)])∧Below w.heap.size w w'):ResE w X e w':=by
 obtain⟨p,q,s,t,u,h1,h2,h3,h4⟩:=h
 exact⟨_,⟨p,q,s,t,u,rfl,h1,h2⟩,h3,h4⟩
section
variable {a b : Array Value} {X Y : FK} (w : World)
theorem addA (ha:EA a X)(hb:EA b Y):Calls Tryz.prog 90 #[.agg a,.agg b] w (ResE w (X+Y)):=by
 obtain⟨_,_,_,_,_,rfl,h1,h2⟩:=ha.ex
 obtain⟨_,_,_,_,_,rfl,h3,h4⟩:=hb.ex
 exact(addE h1 h2 h3 h4).mono fun _ _ h=>eP h
theorem subA (ha:EA a X)(hb:EA b Y):Calls Tryz.prog 88 #[.agg a,.agg b] w (ResE w (X - Y)):=by
 obtain⟨_,_,_,_,_,rfl,h1,h2⟩:=ha.ex
 obtain⟨_,_,_,_,_,rfl,h3,h4⟩:=hb.ex
 exact(subE h1 h2 h3 h4).mono fun _ _ h=>eP h
theorem fT (ha:EA a X)(hb:EA b Y):Calls Tryz.prog 83 #[.agg a,.agg b] w (ResE w (X*Y)):=by
 obtain⟨_,_,_,_,_,rfl,h1,h2⟩:=ha.ex
 obtain⟨_,_,_,_,_,rfl,h3,h4⟩:=hb.ex
 exact(mulE h1 h2 h3 h4).mono fun _ _ h=>eP h
theorem negA (ha:EA a X):Calls Tryz.prog 91 #[.agg a] w (ResE w (-X)):=by
 obtain⟨_,_,_,_,_,rfl,h1,h2⟩:=ha.ex
 exact(negE h1 h2).mono fun _ _ h=>eP h
theorem invA (ha:EA a X):Calls Tryz.prog 82 #[.agg a] w (ResE w (finv X)):=by
 obtain⟨_,_,_,_,_,rfl,h1,h2⟩:=ha.ex
 exact(invE h1 h2).mono fun _ _ h=>eP h
theorem sameA (ha:EA a X)(hb:EA b Y):Calls Tryz.prog 128 #[.agg a,.agg b] w fun e w'=>e=.returned (.bool (decide (X=Y)))∧Below w.heap.size w w':=by
 obtain⟨_,_,_,_,_,rfl,h1,h2⟩:=ha.ex
 obtain⟨_,_,_,_,_,rfl,h3,h4⟩:=hb.ex
 have e:decide (X=Y)=decide (X.val=Y.val):=by
  by_cases h:X=Y
  ·rw[decide_eq_true h,decide_eq_true (congrArg _ h)]
  ·rw[decide_eq_false h,decide_eq_false fun e=>h (Fin.ext e)]
 rw[e]
 exact sameE h1 h2 h3 h4
theorem zeroA (ha:EA a X):Calls Tryz.prog 121 #[.agg a] w fun e w'=>e=.returned (.bool (decide (X=0)))∧Below w.heap.size w w':=by
 obtain⟨_,_,_,_,_,rfl,h1,h2⟩:=ha.ex
 have e:decide (X=0)=decide (X.val=0):=by
  by_cases h:X=0
  ·rw[decide_eq_true h,decide_eq_true (by rw[h,fzero_val])]
  ·rw[decide_eq_false h,decide_eq_false fun e=>h (Fin.ext (e.trans fzero_val.symm))]
 rw[e]
 exact zeroE h1 h2
theorem oddA (ha:EA a X):Calls Tryz.prog 85 #[.agg a] w fun e w'=>e=.returned (.bool (decide (X.val%2=1)))∧Below w.heap.size w w':=by
 obtain⟨_,_,_,_,_,rfl,h1,h2⟩:=ha.ex
 exact oddE h1 h2
theorem bytesA (ha:EA a X):Calls Tryz.prog 84 #[.agg a] w (iI 5 w (leB 32 X.val)):=by
 obtain⟨_,_,_,_,_,rfl,h1,h2⟩:=ha.ex
 rw[←h1]
 exact bytes_walk _ _ _ _ _ w (red_low h2)
theorem small1A:Calls Tryz.prog 89 #[.int .u32 1] w (ResE w 1):=(small1 w).mono fun _ _ h=>eP h
theorem small_is (n:Nat)(m:Int)(hm:(n:Int)=m)(w:World)(h:n<4294967296):Calls Tryz.prog 89 #[.int .u32 m] w fun r w'=>∃p q s t u:Nat,ev [p,q,s,t,u]=n∧Red [p,q,s,t,u]∧r=.returned (.agg #[.int .u64 (p:Int),.int .u64 (q:Int),.int .u64 (s:Int),.int .u64 (t:Int),.int .u64 (u:Int)])∧Below w.heap.size w w':=by
 subst hm
 exact smallE n w h
theorem toF_two:(toF 2).val=2:=Nat.mod_eq_of_lt Ce
theorem small2A:Calls Tryz.prog 89 #[.int .u32 2] w (ResE w (toF 2)):=by
 have h:=small_is 2 2 rfl w Bz
 exact h.mono fun e w' ⟨p,q,s,t,u,h1,h2,h3,h4⟩=>eP ⟨p,q,s,t,u,h1.trans toF_two.symm,h2,h3,h4⟩
theorem fromA {A:Option Addr}{n c:Nat}{l:List UInt8}(hl:l.length=n)(hn:n≤1000)(hr:Rd w (.slice A n c) 1 n (bvs l)):Calls Tryz.prog 86 #[.slice A n c] w (ResE w (fbytes l)):=
 (fromE hl hn hr).mono fun _ _ h=>eP h
theorem pexp1:pexp 252 2 252=2^252 - 3:=Cj
theorem pexp2:pexp 253 4 253=2^253 - 5:=Cj
theorem powA1 (ha:EA a X):Calls Tryz.prog 122 #[.agg a,.int .i64 252,.int .u64 2] w (ResE w (fpow X (2^252 - 3))):=by
 obtain⟨_,_,_,_,_,rfl,h1,h2⟩:=ha.ex
 have h:=power_walk _ _ _ _ _ 252 2 w h2 Bz Bz Bz
 simp only[pexp1,h1,←bT] at h
 exact h.mono fun _ _ h=>eP h
theorem powA2 (ha:EA a X):Calls Tryz.prog 122 #[.agg a,.int .i64 253,.int .u64 4] w (ResE w (fpow X (2^253 - 5))):=by
 obtain⟨_,_,_,_,_,rfl,h1,h2⟩:=ha.ex
 have h:=power_walk _ _ _ _ _ 253 4 w h2 Bz Bz Bz
 simp only[pexp2,h1,←bT] at h
 exact h.mono fun _ _ h=>eP h
theorem two_root:fpow (toF 2) (2^253 - 5)=iF:=Fin.ext (by
 refine fpow_pm (toF 2) _ 256 _ Bz ?_
 rw[toF_two]
 show _=iN
 unfold Pq iN
 decide +kernel)
theorem ea_zero:EA #[.int .u64 0,.int .u64 0,.int .u64 0,.int .u64 0,.int .u64 0] 0:=⟨0,0,0,0,0,rfl,by rw[fzero_val];unfold ev fv fv fv fv fv fv;simp,⟨rfl,fun k x hx=>by
 have hx0:x=0:=by
  have:=mG hx
  simpa using this
 subst hx0
 unfold T51
 omega⟩⟩
def lD:List Nat:=[163,120,89,19,202,77,235,117,171,216,65,65,77,10,112,0,152,232,121,119,121,64,199,140,115,254,111,43,238,108,3,82]
theorem nD_text:strOf (hexT lD)=⟨#[53,50,48,51,54,99,101,101,50,98,54,102,102,101,55,51,56,99,99,55,52,48,55,57,55,55,55,57,101,56,57,56,48,48,55,48,48,97,52,100,52,49,52,49,100,56,97,98,55,53,101,98,52,100,99,97,49,51,53,57,55,56,97,51]⟩:=by rw[dH];rfl
theorem nD_val:fbytes (byL lD)=dF:=Fin.ext Cj
theorem numD:Calls Tryz.prog 78 #[.string ⟨#[53,50,48,51,54,99,101,101,50,98,54,102,102,101,55,51,56,99,99,55,52,48,55,57,55,55,55,57,101,56,57,56,48,48,55,48,48,97,52,100,52,49,52,49,100,56,97,98,55,53,101,98,52,100,99,97,49,51,53,57,55,56,97,51]⟩] w (ResE w (dF)):=by
 have h:=number_any lD Bz Bz w
 rw[nD_text,nD_val] at h
 exact h.mono fun _ _ h=>eP h
def lX:List Nat:=[26,213,37,143,96,45,86,201,178,167,37,149,96,199,44,105,92,220,214,253,49,226,164,192,254,83,110,205,211,54,105,33]
theorem nX_text:strOf (hexT lX)=⟨#[50,49,54,57,51,54,100,51,99,100,54,101,53,51,102,101,99,48,97,52,101,50,51,49,102,100,100,54,100,99,53,99,54,57,50,99,99,55,54,48,57,53,50,53,97,55,98,50,99,57,53,54,50,100,54,48,56,102,50,53,100,53,49,97]⟩:=by rw[dH];rfl
theorem nX_val:fbytes (byL lX)=toF bxV:=Fin.ext Cj
theorem numX:Calls Tryz.prog 78 #[.string ⟨#[50,49,54,57,51,54,100,51,99,100,54,101,53,51,102,101,99,48,97,52,101,50,51,49,102,100,100,54,100,99,53,99,54,57,50,99,99,55,54,48,57,53,50,53,97,55,98,50,99,57,53,54,50,100,54,48,56,102,50,53,100,53,49,97]⟩] w (ResE w (toF bxV)):=by
 have h:=number_any lX Bz Bz w
 rw[nX_text,nX_val] at h
 exact h.mono fun _ _ h=>eP h
def lY:List Nat:=[88,102,102,102,102,102,102,102,102,102,102,102,102,102,102,102,102,102,102,102,102,102,102,102,102,102,102,102,102,102,102,102]
theorem nY_text:strOf (hexT lY)=⟨#[54,54,54,54,54,54,54,54,54,54,54,54,54,54,54,54,54,54,54,54,54,54,54,54,54,54,54,54,54,54,54,54,54,54,54,54,54,54,54,54,54,54,54,54,54,54,54,54,54,54,54,54,54,54,54,54,54,54,54,54,54,54,53,56]⟩:=by rw[dH];rfl
theorem nY_val:fbytes (byL lY)=toF byV:=Fin.ext Cj
theorem numY:Calls Tryz.prog 78 #[.string ⟨#[54,54,54,54,54,54,54,54,54,54,54,54,54,54,54,54,54,54,54,54,54,54,54,54,54,54,54,54,54,54,54,54,54,54,54,54,54,54,54,54,54,54,54,54,54,54,54,54,54,54,54,54,54,54,54,54,54,54,54,54,54,54,53,56]⟩] w (ResE w (toF byV)):=by
 have h:=number_any lY Bz Bz w
 rw[nY_text,nY_val] at h
 exact h.mono fun _ _ h=>eP h
theorem addNA (ha:NA a X)(hb:NA b Y):Calls Tryz.prog 157 #[.agg a,.agg b] w (ResA w (X+Y)):=by
 obtain⟨xs,rfl,h1⟩:=ha.ex
 obtain⟨ys,rfl,h2⟩:=hb.ex
 exact(addC w h1 h2).mono fun _ _ h=>ResN.ra h
theorem subNA (ha:NA a X)(hb:NA b Y):Calls Tryz.prog 156 #[.agg a,.agg b] w (ResA w (X - Y)):=by
 obtain⟨xs,rfl,h1⟩:=ha.ex
 obtain⟨ys,rfl,h2⟩:=hb.ex
 exact(subC w h1 h2).mono fun _ _ h=>ResN.ra h
theorem bV (ha:NA a X)(hb:NA b Y):Calls Tryz.prog 137 #[.agg a,.agg b] w (ResA w (X*Y)):=by
 obtain⟨xs,rfl,h1⟩:=ha.ex
 obtain⟨ys,rfl,h2⟩:=hb.ex
 exact(mulC w h1 h2).mono fun _ _ h=>ResN.ra h
theorem invNA (ha:NA a X):Calls Tryz.prog 135 #[.agg a] w (ResA w (finv X)):=by
 obtain⟨xs,rfl,h1⟩:=ha.ex
 exact(invN_any xs X w h1).mono fun _ _ h=>ResN.ra h
theorem sameNA (ha:NA a X)(hb:NA b Y):Calls Tryz.prog 159 #[.agg a,.agg b] w fun e w'=>e=.returned (.bool (decide (X=Y)))∧Below w.heap.size w w':=by
 obtain⟨xs,rfl,h1⟩:=ha.ex
 obtain⟨ys,rfl,h2⟩:=hb.ex
 have e:decide (X=Y)=decide (X.val=Y.val):=by
  by_cases h:X=Y
  ·rw[decide_eq_true h,decide_eq_true (congrArg _ h)]
  ·rw[decide_eq_false h,decide_eq_false fun e=>h (Fin.ext e)]
 rw[e]
 exact sameC w h1 h2
theorem oddNA (ha:NA a X):Calls Tryz.prog 138 #[.agg a] w fun e w'=>e=.returned (.bool (decide (X.val%2=1)))∧Below w.heap.size w w':=by
 obtain⟨xs,rfl,h1⟩:=ha.ex
 exact oddC w h1
theorem bytesNA (ha:NA a X):Calls Tryz.prog 136 #[.agg a] w (iI 5 w (leB 32 X.val)):=by
 obtain⟨xs,rfl,h1⟩:=ha.ex
 have hl:(leB 32 X.val).length=32:=leB_len 32 X.val
 refine(bytesC w h1).mono fun e w' h=>?_
 obtain⟨B,d,h2,h3,h4⟩:=h
 unfold iI
 rw[hl]
 exact⟨B,d,h2,h3,h4⟩
theorem na_zero:NA (ivs (List.replicate 16 0)).toArray 0:=⟨_,rfl,ne_zero⟩
theorem ne_of (n:Nat)(rows:List Int)(hl:rows.length=16)(hb:rows.all (fun x=>decide (0≤x)&&decide (x<65536))=true)(hv:nv rows=(n:Int)):NE rows (toF n):=by
 refine⟨⟨hl,fun k x hx=>?_⟩,?_⟩
 ·have:=List.all_eq_true.1 hb x (mG hx)
  rw[Bool.and_eq_true,decide_eq_true_eq,decide_eq_true_eq] at this
  split<;>omega
 ·rw[hv]
  show _=((n%Pq:Nat):Int)
  rw[Int.natCast_emod]
theorem smallNA1:Calls Tryz.prog 140 #[.int .u32 1] w (ResA w 1):=
 (smallN_any 1 w Bz).mono fun _ _ h=>⟨_,⟨_,rfl,by rw[←toF_one];exact ne_of 1 _ rfl Bz Bz⟩,h.1,h.2⟩
end
def zE:Array Value:=#[.int .u64 0,.int .u64 0,.int .u64 0,.int .u64 0,.int .u64 0]
def zP:Array Value:=#[.int .u64 0,.int .u64 0,.int .u64 0,.int .u64 0,.int .u64 0,.int .u64 0,.int .u64 0,.int .u64 0,.int .u64 0,.int .u64 0,.int .u64 0,.int .u64 0,.int .u64 0,.int .u64 0,.int .u64 0,.int .u64 0,.int .u64 0,.int .u64 0,.int .u64 0,.int .u64 0]
def zN:Array Value:=(ivs (List.replicate 16 0)).toArray
def zQ:Array Value:=(ivs (List.replicate 64 0)).toArray
theorem rowE:RowOf Tryz.prog 61 5:=⟨⟨_,Tryz.underlying61,rfl⟩,Bt⟩
theorem rowP:RowOf Tryz.prog 63 20:=⟨⟨_,Tryz.underlying63,rfl⟩,Bt⟩
theorem rowN:RowOf Tryz.prog 130 16:=⟨⟨_,Tryz.underlying130,rfl⟩,Bt⟩
theorem rowQ:RowOf Tryz.prog 132 64:=⟨⟨_,Tryz.underlying132,rfl⟩,Bt⟩
theorem newE:NewOf Tryz.prog 61 zE:=fun x=>by kernel_rfl
theorem newP:NewOf Tryz.prog 63 zP:=fun x=>by kernel_rfl
theorem newN:NewOf Tryz.prog 130 zN:=fun x=>by kernel_rfl
theorem newQ:NewOf Tryz.prog 132 zQ:=fun x=>by kernel_rfl
theorem arr_zE:Arr 5 zE:=⟨rfl,Bt⟩
theorem arr_zP:Arr 20 zP:=⟨rfl,Bt⟩
theorem arr_zN:Arr 16 zN:=⟨Bt,Bt⟩
theorem arr_zQ:Arr 64 zQ:=⟨Bt,Bt⟩
theorem qE {a b c d:Array Value}{X Y Z T:FK}(h1:EA a X)(h2:EA b Y)(h3:EA c Z)(h4:EA d T):Arr 20 (fS a b c d):=quad_arr h1.arr h2.arr h3.arr h4.arr rfl
theorem qN {a b c d:Array Value}{X Y Z T:FK}(h1:NA a X)(h2:NA b Y)(h3:NA c Z)(h4:NA d T):Arr 64 (fS a b c d):=quad_arr h1.arr h2.arr h3.arr h4.arr rfl
theorem ea_zE:EA zE 0:=ea_zero
theorem exE {a:Array Value}{X:FK}(h:EA a X):∃X,EA a X:=⟨_,h⟩
theorem exN {a:Array Value}{X:FK}(h:NA a X):∃X,NA a X:=⟨_,h⟩
theorem buildQ0 (a0 a1 a2 a3 a4 a5 a6 a7 a8 a9 a10 a11 a12 a13 a14 a15 b0 b1 b2 b3 b4 b5 b6 b7 b8 b9 b10 b11 b12 b13 b14 b15 c0 c1 c2 c3 c4 c5 c6 c7 c8 c9 c10 c11 c12 c13 c14 c15 d0 d1 d2 d3 d4 d5 d6 d7 d8 d9 d10 d11 d12 d13 d14 d15:Value):(Tryz.prog.built 132 [(0,.agg #[a0,a1,a2,a3,a4,a5,a6,a7,a8,a9,a10,a11,a12,a13,a14,a15]),(1,.agg #[b0,b1,b2,b3,b4,b5,b6,b7,b8,b9,b10,b11,b12,b13,b14,b15]),(2,.agg #[c0,c1,c2,c3,c4,c5,c6,c7,c8,c9,c10,c11,c12,c13,c14,c15]),(3,.agg #[d0,d1,d2,d3,d4,d5,d6,d7,d8,d9,d10,d11,d12,d13,d14,d15])])=some (fS #[a0,a1,a2,a3,a4,a5,a6,a7,a8,a9,a10,a11,a12,a13,a14,a15] #[b0,b1,b2,b3,b4,b5,b6,b7,b8,b9,b10,b11,b12,b13,b14,b15] #[c0,c1,c2,c3,c4,c5,c6,c7,c8,c9,c10,c11,c12,c13,c14,c15] #[d0,d1,d2,d3,d4,d5,d6,d7,d8,d9,d10,d11,d12,d13,d14,d15]):=Bt
theorem arr16 {a:Array Value}(h:a.size=16):∃a0 a1 a2 a3 a4 a5 a6 a7 a8 a9 a10 a11 a12 a13 a14 a15:Value,a=#[a0,a1,a2,a3,a4,a5,a6,a7,a8,a9,a10,a11,a12,a13,a14,a15]:=by
 obtain⟨l⟩:=a
 match l,h with
 | [a0,a1,a2,a3,a4,a5,a6,a7,a8,a9,a10,a11,a12,a13,a14,a15],_=>exact⟨a0,a1,a2,a3,a4,a5,a6,a7,a8,a9,a10,a11,a12,a13,a14,a15,rfl⟩
theorem buildQ:BuildOf Tryz.prog 132 (fun a=>∃X,NA a X):=fun a b c d ha hb hc hd=>by
 obtain⟨_,ha⟩:=ha
 obtain⟨_,hb⟩:=hb
 obtain⟨_,hc⟩:=hc
 obtain⟨_,hd⟩:=hd
 obtain⟨a0,a1,a2,a3,a4,a5,a6,a7,a8,a9,a10,a11,a12,a13,a14,a15,rfl⟩:=arr16 ha.arr.size
 obtain⟨b0,b1,b2,b3,b4,b5,b6,b7,b8,b9,b10,b11,b12,b13,b14,b15,rfl⟩:=arr16 hb.arr.size
 obtain⟨c0,c1,c2,c3,c4,c5,c6,c7,c8,c9,c10,c11,c12,c13,c14,c15,rfl⟩:=arr16 hc.arr.size
 obtain⟨d0,d1,d2,d3,d4,d5,d6,d7,d8,d9,d10,d11,d12,d13,d14,d15,rfl⟩:=arr16 hd.arr.size
 exact buildQ0 _ _ _ _ _ _ _ _ _ _ _ _ _ _ _ _ _ _ _ _ _ _ _ _ _ _ _ _ _ _ _ _ _ _ _ _ _ _ _ _ _ _ _ _ _ _ _ _ _ _ _ _ _ _ _ _ _ _ _ _ _ _ _ _
theorem buildP:BuildOf Tryz.prog 63 (fun a=>∃X,EA a X):=fun a b c d ha hb hc hd=>by
 obtain⟨_,ha⟩:=ha
 obtain⟨_,hb⟩:=hb
 obtain⟨_,hc⟩:=hc
 obtain⟨_,hd⟩:=hd
 obtain⟨_,_,_,_,_,rfl,_,_⟩:=ha.ex
 obtain⟨_,_,_,_,_,rfl,_,_⟩:=hb.ex
 obtain⟨_,_,_,_,_,rfl,_,_⟩:=hc.ex
 obtain⟨_,_,_,_,_,rfl,_,_⟩:=hd.ex
 kernel_rfl
def ResP (w:World)(A:Pj)(e:Ending)(w':World):Prop:=∃a b c d,EA a A.X∧EA b A.Y∧EA c A.Z∧EA d A.T∧e=.returned (.agg (fS a b c d))∧Below w.heap.size w w'
theorem at_any {a b:Array Value}{X Y:FK}(w:World)(hea:EA a X)(heb:EA b Y):Calls Tryz.prog 77 #[.agg a,.agg b] w (ResP w ⟨X,Y,1,X*Y⟩):=by
 have HS:=aA (St.init w NoB)
 go_enter Tryz.func77,Tryz.ntmps77
 go_wp2_with (first|(refine wl_loadP rfl rfl rfl HS.out Dt Du Fo ?_;(try refine nm ?_))|(refine wl_storeR rfl rfl rfl rfl HS.out Du Dw Dv Dv ?_;intro wz hS9;have HS:=aA hS9;clear hS9;(try refine nm ?_))|(refine wl_allocR rfl rfl HS.out Dx ?_;intro gz wz hS9;have HS:=aA hS9;clear hS9;(try refine nm ?_))|(refine wl_boxR rfl rfl rfl HS.out ?_;intro gz wz hS9;have HS:=aA hS9;clear hS9;(try refine nm ?_))|(refine aF rfl rfl rfl rfl HS.out Dt Du Fo ?_;(try refine nm ?_))|(refine aI rfl rfl (fun x=>bB rfl rfl rfl rfl rfl buildP (exE Df) (exE Df) (exE Df) (exE Df) x) ?_;(try refine nm ?_))|(refine aI rfl rfl (fun x=>bB rfl rfl rfl rfl rfl buildQ (exN Df) (exN Df) (exN Df) (exN Df) x) ?_;(try refine nm ?_))|(refine wpT_late rfl rfl ?_;intro K hK;refine wp_storeR rfl rfl rfl HS.out Du Dw Dv Dv ?_;intro wz hS9;have HS:=aA hS9;clear hS9)|(refine wpT_any rfl rfl ?_;intro K hK;refine wp_storeR rfl rfl rfl HS.out Du Dw Dv Dv ?_;intro wz hS9;have HS:=aA hS9;clear hS9)|(refine aG rfl rfl rfl rfl HS.out Dt Du Fo ?_;(try refine nm ?_))|(refine fL rfl rfl (fun x=>bB rfl rfl rfl rfl rfl buildP (exE Df) (exE Df) (exE Df) (exE Df) x) ?_;(try refine nm ?_))|(refine fL rfl rfl (fun x=>bB rfl rfl rfl rfl rfl buildQ (exN Df) (exN Df) (exN Df) (exN Df) x) ?_;(try refine nm ?_))|(refine wpX_nil ?_;intro G xz hx0 hx hF;have hS9:=HS.out.floats hx0 hF _ Bz (fun _ h=>h);simp only[List.map_cons,List.map_nil,List.cons_append,List.nil_append] at hS9;have HS:=aA hS9;clear hS9 hF hx0 hx;simp only[dU,List.foldl_cons,List.foldl_nil];(try refine nm ?_))|(refine fL (v:=?_) rfl rfl ?_ ?_;rotate_left;(intro wx;go_simp;try go_bits)<;>(with_reducible rfl);(try refine nm ?_))|(refine wpX_call rfl rfl ?_;intro xc hxc K hK)|(refine wpX_skip rfl rfl ?_;(try refine nm ?_)))
 have HS:=aA HS.out.drew
 refine aD [(0,0),(1,0),(3,0),(4,0),(2,2),(5,2),(6,1),(7,3)] Bt Bt (fun _ _ _ _ h=>h) ?_
 go_wp2_with (first|(go_at_call 89;(with_reducible refine(small1A _).mono ?_);rintro e wy ⟨z,hz,rfl,hb⟩;try have HS:=aA (HS.out.call hb))|(go_at_call 83;(with_reducible refine(fT _ Df Df).mono ?_);rintro e wy ⟨z,hz,rfl,hb⟩;try have HS:=aA (HS.out.call hb))|(go_at_call 90;(with_reducible refine(addA _ Df Df).mono ?_);rintro e wy ⟨z,hz,rfl,hb⟩;try have HS:=aA (HS.out.call hb))|(go_at_call 88;(with_reducible refine(subA _ Df Df).mono ?_);rintro e wy ⟨z,hz,rfl,hb⟩;try have HS:=aA (HS.out.call hb))|(go_at_call 91;(with_reducible refine(negA _ Df).mono ?_);rintro e wy ⟨z,hz,rfl,hb⟩;try have HS:=aA (HS.out.call hb))|(go_at_call 82;(with_reducible refine(invA _ Df).mono ?_);rintro e wy ⟨z,hz,rfl,hb⟩;try have HS:=aA (HS.out.call hb))|(refine wl_loadP rfl rfl rfl HS.out Dt Du Fo ?_;(try refine nm ?_))|(refine wl_storeR rfl rfl rfl rfl HS.out Du Dw Dv Dv ?_;intro wz hS9;have HS:=aA hS9;clear hS9;(try refine nm ?_))|(refine wl_allocR rfl rfl HS.out Dx ?_;intro gz wz hS9;have HS:=aA hS9;clear hS9;(try refine nm ?_))|(refine wl_boxR rfl rfl rfl HS.out ?_;intro gz wz hS9;have HS:=aA hS9;clear hS9;(try refine nm ?_))|(refine aF rfl rfl rfl rfl HS.out Dt Du Fo ?_;(try refine nm ?_))|(refine aI rfl rfl (fun x=>bB rfl rfl rfl rfl rfl buildP (exE Df) (exE Df) (exE Df) (exE Df) x) ?_;(try refine nm ?_))|(refine aI rfl rfl (fun x=>bB rfl rfl rfl rfl rfl buildQ (exN Df) (exN Df) (exN Df) (exN Df) x) ?_;(try refine nm ?_))|(refine wpT_late rfl rfl ?_;intro K hK;refine wp_storeR rfl rfl rfl HS.out Du Dw Dv Dv ?_;intro wz hS9;have HS:=aA hS9;clear hS9)|(refine wpT_any rfl rfl ?_;intro K hK;refine wp_storeR rfl rfl rfl HS.out Du Dw Dv Dv ?_;intro wz hS9;have HS:=aA hS9;clear hS9)|(refine aG rfl rfl rfl rfl HS.out Dt Du Fo ?_;(try refine nm ?_))|(refine fL rfl rfl (fun x=>bB rfl rfl rfl rfl rfl buildP (exE Df) (exE Df) (exE Df) (exE Df) x) ?_;(try refine nm ?_))|(refine fL rfl rfl (fun x=>bB rfl rfl rfl rfl rfl buildQ (exN Df) (exN Df) (exN Df) (exN Df) x) ?_;(try refine nm ?_))|(refine wpX_nil ?_;intro G xz hx0 hx hF;have hS9:=HS.out.floats hx0 hF _ Bz (fun _ h=>h);simp only[List.map_cons,List.map_nil,List.cons_append,List.nil_append] at hS9;have HS:=aA hS9;clear hS9 hF hx0 hx;simp only[dU,List.foldl_cons,List.foldl_nil];(try refine nm ?_))|(refine fL (v:=?_) rfl rfl ?_ ?_;rotate_left;(intro wx;go_simp;try go_bits)<;>(with_reducible rfl);(try refine nm ?_))|(refine wpX_call rfl rfl ?_;intro xc hxc K hK)|(refine wpX_skip rfl rfl ?_;(try refine nm ?_))|(refine wpT_nil ?_)|((with_reducible refine fromT_refl ?_);(try refine nm ?_))|((with_reducible refine aE Df ?_);(try refine nm ?_))|(refine aI (v:=?_) rfl rfl ?_ ?_;rotate_left;(intro wx;go_simp;try go_bits)<;>(with_reducible rfl);(try refine nm ?_))|(refine aK (v:=?_) rfl rfl rfl ?_ ?_;rotate_left;(go_simp;try go_bits)<;>(with_reducible rfl);(try refine nm ?_))|(refine aL (v:=?_) rfl rfl ?_ ?_;rotate_left;(intro wx hx;go_simp;try go_bits)<;>(with_reducible rfl);(try refine nm ?_))|(refine aM rfl rfl ?_;intro K hK)|(refine wpT_late rfl rfl ?_;intro K hK)|(refine wpT_any rfl rfl ?_;intro K hK)|(refine wpT_skip rfl rfl ?_;(try refine nm ?_)))
 refine bodyPost_ret (results_cell_row rfl _ _ _ _ _ _ _ rfl (HS.out.heapM Dt) Tryz.underlying63 rfl Dy) rfl ?_
 exact⟨_,_,_,_,hea,heb,Df,Df,rfl,HS.out.below⟩
def packL (P:Ed):List UInt8:=leB 32 (packN P)
theorem dV (P:Ed):(packL P).length=32:=leB_len 32 _
theorem packN_lt (P:Ed):packN P<256^32:=by
 unfold packN
 have h1:P.y.val<Pq:=P.y.isLt
 have h2:=pq_255
 have h3:(256:Nat)^32=2^255+2^255:=Bz
 rw[h3]
 generalize (2:Nat)^255=B at *
 split<;>omega
theorem top_bit (y:Nat)(hy:y<2^255):∃(l:List UInt8) (r:Nat),l.length=31∧r<128∧leB 32 y=l++[UInt8.ofNat r]∧leB 32 (y+2^255)=l++[UInt8.ofNat (r+128)]:=by
 obtain⟨x,hx⟩:∃x,x=y%256^31:=⟨_,rfl⟩
 obtain⟨r,hr⟩:∃r,r=y/256^31:=⟨_,rfl⟩
 have hB:(2:Nat)^255=256^31*128:=Bz
 have hx2:x<256^31:=by rw[hx];exact Nat.mod_lt _ Bz
 have e:y=x+256^31*r:=by rw[hx,hr,Nat.mod_add_div]
 have hr2:r<128:=by
  rw[hr]
  refine Nat.div_lt_of_lt_mul ?_
  rw[←hB]
  exact hy
 refine⟨leB 31 x,r,leB_len 31 x,hr2,?_,?_⟩
 ·rw[e]
  have h:=leB_add 31 1 x r hx2
  rw[show(31+1:Nat)=32 from rfl] at h
  rw[h]
  show _++[UInt8.ofNat (r%256)]=_
  rw[Nat.mod_eq_of_lt An]
 ·rw[e,hB,Nat.add_assoc,←Nat.mul_add]
  have h:=leB_add 31 1 x (r+128) hx2
  rw[show(31+1:Nat)=32 from rfl] at h
  rw[h]
  show _++[UInt8.ofNat ((r+128)%256)]=_
  rw[Nat.mod_eq_of_lt An]
def lowL (b:List UInt8):List UInt8:=b.set 31 (UInt8.ofNat ((b.getD 31 0).toNat%128))
def gZ (b:List UInt8):Bool:=decide (128≤(b.getD 31 0).toNat)
theorem hZ (b:List UInt8):(lowL b).length=b.length:=by unfold lowL;rw[List.length_set]
theorem bval_low {b:List UInt8}(h:b.length=32):bval b=bval (lowL b)+(if gZ b then 2^255 else 0)∧bval (lowL b)<2^255:=by
 obtain⟨c,hc⟩:∃c,b[31]?=some c:=⟨b[31],gE _⟩
 have hg:b.getD 31 0=c:=by rw[List.getD_eq_getElem?_getD,hc];rfl
 have hlow:(lowL b)[31]?=some (UInt8.ofNat (c.toNat%128)):=by unfold lowL;rw[hg,List.getElem?_set_self An]
 have e1:=iH hc
 have e2:=iH hlow
 have t1:b.take (31+1)=b:=List.take_of_length_le An
 have t2:(lowL b).take (31+1)=lowL b:=List.take_of_length_le (by rw[hZ];omega)
 have t3:(lowL b).take 31=b.take 31:=by unfold lowL;rw[List.take_set_of_le (Nat.le_refl 31)]
 rw[t1] at e1
 rw[t2,t3] at e2
 have hb:=bval_lt (b.take 31)
 rw[List.length_take,Nat.min_eq_left An] at hb
 have hm:(UInt8.ofNat (c.toNat%128)).toNat=c.toNat%128:=by rw[UInt8.toNat_ofNat',Nat.mod_eq_of_lt An]
 rw[hm] at e2
 have hB:(2:Nat)^255=256^31*128:=Bz
 have hc2:c.toNat<256:=UInt8.toNat_lt c
 have hd:=Nat.div_add_mod c.toNat 128
 unfold gZ
 rw[hg,e1,e2,hB]
 generalize (256:Nat)^31=W at *
 generalize bval (b.take 31)=V at *
 by_cases ht:128≤c.toNat
 ·rw[decide_eq_true ht,if_pos rfl]
  have h1:c.toNat=c.toNat%128+128:=An
  refine⟨?_,?_⟩
  ·conv=>lhs;rw[h1]
   rw[Nat.add_mul,Nat.mul_comm 128 W]
   omega
  ·have:c.toNat%128≤127:=by omega
   have:=Nat.mul_le_mul_right W this
   omega
 ·rw[decide_eq_false ht,if_neg Bool.false_ne_true]
  have h1:c.toNat%128=c.toNat:=An
  rw[h1]
  refine⟨An,?_⟩
  have:c.toNat≤127:=by omega
  have:=Nat.mul_le_mul_right W this
  omega
theorem fbytes_low {b:List UInt8}(h:b.length=32):(fbytes (lowL b)).val=bval (lowL b)%Pq:=by
 show bval (fullL (lowL b))%Pq=_
 unfold fullL
 rw[List.take_append_of_le_length (by rw[hZ];omega),List.take_of_length_le (by rw[hZ];omega)]
noncomputable def cB (b:List UInt8):Option Ed:=
 if b.length=32 then match unp (fbytes (lowL b)) (gZ b) with
  | none=>none
  | some P=>if packL P=b then some P else none
 else none
noncomputable def pageL (b:List UInt8):Option Ed:=
 if b.length=32 then if leB 32 (fbytes (lowL b)).val=lowL b then match unp (fbytes (lowL b)) (gZ b) with
  | none=>none
  | some P=>if gZ b=true∧P.x=0 then none else some P
 else none else none
theorem from_page (b:List UInt8):cB b=pageL b:=by
 unfold cB pageL
 by_cases h:b.length=32
 ·rw[if_pos h,if_pos h]
  obtain⟨e1,e2⟩:=bval_low h
  have hy:=fbytes_low h
  have hyl:(fbytes (lowL b)).val<Pq:=(fbytes (lowL b)).isLt
  have hp:=pq_255
  have hcan:leB 32 (fbytes (lowL b)).val=lowL b↔(fbytes (lowL b)).val=bval (lowL b):=by
   constructor
   ·intro h1
    have:=congrArg bval h1
    rw[bval_leB,Nat.mod_eq_of_lt (Nat.lt_trans (Nat.lt_trans hyl hp) Bz)] at this
    exact this
   ·intro h1
    rw[h1]
    have:=leB_bval (lowL b)
    rw[hZ,h] at this
    exact this
  cases hu:unp (fbytes (lowL b)) (gZ b) with
  | none =>
   show none=if leB 32 (fbytes (lowL b)).val=lowL b then none else none
   rw[ite_self]
  | some P =>
   obtain⟨hPy,hPx⟩:=unp_ok hu
   have hpack:packL P=b↔packN P=bval b:=by
    constructor
    ·intro h1
     have:=congrArg bval h1
     unfold packL at this
     rw[bval_leB,Nat.mod_eq_of_lt (packN_lt P)] at this
     exact this
    ·intro h1
     unfold packL
     rw[h1]
     have:=leB_bval b
     rw[h] at this
     exact this
   have hN:packN P=(fbytes (lowL b)).val+(if P.x.val%2=1 then 2^255 else 0):=by unfold packN;rw[hPy]
   have key:packL P=b↔(leB 32 (fbytes (lowL b)).val=lowL b∧¬(gZ b=true∧P.x=0)):=by
    rw[hpack,hcan,hN,e1]
    generalize (fbytes (lowL b)).val=y at *
    generalize bval (lowL b)=L at *
    generalize (2:Nat)^255=B at *
    rcases hPx with h0|h0
    ·have hv:P.x.val%2=0:=by rw[h0,fzero_val]
     rw[if_neg An]
     cases gZ b with
     | true=>simp[h0];omega
     | false=>simp
    ·rw[←h0]
     by_cases ho:P.x.val%2=1
     ·have hne:P.x≠0:=fun e=>by rw[e,fzero_val] at ho;omega
      simp[ho,hne]
     ·simp[ho]
   show(if packL P=b then some P else none)=_
   by_cases hk:packL P=b
   ·obtain⟨k1,k2⟩:=key.1 hk
    rw[if_pos hk,if_pos k1]
    show _=if gZ b=true∧P.x=0 then none else some P
    rw[if_neg k2]
   ·rw[if_neg hk]
    by_cases k1:leB 32 (fbytes (lowL b)).val=lowL b
    ·rw[if_pos k1]
     show _=if gZ b=true∧P.x=0 then none else some P
     have k2:gZ b=true∧P.x=0:=Classical.byContradiction fun k2=>hk (key.2 ⟨k1,k2⟩)
     rw[if_pos k2]
    ·rw[if_neg k1]
 ·rw[if_neg h,if_neg h]
theorem from_pack (P:Ed):cB (packL P)=some P:=by
 have hl:=dV P
 have h1:P.y.val<Pq:=P.y.isLt
 have hp:=pq_255
 obtain⟨e1,e2⟩:=bval_low hl
 have hb:bval (packL P)=packN P:=by unfold packL;rw[bval_leB,Nat.mod_eq_of_lt (packN_lt P)]
 have hsp:bval (lowL (packL P))=P.y.val∧gZ (packL P)=decide (P.x.val%2=1):=by
  rw[hb] at e1
  unfold packN at e1
  generalize bval (lowL (packL P))=L at *
  generalize (2:Nat)^255=B at *
  cases ht:gZ (packL P) with
  | true =>
   rw[ht,if_pos rfl] at e1
   split at e1
   ·rename_i h;exact⟨An,(decide_eq_true h).symm⟩
   ·omega
  | false =>
   rw[ht,if_neg Bool.false_ne_true] at e1
   split at e1
   ·omega
   ·rename_i h;exact⟨An,(decide_eq_false h).symm⟩
 have hy:fbytes (lowL (packL P))=P.y:=Fin.ext (by rw[fbytes_low hl,hsp.1,Nat.mod_eq_of_lt h1])
 unfold cB
 rw[if_pos hl,hy,hsp.2,unp_pack]
 show(if packL P=packL P then some P else none)=_
 rw[if_pos rfl]
theorem squareA {a:Array Value}{X:FK}(w:World)(ha:EA a X):Calls Tryz.prog 127 #[.agg a] w (ResE w (X*X)):=by
 have HS:=aA (St.init w NoB)
 go_enter Tryz.func127,Tryz.ntmps127
 go_wp2_with (first|(go_at_call 83;(with_reducible refine(fT _ Df Df).mono ?_);rintro e wy ⟨z,hz,rfl,hb⟩;try have HS:=aA (HS.out.call hb))|(go_at_call 90;(with_reducible refine(addA _ Df Df).mono ?_);rintro e wy ⟨z,hz,rfl,hb⟩;try have HS:=aA (HS.out.call hb))|(go_at_call 88;(with_reducible refine(subA _ Df Df).mono ?_);rintro e wy ⟨z,hz,rfl,hb⟩;try have HS:=aA (HS.out.call hb))|(go_at_call 91;(with_reducible refine(negA _ Df).mono ?_);rintro e wy ⟨z,hz,rfl,hb⟩;try have HS:=aA (HS.out.call hb))|(go_at_call 82;(with_reducible refine(invA _ Df).mono ?_);rintro e wy ⟨z,hz,rfl,hb⟩;try have HS:=aA (HS.out.call hb))|(refine wl_loadP rfl rfl rfl HS.out Dt Du Fo ?_;(try refine nm ?_))|(refine wl_storeR rfl rfl rfl rfl HS.out Du Dw Dv Dv ?_;intro wz hS9;have HS:=aA hS9;clear hS9;(try refine nm ?_))|(refine wl_allocR rfl rfl HS.out Dx ?_;intro gz wz hS9;have HS:=aA hS9;clear hS9;(try refine nm ?_))|(refine wl_boxR rfl rfl rfl HS.out ?_;intro gz wz hS9;have HS:=aA hS9;clear hS9;(try refine nm ?_)))
 refine bodyPost_ret (results_cell_row rfl _ _ _ _ _ _ _ rfl (HS.out.heapM Dt) Tryz.underlying61 rfl Dy) rfl ?_
 exact⟨_,Df,rfl,HS.out.below⟩
theorem iV (args:Array Value)(w:World):(callFunc 83 args).run Tryz.prog w=.ok (.enter 83 args) w:=Bt
theorem en45_rt (args:Array Value)(w:World):(callFunc 91 args).run Tryz.prog w=.ok (.enter 91 args) w:=Bt
theorem en48_rt (args:Array Value)(w:World):(callFunc 89 args).run Tryz.prog w=.ok (.enter 89 args) w:=Bt
theorem en61_rt (args:Array Value)(w:World):(callFunc 122 args).run Tryz.prog w=.ok (.enter 122 args) w:=Bt
theorem en67_rt (args:Array Value)(w:World):(callFunc 127 args).run Tryz.prog w=.ok (.enter 127 args) w:=Bt
theorem en68_rt (args:Array Value)(w:World):(callFunc 128 args).run Tryz.prog w=.ok (.enter 128 args) w:=Bt
theorem root_any {u v:Array Value}{U V:FK}(w:World)(hu:EA u U)(hv:EA v V) :
  Calls Tryz.prog 87 #[.agg u,.agg v] w fun e w'=>∃x,EA x ((rtF U V).getD 0)∧e=.returned (.tuple #[.agg x,.bool (rtF U V).isSome])∧Below w.heap.size w w':=by
 have HS:=aA (St.init w NoB)
 go_enter Tryz.func87,Tryz.ntmps87
 go_wp2_with (first|(refine wl_loadP rfl rfl rfl HS.out Dt Du Fo ?_;(try refine nm ?_))|(refine wl_storeR rfl rfl rfl rfl HS.out Du Dw Dv Dv ?_;intro wz hS9;have HS:=aA hS9;clear hS9;(try refine nm ?_))|(refine wl_allocR rfl rfl HS.out Dx ?_;intro gz wz hS9;have HS:=aA hS9;clear hS9;(try refine nm ?_))|(refine wl_boxR rfl rfl rfl HS.out ?_;intro gz wz hS9;have HS:=aA hS9;clear hS9;(try refine nm ?_)))
 have HS:=aA HS.out.drew
 refine aU [(4,6)] [(0,0),(2,0),(1,2),(3,2)] (.op 5 2 (.nil)) zE 61 Bt Bt Bt Dz (fun _ _ _ _ h=>h) ?_
 refine aG rfl rfl rfl rfl HS.out (.tail _ (.head _)) rowE (.all D0) ?_;(try refine nm ?_)
 refine aG rfl rfl rfl rfl HS.out (.tail _ (.head _)) rowE (.all D0) ?_;(try refine nm ?_)
 refine aH rfl rfl rfl en67_rt rfl (fun x=>squareA x ‹_›) ?_;rintro xw e wy ⟨z,hz,rfl,hb⟩;refine⟨_,rfl,hb,?_⟩;(try refine nm ?_)
 refine aH rfl rfl rfl iV rfl (fun x=>fT x ‹_› ‹_›) ?_;rintro xw e wy ⟨z,hz,rfl,hb⟩;refine⟨_,rfl,hb,?_⟩;(try refine nm ?_)
 refine wpX_nil ?_;intro G xz hx0 hx hF;have hS9:=HS.out.floats hx0 hF _ Bz (fun _ h=>h);simp only[List.map_cons,List.map_nil,List.cons_append,List.nil_append] at hS9;have HS:=aA hS9;have HX:=aA hx0;have HG:=aA hF.at_;clear hS9 hF hx0 hx;simp only[dU,List.foldl_cons,List.foldl_nil];(try refine nm ?_)
 refine aS rfl rfl rfl rfl rfl HS.out HX.out (HG.out 4 B0).1 rowE (.head) D0 D0 ?_;intro wz hS9 hX9;have HS:=aA hS9;have HX:=aA hX9;clear hS9 hX9;(try refine nm ?_)
 refine bC ?_
 go_wp2_with fail
 have HS:=aA HS.out.drew
 refine aU [(11,7)] [(0,0),(1,0),(3,0),(4,0),(7,0),(2,2),(5,2),(6,2),(8,2),(9,2),(10,2)] (.op 12 2 (.nil)) zE 61 Bt Bt Bt Dz (fun _ _ _ _ h=>h) ?_
 refine aG rfl rfl rfl rfl HS.out (.tail _ (.tail _ (.tail _ (.head _)))) rowE (.all D0) ?_;(try refine nm ?_)
 refine aG rfl rfl rfl rfl HS.out (.head _) rowE (.all D0) ?_;(try refine nm ?_)
 refine aG rfl rfl rfl rfl HS.out (.tail _ (.tail _ (.tail _ (.head _)))) rowE (.all D0) ?_;(try refine nm ?_)
 refine aG rfl rfl rfl rfl HS.out (.head _) rowE (.all D0) ?_;(try refine nm ?_)
 refine aG rfl rfl rfl rfl HS.out (.tail _ (.tail _ (.head _))) rowE (.all D0) ?_;(try refine nm ?_)
 refine aH rfl rfl rfl iV rfl (fun x=>fT x ‹_› ‹_›) ?_;rintro xw e wy ⟨z,hz,rfl,hb⟩;refine⟨_,rfl,hb,?_⟩;(try refine nm ?_)
 refine aH rfl rfl rfl en67_rt rfl (fun x=>squareA x ‹_›) ?_;rintro xw e wy ⟨z,hz,rfl,hb⟩;refine⟨_,rfl,hb,?_⟩;(try refine nm ?_)
 refine aH rfl rfl rfl iV rfl (fun x=>fT x ‹_› ‹_›) ?_;rintro xw e wy ⟨z,hz,rfl,hb⟩;refine⟨_,rfl,hb,?_⟩;(try refine nm ?_)
 refine aH rfl rfl rfl iV rfl (fun x=>fT x ‹_› ‹_›) ?_;rintro xw e wy ⟨z,hz,rfl,hb⟩;refine⟨_,rfl,hb,?_⟩;(try refine nm ?_)
 refine aH rfl rfl rfl en61_rt rfl (fun x=>powA1 x Df) ?_;rintro xw e wy ⟨z,hz,rfl,hb⟩;refine⟨_,rfl,hb,?_⟩;(try refine nm ?_)
 refine aH rfl rfl rfl iV rfl (fun x=>fT x ‹_› ‹_›) ?_;rintro xw e wy ⟨z,hz,rfl,hb⟩;refine⟨_,rfl,hb,?_⟩;(try refine nm ?_)
 refine wpX_nil ?_;intro G xz hx0 hx hF;have hS9:=HS.out.floats hx0 hF _ Bz (fun _ h=>h);simp only[List.map_cons,List.map_nil,List.cons_append,List.nil_append] at hS9;have HS:=aA hS9;have HX:=aA hx0;have HG:=aA hF.at_;clear hS9 hF hx0 hx;simp only[dU,List.foldl_cons,List.foldl_nil];(try refine nm ?_)
 refine aS rfl rfl rfl rfl rfl HS.out HX.out (HG.out 11 B0).1 rowE (.head) D0 D0 ?_;intro wz hS9 hX9;have HS:=aA hS9;have HX:=aA hX9;clear hS9 hX9;(try refine nm ?_)
 refine bC ?_
 go_wp2_with fail
 have HS:=aA HS.out.drew
 refine aU [(4,8)] [(0,0),(2,0),(1,2),(3,2)] (.op 5 2 (.nil)) zE 61 Bt Bt Bt Dz (fun _ _ _ _ h=>h) ?_
 refine aG rfl rfl rfl rfl HS.out (.head _) rowE (.all D0) ?_;(try refine nm ?_)
 refine aG rfl rfl rfl rfl HS.out (.tail _ (.tail _ (.tail _ (.head _)))) rowE (.all D0) ?_;(try refine nm ?_)
 refine aH rfl rfl rfl en67_rt rfl (fun x=>squareA x ‹_›) ?_;rintro xw e wy ⟨z,hz,rfl,hb⟩;refine⟨_,rfl,hb,?_⟩;(try refine nm ?_)
 refine aH rfl rfl rfl iV rfl (fun x=>fT x ‹_› ‹_›) ?_;rintro xw e wy ⟨z,hz,rfl,hb⟩;refine⟨_,rfl,hb,?_⟩;(try refine nm ?_)
 refine wpX_nil ?_;intro G xz hx0 hx hF;have hS9:=HS.out.floats hx0 hF _ Bz (fun _ h=>h);simp only[List.map_cons,List.map_nil,List.cons_append,List.nil_append] at hS9;have HS:=aA hS9;have HX:=aA hx0;have HG:=aA hF.at_;clear hS9 hF hx0 hx;simp only[dU,List.foldl_cons,List.foldl_nil];(try refine nm ?_)
 refine aS rfl rfl rfl rfl rfl HS.out HX.out (HG.out 4 B0).1 rowE (.head) D0 D0 ?_;intro wz hS9 hX9;have HS:=aA hS9;have HX:=aA hX9;clear hS9 hX9;(try refine nm ?_)
 refine bC ?_
 have hX:=‹EA _ (U*(V*V*V)*fpow (U*(V*V*V*(V*V*V))*V) (2^252 - 3))›
 have hG:=‹EA _ (U*(V*V*V)*fpow (U*(V*V*V*(V*V*V))*V) (2^252 - 3)*(U*(V*V*V)*fpow (U*(V*V*V*(V*V*V))*V) (2^252 - 3))*V)›
 change EA _ (rtX U V) at hX
 change EA _ (rtX U V*rtX U V*V) at hG
 by_cases c1:rtX U V*rtX U V*V=U
 ·have hF:rtF U V=some (evn (rtX U V)):=by unfold rtF;rw[if_pos c1]
  have HSM:=aA (fun W=>sameA W hG hu)
  rw[decide_eq_true c1] at HSM
  clear c1
  have HOD:=aA (fun W=>oddA W hX)
  by_cases ho:(rtX U V).val%2=1
  ·have hev:evn (rtX U V)=-(rtX U V):=by unfold evn;rw[if_pos ho]
   rw[hev] at hF
   rw[decide_eq_true ho] at HOD
   have HF:=aA hF
   clear hF hev ho
   go_wp2_with (first|(go_at_call 128;(with_reducible refine(HSM.out _).mono ?_);rintro e wy ⟨rfl,hb⟩;have HS:=aA (HS.out.call hb))|(go_at_call 85;(with_reducible refine(HOD.out _).mono ?_);rintro e wy ⟨rfl,hb⟩;have HS:=aA (HS.out.call hb))|(go_at_call 91;(with_reducible refine(negA _ hX).mono ?_);rintro e wy ⟨zn,hzn,rfl,hb⟩;have HS:=aA (HS.out.call hb))|(refine wl_loadP rfl rfl rfl HS.out (.head _) rowE (.all D0) ?_;(try refine nm ?_))|(refine wl_loadP rfl rfl rfl HS.out (.tail _ (.tail _ (.tail _ (.tail _ (.tail _ (.head _)))))) rowE (.all D0) ?_;(try refine nm ?_))|(refine wl_storeR rfl rfl rfl rfl HS.out rowE (.tail (.tail (.tail (.head)))) D0 D0 ?_;intro wz hS9;have HS:=aA hS9;clear hS9;(try refine nm ?_))|(refine wl_loadP rfl rfl rfl HS.out (.tail _ (.head _)) rowE (.all D0) ?_;(try refine nm ?_))|(refine wl_storeR rfl rfl rfl rfl HS.out rowE (.tail (.head)) D0 D0 ?_;intro wz hS9;have HS:=aA hS9;clear hS9;(try refine nm ?_)))
   refine bodyPost_ret (aB rfl _ _ _ _ _ _ _ rfl (HS.out.heapM Dt) Tryz.underlying61 rfl Dy) rfl ?_
   rw[HF.out]
   exact⟨_,hzn,rfl,HS.out.below⟩
  ·have hev:evn (rtX U V)=rtX U V:=by unfold evn;rw[if_neg ho]
   rw[hev] at hF
   rw[decide_eq_false ho] at HOD
   have HF:=aA hF
   clear hF hev ho
   go_wp2_with (first|(go_at_call 128;(with_reducible refine(HSM.out _).mono ?_);rintro e wy ⟨rfl,hb⟩;have HS:=aA (HS.out.call hb))|(go_at_call 85;(with_reducible refine(HOD.out _).mono ?_);rintro e wy ⟨rfl,hb⟩;have HS:=aA (HS.out.call hb))|(refine wl_loadP rfl rfl rfl HS.out (.head _) rowE (.all D0) ?_;(try refine nm ?_))|(refine wl_loadP rfl rfl rfl HS.out (.tail _ (.tail _ (.tail _ (.tail _ (.tail _ (.head _)))))) rowE (.all D0) ?_;(try refine nm ?_))|(refine wl_storeR rfl rfl rfl rfl HS.out rowE (.tail (.tail (.tail (.head)))) D0 D0 ?_;intro wz hS9;have HS:=aA hS9;clear hS9;(try refine nm ?_))|(refine wl_loadP rfl rfl rfl HS.out (.tail _ (.head _)) rowE (.all D0) ?_;(try refine nm ?_))|(refine wl_storeR rfl rfl rfl rfl HS.out rowE (.tail (.head)) D0 D0 ?_;intro wz hS9;have HS:=aA hS9;clear hS9;(try refine nm ?_)))
   refine bodyPost_ret (aB rfl _ _ _ _ _ _ _ rfl (HS.out.heapM Dt) Tryz.underlying61 rfl Dy) rfl ?_
   rw[HF.out]
   exact⟨_,hX,rfl,HS.out.below⟩
 ·by_cases c2:rtX U V*rtX U V*V=-U
  ·have hF:rtF U V=some (evn (rtX U V*iF)):=by unfold rtF;rw[if_neg c1,if_pos c2]
   have HSM:=aA (fun W=>sameA W hG hu)
   rw[decide_eq_false c1] at HSM
   have HC2:=aA c2
   clear c1 c2
   go_wp2_with (first|(go_at_call 128;(with_reducible refine(HSM.out _).mono ?_);rintro e wy ⟨rfl,hb⟩;have HS:=aA (HS.out.call hb))|(refine wl_loadP rfl rfl rfl HS.out (.head _) rowE (.all D0) ?_;(try refine nm ?_))|(refine wl_loadP rfl rfl rfl HS.out (.tail _ (.tail _ (.tail _ (.tail _ (.tail _ (.head _)))))) rowE (.all D0) ?_;(try refine nm ?_))|(refine wl_storeR rfl rfl rfl rfl HS.out rowE (.tail (.tail (.tail (.head)))) D0 D0 ?_;intro wz hS9;have HS:=aA hS9;clear hS9;(try refine nm ?_))|(refine wl_loadP rfl rfl rfl HS.out (.tail _ (.head _)) rowE (.all D0) ?_;(try refine nm ?_))|(refine wl_storeR rfl rfl rfl rfl HS.out rowE (.tail (.head)) D0 D0 ?_;intro wz hS9;have HS:=aA hS9;clear hS9;(try refine nm ?_)))
   have HS:=aA HS.out.drew
   refine aD [(0,0),(1,0),(2,2),(3,2),(4,1)] Bt Bt (fun _ _ _ _ h=>h) ?_
   refine aF rfl rfl rfl rfl HS.out (.head _) rowE (.all D0) ?_;(try refine nm ?_)
   refine aF rfl rfl rfl rfl HS.out (.tail _ (.tail _ (.tail _ (.tail _ (.tail _ (.head _)))))) rowE (.all D0) ?_;(try refine nm ?_)
   refine aJ rfl rfl rfl en45_rt rfl (negA _ ‹_›) ?_;rintro e wy ⟨z,hz,rfl,hb⟩;refine⟨_,rfl,hb,?_⟩;have HS:=aA (HS.out.call hb);(try refine nm ?_)
   refine aJ rfl rfl rfl en68_rt rfl (sameA _ ‹_› ‹_›) ?_;rintro e wy ⟨rfl,hb⟩;refine⟨_,rfl,hb,?_⟩;have HS:=aA (HS.out.call hb);(try refine nm ?_)
   (refine pT (v:=?_) rfl rfl ?_);(try refine nm ?_)
   refine wpT_nil ?_
   rw[decide_eq_true HC2.out]
   go_wp2_with fail
   have HS:=aA HS.out.drew
   refine aD [(0,0),(1,2),(2,2),(3,2),(4,3)] Bt Bt (fun _ _ _ _ h=>h) ?_
   refine aF rfl rfl rfl rfl HS.out (.tail _ (.head _)) rowE (.all D0) ?_;(try refine nm ?_)
   refine aJ rfl rfl rfl en48_rt rfl (small2A _) ?_;rintro e wy ⟨z,hz,rfl,hb⟩;refine⟨_,rfl,hb,?_⟩;have HS:=aA (HS.out.call hb);(try refine nm ?_)
   refine aJ rfl rfl rfl en61_rt rfl (powA2 _ Df) ?_;rintro e wy ⟨z,hz,rfl,hb⟩;refine⟨_,rfl,hb,?_⟩;have HS:=aA (HS.out.call hb);(try refine nm ?_)
   refine aJ rfl rfl rfl iV rfl (fT _ ‹_› ‹_›) ?_;rintro e wy ⟨z,hz,rfl,hb⟩;refine⟨_,rfl,hb,?_⟩;have HS:=aA (HS.out.call hb);(try refine nm ?_)
   refine wpT_late rfl rfl ?_;intro K hK;refine wp_storeR rfl rfl rfl HS.out rowE (.tail (.head)) D0 D0 ?_;intro wz hS9;have HS:=aA hS9;clear hS9;refine hK _ _ ?_;(try refine nm ?_)
   refine wpT_nil ?_
   have hXI:=‹EA _ (rtX U V*fpow (toF 2) (2^253 - 5))›
   rw[two_root] at hXI
   have HOD:=aA (fun W=>oddA W hXI)
   by_cases ho:(rtX U V*iF).val%2=1
   ·have hev:evn (rtX U V*iF)=-(rtX U V*iF):=by unfold evn;rw[if_pos ho]
    rw[hev] at hF
    rw[decide_eq_true ho] at HOD
    have HF:=aA hF
    clear hF hev ho
    go_wp2_with (first|(go_at_call 85;(with_reducible refine(HOD.out _).mono ?_);rintro e wy ⟨rfl,hb⟩;have HS:=aA (HS.out.call hb))|(go_at_call 91;(with_reducible refine(negA _ hXI).mono ?_);rintro e wy ⟨zn,hzn,rfl,hb⟩;have HS:=aA (HS.out.call hb))|(refine wl_loadP rfl rfl rfl HS.out (.head _) rowE (.all D0) ?_;(try refine nm ?_))|(refine wl_loadP rfl rfl rfl HS.out (.tail _ (.tail _ (.tail _ (.tail _ (.tail _ (.head _)))))) rowE (.all D0) ?_;(try refine nm ?_))|(refine wl_storeR rfl rfl rfl rfl HS.out rowE (.tail (.tail (.tail (.head)))) D0 D0 ?_;intro wz hS9;have HS:=aA hS9;clear hS9;(try refine nm ?_))|(refine wl_loadP rfl rfl rfl HS.out (.tail _ (.head _)) rowE (.all D0) ?_;(try refine nm ?_))|(refine wl_storeR rfl rfl rfl rfl HS.out rowE (.tail (.head)) D0 D0 ?_;intro wz hS9;have HS:=aA hS9;clear hS9;(try refine nm ?_)))
    refine bodyPost_ret (aB rfl _ _ _ _ _ _ _ rfl (HS.out.heapM Dt) Tryz.underlying61 rfl Dy) rfl ?_
    rw[HF.out]
    exact⟨_,hzn,rfl,HS.out.below⟩
   ·have hev:evn (rtX U V*iF)=rtX U V*iF:=by unfold evn;rw[if_neg ho]
    rw[hev] at hF
    rw[decide_eq_false ho] at HOD
    have HF:=aA hF
    clear hF hev ho
    go_wp2_with (first|(go_at_call 85;(with_reducible refine(HOD.out _).mono ?_);rintro e wy ⟨rfl,hb⟩;have HS:=aA (HS.out.call hb))|(refine wl_loadP rfl rfl rfl HS.out (.head _) rowE (.all D0) ?_;(try refine nm ?_))|(refine wl_loadP rfl rfl rfl HS.out (.tail _ (.tail _ (.tail _ (.tail _ (.tail _ (.head _)))))) rowE (.all D0) ?_;(try refine nm ?_))|(refine wl_storeR rfl rfl rfl rfl HS.out rowE (.tail (.tail (.tail (.head)))) D0 D0 ?_;intro wz hS9;have HS:=aA hS9;clear hS9;(try refine nm ?_))|(refine wl_loadP rfl rfl rfl HS.out (.tail _ (.head _)) rowE (.all D0) ?_;(try refine nm ?_))|(refine wl_storeR rfl rfl rfl rfl HS.out rowE (.tail (.head)) D0 D0 ?_;intro wz hS9;have HS:=aA hS9;clear hS9;(try refine nm ?_)))
    refine bodyPost_ret (aB rfl _ _ _ _ _ _ _ rfl (HS.out.heapM Dt) Tryz.underlying61 rfl Dy) rfl ?_
    rw[HF.out]
    exact⟨_,hXI,rfl,HS.out.below⟩
  ·have hF:rtF U V=none:=by unfold rtF;rw[if_neg c1,if_neg c2]
   have HSM:=aA (fun W=>sameA W hG hu)
   rw[decide_eq_false c1] at HSM
   have HC2:=aA c2
   have HF:=aA hF
   clear c1 c2 hF
   have hz0:=ea_zero
   go_wp2_with (first|(go_at_call 128;(with_reducible refine(HSM.out _).mono ?_);rintro e wy ⟨rfl,hb⟩;have HS:=aA (HS.out.call hb))|(refine wl_loadP rfl rfl rfl HS.out (.head _) rowE (.all D0) ?_;(try refine nm ?_))|(refine wl_loadP rfl rfl rfl HS.out (.tail _ (.tail _ (.tail _ (.tail _ (.tail _ (.head _)))))) rowE (.all D0) ?_;(try refine nm ?_))|(refine wl_storeR rfl rfl rfl rfl HS.out rowE (.tail (.tail (.tail (.head)))) D0 D0 ?_;intro wz hS9;have HS:=aA hS9;clear hS9;(try refine nm ?_))|(refine wl_loadP rfl rfl rfl HS.out (.tail _ (.head _)) rowE (.all D0) ?_;(try refine nm ?_))|(refine wl_storeR rfl rfl rfl rfl HS.out rowE (.tail (.head)) D0 D0 ?_;intro wz hS9;have HS:=aA hS9;clear hS9;(try refine nm ?_)))
   have HS:=aA HS.out.drew
   refine aD [(0,0),(1,0),(2,2),(3,2),(4,1)] Bt Bt (fun _ _ _ _ h=>h) ?_
   refine aF rfl rfl rfl rfl HS.out (.head _) rowE (.all D0) ?_;(try refine nm ?_)
   refine aF rfl rfl rfl rfl HS.out (.tail _ (.tail _ (.tail _ (.tail _ (.tail _ (.head _)))))) rowE (.all D0) ?_;(try refine nm ?_)
   refine aJ rfl rfl rfl en45_rt rfl (negA _ ‹_›) ?_;rintro e wy ⟨z,hz,rfl,hb⟩;refine⟨_,rfl,hb,?_⟩;have HS:=aA (HS.out.call hb);(try refine nm ?_)
   refine aJ rfl rfl rfl en68_rt rfl (sameA _ ‹_› ‹_›) ?_;rintro e wy ⟨rfl,hb⟩;refine⟨_,rfl,hb,?_⟩;have HS:=aA (HS.out.call hb);(try refine nm ?_)
   (refine pT (v:=?_) rfl rfl ?_);(try refine nm ?_)
   refine wpT_nil ?_
   rw[decide_eq_false HC2.out]
   go_wp2_with (first|(refine wl_loadP rfl rfl rfl HS.out (.head _) rowE (.all D0) ?_;(try refine nm ?_))|(refine wl_loadP rfl rfl rfl HS.out (.tail _ (.tail _ (.tail _ (.tail _ (.tail _ (.head _)))))) rowE (.all D0) ?_;(try refine nm ?_))|(refine wl_storeR rfl rfl rfl rfl HS.out rowE (.tail (.tail (.tail (.head)))) D0 D0 ?_;intro wz hS9;have HS:=aA hS9;clear hS9;(try refine nm ?_))|(refine wl_loadP rfl rfl rfl HS.out (.tail _ (.head _)) rowE (.all D0) ?_;(try refine nm ?_))|(refine wl_storeR rfl rfl rfl rfl HS.out rowE (.tail (.head)) D0 D0 ?_;intro wz hS9;have HS:=aA hS9;clear hS9;(try refine nm ?_)))
   refine bodyPost_ret (aB rfl _ _ _ _ _ _ _ rfl (HS.out.heapM Dt) Tryz.underlying61 rfl Dy) rfl ?_
   rw[HF.out]
   exact⟨_,hz0,rfl,HS.out.below⟩
theorem gJ (args:Array Value)(w:World):(callFunc 83 args).run Tryz.prog w=.ok (.enter 83 args) w:=Bt
theorem en52_pl (args:Array Value)(w:World):(callFunc 88 args).run Tryz.prog w=.ok (.enter 88 args) w:=Bt
theorem en53_pl (args:Array Value)(w:World):(callFunc 90 args).run Tryz.prog w=.ok (.enter 90 args) w:=Bt
theorem plus_any {a b c d a' b' c' d' k:Array Value}{X Y Z T X' Y' Z' T':FK}(w:World)(h1:EA a X)(h2:EA b Y)(h3:EA c Z)(h4:EA d T)(g1:EA a' X')(g2:EA b' Y')(g3:EA c' Z')(g4:EA d' T')(hk:EA k dF) :
  Calls Tryz.prog 80 #[.agg (fS a b c d),.agg (fS a' b' c' d'),.agg k] w (ResP w (plJ ⟨X,Y,Z,T⟩ ⟨X',Y',Z',T'⟩)):=by
 have HS:=aA (St.init w NoB)
 go_enter Tryz.func80,Tryz.ntmps80
 go_wp2_with (first|(refine wl_loadP rfl rfl rfl HS.out Dt Du Fo ?_;(try refine nm ?_))|(refine wl_storeR rfl rfl rfl rfl HS.out Du Dw Dv Dv ?_;intro wz hS9;have HS:=aA hS9;clear hS9;(try refine nm ?_))|(refine wl_allocR rfl rfl HS.out Dx ?_;intro gz wz hS9;have HS:=aA hS9;clear hS9;(try refine nm ?_))|(refine wl_boxR rfl rfl rfl HS.out ?_;intro gz wz hS9;have HS:=aA hS9;clear hS9;(try refine nm ?_)))
 have HS:=aA HS.out.drew
 refine aU [(11,7)] [(0,1),(1,0),(2,1),(3,0),(5,1),(6,0),(7,1),(8,0),(4,2),(9,2),(10,2)] (.op 12 2 (.nil)) zE 61 Bt Bt Bt Dz (fun _ _ _ _ h=>h) ?_
 (refine pX (v:=?_) rfl rfl ?_);(try refine nm ?_)
 refine aG rfl rfl rfl rfl HS.out (.tail _ (.tail _ (.tail _ (.head _)))) rowE (.q1 (EA.arr ‹_›) (EA.arr ‹_›)) ?_;(try refine nm ?_)
 (refine pX (v:=?_) rfl rfl ?_);(try refine nm ?_)
 refine aG rfl rfl rfl rfl HS.out (.tail _ (.tail _ (.tail _ (.head _)))) rowE (.q0 (EA.arr ‹_›)) ?_;(try refine nm ?_)
 (refine pX (v:=?_) rfl rfl ?_);(try refine nm ?_)
 refine aG rfl rfl rfl rfl HS.out (.tail _ (.tail _ (.head _))) rowE (.q1 (EA.arr ‹_›) (EA.arr ‹_›)) ?_;(try refine nm ?_)
 (refine pX (v:=?_) rfl rfl ?_);(try refine nm ?_)
 refine aG rfl rfl rfl rfl HS.out (.tail _ (.tail _ (.head _))) rowE (.q0 (EA.arr ‹_›)) ?_;(try refine nm ?_)
 refine aH rfl rfl rfl en52_pl rfl (fun x=>subA x ‹_› ‹_›) ?_;rintro xw e wy ⟨z,hz,rfl,hb⟩;refine⟨_,rfl,hb,?_⟩;(try refine nm ?_)
 refine aH rfl rfl rfl en52_pl rfl (fun x=>subA x ‹_› ‹_›) ?_;rintro xw e wy ⟨z,hz,rfl,hb⟩;refine⟨_,rfl,hb,?_⟩;(try refine nm ?_)
 refine aH rfl rfl rfl gJ rfl (fun x=>fT x ‹_› ‹_›) ?_;rintro xw e wy ⟨z,hz,rfl,hb⟩;refine⟨_,rfl,hb,?_⟩;(try refine nm ?_)
 refine wpX_nil ?_;intro G xz hx0 hx hF;have hS9:=HS.out.floats hx0 hF _ Bz (fun _ h=>h);simp only[List.map_cons,List.map_nil,List.cons_append,List.nil_append] at hS9;have HS:=aA hS9;have HX:=aA hx0;have HG:=aA hF.at_;clear hS9 hF hx0 hx;simp only[dU,List.foldl_cons,List.foldl_nil];(try refine nm ?_)
 refine aS rfl rfl rfl rfl rfl HS.out HX.out (HG.out 11 B0).1 rowE (.head) D0 D0 ?_;intro wz hS9 hX9;have HS:=aA hS9;have HX:=aA hX9;clear hS9 hX9;(try refine nm ?_)
 refine bC ?_
 go_wp2_with fail
 have HS:=aA HS.out.drew
 refine aU [(11,8)] [(0,1),(1,0),(2,1),(3,0),(5,1),(6,0),(7,1),(8,0),(4,2),(9,2),(10,2)] (.op 12 2 (.nil)) zE 61 Bt Bt Bt Dz (fun _ _ _ _ h=>h) ?_
 (refine pX (v:=?_) rfl rfl ?_);(try refine nm ?_)
 refine aG rfl rfl rfl rfl HS.out (.tail _ (.tail _ (.tail _ (.tail _ (.head _))))) rowE (.q1 (EA.arr ‹_›) (EA.arr ‹_›)) ?_;(try refine nm ?_)
 (refine pX (v:=?_) rfl rfl ?_);(try refine nm ?_)
 refine aG rfl rfl rfl rfl HS.out (.tail _ (.tail _ (.tail _ (.tail _ (.head _))))) rowE (.q0 (EA.arr ‹_›)) ?_;(try refine nm ?_)
 (refine pX (v:=?_) rfl rfl ?_);(try refine nm ?_)
 refine aG rfl rfl rfl rfl HS.out (.tail _ (.tail _ (.tail _ (.head _)))) rowE (.q1 (EA.arr ‹_›) (EA.arr ‹_›)) ?_;(try refine nm ?_)
 (refine pX (v:=?_) rfl rfl ?_);(try refine nm ?_)
 refine aG rfl rfl rfl rfl HS.out (.tail _ (.tail _ (.tail _ (.head _)))) rowE (.q0 (EA.arr ‹_›)) ?_;(try refine nm ?_)
 refine aH rfl rfl rfl en53_pl rfl (fun x=>addA x ‹_› ‹_›) ?_;rintro xw e wy ⟨z,hz,rfl,hb⟩;refine⟨_,rfl,hb,?_⟩;(try refine nm ?_)
 refine aH rfl rfl rfl en53_pl rfl (fun x=>addA x ‹_› ‹_›) ?_;rintro xw e wy ⟨z,hz,rfl,hb⟩;refine⟨_,rfl,hb,?_⟩;(try refine nm ?_)
 refine aH rfl rfl rfl gJ rfl (fun x=>fT x ‹_› ‹_›) ?_;rintro xw e wy ⟨z,hz,rfl,hb⟩;refine⟨_,rfl,hb,?_⟩;(try refine nm ?_)
 refine wpX_nil ?_;intro G xz hx0 hx hF;have hS9:=HS.out.floats hx0 hF _ Bz (fun _ h=>h);simp only[List.map_cons,List.map_nil,List.cons_append,List.nil_append] at hS9;have HS:=aA hS9;have HX:=aA hx0;have HG:=aA hF.at_;clear hS9 hF hx0 hx;simp only[dU,List.foldl_cons,List.foldl_nil];(try refine nm ?_)
 refine aS rfl rfl rfl rfl rfl HS.out HX.out (HG.out 11 B0).1 rowE (.head) D0 D0 ?_;intro wz hS9 hX9;have HS:=aA hS9;have HX:=aA hX9;clear hS9 hX9;(try refine nm ?_)
 refine bC ?_
 go_wp2_with fail
 have HS:=aA HS.out.drew
 refine aU [(7,9)] [(0,1),(1,0),(2,1),(3,0),(5,0),(4,2),(6,2)] (.op 8 2 (.nil)) zE 61 Bt Bt Bt Dz (fun _ _ _ _ h=>h) ?_
 (refine pX (v:=?_) rfl rfl ?_);(try refine nm ?_)
 refine aG rfl rfl rfl rfl HS.out (.tail _ (.tail _ (.tail _ (.tail _ (.tail _ (.head _)))))) rowE (.q3 (EA.arr ‹_›) (EA.arr ‹_›) (EA.arr ‹_›) (EA.arr ‹_›)) ?_;(try refine nm ?_)
 (refine pX (v:=?_) rfl rfl ?_);(try refine nm ?_)
 refine aG rfl rfl rfl rfl HS.out (.tail _ (.tail _ (.tail _ (.tail _ (.head _))))) rowE (.q3 (EA.arr ‹_›) (EA.arr ‹_›) (EA.arr ‹_›) (EA.arr ‹_›)) ?_;(try refine nm ?_)
 refine aG rfl rfl rfl rfl HS.out (.tail _ (.tail _ (.tail _ (.head _)))) rowE (.all D0) ?_;(try refine nm ?_)
 refine aH rfl rfl rfl gJ rfl (fun x=>fT x ‹_› ‹_›) ?_;rintro xw e wy ⟨z,hz,rfl,hb⟩;refine⟨_,rfl,hb,?_⟩;(try refine nm ?_)
 refine aH rfl rfl rfl gJ rfl (fun x=>fT x ‹_› ‹_›) ?_;rintro xw e wy ⟨z,hz,rfl,hb⟩;refine⟨_,rfl,hb,?_⟩;(try refine nm ?_)
 refine wpX_nil ?_;intro G xz hx0 hx hF;have hS9:=HS.out.floats hx0 hF _ Bz (fun _ h=>h);simp only[List.map_cons,List.map_nil,List.cons_append,List.nil_append] at hS9;have HS:=aA hS9;have HX:=aA hx0;have HG:=aA hF.at_;clear hS9 hF hx0 hx;simp only[dU,List.foldl_cons,List.foldl_nil];(try refine nm ?_)
 refine aS rfl rfl rfl rfl rfl HS.out HX.out (HG.out 7 B0).1 rowE (.head) D0 D0 ?_;intro wz hS9 hX9;have HS:=aA hS9;have HX:=aA hX9;clear hS9 hX9;(try refine nm ?_)
 refine bC ?_
 go_wp2_with (first|(go_at_call 83;(with_reducible refine(fT _ Df Df).mono ?_);rintro e wy ⟨z,hz,rfl,hb⟩;try have HS:=aA (HS.out.call hb))|(go_at_call 90;(with_reducible refine(addA _ Df Df).mono ?_);rintro e wy ⟨z,hz,rfl,hb⟩;try have HS:=aA (HS.out.call hb))|(go_at_call 88;(with_reducible refine(subA _ Df Df).mono ?_);rintro e wy ⟨z,hz,rfl,hb⟩;try have HS:=aA (HS.out.call hb))|(go_at_call 91;(with_reducible refine(negA _ Df).mono ?_);rintro e wy ⟨z,hz,rfl,hb⟩;try have HS:=aA (HS.out.call hb))|(go_at_call 82;(with_reducible refine(invA _ Df).mono ?_);rintro e wy ⟨z,hz,rfl,hb⟩;try have HS:=aA (HS.out.call hb))|(refine wl_loadP rfl rfl rfl HS.out Dt Du Fo ?_;(try refine nm ?_))|(refine wl_storeR rfl rfl rfl rfl HS.out Du Dw Dv Dv ?_;intro wz hS9;have HS:=aA hS9;clear hS9;(try refine nm ?_))|(refine wl_allocR rfl rfl HS.out Dx ?_;intro gz wz hS9;have HS:=aA hS9;clear hS9;(try refine nm ?_))|(refine wl_boxR rfl rfl rfl HS.out ?_;intro gz wz hS9;have HS:=aA hS9;clear hS9;(try refine nm ?_)))
 have HS:=aA HS.out.drew
 refine aU [(12,11),(13,12),(14,13),(15,14)] [(0,0),(1,0),(3,0),(4,0),(6,0),(7,0),(9,0),(10,0),(2,2),(5,2),(8,2),(11,2)] (.op 16 2 (.op 17 2 (.op 18 2 (.op 19 2 (.nil))))) zE 61 Bt Bt Bt (by intro p hp;simp only[List.mem_cons,List.not_mem_nil,or_false] at hp;rcases hp with rfl|rfl|rfl|rfl<;>exact flOp_of rfl rfl rfl (fun ev x=>eM rfl newE ev x)) (fun _ _ _ _ h=>h) ?_
 refine aG rfl rfl rfl rfl HS.out (.tail _ (.tail _ (.head _))) rowE (.all D0) ?_;(try refine nm ?_)
 refine aG rfl rfl rfl rfl HS.out (.tail _ (.tail _ (.tail _ (.head _)))) rowE (.all D0) ?_;(try refine nm ?_)
 refine aG rfl rfl rfl rfl HS.out (.head _) rowE (.all D0) ?_;(try refine nm ?_)
 refine aG rfl rfl rfl rfl HS.out (.tail _ (.head _)) rowE (.all D0) ?_;(try refine nm ?_)
 refine aG rfl rfl rfl rfl HS.out (.head _) rowE (.all D0) ?_;(try refine nm ?_)
 refine aG rfl rfl rfl rfl HS.out (.tail _ (.head _)) rowE (.all D0) ?_;(try refine nm ?_)
 refine aG rfl rfl rfl rfl HS.out (.tail _ (.tail _ (.head _))) rowE (.all D0) ?_;(try refine nm ?_)
 refine aG rfl rfl rfl rfl HS.out (.tail _ (.tail _ (.tail _ (.head _)))) rowE (.all D0) ?_;(try refine nm ?_)
 refine aH rfl rfl rfl en52_pl rfl (fun x=>subA x ‹_› ‹_›) ?_;rintro xw e wy ⟨z,hz,rfl,hb⟩;refine⟨_,rfl,hb,?_⟩;(try refine nm ?_)
 refine aH rfl rfl rfl en52_pl rfl (fun x=>subA x ‹_› ‹_›) ?_;rintro xw e wy ⟨z,hz,rfl,hb⟩;refine⟨_,rfl,hb,?_⟩;(try refine nm ?_)
 refine aH rfl rfl rfl en53_pl rfl (fun x=>addA x ‹_› ‹_›) ?_;rintro xw e wy ⟨z,hz,rfl,hb⟩;refine⟨_,rfl,hb,?_⟩;(try refine nm ?_)
 refine aH rfl rfl rfl en53_pl rfl (fun x=>addA x ‹_› ‹_›) ?_;rintro xw e wy ⟨z,hz,rfl,hb⟩;refine⟨_,rfl,hb,?_⟩;(try refine nm ?_)
 refine wpX_nil ?_;intro G xz hx0 hx hF;have hS9:=HS.out.floats hx0 hF _ Bz (fun _ h=>h);simp only[List.map_cons,List.map_nil,List.cons_append,List.nil_append] at hS9;have HS:=aA hS9;have HX:=aA hx0;have HG:=aA hF.at_;clear hS9 hF hx0 hx;simp only[dU,List.foldl_cons,List.foldl_nil];(try refine nm ?_)
 refine aS rfl rfl rfl rfl rfl HS.out HX.out (HG.out 12 B0).1 rowE (.head) D0 D0 ?_;intro wz hS9 hX9;have HS:=aA hS9;have HX:=aA hX9;clear hS9 hX9;(try refine nm ?_)
 refine aS rfl rfl rfl rfl rfl HS.out HX.out (HG.out 13 B0).1 rowE (.tail (.head)) D0 D0 ?_;intro wz hS9 hX9;have HS:=aA hS9;have HX:=aA hX9;clear hS9 hX9;(try refine nm ?_)
 refine aS rfl rfl rfl rfl rfl HS.out HX.out (HG.out 14 B0).1 rowE (.tail (.tail (.head))) D0 D0 ?_;intro wz hS9 hX9;have HS:=aA hS9;have HX:=aA hX9;clear hS9 hX9;(try refine nm ?_)
 refine aS rfl rfl rfl rfl rfl HS.out HX.out (HG.out 15 B0).1 rowE (.tail (.tail (.tail (.head)))) D0 D0 ?_;intro wz hS9 hX9;have HS:=aA hS9;have HX:=aA hX9;clear hS9 hX9;(try refine nm ?_)
 refine bC ?_
 go_wp2_with fail
 have HS:=aA HS.out.drew
 refine aD [(0,0),(1,0),(3,0),(4,0),(6,0),(7,0),(9,0),(10,0),(2,2),(5,2),(8,2),(11,2),(12,1),(13,3)] Bt Bt (fun _ _ _ _ h=>h) ?_
 refine aF rfl rfl rfl rfl HS.out (.head _) rowE (.all D0) ?_;(try refine nm ?_)
 refine aF rfl rfl rfl rfl HS.out (.tail _ (.head _)) rowE (.all D0) ?_;(try refine nm ?_)
 refine aF rfl rfl rfl rfl HS.out (.tail _ (.tail _ (.head _))) rowE (.all D0) ?_;(try refine nm ?_)
 refine aF rfl rfl rfl rfl HS.out (.tail _ (.tail _ (.tail _ (.head _)))) rowE (.all D0) ?_;(try refine nm ?_)
 refine aF rfl rfl rfl rfl HS.out (.tail _ (.head _)) rowE (.all D0) ?_;(try refine nm ?_)
 refine aF rfl rfl rfl rfl HS.out (.tail _ (.tail _ (.head _))) rowE (.all D0) ?_;(try refine nm ?_)
 refine aF rfl rfl rfl rfl HS.out (.head _) rowE (.all D0) ?_;(try refine nm ?_)
 refine aF rfl rfl rfl rfl HS.out (.tail _ (.tail _ (.tail _ (.head _)))) rowE (.all D0) ?_;(try refine nm ?_)
 refine aJ rfl rfl rfl gJ rfl (fT _ ‹_› ‹_›) ?_;rintro e wy ⟨z,hz,rfl,hb⟩;refine⟨_,rfl,hb,?_⟩;have HS:=aA (HS.out.call hb);(try refine nm ?_)
 refine aJ rfl rfl rfl gJ rfl (fT _ ‹_› ‹_›) ?_;rintro e wy ⟨z,hz,rfl,hb⟩;refine⟨_,rfl,hb,?_⟩;have HS:=aA (HS.out.call hb);(try refine nm ?_)
 refine aJ rfl rfl rfl gJ rfl (fT _ ‹_› ‹_›) ?_;rintro e wy ⟨z,hz,rfl,hb⟩;refine⟨_,rfl,hb,?_⟩;have HS:=aA (HS.out.call hb);(try refine nm ?_)
 refine aJ rfl rfl rfl gJ rfl (fT _ ‹_› ‹_›) ?_;rintro e wy ⟨z,hz,rfl,hb⟩;refine⟨_,rfl,hb,?_⟩;have HS:=aA (HS.out.call hb);(try refine nm ?_)
 refine aI rfl rfl (fun x=>bB rfl rfl rfl rfl rfl buildP (exE ‹_›) (exE ‹_›) (exE ‹_›) (exE ‹_›) x) ?_;(try refine nm ?_)
 refine wpT_late rfl rfl ?_;intro K hK;refine wp_storeR rfl rfl rfl HS.out rowP (.tail (.tail (.tail (.tail (.tail (.tail (.tail (.tail (.head))))))))) D3 D3 ?_;intro wz hS9;have HS:=aA hS9;clear hS9;refine hK _ _ ?_;(try refine nm ?_)
 refine wpT_nil ?_
 go_wp2_with fail
 refine bodyPost_ret (results_cell_row rfl _ _ _ _ _ _ _ rfl (HS.out.heapM Dt) Tryz.underlying63 rfl Dy) rfl ?_
 refine⟨_,_,_,_,?_,?_,?_,?_,rfl,HS.out.below⟩<;>assumption
end Go.Proofs.YtnohmgpmmhlloaaGreatDoor
