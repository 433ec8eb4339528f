/-
 Joined of texts of mine,in build order: D9,Zs,E1,E2,E3,C3,D4,Me,Mg,Mh,C2,C6,C8,C9,E4. Each says what it proves at its own head.
-/
import Derived.Test.YtnohmgpmmhlloaaGreatDoorYl
set_option linter.unusedSimpArgs false
set_option linter.unusedVariables false
set_option maxRecDepth 100000
set_option maxHeartbeats 25600000
namespace Go.Proofs.YtnohmgpmmhlloaaGreatDoor.S6
open Go.RowKit
def arr5 (f:Nat→Value):Array Value:=#[f 1,f 2,f 3,f 4,f 5]
theorem arr5_set (f:Nat→Value){j:Nat}(h:j<5)(v:Value):(arr5 f).setIfInBounds j v=arr5 (fun i=>if i=j+1 then v else f i):=by
 rcases(show j=0∨j=1∨j=2∨j=3∨j=4 by omega) with rfl|rfl|rfl|rfl|rfl<;>rfl
theorem fd_numb {l:List UInt8}{fs:List FdV}(hl:l.length≤65536)(h:fds l=.ok fs):∀f∈fs,1≤f.num∧f.num≤100:=fun f hf=>by
 have h1:=((fds_inv l.length l fs (Nat.le_refl _) hl h).2 f hf).1.may
 have h2:=mayB_of _ h1
 omega
structure TkP (xs:List FdL)(k last:Nat):Prop where
 l5:last≤5
 all:∀y∈xs.take k,y.f.num≤last
 ri:rise 0 (xs.map FdL.f)=rise last ((xs.drop k).map FdL.f)
 prev:(k=0∧last=0)∨∃k2 p,k=k2+1∧xs[k2]?=some p∧p.f.num=last
section
variable {w0 w : World} {M : Nat → Prop} {H : List Chunk}
theorem end_perm (a:Chunk)(H R:List Chunk)(h:St w0 M w (a::(H++R))):St w0 M w (a::(H++(R++[pc0.ch]))):=by
 have h1:St w0 M w ([pc0.ch]++(a::(H++R))):=h.row (Below.refl _ _) (World.ownsRow_nil _ _ 5 1)
 have h2:=h1.perm (List.perm_append_comm (l₁:=[pc0.ch]) (l₂:=a::(H++R)))
 rw[List.cons_append,List.append_assoc] at h2
 exact h2
theorem bL (a b c d:Chunk)(H:List Chunk):(a::b::c::d::H).Perm (c::a::b::d::H):=List.perm_middle (l₁:=[a,b])
theorem d9_perm3 (a b c d:Chunk)(H:List Chunk):(a::b::c::d::H).Perm (d::a::b::c::H):=List.perm_middle (l₁:=[a,b,c])
theorem iE (a b c:Chunk)(H:List Chunk):(b::c::a::H).Perm (a::b::c::H):=List.perm_middle (l₁:=[b,c])
theorem st_cut5 {a b c d e:Chunk}{H:List Chunk}(h:St w0 M w (a::b::c::d::e::H)):St w0 M w (a::H):=St.cut [a] _ _ (St.cut [a] _ _ (St.cut [a] _ _ (St.cut [a] _ _ h)))
theorem st_cut4 {a b c d:Chunk}{H:List Chunk}(h:St w0 M w (a::b::c::d::H)):St w0 M w (a::H):=St.cut [a] _ _ (St.cut [a] _ _ (St.cut [a] _ _ h))
theorem signedR_bad (g:Nat)(A:Option Addr)(n c:Nat)(l:List UInt8)(q:Nat)(hl:l.length=n)(hn:n≤65536)(hf:fds l=.bad q)(hr:Rd w (.slice A n c) 1 n (bvs l))(hS:St w0 M w (.cells g #[.pointer none,.int .i64 0] 99::H)) :
  Calls Tryz.prog 68 #[.pointer (some ⟨g,0,none⟩),.slice A n c] w fun e w'=>e=.returned (.agg #[.slice none 0 0,.slice none 0 0,.slice none 0 0,.slice none 0 0,.slice none 0 0])∧St w0 M w' (.cells g #[.pointer none,.int .i64 (q:Int)] 99::H):=by
 have HS:=aA ((hS.alloc #[.slice none 0 0,.slice none 0 0,.slice none 0 0,.slice none 0 0,.slice none 0 0] 32).swap)
 have HC:=aA (rfields_bad g A n c l q hl hn hf (hr.below ((Below.refl w.heap.size w).alloc (Nat.le_refl _) (.cells #[.slice none 0 0,.slice none 0 0,.slice none 0 0,.slice none 0 0,.slice none 0 0] 32))) HS.out)
 have hk:q=2∨q=3:=fW l q hf
 have hq0:q≠0:=An
 clear hr hf hl hS hk
 go_enter Tryz.func68,Tryz.ntmps68
 go_upto_region 2 with(go_at_call 66;(with_reducible refine HC.out.mono ?_);rintro e w2 ⟨rfl,hS2⟩;have HS:=aA hS2;clear hS2)
 have hA:=(HS.out.alloc #[.slice none 0 0,.slice none 0 0,.slice none 0 0,.slice none 0 0,.slice none 0 0] 32).alloc #[.int .i64 0,.int .i64 0,.int .i64 0,.int .i64 0,.int .i64 0,.int .i64 0] 149
 rw[size_alloc1] at hA
 have HA:=aA hA
 clear hA
 go_wp2_with fail
 generalize World.alloc (World.alloc w2 _) _=w3 at HA ⊢
 have c1:_=some (Value.int .i64 0):=HA.out.cell 0 rfl 1
 have c2:_=some (Value.int .i64 0):=HA.out.cell 0 rfl 2
 have c3:_=some (Value.int .i64 0):=HA.out.cell 0 rfl 3
 refine wp_loop_rounds 1 ?_
 rw[rounds_succ]
 have M0:=True.intro
 go_wp2_with (first
  |(clear M1;refine wl_storeC rfl rfl HA.out 3 rfl (vs:=[.slice none 0 0,.slice none 0 0,.slice none 0 0,.slice none 0 0,.slice none 0 0]) szSigned (Nat.le_refl _) rfl rfl fE ?_;intro w7 hS7;have HS7:=aA hS7;clear hS7;have M2:=True.intro)
  |(clear M0;go_at_call 69;(with_reducible refine(iU g q hq0 (HA.out.perm (bL _ _ _ _ _))).mono ?_);rintro e w6 ⟨rfl,hS6⟩;have HA:=aA (hS6.perm (bL _ _ _ _ _).symm);clear hS6;have s1:_=some (Value.slice none 0 0):=HA.out.cell 1 rfl 0;have s2:_=some (Value.slice none 0 0):=HA.out.cell 1 rfl 1;have s3:_=some (Value.slice none 0 0):=HA.out.cell 1 rfl 2;have s4:_=some (Value.slice none 0 0):=HA.out.cell 1 rfl 3;have s5:_=some (Value.slice none 0 0):=HA.out.cell 1 rfl 4;have M1:=True.intro))
 refine bodyPost_ret (results_cell_row rfl _ _ w.heap.size _ _ _ _ rfl (HS7.out.heap 3 rfl) Tryz.underlying32 rfl Bt) rfl ?_
 exact⟨rfl,st_cut4 (HS7.out.perm (bL _ _ _ _ _))⟩
theorem signedR_ok (g:Nat)(A:Option Addr)(n c:Nat)(l:List UInt8)(fs:List FdV)(hl:l.length=n)(hn:n≤65536)(hf:fds l=.ok fs)(hr:Rd w (.slice A n c) 1 n (bvs l))(hS:St w0 M w (.cells g #[.pointer none,.int .i64 0] 99::H)) :
  Calls Tryz.prog 68 #[.pointer (some ⟨g,0,none⟩),.slice A n c] w fun e w'=>∃(y:Sg) (G:List Chunk) (kk:Nat),e=.returned y.val∧SgX G kk y (sgB l)∧St w0 M w' (.cells g #[.pointer none,.int .i64 (kk:Int)] 99::(H++G)):=by
 have HS:=aA ((hS.alloc #[.slice none 0 0,.slice none 0 0,.slice none 0 0,.slice none 0 0,.slice none 0 0] 32).swap)
 have HC:=aA (rfields_ok g A n c l fs hl hn hf (hr.below ((Below.refl w.heap.size w).alloc (Nat.le_refl _) (.cells #[.slice none 0 0,.slice none 0 0,.slice none 0 0,.slice none 0 0,.slice none 0 0] 32))) HS.out)
 have HFS:=aA hf
 have hnum:=fd_numb An hf
 have hflen:=fds_len l fs hf
 clear hr hf hS HS
 obtain⟨gr,hgr⟩:∃q,w.heap.size=q:=⟨_,rfl⟩
 rw[hgr] at HC
 go_enter Tryz.func68,Tryz.ntmps68
 go_upto_region 2 with(go_at_call 66;(with_reducible refine HC.out.mono ?_);rintro e w2 ⟨xs,B,d,rfl,hx,hS2⟩;have HS:Hid (St w0 M w2 (.cells g #[.pointer none,.int .i64 0] 99::.cells gr #[.slice none 0 0,.slice none 0 0,.slice none 0 0,.slice none 0 0,.slice none 0 0] 32::(H++(.row (.slice B xs.length d) 102 4 xs.length (aP xs)::aV xs)))):=aA hS2;clear hS2)
 obtain⟨m,hm⟩:∃m,xs.length=m:=⟨_,rfl⟩
 rw[hm] at HS ⊢
 have HM:=aA hm
 have HX:=aA hx
 have hm6:m≤65536:=by
  rw[←hx,List.length_map,hm] at hflen
  omega
 have HNUM:Hid (∀x∈xs,1≤x.f.num∧x.f.num≤100):=aA (fun x hx'=>hnum x.f (by rw[←hx];exact List.mem_map_of_mem hx'))
 have hA:=(HS.out.alloc #[.slice none 0 0,.slice none 0 0,.slice none 0 0,.slice none 0 0,.slice none 0 0] 32).alloc #[.int .i64 0,.int .i64 0,.int .i64 0,.int .i64 0,.int .i64 0,.int .i64 0] 149
 rw[size_alloc1] at hA
 have HSL:=aA hA
 clear hA HS hx hm hnum hflen
 go_wp2_with fail
 generalize w2.heap.size=gp at HSL ⊢
 generalize World.alloc (World.alloc w2 _) _=w3 at HSL ⊢
 go_loopw [16] (fun iv wr=>∃(k last:Nat),k≤m∧iv=.int .i64 (k:Int)∧Hid (TkP xs k last)∧Hid (St w0 M wr (.cells (gp+1) (arr6 fun j=>.int .i64 (hasV (xs.take k) j:Int)) 149::.cells gp (arr5 fun j=>(lookV (xs.take k) j).v) 32::.cells g #[.pointer none,.int .i64 0] 99::.cells gr #[.slice none 0 0,.slice none 0 0,.slice none 0 0,.slice none 0 0,.slice none 0 0] 32::(H++(.row (.slice B m d) 102 4 m (aP xs)::aV xs))))) (fun i _=>(m - intOf i).toNat)
 case atStart=>exact⟨0,0,An,rfl,⟨An,fun y hy=>absurd hy List.not_mem_nil,rfl,.inl ⟨rfl,rfl⟩⟩,HSL⟩
 case round =>
  clear HSL
  obtain⟨k,last,hk,rfl,HI,HS⟩:=hrel
  by_cases hlt:k<m
  ·have e0:decide ((k:Int)<(m:Int))=true:=by simp;omega
   have e0':decide (k<m)=true:=A9
   have kn:(k:Int)<(m:Int):=An
   have kl:k<xs.length:=Et
   have hlk:xs[k]?=some xs[k]:=gE kl
   have hrow:Chunk.row (.slice B m d) 102 4 m (aP xs)∈(H++(.row (.slice B m d) 102 4 m (aP xs)::aV xs)):=List.mem_append_right _ (List.mem_cons_self ..)
   obtain⟨b,o,rfl,hb8,hc⟩:=fC (eO HS.out (by (iterate 4 apply mC);exact hrow)) hlk
   obtain⟨k0,k1,k2,k3⟩:=hc _ (Below.refl _ _)
   have HTK:=aA (show xs.take (k+1)=xs.take k++[xs[k]] by rw[List.take_add_one,hlk];rfl)
   have HDK:=aA (show rise last ((xs.drop k).map FdL.f)=(xs[k].f.whole&&(decide (xs[k].f.num≤5)&&(decide (last<xs[k].f.num)&&rise xs[k].f.num ((xs.drop (k+1)).map FdL.f)))) by rw[List.drop_eq_getElem_cons kl];rfl)
   have hny:=HNUM.out _ (List.getElem_mem kl)
   have HLK:=aA hlk
   generalize xs[k]=y at k0 k1 k2 k3 HTK HDK HLK hny
   have hl5:last≤5:=HI.out.l5
   clear hc hlk kl
   go_upto_region 7 with(refine wl_storeC rfl rfl (HS.out.alloc _ _) 0 rfl (vs:=[.int .i64 (y.f.num:Int),.bool y.f.whole,.int .u64 (y.f.n:Int),.slice y.A y.f.b.length y.c]) szField6 (Nat.le_refl _) rfl rfl oneF ?_;intro w5 hS5;have HS5r:=aA hS5;clear hS5)
   have HS5:Hid (St w0 M w5 (.cells g #[.pointer none,.int .i64 0] 99::.cells wr.heap.size #[.int .i64 (y.f.num:Int),.bool y.f.whole,.int .u64 (y.f.n:Int),.slice y.A y.f.b.length y.c] 102::.cells (gp+1) (arr6 fun j=>.int .i64 (hasV (xs.take k) j:Int)) 149::.cells gp (arr5 fun j=>(lookV (xs.take k) j).v) 32::.cells gr #[.slice none 0 0,.slice none 0 0,.slice none 0 0,.slice none 0 0,.slice none 0 0] 32::(H++(.row (.slice (some ⟨b,o,none⟩) m d) 102 4 m (aP xs)::aV xs)))):=aA (HS5r.out.perm (d9_perm3 _ _ _ _ _))
   clear HS5r
   have HMEM:Hid (Chunk.row (.slice (some ⟨b,o,none⟩) m d) 102 4 m (aP xs)∈.cells wr.heap.size #[.int .i64 (y.f.num:Int),.bool y.f.whole,.int .u64 (y.f.n:Int),.slice y.A y.f.b.length y.c] 102::.cells (gp+1) (arr6 fun j=>.int .i64 (hasV (xs.take k) j:Int)) 149::.cells gp (arr5 fun j=>(lookV (xs.take k) j).v) 32::.cells gr #[.slice none 0 0,.slice none 0 0,.slice none 0 0,.slice none 0 0,.slice none 0 0] 32::(H++(.row (.slice (some ⟨b,o,none⟩) m d) 102 4 m (aP xs)::aV xs))):=aA (by (iterate 4 apply mC);exact List.mem_append_right _ (List.mem_cons_self ..))
   clear k0 k1 k2 k3 hrow HS
   by_cases hg:y.f.whole=true∧y.f.num≤5∧last<y.f.num
   ·have HW:=aA (fits5_yes g (some ⟨b,o,none⟩) m d k last xs y HLK.out hlt hny.1 hny.2 HI.out.prev An HMEM.out hm6 HS5.out hg.1 hg.2.1 hg.2.2)
    obtain⟨hg1,h5,hln⟩:=hg
    have HLT:Hid (∀z∈xs.take k,z.f.num<y.f.num):=aA (fun z hz=>by have:=HI.out.all z hz;omega)
    have HRI:Hid (rise 0 (xs.map FdL.f)=rise y.f.num ((xs.drop (k+1)).map FdL.f)):=aA (by rw[HI.out.ri,HDK.out,hg1];simp[h5,hln])
    go_upto_region 9 with(go_at_call 67;(with_reducible refine HW.out.mono ?_);rintro e w7 ⟨rfl,hS7⟩;have HS:=aA hS7;clear hS7)
    have q0:_=some (Value.int .i64 (y.f.num:Int)):=HS.out.cell 1 rfl 0
    have g1:w7.cell? ⟨gp+1,y.f.num,none⟩=some (.int .i64 0):=(HS.out.cell 2 rfl y.f.num).trans ((arr6_get _ An).trans (by rw[hasV_new _ _ HLT.out];rfl))
    have g2:=HS.out.free 2 rfl y.f.num
    have h6:(y.f.num:Int)<6:=An
    have h6':y.f.num<6:=An
    go_upto_region 10 with fail
    have hS8:St w0 M _ (.cells g #[.pointer none,.int .i64 0] 99::.cells wr.heap.size #[.int .i64 (y.f.num:Int),.bool y.f.whole,.int .u64 (y.f.n:Int),.slice y.A y.f.b.length y.c] 102::.cells (gp+1) ((arr6 fun j=>.int .i64 (hasV (xs.take k) j:Int)).setIfInBounds y.f.num (.int .i64 1)) 149::.cells gp (arr5 fun j=>(lookV (xs.take k) j).v) 32::.cells gr #[.slice none 0 0,.slice none 0 0,.slice none 0 0,.slice none 0 0,.slice none 0 0] 32::(H++(.row (.slice (some ⟨b,o,none⟩) m d) 102 4 m (aP xs)::aV xs))):=HS.out.setCell 2 rfl y.f.num (.int .i64 1)
    rw[arr6_set _ h6'] at hS8
    have HS:=aA hS8
    clear hS8 q0 g1 g2 HW HS5
    generalize World.setCell w7 _ _=w8 at HS ⊢
    have q0:_=some (Value.int .i64 (y.f.num:Int)):=HS.out.cell 1 rfl 0
    have q3:_=some (Value.slice y.A y.f.b.length y.c):=HS.out.cell 1 rfl 3
    have e1:(fun j=>if j=y.f.num then Value.int .i64 1 else .int .i64 (hasV (xs.take k) j:Int))=fun j=>.int .i64 (hasV (xs.take (k+1)) j:Int):=by
     funext j
     rw[HTK.out,hasV_snoc _ _ HLT.out]
     by_cases e:j=y.f.num
     ·rw[if_pos e,if_pos e];rfl
     ·rw[if_neg e,if_neg e]
    have e2:(fun j=>if j=y.f.num then Value.slice y.A y.f.b.length y.c else (lookV (xs.take k) j).v)=fun j=>(lookV (xs.take (k+1)) j).v:=by
     funext j
     rw[HTK.out,lookV_snoc _ _ HLT.out]
     by_cases e:j=y.f.num
     ·rw[if_pos e,if_pos e];rfl
     ·rw[if_neg e,if_neg e]
    have HE1:=aA e1
    have HE2:=aA e2
    clear e1 e2
    rcases(show y.f.num=1∨y.f.num=2∨y.f.num=3∨y.f.num=4∨y.f.num=5 by omega) with e|e|e|e|e
    case' inl =>
     have EN:=aA e
     rw[e] at q0
     clear e
     have q:w8.cell? ⟨gp,0,none⟩=some (lookV (xs.take k) 1).v:=HS.out.cell 3 rfl 0
     have f:=HS.out.free 3 rfl 0
     go_upto_region 20 with fail
     have hS9:St w0 M _ (.cells g #[.pointer none,.int .i64 0] 99::.cells wr.heap.size #[.int .i64 (y.f.num:Int),.bool y.f.whole,.int .u64 (y.f.n:Int),.slice y.A y.f.b.length y.c] 102::.cells (gp+1) (arr6 fun j=>if j=y.f.num then .int .i64 1 else .int .i64 (hasV (xs.take k) j:Int)) 149::.cells gp ((arr5 fun j=>(lookV (xs.take k) j).v).setIfInBounds 0 (.slice y.A y.f.b.length y.c)) 32::.cells gr #[.slice none 0 0,.slice none 0 0,.slice none 0 0,.slice none 0 0,.slice none 0 0] 32::(H++(.row (.slice (some ⟨b,o,none⟩) m d) 102 4 m (aP xs)::aV xs))):=HS.out.setCell 3 rfl 0 (.slice y.A y.f.b.length y.c)
     rw[arr5_set _ Bz,show(0+1:Nat)=y.f.num from EN.out.symm,HE1.out,HE2.out] at hS9
    case' inr.inl =>
     have EN:=aA e
     rw[e] at q0
     clear e
     have q:w8.cell? ⟨gp,1,none⟩=some (lookV (xs.take k) 2).v:=HS.out.cell 3 rfl 1
     have f:=HS.out.free 3 rfl 1
     go_upto_region 20 with fail
     have hS9:St w0 M _ (.cells g #[.pointer none,.int .i64 0] 99::.cells wr.heap.size #[.int .i64 (y.f.num:Int),.bool y.f.whole,.int .u64 (y.f.n:Int),.slice y.A y.f.b.length y.c] 102::.cells (gp+1) (arr6 fun j=>if j=y.f.num then .int .i64 1 else .int .i64 (hasV (xs.take k) j:Int)) 149::.cells gp ((arr5 fun j=>(lookV (xs.take k) j).v).setIfInBounds 1 (.slice y.A y.f.b.length y.c)) 32::.cells gr #[.slice none 0 0,.slice none 0 0,.slice none 0 0,.slice none 0 0,.slice none 0 0] 32::(H++(.row (.slice (some ⟨b,o,none⟩) m d) 102 4 m (aP xs)::aV xs))):=HS.out.setCell 3 rfl 1 (.slice y.A y.f.b.length y.c)
     rw[arr5_set _ Bz,show(1+1:Nat)=y.f.num from EN.out.symm,HE1.out,HE2.out] at hS9
    case' inr.inr.inl =>
     have EN:=aA e
     rw[e] at q0
     clear e
     have q:w8.cell? ⟨gp,2,none⟩=some (lookV (xs.take k) 3).v:=HS.out.cell 3 rfl 2
     have f:=HS.out.free 3 rfl 2
     go_upto_region 20 with fail
     have hS9:St w0 M _ (.cells g #[.pointer none,.int .i64 0] 99::.cells wr.heap.size #[.int .i64 (y.f.num:Int),.bool y.f.whole,.int .u64 (y.f.n:Int),.slice y.A y.f.b.length y.c] 102::.cells (gp+1) (arr6 fun j=>if j=y.f.num then .int .i64 1 else .int .i64 (hasV (xs.take k) j:Int)) 149::.cells gp ((arr5 fun j=>(lookV (xs.take k) j).v).setIfInBounds 2 (.slice y.A y.f.b.length y.c)) 32::.cells gr #[.slice none 0 0,.slice none 0 0,.slice none 0 0,.slice none 0 0,.slice none 0 0] 32::(H++(.row (.slice (some ⟨b,o,none⟩) m d) 102 4 m (aP xs)::aV xs))):=HS.out.setCell 3 rfl 2 (.slice y.A y.f.b.length y.c)
     rw[arr5_set _ Bz,show(2+1:Nat)=y.f.num from EN.out.symm,HE1.out,HE2.out] at hS9
    case' inr.inr.inr.inl =>
     have EN:=aA e
     rw[e] at q0
     clear e
     have q:w8.cell? ⟨gp,3,none⟩=some (lookV (xs.take k) 4).v:=HS.out.cell 3 rfl 3
     have f:=HS.out.free 3 rfl 3
     go_upto_region 20 with fail
     have hS9:St w0 M _ (.cells g #[.pointer none,.int .i64 0] 99::.cells wr.heap.size #[.int .i64 (y.f.num:Int),.bool y.f.whole,.int .u64 (y.f.n:Int),.slice y.A y.f.b.length y.c] 102::.cells (gp+1) (arr6 fun j=>if j=y.f.num then .int .i64 1 else .int .i64 (hasV (xs.take k) j:Int)) 149::.cells gp ((arr5 fun j=>(lookV (xs.take k) j).v).setIfInBounds 3 (.slice y.A y.f.b.length y.c)) 32::.cells gr #[.slice none 0 0,.slice none 0 0,.slice none 0 0,.slice none 0 0,.slice none 0 0] 32::(H++(.row (.slice (some ⟨b,o,none⟩) m d) 102 4 m (aP xs)::aV xs))):=HS.out.setCell 3 rfl 3 (.slice y.A y.f.b.length y.c)
     rw[arr5_set _ Bz,show(3+1:Nat)=y.f.num from EN.out.symm,HE1.out,HE2.out] at hS9
    case' inr.inr.inr.inr =>
     have EN:=aA e
     rw[e] at q0
     clear e
     have q:w8.cell? ⟨gp,4,none⟩=some (lookV (xs.take k) 5).v:=HS.out.cell 3 rfl 4
     have f:=HS.out.free 3 rfl 4
     go_upto_region 20 with fail
     have hS9:St w0 M _ (.cells g #[.pointer none,.int .i64 0] 99::.cells wr.heap.size #[.int .i64 (y.f.num:Int),.bool y.f.whole,.int .u64 (y.f.n:Int),.slice y.A y.f.b.length y.c] 102::.cells (gp+1) (arr6 fun j=>if j=y.f.num then .int .i64 1 else .int .i64 (hasV (xs.take k) j:Int)) 149::.cells gp ((arr5 fun j=>(lookV (xs.take k) j).v).setIfInBounds 4 (.slice y.A y.f.b.length y.c)) 32::.cells gr #[.slice none 0 0,.slice none 0 0,.slice none 0 0,.slice none 0 0,.slice none 0 0] 32::(H++(.row (.slice (some ⟨b,o,none⟩) m d) 102 4 m (aP xs)::aV xs))):=HS.out.setCell 3 rfl 4 (.slice y.A y.f.b.length y.c)
     rw[arr5_set _ Bz,show(4+1:Nat)=y.f.num from EN.out.symm,HE1.out,HE2.out] at hS9
    all_goals
     have HS9:=aA ((St.cut [_] _ _ hS9).perm (iE _ _ _ _).symm)
     clear hS9 HS q q0 q3 f EN
     go_wp2_with fail
     go_roundw
     case rel=>exact⟨k+1,y.f.num,An,Cg,aA ⟨h5,(fun z hz=>by
       rw[HTK.out] at hz
       rcases List.mem_append.1 hz with hz|hz
       ·exact Nat.le_of_lt (HLT.out z hz)
       ·rw[List.mem_singleton.1 hz];exact Nat.le_refl _),HRI.out,.inr ⟨k,y,rfl,HLK.out,rfl⟩⟩,HS9⟩
     case measure=>(simp[intOf])<;>omega
   ·have HW:=aA (fits5_no g (some ⟨b,o,none⟩) m d k last xs y HLK.out hlt hny.1 hny.2 HI.out.prev An HMEM.out hm6 HS5.out hg)
    have HNO:Hid (sgB l=.bad 3):=aA (sgB_none HFS.out (sgR_no (fun h=>by
     have h1:=h.1
     rw[←HX.out,HI.out.ri,HDK.out] at h1
     simp at h1
     exact hg ⟨h1.1,h1.2.1,h1.2.2.1⟩)))
    clear hg
    have M0:=True.intro
    go_upto_region 8 with(go_at_call 67;(with_reducible refine HW.out.mono ?_);rintro e w7 ⟨rfl,hS7⟩;have HS:=aA hS7;clear hS7)
    have s1:w7.cell? ⟨gp,0,none⟩=some (lookV (xs.take k) 1).v:=HS.out.cell 3 rfl 0
    have s2:w7.cell? ⟨gp,1,none⟩=some (lookV (xs.take k) 2).v:=HS.out.cell 3 rfl 1
    have s3:w7.cell? ⟨gp,2,none⟩=some (lookV (xs.take k) 3).v:=HS.out.cell 3 rfl 2
    have s4:w7.cell? ⟨gp,3,none⟩=some (lookV (xs.take k) 4).v:=HS.out.cell 3 rfl 3
    have s5:w7.cell? ⟨gp,4,none⟩=some (lookV (xs.take k) 5).v:=HS.out.cell 3 rfl 4
    obtain⟨⟨E1,f1,y1⟩,hp1⟩:∃p,lookV (xs.take k) 1=p:=⟨_,rfl⟩
    rw[hp1] at s1
    replace s1:w7.cell? ⟨gp,0,none⟩=some (.slice E1 y1.length f1):=s1
    obtain⟨⟨E2,f2,y2⟩,hp2⟩:∃p,lookV (xs.take k) 2=p:=⟨_,rfl⟩
    rw[hp2] at s2
    replace s2:w7.cell? ⟨gp,1,none⟩=some (.slice E2 y2.length f2):=s2
    obtain⟨⟨E3,f3,y3⟩,hp3⟩:∃p,lookV (xs.take k) 3=p:=⟨_,rfl⟩
    rw[hp3] at s3
    replace s3:w7.cell? ⟨gp,2,none⟩=some (.slice E3 y3.length f3):=s3
    obtain⟨⟨E4,f4,y4⟩,hp4⟩:∃p,lookV (xs.take k) 4=p:=⟨_,rfl⟩
    rw[hp4] at s4
    replace s4:w7.cell? ⟨gp,3,none⟩=some (.slice E4 y4.length f4):=s4
    obtain⟨⟨E5,f5,y5⟩,hp5⟩:∃p,lookV (xs.take k) 5=p:=⟨_,rfl⟩
    rw[hp5] at s5
    replace s5:w7.cell? ⟨gp,4,none⟩=some (.slice E5 y5.length f5):=s5
    go_wp2_with (refine wl_storeC rfl rfl HS.out 4 rfl (vs:=[.slice E1 y1.length f1,.slice E2 y2.length f2,.slice E3 y3.length f3,.slice E4 y4.length f4,.slice E5 y5.length f5]) szSigned (Nat.le_refl _) rfl rfl fE ?_;intro w9 hS7;have HS7:=aA hS7;clear hS7)
    refine bodyPost_ret (results_cell_row rfl _ _ gr _ _ _ _ rfl (HS7.out.heap 4 rfl) Tryz.underlying32 rfl Bt) rfl ?_
    exact⟨⟨⟨E1,f1,y1⟩,⟨E2,f2,y2⟩,⟨E3,f3,y3⟩,⟨E4,f4,y4⟩,⟨E5,f5,y5⟩⟩,_,3,rfl,by rw[HNO.out];exact rfl,st_cut5 HS7.out⟩
  ·obtain rfl:k=m:=by omega
   have e0:decide ((k:Int)<(k:Int))=false:=B0
   have e0':decide (k<k)=false:=B0
   have htk:xs.take k=xs:=List.take_of_length_le Eu
   have hri:rise 0 (xs.map FdL.f)=true:=by rw[HI.out.ri,List.drop_of_length_le Eu];rfl
   rw[htk] at HS
   clear HI
   have HN:Hid (∀j,hasN fs j=hasV xs j):=aA (fun j=>by rw[has_map,HX.out])
   have HLK:Hid (∀j,look fs j=(lookV xs j).b):=aA (fun j=>by rw[look_map,HX.out])
   have hle:∀j,hasV xs j≤1:=fun j=>by rw[has_map];exact hasN_le _ _
   have c1:wr.cell? ⟨gp+1,1,none⟩=some (.int .i64 (hasV xs 1:Int)):=HS.out.cell 0 rfl 1
   have c2:wr.cell? ⟨gp+1,2,none⟩=some (.int .i64 (hasV xs 2:Int)):=HS.out.cell 0 rfl 2
   have c3:wr.cell? ⟨gp+1,3,none⟩=some (.int .i64 (hasV xs 3:Int)):=HS.out.cell 0 rfl 3
   have c4:wr.cell? ⟨gp+1,4,none⟩=some (.int .i64 (hasV xs 4:Int)):=HS.out.cell 0 rfl 4
   have c5:wr.cell? ⟨gp+1,5,none⟩=some (.int .i64 (hasV xs 5:Int)):=HS.out.cell 0 rfl 5
   have HR:Hid (rise 0 fs=true):=aA (by rw[←HX.out];exact hri)
   have HQ:Hid (sgR fs=if hasV xs 1+hasV xs 2+hasV xs 3=3∧hasV xs 4=hasV xs 5 then some ⟨(lookV xs 1).b,(lookV xs 2).b,(lookV xs 3).b,(lookV xs 4).b,(lookV xs 5).b⟩ else none):=aA (by
    unfold sgR
    rw[HN.out,HN.out,HN.out,HN.out,HN.out,HLK.out,HLK.out,HLK.out,HLK.out,HLK.out]
    by_cases hh:hasV xs 1+hasV xs 2+hasV xs 3=3∧hasV xs 4=hasV xs 5
    ·rw[if_pos hh,if_pos ⟨HR.out,hh⟩]
    ·rw[if_neg hh,if_neg (fun h=>hh h.2)])
   have a1:=hle 1
   have a2:=hle 2
   have a3:=hle 3
   have a4:=hle 4
   have a5:=hle 5
   clear hle hri htk HN HLK HR
   have HCH:Hid (∀j,(lookV xs j).ch∈pc0.ch::aV xs):=aA (fun j=>look_ch j (List.mem_cons_self ..) fun x hx=>mC _ Ev)
   have s1:wr.cell? ⟨gp,0,none⟩=some (lookV xs 1).v:=HS.out.cell 1 rfl 0
   have s2:wr.cell? ⟨gp,1,none⟩=some (lookV xs 2).v:=HS.out.cell 1 rfl 1
   have s3:wr.cell? ⟨gp,2,none⟩=some (lookV xs 3).v:=HS.out.cell 1 rfl 2
   have s4:wr.cell? ⟨gp,3,none⟩=some (lookV xs 4).v:=HS.out.cell 1 rfl 3
   have s5:wr.cell? ⟨gp,4,none⟩=some (lookV xs 5).v:=HS.out.cell 1 rfl 4
   obtain⟨⟨E1,f1,y1⟩,hp1⟩:∃p,lookV xs 1=p:=⟨_,rfl⟩
   rw[hp1] at s1
   replace s1:wr.cell? ⟨gp,0,none⟩=some (.slice E1 y1.length f1):=s1
   obtain⟨⟨E2,f2,y2⟩,hp2⟩:∃p,lookV xs 2=p:=⟨_,rfl⟩
   rw[hp2] at s2
   replace s2:wr.cell? ⟨gp,1,none⟩=some (.slice E2 y2.length f2):=s2
   obtain⟨⟨E3,f3,y3⟩,hp3⟩:∃p,lookV xs 3=p:=⟨_,rfl⟩
   rw[hp3] at s3
   replace s3:wr.cell? ⟨gp,2,none⟩=some (.slice E3 y3.length f3):=s3
   obtain⟨⟨E4,f4,y4⟩,hp4⟩:∃p,lookV xs 4=p:=⟨_,rfl⟩
   rw[hp4] at s4
   replace s4:wr.cell? ⟨gp,3,none⟩=some (.slice E4 y4.length f4):=s4
   obtain⟨⟨E5,f5,y5⟩,hp5⟩:∃p,lookV xs 5=p:=⟨_,rfl⟩
   rw[hp5] at s5
   replace s5:wr.cell? ⟨gp,4,none⟩=some (.slice E5 y5.length f5):=s5
   have HC1:=aA (HCH.out 1)
   have HC2:=aA (HCH.out 2)
   have HC3:=aA (HCH.out 3)
   have HC4:=aA (HCH.out 4)
   have HC5:=aA (HCH.out 5)
   rw[hp1,hp2,hp3,hp4,hp5] at HQ
   rw[hp1] at HC1
   rw[hp2] at HC2
   rw[hp3] at HC3
   rw[hp4] at HC4
   rw[hp5] at HC5
   have HP1:Hid (some (lookV xs 1).v=some (Value.slice E1 y1.length f1)):=aA (by rw[hp1];rfl)
   have HP2:Hid (some (lookV xs 2).v=some (Value.slice E2 y2.length f2)):=aA (by rw[hp2];rfl)
   have HP3:Hid (some (lookV xs 3).v=some (Value.slice E3 y3.length f3)):=aA (by rw[hp3];rfl)
   have HP4:Hid (some (lookV xs 4).v=some (Value.slice E4 y4.length f4)):=aA (by rw[hp4];rfl)
   have HP5:Hid (some (lookV xs 5).v=some (Value.slice E5 y5.length f5)):=aA (by rw[hp5];rfl)
   clear HCH hp1 hp2 hp3 hp4 hp5
   generalize hasV xs 1=x1 at c1 a1 HQ
   generalize hasV xs 2=x2 at c2 a2 HQ
   generalize hasV xs 3=x3 at c3 a3 HQ
   generalize hasV xs 4=x4 at c4 a4 HQ
   generalize hasV xs 5=x5 at c5 a5 HQ
   by_cases hall:x1+x2+x3=3∧x4=x5
   ·have HY:=aA (sgB_some HFS.out (HQ.out.trans (if_pos hall)))
    obtain⟨hs,rfl⟩:=hall
    have d1:decide ((x1:Int)+(x2:Int)+(x3:Int)<3)=false:=A9
    have d1':decide (x1+x2+x3<3)=false:=A9
    clear hs HQ
    go_upto_region 23 with fail
    go_wp2_with (refine wl_storeC rfl rfl HS.out 3 rfl (vs:=[.slice E1 y1.length f1,.slice E2 y2.length f2,.slice E3 y3.length f3,.slice E4 y4.length f4,.slice E5 y5.length f5]) szSigned (Nat.le_refl _) rfl rfl fE ?_;intro w7 hS7;have HS7:=aA hS7;clear hS7)
    refine bodyPost_ret (results_cell_row rfl _ _ gr _ _ _ _ rfl (HS7.out.heap 3 rfl) Tryz.underlying32 rfl Bt) rfl ?_
    refine⟨⟨⟨E1,f1,y1⟩,⟨E2,f2,y2⟩,⟨E3,f3,y3⟩,⟨E4,f4,y4⟩,⟨E5,f5,y5⟩⟩,rfl,(.row (.slice B k d) 102 4 k (aP xs)::aV xs)++[pc0.ch],0,?_,?_⟩
    rotate_left
    ·exact end_perm _ _ _ (st_cut4 (HS7.out.perm (bL _ _ _ _ _)))
    rw[HY.out]
    refine⟨rfl,rfl,fun c hc=>?_⟩
    have h1:c∈pc0.ch::aV xs:=by
     simp only[Sg.chs,List.mem_cons,List.not_mem_nil,or_false] at hc
     rcases hc with rfl|rfl|rfl|rfl|rfl
     ·exact HC1.out
     ·exact HC2.out
     ·exact HC3.out
     ·exact HC4.out
     ·exact HC5.out
    rcases List.mem_cons.1 h1 with h1|h1
    ·rw[h1];exact List.mem_append_right _ (List.mem_cons_self ..)
    ·exact List.mem_append_left _ (mC _ h1)
   ·have HNO:=aA (sgB_none HFS.out (HQ.out.trans (if_neg hall)))
    have hor:x1+x2+x3<3∨(x1+x2+x3=3∧x4≠x5):=An
    clear hall HQ
    rcases hor with hs|⟨hs,h45⟩
    case' inl =>
     have d1:decide ((x1:Int)+(x2:Int)+(x3:Int)<3)=true:=A9
     have d1':decide (x1+x2+x3<3)=true:=A9
     clear hs
     go_upto_region 22 with fail
    case' inr =>
     have d1:decide ((x1:Int)+(x2:Int)+(x3:Int)<3)=false:=A9
     have d1':decide (x1+x2+x3<3)=false:=A9
     have d2:((x4:Int) !=(x5:Int))=true:=A9
     have d2':(x4 !=x5)=true:=A9
     have d3:decide ((x4:Int)=(x5:Int))=false:=A9
     have d3':decide (x4=x5)=false:=A9
     clear hs h45
     go_upto_region 22 with fail
    all_goals
     clear s1 s2 s3 s4 s5
     have M0:=True.intro
     go_wp2_with (first
      |(clear M1;refine wl_storeC rfl rfl HS.out 3 rfl (vs:=[.slice E1 y1.length f1,.slice E2 y2.length f2,.slice E3 y3.length f3,.slice E4 y4.length f4,.slice E5 y5.length f5]) szSigned (Nat.le_refl _) rfl rfl fE ?_;intro w7 hS7;have HS7:=aA hS7;clear hS7;have M2:=True.intro)
      |(clear M0;go_at_call 69;(with_reducible refine(fail_3 g (HS.out.perm (bL _ _ _ _ _))).mono ?_);rintro e w6 ⟨rfl,hS6⟩;have HS:=aA (hS6.perm (bL _ _ _ _ _).symm);clear hS6;have s1:w6.cell? ⟨gp,0,none⟩=some (.slice E1 y1.length f1):=(HS.out.cell 1 rfl 0).trans HP1.out;have s2:w6.cell? ⟨gp,1,none⟩=some (.slice E2 y2.length f2):=(HS.out.cell 1 rfl 1).trans HP2.out;have s3:w6.cell? ⟨gp,2,none⟩=some (.slice E3 y3.length f3):=(HS.out.cell 1 rfl 2).trans HP3.out;have s4:w6.cell? ⟨gp,3,none⟩=some (.slice E4 y4.length f4):=(HS.out.cell 1 rfl 3).trans HP4.out;have s5:w6.cell? ⟨gp,4,none⟩=some (.slice E5 y5.length f5):=(HS.out.cell 1 rfl 4).trans HP5.out;have M1:=True.intro))
     refine bodyPost_ret (results_cell_row rfl _ _ gr _ _ _ _ rfl (HS7.out.heap 3 rfl) Tryz.underlying32 rfl Bt) rfl ?_
     exact⟨⟨⟨E1,f1,y1⟩,⟨E2,f2,y2⟩,⟨E3,f3,y3⟩,⟨E4,f4,y4⟩,⟨E5,f5,y5⟩⟩,_,3,rfl,by rw[HNO.out];exact rfl,st_cut4 (HS7.out.perm (bL _ _ _ _ _))⟩
end
end Go.Proofs.YtnohmgpmmhlloaaGreatDoor.S6
namespace Go.Proofs.YtnohmgpmmhlloaaGreatDoor
open Go.RowKit
theorem cond_mk {S:World→Prop}{w':World}{p:Prop}(h:S w')(hp:p):(fun q=>S w'∧q) p:=⟨h,hp⟩
section
variable {P : Program} {ops : Array Oper} {Q : Exit → Act → World → Prop} {md : Region.Mode} {lt : Nat → Bool} {S : World → Prop}
def wpC (P:Program)(ops:Array Oper)(Q:Exit→Act→World→Prop)(S:World→Prop):STr→Act→World→Prop
 | .nil,a,w=>Q .normal a w
 | .op i m rest,a,w=>∃o,ops[i]?=some o ∧
  if Region.wanted o (yielded ops a.tmps)=true then
   (match m with
    | 0=>∃v,(∀x,S x→(execOp a.eval o).run P x=.ok (.value v) x)∧wpC P ops Q S rest (a.put o.dst v) w
    | 1=>∃v,(∀x,(execOp a.eval o).run P x=.ok (.value v) x)∧wpC P ops Q S rest (a.put o.dst v) w
    | 2=>o.wp P a w (fun a' w'=>(fun p=>S w'∧p) (wpC P ops Q S rest a' w')) Q
    | _=>o.wp P a w (fun a' w'=>wpC P ops Q S rest a' w') Q)
  else wpC P ops Q S rest (a.put o.dst undef) w
 | .two i j r s,a,w =>
  (∃o,ops[i]?=some o∧if Region.wanted o (yielded ops a.tmps)=true then o.wp P a w (fun a' w'=>(fun p=>S w'∧p) (wpC P ops Q S r a' w')) Q else wpC P ops Q S r (a.put o.dst undef) w) ∧
  (∃o,ops[j]?=some o∧if Region.wanted o (yielded ops a.tmps)=true then o.wp P a w (fun a' w'=>(fun p=>S w'∧p) (wpC P ops Q S s a' w')) Q else wpC P ops Q S s (a.put o.dst undef) w)
 | .three _ _ _ _ _ _,_,_=>False
theorem wpAny_of_C (hs:Region.noSelect ops=true)(hQ:∀c (a:Act) (t:Array Value) w,Q (.panic c) { a with tmps:=t } w→Q (.panic c) a w) :
  ∀(tr:STr) (fuel:Nat) (listed:Array Bool) (a:Act) (w:World),tr.len≤fuel→bP md ops lt false tr listed=true→wpC P ops Q S tr a w→wpAny P md ops Q fuel listed a w:=by
 intro tr
 induction tr with
 | nil =>
  intro fuel listed a w _ hb h
  exact wpAny_doneT Cy h fuel
 | two i j r s _ _ =>
  intro fuel listed a w _ hb h
  simp[bP] at hb
 | three i j k r s t _ _ _ =>
  intro fuel listed a w _ hb h
  simp[bP] at hb
 | op i m rest ih =>
  intro fuel listed a w hf hb h
  obtain⟨fuel,rfl⟩:∃k,fuel=k+1:=⟨fuel - 1,Db⟩
  simp only[STr.len,Nat.add_le_add_iff_right] at hf
  obtain⟨o,ho,h⟩:=h
  unfold bP at hb
  match m,h,hb with
  | 0,h,hb=>simp at hb
  | 2,h,hb=>simp at hb
  | 3,h,hb=>simp at hb
  | 1,h,hb =>
   simp only[Bool.and_eq_true,Bool.false_and] at hb
   obtain⟨⟨⟨hr,hfr⟩,_⟩,hb⟩:=hb
   by_cases hw:Region.wanted o (yielded ops a.tmps)=true
   ·rw[if_pos hw] at h
    obtain⟨v,hv,h⟩:=h
    exact wpAny_first ho (Region.noSelect_spec hs) (iS hQ o _) fuel listed a w (Region.free_spec ho hfr) Cd (.inl ⟨hw,hv⟩) (ih fuel _ _ _ hf hb h)
   ·rw[if_neg hw] at h
    exact wpAny_first ho (Region.noSelect_spec hs) (iS hQ o _) fuel listed a w (Region.free_spec ho hfr) Cd (.inr ⟨Cz,rfl⟩) (ih fuel _ _ _ hf hb h)
  | m+4,h,hb =>
   simp only[Bool.and_eq_true,Bool.false_and,beq_iff_eq] at hb
   obtain⟨⟨_,hr⟩,hb⟩:=hb
   refine wpAny_one hr ho fun K hK=>?_
   by_cases hw:Region.wanted o (yielded ops a.tmps)=true
   ·rw[if_pos hw] at h ⊢
    exact Oper.wp_mono (fun a' w' h'=>hK _ _ (ih fuel _ _ _ hf hb h')) h
   ·rw[if_neg hw] at h ⊢
    exact hK _ _ (ih fuel _ _ _ hf hb h)
theorem wpM_of_C (hs:Region.noSelect ops=true)(hQ:∀c (a:Act) (t:Array Value) w,Q (.panic c) { a with tmps:=t } w→Q (.panic c) a w) :
  ∀(tr:STr) (fuel:Nat) (listed:Array Bool) (a:Act) (w:World),S w→tr.len≤fuel→bP md ops lt true tr listed=true→wpC P ops Q S tr a w→wpM P md ops Q lt fuel S listed a w:=by
 intro tr
 induction tr with
 | nil =>
  intro fuel listed a w _ _ hb h
  exact wpM_doneT Cy h fuel
 | two i j r s ihr ihs =>
  intro fuel listed a w hW hf hb h
  obtain⟨fuel,rfl⟩:∃k,fuel=k+1:=⟨fuel - 1,Db⟩
  simp only[STr.len,Nat.add_le_add_iff_right] at hf
  unfold bP at hb
  simp only[Bool.and_eq_true,Bool.true_and,Bool.not_eq_true',beq_iff_eq] at hb
  obtain⟨⟨⟨⟨hr,hli⟩,hlj⟩,hbr⟩,hbs⟩:=hb
  obtain⟨⟨oi,hoi,h1⟩,⟨oj,hoj,h2⟩⟩:=h
  refine wpM_two hr hoi hoj hli hlj (fun K hK=>?_) (fun K hK=>?_)
  ·by_cases hw:Region.wanted oi (yielded ops a.tmps)=true
   ·rw[if_pos hw] at h1 ⊢
    exact Oper.wp_mono (fun a' w' h'=>hK S _ _ (fun _ h=>h) h'.1 (ihr fuel _ _ _ h'.1 An hbr h'.2)) h1
   ·rw[if_neg hw] at h1 ⊢
    exact hK S _ _ (fun _ h=>h) hW (ihr fuel _ _ _ hW An hbr h1)
  ·by_cases hw:Region.wanted oj (yielded ops a.tmps)=true
   ·rw[if_pos hw] at h2 ⊢
    exact Oper.wp_mono (fun a' w' h'=>hK S _ _ (fun _ h=>h) h'.1 (ihs fuel _ _ _ h'.1 An hbs h'.2)) h2
   ·rw[if_neg hw] at h2 ⊢
    exact hK S _ _ (fun _ h=>h) hW (ihs fuel _ _ _ hW An hbs h2)
 | three i j k r s t _ _ _ =>
  intro fuel listed a w _ hf hb h
  exact h.elim
 | op i m rest ih =>
  intro fuel listed a w hW hf hb h
  obtain⟨fuel,rfl⟩:∃k,fuel=k+1:=⟨fuel - 1,Db⟩
  simp only[STr.len,Nat.add_le_add_iff_right] at hf
  obtain⟨o,ho,h⟩:=h
  unfold bP at hb
  match m,h,hb with
  | m+4,h,hb=>simp at hb
  | 0,h,hb =>
   simp only[Bool.and_eq_true,Bool.true_and,Bool.not_eq_true'] at hb
   obtain⟨⟨⟨⟨hr,hfr⟩,hlb⟩,hl⟩,hb⟩:=hb
   by_cases hw:Region.wanted o (yielded ops a.tmps)=true
   ·rw[if_pos hw] at h
    obtain⟨v,hv,h⟩:=h
    exact fM ho hs hfr hr (iS hQ o _) hW hl hlb (.inl ⟨hw,hv⟩) (ih fuel _ _ _ hW hf hb h)
   ·rw[if_neg hw] at h
    exact fM ho hs hfr hr (iS hQ o _) hW hl hlb (.inr ⟨Cz,rfl⟩) (ih fuel _ _ _ hW hf hb h)
  | 1,h,hb =>
   simp only[Bool.and_eq_true,Bool.true_and,Bool.not_eq_true'] at hb
   obtain⟨⟨⟨hr,hfr⟩,hl⟩,hb⟩:=hb
   by_cases hw:Region.wanted o (yielded ops a.tmps)=true
   ·rw[if_pos hw] at h
    obtain⟨v,hv,h⟩:=h
    exact eK ho hs hfr hr (iS hQ o _) hW hl (.inl ⟨hw,hv⟩) (ih fuel _ _ _ hW hf hb h)
   ·rw[if_neg hw] at h
    exact eK ho hs hfr hr (iS hQ o _) hW hl (.inr ⟨Cz,rfl⟩) (ih fuel _ _ _ hW hf hb h)
  | 2,h,hb =>
   simp only[Bool.and_eq_true,Bool.true_and,Bool.not_eq_true',beq_iff_eq] at hb
   obtain⟨⟨hr,hl⟩,hb⟩:=hb
   refine cC hr ho hl fun K hK=>?_
   by_cases hw:Region.wanted o (yielded ops a.tmps)=true
   ·rw[if_pos hw] at h ⊢
    exact Oper.wp_mono (fun a' w' h'=>hK S _ _ (fun _ h=>h) h'.1 (ih fuel _ _ _ h'.1 hf hb h'.2)) h
   ·rw[if_neg hw] at h ⊢
    exact hK S _ _ (fun _ h=>h) hW (ih fuel _ _ _ hW hf hb h)
  | 3,h,hb =>
   simp only[Bool.and_eq_true,Bool.true_and,beq_iff_eq] at hb
   obtain⟨⟨hr,hl⟩,hb⟩:=hb
   refine aZ hr ho hl fun K hK=>?_
   by_cases hw:Region.wanted o (yielded ops a.tmps)=true
   ·rw[if_pos hw] at h ⊢
    exact Oper.wp_mono (fun a' w' h'=>hK _ _ (wpAny_of_C hs hQ rest fuel _ _ _ hf hb h')) h
   ·rw[if_neg hw] at h ⊢
    exact hK _ _ (wpAny_of_C hs hQ rest fuel _ _ _ hf hb h)
theorem eU {id:Nat}{a:Act}{w:World}(tr:STr)(S:World→Prop)(hS:S w.drew)(hm:P.follows .mixedOrders=true)(hb:schedTr ops tr=true)(hQ:∀c (a:Act) (t:Array Value) w,Q (.panic c) { a with tmps:=t } w→Q (.panic c) a w)
  (h:wpC P ops Q S tr a w.drew):(Code.region id ops true).wp P Q a w:=by
 unfold schedTr at hb
 simp only[Bool.and_eq_true,decide_eq_true_eq] at hb
 exact wp_region_any hm (wpAny_of_M _ _ _ _ _ (wpM_of_C (lt:=fun i=>tr.late.contains i) hb.1.1 hQ tr ops.size _ a w.drew hS hb.1.2 hb.2 h))
variable {i j : Nat} {o : Oper} {rest r s : STr} {a : Act} {w : World} {v : Value}
theorem wpC_nil (h:Q .normal a w):wpC P ops Q S .nil a w:=h
theorem wpC_skip {m:Nat}(ho:ops[i]?=some o)(hw:Region.wanted o (yielded ops a.tmps)=false)(h:wpC P ops Q S rest (a.put o.dst undef) w):wpC P ops Q S (.op i m rest) a w:=
 ⟨o,ho,Fk⟩
theorem gY (ho:ops[i]?=some o)(hw:Region.wanted o (yielded ops a.tmps)=true)(hv:∀x,(execOp a.eval o).run P x=.ok (.value v) x)(h:wpC P ops Q S rest (a.put o.dst v) w):wpC P ops Q S (.op i 1 rest) a w:=
 ⟨o,ho,C0⟩
theorem pC (ho:ops[i]?=some o)(hw:Region.wanted o (yielded ops a.tmps)=true)(h:wpC P ops Q S rest (a.put o.dst v) w)(hv:∀x,(execOp a.eval o).run P x=.ok (.value v) x:=by (intro wx;go_simp;try go_bits)<;>(with_reducible rfl)):wpC P ops Q S (.op i 1 rest) a w:=gY ho hw hv h
theorem gX (ho:ops[i]?=some o)(hw:Region.wanted o (yielded ops a.tmps)=true)(hv:∀x,S x→(execOp a.eval o).run P x=.ok (.value v) x)(h:wpC P ops Q S rest (a.put o.dst v) w):wpC P ops Q S (.op i 0 rest) a w:=
 ⟨o,ho,C0⟩
theorem rC (ho:ops[i]?=some o)(hw:Region.wanted o (yielded ops a.tmps)=true)(h:wpC P ops Q S rest (a.put o.dst v) w)(hv:∀x,S x→(execOp a.eval o).run P x=.ok (.value v) x:=by (intro wx hx;obtain⟨hx0,hx1,hx2⟩:=hx;go_simp;try go_bits)<;>(with_reducible rfl)):wpC P ops Q S (.op i 0 rest) a w:=gX ho hw hv h
theorem dG (ho:ops[i]?=some o)(hw:Region.wanted o (yielded ops a.tmps)=true)(h:∀K:Act→World→Prop,(∀a' w',(fun p=>S w'∧p) (wpC P ops Q S rest a' w')→K a' w')→o.wp P a w K Q):wpC P ops Q S (.op i 2 rest) a w:=
 ⟨o,ho,Da⟩
theorem wpC_late (ho:ops[i]?=some o)(hw:Region.wanted o (yielded ops a.tmps)=true)(h:∀K:Act→World→Prop,(∀a' w',wpC P ops Q S rest a' w'→K a' w')→o.wp P a w K Q):wpC P ops Q S (.op i 3 rest) a w:=
 ⟨o,ho,Da⟩
theorem wpC_any (ho:ops[i]?=some o)(hw:Region.wanted o (yielded ops a.tmps)=true)(h:∀K:Act→World→Prop,(∀a' w',wpC P ops Q S rest a' w'→K a' w')→o.wp P a w K Q):wpC P ops Q S (.op i 4 rest) a w:=
 ⟨o,ho,Da⟩
end
end Go.Proofs.YtnohmgpmmhlloaaGreatDoor
namespace Go.Proofs.YtnohmgpmmhlloaaGreatDoor.S6
open Go.RowKit
section
variable {w0 w : World} {M : Nat → Prop} {H : List Chunk}
theorem signedR_any (g:Nat)(A:Option Addr)(n c:Nat)(l:List UInt8)(hl:l.length=n)(hn:n≤65536)(hr:Rd w (.slice A n c) 1 n (bvs l))(hS:St w0 M w (.cells g #[.pointer none,.int .i64 0] 99::H)) :
  Calls Tryz.prog 68 #[.pointer (some ⟨g,0,none⟩),.slice A n c] w fun e w'=>∃(y:Sg) (G:List Chunk) (kk:Nat),e=.returned y.val∧SgX G kk y (sgB l)∧St w0 M w' (.cells g #[.pointer none,.int .i64 (kk:Int)] 99::(H++G)):=by
 cases hf:fds l with
 | ok fs=>exact signedR_ok g A n c l fs hl hn hf hr hS
 | bad q =>
  refine(signedR_bad g A n c l q hl hn hf hr hS).mono ?_
  rintro e w' ⟨rfl,h⟩
  exact⟨⟨pc0,pc0,pc0,pc0,pc0⟩,[],q,rfl,by rw[sgB_bad hf];exact rfl,Fd⟩
theorem fits_err (g:Nat)(B:Option Addr)(m d k j:Nat)(KA:ByteArray)(xs:List FdL)(x:FdL)(hk:xs[k]?=some x)(hkm:k<m)(hrow:Chunk.row (.slice B m d) 102 4 m (aP xs)∈H)(hj:j≠0)(hS:St w0 M w (.cells g #[.pointer none,.int .i64 (j:Int)] 99::H)) :
  Calls Tryz.prog 67 #[.pointer (some ⟨g,0,none⟩),.slice B m d,.int .i64 (k:Int),.string KA] w fun e w'=>e=.returned (.bool false)∧St w0 M w' (.cells g #[.pointer none,.int .i64 (j:Int)] 99::H):=by
 obtain⟨b,o,rfl,hb8,hc⟩:=fC (eO hS (mC _ hrow)) hk
 obtain⟨k0,k1,k2,k3⟩:=hc _ (Below.refl _ _)
 have kn:(k:Int)<(m:Int):=An
 have HS:=aA hS
 have d1:((j:Int) !=0)=true:=A9
 have d1':decide ((j:Int)=0)=false:=A9
 clear hc hS hj
 go_enter Tryz.func67,Tryz.ntmps67
 go_upto_region 2 with(refine wl_storeC rfl rfl (HS.out.alloc _ _) 0 rfl (vs:=[.int .i64 (x.f.num:Int),.bool x.f.whole,.int .u64 (x.f.n:Int),.slice x.A x.f.b.length x.c]) szField6 (Nat.le_refl _) rfl rfl oneF ?_;intro w5 hS5;have HS5:=aA hS5;clear hS5)
 have t1:_=some (Value.int .i64 (j:Int)):=HS5.out.cell 1 rfl 1
 go_wp2_with fail
 go_ret
 exact⟨rfl,HS5.out.tail⟩
end
theorem e1_perm (a b c d e:Chunk):[a,b,c,d,e].Perm [b,a,d,e,c]:=(List.Perm.swap b a _).trans (List.Perm.cons b (List.Perm.cons a ((List.Perm.swap d c _).trans (List.Perm.cons d (List.Perm.swap e c _)))))
def DkS (a b:Addr)(u v:Value)(x:World):Prop:=x.cell? a=some u∧x.cell? b=some v∧True
theorem tkC_no {last:Nat}{f:FdV}(hno:¬(¬(f.whole=false∨f.num<last∨(f.num=last∧f.num≠1))∧f.num≤3)):tkC last f=3:=by
 unfold tkC
 by_cases h:f.whole=false∨f.num<last∨(f.num=last∧f.num≠1)
 ·rw[if_pos h]
 ·have h3:¬f.num≤3:=fun h3=>hno ⟨h,h3⟩
  rw[if_neg h,if_neg An,if_neg An,if_neg An]
theorem decodeR_bad (A Ar:Option Addr)(n c nr cr kk:Nat)(raw root:List UInt8)(w:World)(hl:raw.length=n)(hn:n≤65536)(hlr:root.length=nr)(hnr:nr≤10000)(hf:fds raw=.bad kk)(hr:Rd w (.slice A n c) 1 n (bvs raw))(hrr:Rd w (.slice Ar nr cr) 1 nr (bvs root)) :
  Calls Tryz.prog 27 #[.slice A n c,.slice Ar nr cr] w (TkQ w (decRz raw root)):=by
 have hS0:=((St.init w NoB).alloc #[.slice none 0 0,.slice none 0 0,.slice none 0 0,.slice none 0 0] 26).alloc #[.pointer none,.int .i64 0] 99
 rw[size_alloc1] at hS0
 have HS:=aA hS0
 have HD:=aA (dec_bad (root:=root) hf)
 have HRR:=aA hrr
 have HLR:=aA hlr
 have hk0:kk≠0:=by have:=fW raw kk hf;omega
 have HC:=aA (rfields_bad (w.heap.size+1) A n c raw kk hl hn hf (hr.below hS0.below) hS0)
 clear hS0 hrr hlr hl hf hr
 go_enter Tryz.func27,Tryz.ntmps27
 have M0:=True.intro
 go_upto_region 4 with(first
  |(clear M2;refine wl_storeC rfl rfl (HS.out.alloc _ _) 0 rfl (vs:=[.slice Br nr dr,.slice none 0 0,.slice none 0 0,.slice none 0 0]) szToken (Nat.le_refl _) rfl rfl dR ?_;intro wE hS5;have HS:=aA hS5;clear hS5;have M3:=True.intro)
  |(clear M1;go_at_call 45;(with_reducible refine(join23_1 _ HLR.out An (HRR.out.below HS.out.below)).mono ?_);rintro e w4 ⟨Br,dr,rfl,hb,ho⟩;have HS:=aA ((HS.out.skip _).row hb ho);clear ho hb;have M2:=True.intro)
  |(clear M0;go_at_call 66;(with_reducible refine HC.out.mono ?_);rintro e w2 ⟨rfl,hS2⟩;have HS:=aA hS2;clear hS2;have M1:=True.intro))
 have HS:Hid (St w NoB wE (.cells w4.heap.size #[.slice Br nr dr,.slice none 0 0,pc0.v,pc0.v] 26::.row (.slice none 0 0) 32 5 0 (aN [])::.cells (w.heap.size+1) #[.pointer none,.int .i64 (kk:Int)] 99::.cells w.heap.size #[.slice none 0 0,.slice none 0 0,.slice none 0 0,.slice none 0 0] 26::[.row (.slice Br nr dr) 5 1 nr (bvs root)])):=aA ((HS.out.row (Below.refl _ _) (World.ownsRow_nil _ _ 32 5)).perm (e1_perm _ _ _ _ _))
 generalize w4.heap.size=gt at HS ⊢
 generalize w.heap.size+1=gr at HS ⊢
 obtain⟨X,cnt,x,zs,ez,zz,HS⟩:∃X cnt x zs ez zz,Hid (St w NoB wE (.cells gt #[.slice Br nr dr,.slice X cnt x,ez.v,zz.v] 26::.row (.slice X cnt x) 32 5 cnt (aN zs)::.cells gr #[.pointer none,.int .i64 (kk:Int)] 99::.cells w.heap.size #[.slice none 0 0,.slice none 0 0,.slice none 0 0,.slice none 0 0] 26::[.row (.slice Br nr dr) 5 1 nr (bvs root)])):=⟨none,0,0,[],pc0,pc0,HS⟩
 go_wp2_with fail
 refine wp_loop_rounds 1 ?_
 rw[rounds_succ]
 go_upto_region 15 with fail
 have t1:_=some (Value.slice X cnt x):=HS.out.cell 0 rfl 1
 have hcc:(((cnt:Int)==0)=true∧decide ((cnt:Int)=0)=true∧decide (cnt=0)=true)∨(((cnt:Int)==0)=false∧decide ((cnt:Int)=0)=false∧decide ((8:Int)<(cnt:Int))=true∧decide (8<cnt)=true)∨(((cnt:Int)==0)=false∧decide ((cnt:Int)=0)=false∧decide ((8:Int)<(cnt:Int))=false∧decide (8<cnt)=false):=by
  by_cases h:cnt=0
  ·subst h;exact .inl ⟨rfl,rfl,rfl⟩
  ·by_cases h8:8<cnt
   ·exact .inr (.inl ⟨A9,A9,A9,A9⟩)
   ·exact .inr (.inr ⟨A9,A9,A9,A9⟩)
 have d0:((kk:Int) !=0)=true:=A9
 have d0':decide ((kk:Int)=0)=false:=A9
 rcases hcc with⟨c1,c2,c3⟩|⟨c1,c2,c3,c4⟩|⟨c1,c2,c3,c4⟩
 case' inl =>
  go_upto_region 17 with(go_at_call 69;(with_reducible refine(iU gr kk hk0 (HS.out.perm (bL _ _ _ _ _))).mono ?_);rintro e wF ⟨rfl,hS6⟩;have HS:=aA (hS6.perm (bL _ _ _ _ _).symm);clear hS6)
 case' inr.inl =>
  go_upto_region 17 with(go_at_call 69;(with_reducible refine(iU gr kk hk0 (HS.out.perm (bL _ _ _ _ _))).mono ?_);rintro e wF ⟨rfl,hS6⟩;have HS:=aA (hS6.perm (bL _ _ _ _ _).symm);clear hS6)
 case' inr.inr =>
  go_upto_region 17 with fail
  generalize wE=wF at HS ⊢
 all_goals
  clear t1
  have t2:_=some (Value.int .i64 (kk:Int)):=HS.out.cell 2 rfl 1
  go_upto_region 18 with fail
  clear t2
  have HS:=aA HS.out.drew
  have hcond:DkS ⟨gr,1,none⟩ ⟨gr,1,none⟩ (.int .i64 (kk:Int)) (.int .i64 (kk:Int)) wF.drew:=⟨HS.out.cell 2 rfl 1,HS.out.cell 2 rfl 1,trivial⟩
  refine eU (.op 0 1 (.op 1 1 (.op 2 1 (.op 3 1 (.op 4 0 (.op 5 2 (.op 6 1 (.nil)))))))) (DkS ⟨gr,1,none⟩ ⟨gr,1,none⟩ (.int .i64 (kk:Int)) (.int .i64 (kk:Int))) hcond Bt Bt (fun _ _ _ _ h=>h) ?_
  generalize wF.drew=wG at HS hcond ⊢
  have M0:=True.intro
  go_wp2_with (first
   |(clear M0;refine dG rfl rfl ?_;intro K hK;refine cP rfl HS.out 3 rfl (vs:=[.slice none 0 0,.slice none 0 0,.slice none 0 0,.slice none 0 0]) szToken (Nat.le_refl _) rfl rfl dR ?_;intro w9 hS9;have HS9:=aA hS9;clear hS9;have hcond9:DkS ⟨gr,1,none⟩ ⟨gr,1,none⟩ (.int .i64 (kk:Int)) (.int .i64 (kk:Int)) w9:=⟨HS9.out.cell 2 rfl 1,HS9.out.cell 2 rfl 1,trivial⟩;have M1:=True.intro)
   |(refine wpC_nil ?_)|((with_reducible refine cond_mk Df ?_);(try refine nm ?_))|(refine gY (v:=?_) rfl rfl ?_ ?_;rotate_left;(intro wx;go_simp;try go_bits)<;>(with_reducible rfl);(try refine nm ?_))|(refine gX (v:=?_) rfl rfl ?_ ?_;rotate_left;(intro wx hx;obtain⟨hx0,hx1,hx2⟩:=hx;go_simp;try go_bits)<;>(with_reducible rfl);(try refine nm ?_))|(refine dG rfl rfl ?_;intro K hK)|(refine wpC_late rfl rfl ?_;intro K hK)|(refine wpC_any rfl rfl ?_;intro K hK)|(refine wpC_skip rfl rfl ?_;(try refine nm ?_)))
  refine bodyPost_ret (aB rfl _ _ w.heap.size _ _ _ _ rfl (HS9.out.heap 3 rfl) Tryz.underlying26 rfl Bt) rfl ?_
  rw[HD.out]
  exact gO ⟨rfl,HS9.out.below⟩
theorem e2_perm (a b c d e f g:Chunk)(H:List Chunk):(a::b::c::d::e::f::g::H).Perm (c::a::e::f::d::g::b::H):=
 (List.perm_middle (l₁:=[a,b])).trans (List.Perm.cons c (List.Perm.cons a ((List.perm_middle (l₁:=[b,d])).trans (List.Perm.cons e ((List.perm_middle (l₁:=[b,d])).trans (List.Perm.cons f ((List.Perm.swap d b _).trans (List.Perm.cons d (List.Perm.swap g b _)))))))))
def DkI (raw root:List UInt8)(fs:List FdV)(xs:List FdL)(G:List Chunk)(k last kk cnt:Nat)(zs:List Sg)(ez zz:PcV):Prop:=
 (kk=0∧zs.length=cnt∧TkHd G zs ez zz∧((k=0∧last=0)∨∃k2 p,k=k2+1∧xs[k2]?=some p∧p.f.num=last)∧last≤100∧tkF 0 ⟨root,[],[],[]⟩ fs=tkF last ⟨root,zs.map Sg.p,ez.b,zz.b⟩ ((xs.drop k).map FdL.f))∨(kk≠0∧decRz raw root=⟨kk,tp0⟩)
theorem decodeR_ok (A Ar:Option Addr)(n c nr cr:Nat)(raw root:List UInt8)(fs:List FdV)(w:World)(hl:raw.length=n)(hn:n≤65536)(hlr:root.length=nr)(hnr:nr≤10000)(hf:fds raw=.ok fs)(hr:Rd w (.slice A n c) 1 n (bvs raw))(hrr:Rd w (.slice Ar nr cr) 1 nr (bvs root)) :
  Calls Tryz.prog 27 #[.slice A n c,.slice Ar nr cr] w (TkQ w (decRz raw root)):=by
 have hS0:=((St.init w NoB).alloc #[.slice none 0 0,.slice none 0 0,.slice none 0 0,.slice none 0 0] 26).alloc #[.pointer none,.int .i64 0] 99
 rw[size_alloc1] at hS0
 have HS:=aA hS0
 have HRR:=aA hrr
 have HLR:=aA hlr
 have HC:=aA (rfields_ok (w.heap.size+1) A n c raw fs hl hn hf (hr.below hS0.below) hS0)
 have HFS:=aA hf
 have hnum:=fd_numb An hf
 have hflen:=fds_len raw fs hf
 have hfb:=fun f hf'=>((fds_inv raw.length raw fs (Nat.le_refl _) An hf).2 f hf').2
 clear hS0 hrr hlr hf hr
 go_enter Tryz.func27,Tryz.ntmps27
 have M0:=True.intro
 go_upto_region 4 with(first
  |(clear M2;refine wl_storeC rfl rfl (HS.out.alloc _ _) 0 rfl (vs:=[.slice Br nr dr,.slice none 0 0,.slice none 0 0,.slice none 0 0]) szToken (Nat.le_refl _) rfl rfl dR ?_;intro w5 hS5;have HS:=aA hS5;clear hS5;have M3:=True.intro)
  |(clear M1;go_at_call 45;(with_reducible refine(join23_1 _ HLR.out An (HRR.out.below HS.out.below)).mono ?_);rintro e w4 ⟨Br,dr,rfl,hb,ho⟩;have HS:=aA ((HS.out.skip _).row hb ho);clear ho hb;have M2:=True.intro)
  |(clear M0;go_at_call 66;(with_reducible refine HC.out.mono ?_);rintro e w2 ⟨xs,B,d,rfl,hx,hS2⟩;have HS:=aA hS2;have HX:=aA hx;clear hS2 hx;have M1:=True.intro))
 obtain⟨m,hm⟩:∃m,xs.length=m:=⟨_,rfl⟩
 have HSL:Hid (St w NoB w5 (.cells w4.heap.size #[.slice Br nr dr,.slice none 0 0,pc0.v,pc0.v] 26::.row (.slice none 0 0) 32 5 0 (aN [])::.cells (w.heap.size+1) #[.pointer none,.int .i64 ((0:Nat):Int)] 99::.cells w.heap.size #[.slice none 0 0,.slice none 0 0,.slice none 0 0,.slice none 0 0] 26::.row (.slice Br nr dr) 5 1 nr (bvs root)::.row (.slice B xs.length d) 102 4 xs.length (aP xs)::(pc0.ch::aV xs))):=aA (((HS.out.row (Below.refl _ _) (World.ownsRow_nil _ _ 5 1)).row (Below.refl _ _) (World.ownsRow_nil _ _ 32 5)).perm (e2_perm _ _ _ _ _ _ _ _))
 rw[hm] at HSL ⊢
 have HM:=aA hm
 have hm6:m≤65536:=by
  rw[←HX.out,List.length_map,hm] at hflen
  omega
 have HNUM:Hid (∀x∈xs,1≤x.f.num∧x.f.num≤100):=aA (fun x hx'=>hnum x.f (by rw[←HX.out];exact List.mem_map_of_mem hx'))
 have HFB:Hid (∀x∈xs,x.f.b.length≤65536):=aA (fun x hx'=>by have:=hfb x.f (by rw[←HX.out];exact List.mem_map_of_mem hx');omega)
 clear HS hm hnum hflen hfb hl
 generalize w4.heap.size=gt at HSL ⊢
 generalize w.heap.size+1=gr at HSL ⊢
 go_wp2_with fail
 go_loopw [22] (fun iv wr=>∃(k last kk cnt:Nat) (X:Option Addr) (x:Nat) (zs:List Sg) (ez zz:PcV) (G:List Chunk),k≤m∧iv=.int .i64 (k:Int)∧cnt≤k∧Hid (∀x∈xs,FdL.chunk x∈G)∧Hid (DkI raw root fs xs G k last kk cnt zs ez zz)∧Hid (St w NoB wr (.cells gt #[.slice Br nr dr,.slice X cnt x,ez.v,zz.v] 26::.row (.slice X cnt x) 32 5 cnt (aN zs)::.cells gr #[.pointer none,.int .i64 (kk:Int)] 99::.cells w.heap.size #[.slice none 0 0,.slice none 0 0,.slice none 0 0,.slice none 0 0] 26::.row (.slice Br nr dr) 5 1 nr (bvs root)::.row (.slice B m d) 102 4 m (aP xs)::G))) (fun i _=>(m - intOf i).toNat)
 case atStart=>exact⟨0,0,0,0,none,0,[],pc0,pc0,_,An,rfl,An,(fun x hx=>mC _ Ev),.inl ⟨rfl,rfl,⟨fun y hy=>absurd hy List.not_mem_nil,List.mem_cons_self ..,List.mem_cons_self ..⟩,.inl ⟨rfl,rfl⟩,An,by rw[←HX.out];rfl⟩,HSL⟩
 case round =>
  clear HSL
  obtain⟨k,last,kk,cnt,X,x,zs,ez,zz,G,hk,rfl,hcnt,HG,HST,HS⟩:=hrel
  by_cases hlt:k<m
  ·have e0:decide ((k:Int)<(m:Int))=true:=by simp;omega
   have e0':decide (k<m)=true:=A9
   have kn:(k:Int)<(m:Int):=An
   have kl:k<xs.length:=Et
   have hlk:xs[k]?=some xs[k]:=gE kl
   obtain⟨b,o,rfl,hb8,hc⟩:=fC (HS.out.rd 5 rfl) hlk
   obtain⟨k0,k1,k2,k3⟩:=hc _ (Below.refl _ _)
   have HDK:=aA (show(xs.drop k).map FdL.f=xs[k].f::(xs.drop (k+1)).map FdL.f by rw[List.drop_eq_getElem_cons kl];rfl)
   have HYB:=aA (HFB.out _ (List.getElem_mem kl))
   have HYG:=aA (HG.out _ (List.getElem_mem kl))
   have hny:=HNUM.out _ (List.getElem_mem kl)
   have HLK:=aA hlk
   generalize xs[k]=y at k0 k1 k2 k3 HDK HYB HYG HLK hny
   clear hc hlk kl
   go_upto_region 7 with(refine wl_storeC rfl rfl (HS.out.alloc _ _) 0 rfl (vs:=[.int .i64 (y.f.num:Int),.bool y.f.whole,.int .u64 (y.f.n:Int),.slice y.A y.f.b.length y.c]) szField6 (Nat.le_refl _) rfl rfl oneF ?_;intro w5 hS5;have HS5r:=aA hS5;clear hS5)
   have HS5:Hid (St w NoB w5 (.cells gr #[.pointer none,.int .i64 (kk:Int)] 99::.cells wr.heap.size #[.int .i64 (y.f.num:Int),.bool y.f.whole,.int .u64 (y.f.n:Int),.slice y.A y.f.b.length y.c] 102::.cells gt #[.slice Br nr dr,.slice X cnt x,ez.v,zz.v] 26::.row (.slice X cnt x) 32 5 cnt (aN zs)::.cells w.heap.size #[.slice none 0 0,.slice none 0 0,.slice none 0 0,.slice none 0 0] 26::.row (.slice Br nr dr) 5 1 nr (bvs root)::.row (.slice (some ⟨b,o,none⟩) m d) 102 4 m (aP xs)::G)):=aA (HS5r.out.perm (d9_perm3 _ _ _ _ _))
   have HMEM:Hid (Chunk.row (.slice (some ⟨b,o,none⟩) m d) 102 4 m (aP xs)∈.cells wr.heap.size #[.int .i64 (y.f.num:Int),.bool y.f.whole,.int .u64 (y.f.n:Int),.slice y.A y.f.b.length y.c] 102::.cells gt #[.slice Br nr dr,.slice X cnt x,ez.v,zz.v] 26::.row (.slice X cnt x) 32 5 cnt (aN zs)::.cells w.heap.size #[.slice none 0 0,.slice none 0 0,.slice none 0 0,.slice none 0 0] 26::.row (.slice Br nr dr) 5 1 nr (bvs root)::.row (.slice (some ⟨b,o,none⟩) m d) 102 4 m (aP xs)::G):=aA (by (iterate 5 apply mC);exact List.mem_cons_self ..)
   clear k0 k1 k2 k3 HS HS5r
   refine HST.out.elim (fun hok=>?okS) (fun her=>?erS)
   case' okS =>
    obtain⟨rfl,hz,hH,hpv,hl9,hT⟩:=hok
    have HS5:Hid (St w NoB w5 (.cells gr #[.pointer none,.int .i64 0] 99::.cells wr.heap.size #[.int .i64 (y.f.num:Int),.bool y.f.whole,.int .u64 (y.f.n:Int),.slice y.A y.f.b.length y.c] 102::.cells gt #[.slice Br nr dr,.slice X cnt x,ez.v,zz.v] 26::.row (.slice X cnt x) 32 5 cnt (aN zs)::.cells w.heap.size #[.slice none 0 0,.slice none 0 0,.slice none 0 0,.slice none 0 0] 26::.row (.slice Br nr dr) 5 1 nr (bvs root)::.row (.slice (some ⟨b,o,none⟩) m d) 102 4 m (aP xs)::G)):=HS5
    rw[HDK.out] at hT
    have HT:=aA hT
    have HH:=aA hH
    have HZ:=aA hz
    clear hT hH hz HST
    by_cases hg:¬(y.f.whole=false∨y.f.num<last∨(y.f.num=last∧y.f.num≠1))∧y.f.num≤3
    case pos =>
     have HW:=aA (fits3_yes gr (some ⟨b,o,none⟩) m d k last xs y HLK.out hlt hny.1 hny.2 hpv hl9 HMEM.out hm6 HS5.out hg.1 hg.2)
     have HNB:=aA hg.1
     have h13:=hg.2
     clear hg hpv
     go_upto_region 8 with(go_at_call 67;(with_reducible refine HW.out.mono ?_);rintro e w7 ⟨rfl,hS7⟩;have HS:=aA hS7;clear hS7)
     have q0:_=some (Value.int .i64 (y.f.num:Int)):=HS.out.cell 1 rfl 0
     rcases(show y.f.num=1∨y.f.num=2∨y.f.num=3 by omega) with e|e|e
     ·have EN:=aA e
      rw[e] at q0
      clear e
      go_upto_region 11 with fail
      clear q0
      have HS:=aA HS.out.drew
      have hcond:DkS ⟨gt,1,none⟩ ⟨wr.heap.size,3,none⟩ (.slice X cnt x) (.slice y.A y.f.b.length y.c) w7.drew:=⟨HS.out.cell 2 rfl 1,HS.out.cell 1 rfl 3,trivial⟩
      refine eU (.op 0 1 (.op 1 0 (.op 2 1 (.op 3 1 (.op 4 0 (.op 5 2 (.op 6 2 (.op 7 2 (.op 8 1 (.op 9 3 (.nil))))))))))) (DkS ⟨gt,1,none⟩ ⟨wr.heap.size,3,none⟩ (.slice X cnt x) (.slice y.A y.f.b.length y.c)) hcond Bt Bt (fun _ _ _ _ h=>h) ?_
      generalize w7.drew=w8 at HS hcond ⊢
      have HRB:Hid (Rd w8 (.slice y.A y.f.b.length y.c) 1 y.f.b.length (bvs y.f.b)):=aA (ch_ok (p:=⟨y.A,y.c,y.f.b⟩) HS.out (by (iterate 7 apply mC);exact HYG.out))
      have M0:=True.intro
      go_upto_region 14 with(first
       |(clear M1;refine dG rfl rfl ?_;intro K hK;refine gU rfl tySg (HS.out.skip _) 3 rfl rfl rfl (iO _ [.slice E1 y1.length f1,.slice E2 y2.length f2,.slice E3 y3.length f3,.slice E4 y4.length f4,.slice E5 y5.length f5] 32 5 1 rfl Bz) fE An Bz ?_;intro A7 c7 wa hSa;have HS:=aA hSa;clear hSa;have hcondb:DkS ⟨gt,1,none⟩ ⟨wr.heap.size,3,none⟩ (.slice X cnt x) (.slice y.A y.f.b.length y.c) wa:=⟨HS.out.cell 2 rfl 1,HS.out.cell 1 rfl 3,trivial⟩;have q8:_=some (Value.slice X cnt x):=HS.out.cell 2 rfl 1;have g8:=HS.out.free 2 rfl 1;have M2:=True.intro)
       |(clear M0;go_at_call 68;(with_reducible refine(signedR_any gr y.A _ y.c y.f.b rfl HYB.out HRB.out HS.out).mono ?_);rintro e w9 ⟨⟨⟨E1,f1,y1⟩,⟨E2,f2,y2⟩,⟨E3,f3,y3⟩,⟨E4,f4,y4⟩,⟨E5,f5,y5⟩⟩,G2,k3,rfl,hX,hS9⟩;rw[Sg.val_eq];have HS:=aA hS9;have HX3:=aA hX;clear hS9 hX;have hconda:DkS ⟨gt,1,none⟩ ⟨wr.heap.size,3,none⟩ (.slice X cnt x) (.slice y.A y.f.b.length y.c) w9:=⟨HS.out.cell 2 rfl 1,HS.out.cell 1 rfl 3,trivial⟩;have hcondA:DkS ⟨gt,1,none⟩ ⟨wr.heap.size,3,none⟩ (.slice X cnt x) (.slice y.A y.f.b.length y.c) (w9.alloc (.cells #[.slice E1 y1.length f1,.slice E2 y2.length f2,.slice E3 y3.length f3,.slice E4 y4.length f4,.slice E5 y5.length f5] 32)):=⟨(HS.out.skip _).cell 2 rfl 1,(HS.out.skip _).cell 1 rfl 3,trivial⟩;have M1:=True.intro)
       |(refine wpC_nil ?_)|((with_reducible refine cond_mk Df ?_);(try refine nm ?_))|(refine gY (v:=?_) rfl rfl ?_ ?_;rotate_left;(intro wx;go_simp;try go_bits)<;>(with_reducible rfl);(try refine nm ?_))|(refine gX (v:=?_) rfl rfl ?_ ?_;rotate_left;(intro wx hx;obtain⟨hx0,hx1,hx2⟩:=hx;go_simp;try go_bits)<;>(with_reducible rfl);(try refine nm ?_))|(refine dG rfl rfl ?_;intro K hK)|(refine wpC_late rfl rfl ?_;intro K hK)|(refine wpC_any rfl rfl ?_;intro K hK)|(refine wpC_skip rfl rfl ?_;(try refine nm ?_)))
      have hS6:=HS.out.setCell 2 rfl 1 (.slice A7 (cnt+1) c7)
      generalize World.setCell wa _ _=wz at hS6 ⊢
      have HS6:Hid (St w NoB wz (.cells gt #[.slice Br nr dr,.slice A7 (cnt+1) c7,ez.v,zz.v] 26::.row (.slice A7 (cnt+1) c7) 32 5 (cnt+1) (aN (zs++[⟨⟨E1,f1,y1⟩,⟨E2,f2,y2⟩,⟨E3,f3,y3⟩,⟨E4,f4,y4⟩,⟨E5,f5,y5⟩⟩]))::.cells gr #[.pointer none,.int .i64 (k3:Int)] 99::.cells w.heap.size #[.slice none 0 0,.slice none 0 0,.slice none 0 0,.slice none 0 0] 26::.row (.slice Br nr dr) 5 1 nr (bvs root)::.row (.slice (some ⟨b,o,none⟩) m d) 102 4 m (aP xs)::(G++G2))):=aA (by rw[sgCells_app];exact(St.cut [_] _ _ hS6).perm (iE _ _ _ _).symm)
      have HIN:Hid (DkI raw root fs xs (G++G2) (k+1) 1 k3 (cnt+1) (zs++[⟨⟨E1,f1,y1⟩,⟨E2,f2,y2⟩,⟨E3,f3,y3⟩,⟨E4,f4,y4⟩,⟨E5,f5,y5⟩⟩]) ez zz):=aA (by
       cases hs:sgB y.f.b with
       | ok xx =>
        have h9:=HX3.out
        rw[hs] at h9
        obtain⟨rfl,hp,hG2⟩:=h9
        refine .inl ⟨rfl,by rw[List.length_append,HZ.out];rfl,⟨fun v hv=>?_,List.mem_append_left _ HH.out.e,List.mem_append_left _ HH.out.z⟩,.inr ⟨k,y,rfl,HLK.out,EN.out⟩,An,?_⟩
        ·rcases List.mem_append.1 hv with h|h
         ·exact(HH.out.l v h).mono fun c hc=>List.mem_append_left _ hc
         ·rw[List.mem_singleton.1 h]
          exact hG2.mono fun c hc=>List.mem_append_right _ hc
        ·rw[HT.out,tkF,if_neg HNB.out,if_pos EN.out,hs,List.map_append,←hp]
         rfl
       | bad kb =>
        have h9:=HX3.out
        rw[hs] at h9
        obtain rfl:k3=kb:=h9
        have hkb:k3≠0:=by have:=sgB_k hs;omega
        have htc:tkC last y.f=k3:=by
         unfold tkC
         rw[if_neg HNB.out,if_pos EN.out,hs]
        exact .inr ⟨hkb,(dec_ok HFS.out (HT.out.trans (tkF_bad htc hkb _ _))).trans (if_pos hkb)⟩)
      clear hS6 HS HX3 hcond q8 g8 hcondA hconda hcondb
      go_wp2_with fail
      go_roundw
      case rel=>exact⟨k+1,1,k3,cnt+1,A7,c7,zs++[⟨⟨E1,f1,y1⟩,⟨E2,f2,y2⟩,⟨E3,f3,y3⟩,⟨E4,f4,y4⟩,⟨E5,f5,y5⟩⟩],ez,zz,G++G2,An,Cg,An,aA (fun x hx=>List.mem_append_left _ (HG.out x hx)),HIN,HS6⟩
      case measure=>(simp[intOf])<;>omega
     ·have EN:=aA e
      rw[e] at q0
      clear e
      have q3:_=some (Value.slice y.A y.f.b.length y.c):=HS.out.cell 1 rfl 3
      have q2:_=some _:=HS.out.cell 2 rfl 2
      have f2:=HS.out.free 2 rfl 2
      go_upto_region 14 with fail
      have hS6:=HS.out.setCell 2 rfl 2 (.slice y.A y.f.b.length y.c)
      generalize World.setCell w7 _ _=wz at hS6 ⊢
      have HS6:Hid (St w NoB wz (.cells gt #[.slice Br nr dr,.slice X cnt x,.slice y.A y.f.b.length y.c,zz.v] 26::.row (.slice X cnt x) 32 5 cnt (aN zs)::.cells gr #[.pointer none,.int .i64 ((0:Nat):Int)] 99::.cells w.heap.size #[.slice none 0 0,.slice none 0 0,.slice none 0 0,.slice none 0 0] 26::.row (.slice Br nr dr) 5 1 nr (bvs root)::.row (.slice (some ⟨b,o,none⟩) m d) 102 4 m (aP xs)::G)):=aA ((St.cut [_] _ _ hS6).perm (iE _ _ _ _).symm)
      have HIN:Hid (DkI raw root fs xs G (k+1) 2 0 cnt zs ⟨y.A,y.c,y.f.b⟩ zz):=aA (.inl ⟨rfl,HZ.out,⟨HH.out.l,HYG.out,HH.out.z⟩,.inr ⟨k,y,rfl,HLK.out,EN.out⟩,An,by
       rw[HT.out,tkF,if_neg HNB.out,if_neg (by rw[EN.out];decide),if_pos EN.out]⟩)
      clear hS6 HS q0 q2 q3 f2
      go_wp2_with fail
      go_roundw
      case rel=>exact⟨k+1,2,0,cnt,X,x,zs,⟨y.A,y.c,y.f.b⟩,zz,G,An,Cg,An,HG,HIN,HS6⟩
      case measure=>(simp[intOf])<;>omega
     ·have EN:=aA e
      rw[e] at q0
      clear e
      have q3:_=some (Value.slice y.A y.f.b.length y.c):=HS.out.cell 1 rfl 3
      have q2:_=some _:=HS.out.cell 2 rfl 3
      have f2:=HS.out.free 2 rfl 3
      go_upto_region 14 with fail
      have hS6:=HS.out.setCell 2 rfl 3 (.slice y.A y.f.b.length y.c)
      generalize World.setCell w7 _ _=wz at hS6 ⊢
      have HS6:Hid (St w NoB wz (.cells gt #[.slice Br nr dr,.slice X cnt x,ez.v,.slice y.A y.f.b.length y.c] 26::.row (.slice X cnt x) 32 5 cnt (aN zs)::.cells gr #[.pointer none,.int .i64 ((0:Nat):Int)] 99::.cells w.heap.size #[.slice none 0 0,.slice none 0 0,.slice none 0 0,.slice none 0 0] 26::.row (.slice Br nr dr) 5 1 nr (bvs root)::.row (.slice (some ⟨b,o,none⟩) m d) 102 4 m (aP xs)::G)):=aA ((St.cut [_] _ _ hS6).perm (iE _ _ _ _).symm)
      have HIN:Hid (DkI raw root fs xs G (k+1) 3 0 cnt zs ez ⟨y.A,y.c,y.f.b⟩):=aA (.inl ⟨rfl,HZ.out,⟨HH.out.l,HH.out.e,HYG.out⟩,.inr ⟨k,y,rfl,HLK.out,EN.out⟩,An,by
       rw[HT.out,tkF,if_neg HNB.out,if_neg (by rw[EN.out];decide),if_neg (by rw[EN.out];decide),if_pos EN.out]⟩)
      clear hS6 HS q0 q2 q3 f2
      go_wp2_with fail
      go_roundw
      case rel=>exact⟨k+1,3,0,cnt,X,x,zs,ez,⟨y.A,y.c,y.f.b⟩,G,An,Cg,An,HG,HIN,HS6⟩
      case measure=>(simp[intOf])<;>omega
    case' neg =>
     have HW:=aA (fits3_no gr (some ⟨b,o,none⟩) m d k last xs y HLK.out hlt hny.1 hny.2 hpv hl9 HMEM.out hm6 HS5.out hg)
     have hc3:=tkC_no hg
     have HD:=aA ((dec_ok HFS.out (HT.out.trans (tkF_bad hc3 An _ _))).trans (if_pos Bz))
     clear hg hpv hc3
     go_upto_region 15 with(go_at_call 67;(with_reducible refine HW.out.mono ?_);rintro e wE ⟨rfl,hS7⟩;have HSE:=aA hS7;clear hS7)
     obtain⟨kk,hkk⟩:∃q,q=3:=⟨_,rfl⟩
     have HS:Hid (St w NoB wE (.cells gt #[.slice Br nr dr,.slice X cnt x,ez.v,zz.v] 26::.row (.slice X cnt x) 32 5 cnt (aN zs)::.cells gr #[.pointer none,.int .i64 (kk:Int)] 99::.cells w.heap.size #[.slice none 0 0,.slice none 0 0,.slice none 0 0,.slice none 0 0] 26::.row (.slice Br nr dr) 5 1 nr (bvs root)::.row (.slice (some ⟨b,o,none⟩) m d) 102 4 m (aP xs)::G)):=by subst hkk;exact aA ((St.cut [_] _ _ HSE.out).perm (iE _ _ _ _).symm)
     have hk0:kk≠0:=An
     have HD:Hid (decRz raw root=⟨kk,tp0⟩):=by subst hkk;exact HD
     clear HSE hkk
   case' erS =>
    obtain⟨hk0,hD⟩:=her
    have HW:=aA (fits_err gr (some ⟨b,o,none⟩) m d k kk ⟨#[51,50,50]⟩ xs y HLK.out hlt HMEM.out hk0 HS5.out)
    have HD:=aA hD
    clear hD HST
    go_upto_region 15 with(go_at_call 67;(with_reducible refine HW.out.mono ?_);rintro e wE ⟨rfl,hS7⟩;have HS:=aA ((St.cut [_] _ _ hS7).perm (iE _ _ _ _).symm);clear hS7)
   all_goals
    have t1:_=some (Value.slice X cnt x):=HS.out.cell 0 rfl 1
    have hcc:(((cnt:Int)==0)=true∧decide ((cnt:Int)=0)=true∧decide (cnt=0)=true)∨(((cnt:Int)==0)=false∧decide ((cnt:Int)=0)=false∧decide ((8:Int)<(cnt:Int))=true∧decide (8<cnt)=true)∨(((cnt:Int)==0)=false∧decide ((cnt:Int)=0)=false∧decide ((8:Int)<(cnt:Int))=false∧decide (8<cnt)=false):=by
     by_cases h:cnt=0
     ·subst h;exact .inl ⟨rfl,rfl,rfl⟩
     ·by_cases h8:8<cnt
      ·exact .inr (.inl ⟨A9,A9,A9,A9⟩)
      ·exact .inr (.inr ⟨A9,A9,A9,A9⟩)
    have d0:((kk:Int) !=0)=true:=A9
    have d0':decide ((kk:Int)=0)=false:=A9
    rcases hcc with⟨c1,c2,c3⟩|⟨c1,c2,c3,c4⟩|⟨c1,c2,c3,c4⟩
    case' inl =>
     go_upto_region 17 with(go_at_call 69;(with_reducible refine(iU gr kk hk0 (HS.out.perm (bL _ _ _ _ _))).mono ?_);rintro e wF ⟨rfl,hS6⟩;have HS:=aA (hS6.perm (bL _ _ _ _ _).symm);clear hS6)
    case' inr.inl =>
     go_upto_region 17 with(go_at_call 69;(with_reducible refine(iU gr kk hk0 (HS.out.perm (bL _ _ _ _ _))).mono ?_);rintro e wF ⟨rfl,hS6⟩;have HS:=aA (hS6.perm (bL _ _ _ _ _).symm);clear hS6)
    case' inr.inr =>
     go_upto_region 17 with fail
     generalize wE=wF at HS ⊢
    all_goals
     clear t1
     have t2:_=some (Value.int .i64 (kk:Int)):=HS.out.cell 2 rfl 1
     go_upto_region 18 with fail
     clear t2
     have HS:=aA HS.out.drew
     have hcond:DkS ⟨gr,1,none⟩ ⟨gr,1,none⟩ (.int .i64 (kk:Int)) (.int .i64 (kk:Int)) wF.drew:=⟨HS.out.cell 2 rfl 1,HS.out.cell 2 rfl 1,trivial⟩
     refine eU (.op 0 1 (.op 1 1 (.op 2 1 (.op 3 1 (.op 4 0 (.op 5 2 (.op 6 1 (.nil)))))))) (DkS ⟨gr,1,none⟩ ⟨gr,1,none⟩ (.int .i64 (kk:Int)) (.int .i64 (kk:Int))) hcond Bt Bt (fun _ _ _ _ h=>h) ?_
     generalize wF.drew=wG at HS hcond ⊢
     have M0:=True.intro
     go_wp2_with (first
      |(clear M0;refine dG rfl rfl ?_;intro K hK;refine cP rfl HS.out 3 rfl (vs:=[.slice none 0 0,.slice none 0 0,.slice none 0 0,.slice none 0 0]) szToken (Nat.le_refl _) rfl rfl dR ?_;intro w9 hS9;have HS9:=aA hS9;clear hS9;have hcond9:DkS ⟨gr,1,none⟩ ⟨gr,1,none⟩ (.int .i64 (kk:Int)) (.int .i64 (kk:Int)) w9:=⟨HS9.out.cell 2 rfl 1,HS9.out.cell 2 rfl 1,trivial⟩;have M1:=True.intro)
      |(refine wpC_nil ?_)|((with_reducible refine cond_mk Df ?_);(try refine nm ?_))|(refine gY (v:=?_) rfl rfl ?_ ?_;rotate_left;(intro wx;go_simp;try go_bits)<;>(with_reducible rfl);(try refine nm ?_))|(refine gX (v:=?_) rfl rfl ?_ ?_;rotate_left;(intro wx hx;obtain⟨hx0,hx1,hx2⟩:=hx;go_simp;try go_bits)<;>(with_reducible rfl);(try refine nm ?_))|(refine dG rfl rfl ?_;intro K hK)|(refine wpC_late rfl rfl ?_;intro K hK)|(refine wpC_any rfl rfl ?_;intro K hK)|(refine wpC_skip rfl rfl ?_;(try refine nm ?_)))
     refine bodyPost_ret (aB rfl _ _ w.heap.size _ _ _ _ rfl (HS9.out.heap 3 rfl) Tryz.underlying26 rfl Bt) rfl ?_
     rw[HD.out]
     exact gO ⟨rfl,HS9.out.below⟩
  ·obtain rfl:k=m:=by omega
   have e0:decide ((k:Int)<(k:Int))=false:=B0
   have e0':decide (k<k)=false:=B0
   have t1:_=some (Value.slice X cnt x):=HS.out.cell 0 rfl 1
   rcases HST.out with hok|⟨hk0,hD⟩
   case inr =>
    have HD:=aA hD
    clear hD HST
    go_upto_region 15 with fail
    generalize wr=wE at HS t1 ⊢
    have t1:_=some (Value.slice X cnt x):=HS.out.cell 0 rfl 1
    have hcc:(((cnt:Int)==0)=true∧decide ((cnt:Int)=0)=true∧decide (cnt=0)=true)∨(((cnt:Int)==0)=false∧decide ((cnt:Int)=0)=false∧decide ((8:Int)<(cnt:Int))=true∧decide (8<cnt)=true)∨(((cnt:Int)==0)=false∧decide ((cnt:Int)=0)=false∧decide ((8:Int)<(cnt:Int))=false∧decide (8<cnt)=false):=by
     by_cases h:cnt=0
     ·subst h;exact .inl ⟨rfl,rfl,rfl⟩
     ·by_cases h8:8<cnt
      ·exact .inr (.inl ⟨A9,A9,A9,A9⟩)
      ·exact .inr (.inr ⟨A9,A9,A9,A9⟩)
    have d0:((kk:Int) !=0)=true:=A9
    have d0':decide ((kk:Int)=0)=false:=A9
    rcases hcc with⟨c1,c2,c3⟩|⟨c1,c2,c3,c4⟩|⟨c1,c2,c3,c4⟩
    case' inl =>
     go_upto_region 17 with(go_at_call 69;(with_reducible refine(iU gr kk hk0 (HS.out.perm (bL _ _ _ _ _))).mono ?_);rintro e wF ⟨rfl,hS6⟩;have HS:=aA (hS6.perm (bL _ _ _ _ _).symm);clear hS6)
    case' inr.inl =>
     go_upto_region 17 with(go_at_call 69;(with_reducible refine(iU gr kk hk0 (HS.out.perm (bL _ _ _ _ _))).mono ?_);rintro e wF ⟨rfl,hS6⟩;have HS:=aA (hS6.perm (bL _ _ _ _ _).symm);clear hS6)
    case' inr.inr =>
     go_upto_region 17 with fail
     generalize wE=wF at HS ⊢
    all_goals
     clear t1
     have t2:_=some (Value.int .i64 (kk:Int)):=HS.out.cell 2 rfl 1
     go_upto_region 18 with fail
     clear t2
     have HS:=aA HS.out.drew
     have hcond:DkS ⟨gr,1,none⟩ ⟨gr,1,none⟩ (.int .i64 (kk:Int)) (.int .i64 (kk:Int)) wF.drew:=⟨HS.out.cell 2 rfl 1,HS.out.cell 2 rfl 1,trivial⟩
     refine eU (.op 0 1 (.op 1 1 (.op 2 1 (.op 3 1 (.op 4 0 (.op 5 2 (.op 6 1 (.nil)))))))) (DkS ⟨gr,1,none⟩ ⟨gr,1,none⟩ (.int .i64 (kk:Int)) (.int .i64 (kk:Int))) hcond Bt Bt (fun _ _ _ _ h=>h) ?_
     generalize wF.drew=wG at HS hcond ⊢
     have M0:=True.intro
     go_wp2_with (first
      |(clear M0;refine dG rfl rfl ?_;intro K hK;refine cP rfl HS.out 3 rfl (vs:=[.slice none 0 0,.slice none 0 0,.slice none 0 0,.slice none 0 0]) szToken (Nat.le_refl _) rfl rfl dR ?_;intro w9 hS9;have HS9:=aA hS9;clear hS9;have hcond9:DkS ⟨gr,1,none⟩ ⟨gr,1,none⟩ (.int .i64 (kk:Int)) (.int .i64 (kk:Int)) w9:=⟨HS9.out.cell 2 rfl 1,HS9.out.cell 2 rfl 1,trivial⟩;have M1:=True.intro)
      |(refine wpC_nil ?_)|((with_reducible refine cond_mk Df ?_);(try refine nm ?_))|(refine gY (v:=?_) rfl rfl ?_ ?_;rotate_left;(intro wx;go_simp;try go_bits)<;>(with_reducible rfl);(try refine nm ?_))|(refine gX (v:=?_) rfl rfl ?_ ?_;rotate_left;(intro wx hx;obtain⟨hx0,hx1,hx2⟩:=hx;go_simp;try go_bits)<;>(with_reducible rfl);(try refine nm ?_))|(refine dG rfl rfl ?_;intro K hK)|(refine wpC_late rfl rfl ?_;intro K hK)|(refine wpC_any rfl rfl ?_;intro K hK)|(refine wpC_skip rfl rfl ?_;(try refine nm ?_)))
     refine bodyPost_ret (aB rfl _ _ w.heap.size _ _ _ _ rfl (HS9.out.heap 3 rfl) Tryz.underlying26 rfl Bt) rfl ?_
     rw[HD.out]
     exact gO ⟨rfl,HS9.out.below⟩
   case inl =>
    obtain⟨rfl,hz,hH,hpv,hl9,hT⟩:=hok
    have HS:Hid (St w NoB wr (.cells gt #[.slice Br nr dr,.slice X cnt x,ez.v,zz.v] 26::.row (.slice X cnt x) 32 5 cnt (aN zs)::.cells gr #[.pointer none,.int .i64 0] 99::.cells w.heap.size #[.slice none 0 0,.slice none 0 0,.slice none 0 0,.slice none 0 0] 26::.row (.slice Br nr dr) 5 1 nr (bvs root)::.row (.slice B k d) 102 4 k (aP xs)::G)):=HS
    have ht:tkF 0 ⟨root,[],[],[]⟩ fs=⟨0,⟨root,zs.map Sg.p,ez.b,zz.b⟩⟩:=by rw[hT,List.drop_of_length_le Eu];rfl
    have HDT:=aA (dec_ok HFS.out ht)
    have HZ:=aA hz
    have HH:=aA hH
    clear ht hT hpv hz hH HST
    by_cases h0:cnt=0∨8<cnt
    ·have HDD:=aA (HDT.out.trans ((if_neg B0).trans (if_pos (show(zs.map Sg.p).length=0∨8<(zs.map Sg.p).length by rw[List.length_map,HZ.out];exact h0))))
     have hcc:(((cnt:Int)==0)=true∧decide ((cnt:Int)=0)=true∧decide (cnt=0)=true∧True)∨(((cnt:Int)==0)=false∧decide ((cnt:Int)=0)=false∧decide ((8:Int)<(cnt:Int))=true∧decide (8<cnt)=true):=by
      rcases h0 with h|h
      ·subst h;exact .inl ⟨rfl,rfl,rfl,trivial⟩
      ·exact .inr ⟨A9,A9,A9,A9⟩
     clear h0
     rcases hcc with⟨c1,c2,c3,c4⟩|⟨c1,c2,c3,c4⟩
     all_goals
      go_upto_region 17 with(go_at_call 69;(with_reducible refine(fail_3 gr (HS.out.perm (bL _ _ _ _ _))).mono ?_);rintro e wF ⟨rfl,hS6⟩;have HS:=aA (hS6.perm (bL _ _ _ _ _).symm);clear hS6)
      obtain⟨kk,hkk⟩:∃q,q=3:=⟨_,rfl⟩
      have HS:Hid (St w NoB wF (.cells gt #[.slice Br nr dr,.slice X cnt x,ez.v,zz.v] 26::.row (.slice X cnt x) 32 5 cnt (aN zs)::.cells gr #[.pointer none,.int .i64 (kk:Int)] 99::.cells w.heap.size #[.slice none 0 0,.slice none 0 0,.slice none 0 0,.slice none 0 0] 26::.row (.slice Br nr dr) 5 1 nr (bvs root)::.row (.slice B k d) 102 4 k (aP xs)::G)):=by subst hkk;exact HS
      have HD:Hid (decRz raw root=⟨kk,tp0⟩):=by subst hkk;exact HDD
      have d0:((kk:Int) !=0)=true:=by subst hkk;rfl
      have d0':decide ((kk:Int)=0)=false:=by subst hkk;rfl
      clear hkk
      clear t1
      have t2:_=some (Value.int .i64 (kk:Int)):=HS.out.cell 2 rfl 1
      go_upto_region 18 with fail
      clear t2
      have HS:=aA HS.out.drew
      have hcond:DkS ⟨gr,1,none⟩ ⟨gr,1,none⟩ (.int .i64 (kk:Int)) (.int .i64 (kk:Int)) wF.drew:=⟨HS.out.cell 2 rfl 1,HS.out.cell 2 rfl 1,trivial⟩
      refine eU (.op 0 1 (.op 1 1 (.op 2 1 (.op 3 1 (.op 4 0 (.op 5 2 (.op 6 1 (.nil)))))))) (DkS ⟨gr,1,none⟩ ⟨gr,1,none⟩ (.int .i64 (kk:Int)) (.int .i64 (kk:Int))) hcond Bt Bt (fun _ _ _ _ h=>h) ?_
      generalize wF.drew=wG at HS hcond ⊢
      have M0:=True.intro
      go_wp2_with (first
       |(clear M0;refine dG rfl rfl ?_;intro K hK;refine cP rfl HS.out 3 rfl (vs:=[.slice none 0 0,.slice none 0 0,.slice none 0 0,.slice none 0 0]) szToken (Nat.le_refl _) rfl rfl dR ?_;intro w9 hS9;have HS9:=aA hS9;clear hS9;have hcond9:DkS ⟨gr,1,none⟩ ⟨gr,1,none⟩ (.int .i64 (kk:Int)) (.int .i64 (kk:Int)) w9:=⟨HS9.out.cell 2 rfl 1,HS9.out.cell 2 rfl 1,trivial⟩;have M1:=True.intro)
       |(refine wpC_nil ?_)|((with_reducible refine cond_mk Df ?_);(try refine nm ?_))|(refine gY (v:=?_) rfl rfl ?_ ?_;rotate_left;(intro wx;go_simp;try go_bits)<;>(with_reducible rfl);(try refine nm ?_))|(refine gX (v:=?_) rfl rfl ?_ ?_;rotate_left;(intro wx hx;obtain⟨hx0,hx1,hx2⟩:=hx;go_simp;try go_bits)<;>(with_reducible rfl);(try refine nm ?_))|(refine dG rfl rfl ?_;intro K hK)|(refine wpC_late rfl rfl ?_;intro K hK)|(refine wpC_any rfl rfl ?_;intro K hK)|(refine wpC_skip rfl rfl ?_;(try refine nm ?_)))
      refine bodyPost_ret (aB rfl _ _ w.heap.size _ _ _ _ rfl (HS9.out.heap 3 rfl) Tryz.underlying26 rfl Bt) rfl ?_
      rw[HD.out]
      exact gO ⟨rfl,HS9.out.below⟩
    ·have HDD:=aA (HDT.out.trans ((if_neg B0).trans (if_neg (show ¬((zs.map Sg.p).length=0∨8<(zs.map Sg.p).length) by rw[List.length_map,HZ.out];exact h0))))
     have d1:((cnt:Int)==0)=false:=A9
     have d1':decide ((cnt:Int)=0)=false:=A9
     have d2:decide ((8:Int)<(cnt:Int))=false:=A9
     have d2':decide (8<cnt)=false:=A9
     obtain⟨E1,f1,y1⟩:=ez
     obtain⟨E2,f2,y2⟩:=zz
     have t0:_=some (Value.slice Br nr dr):=HS.out.cell 0 rfl 0
     have t2:_=some (Value.slice E1 y1.length f1):=HS.out.cell 0 rfl 2
     have t3:_=some (Value.slice E2 y2.length f2):=HS.out.cell 0 rfl 3
     have r1:_=some (Value.int .i64 0):=HS.out.cell 2 rfl 1
     go_wp2_with (refine wl_storeC rfl rfl HS.out 3 rfl (vs:=[.slice Br nr dr,.slice X cnt x,.slice E1 y1.length f1,.slice E2 y2.length f2]) szToken (Nat.le_refl _) rfl rfl dR ?_;intro w7 hS7;have HS7:=aA hS7;clear hS7)
     refine bodyPost_ret (aB rfl _ _ w.heap.size _ _ _ _ rfl (HS7.out.heap 3 rfl) Tryz.underlying26 rfl Bt) rfl ?_
     rw[HDD.out]
     refine⟨⟨⟨Br,dr,root⟩,X,x,zs,⟨E1,f1,y1⟩,⟨E2,f2,y2⟩⟩,_,?_,rfl,⟨pc_ch HLR.out 4 rfl,?_,fun v hv c hc=>?_,?_,?_⟩,HS7.out⟩
     ·rw[Tk.val_eq]
      simp only[HLR.out,HZ.out]
      rfl
     ·show Chunk.row (.slice X zs.length x) _ 5 zs.length _∈_
      rw[HZ.out]
      exact mG (i:=1) rfl
     ·have hc:=HH.out.l v hv c hc
      show c∈_::_::_::_::_::_::G
      (iterate 6 apply mC)
      exact hc
     ·show _∈_::_::_::_::_::_::G
      (iterate 6 apply mC)
      exact HH.out.e
     ·show _∈_::_::_::_::_::_::G
      (iterate 6 apply mC)
      exact HH.out.z
theorem decodeR_any (A Ar:Option Addr)(n c nr cr:Nat)(raw root:List UInt8)(w:World)(hl:raw.length=n)(hn:n≤65536)(hlr:root.length=nr)(hnr:nr≤10000)(hr:Rd w (.slice A n c) 1 n (bvs raw))(hrr:Rd w (.slice Ar nr cr) 1 nr (bvs root)) :
  Calls Tryz.prog 27 #[.slice A n c,.slice Ar nr cr] w (TkQ w (decRz raw root)):=by
 cases hf:fds raw with
 | bad kk=>exact decodeR_bad A Ar n c nr cr kk raw root w hl hn hlr hnr hf hr hrr
 | ok fs=>exact decodeR_ok A Ar n c nr cr raw root fs w hl hn hlr hnr hf hr hrr
theorem wblock_any {w0 w:World}{H:List Chunk}(g:Nat)(v:Value)(l:List UInt8)(A1 A2 A3 A4 A5:Option Addr)(n1 n2 n3 n4 n5 c1 c2 c3 c4 c5:Nat)(l1 l2 l3 l4 l5:List UInt8)(hl1:l1.length=n1)(hn1:n1≤10000)(hr1:Rd w0 (.slice A1 n1 c1) 1 n1 (bvs l1))(hl2:l2.length=n2)(hn2:n2≤10000)(hr2:Rd w0 (.slice A2 n2 c2) 1 n2 (bvs l2))(hl3:l3.length=n3)(hn3:n3≤10000)(hr3:Rd w0 (.slice A3 n3 c3) 1 n3 (bvs l3))(hl4:l4.length=n4)(hn4:n4≤10000)(hr4:Rd w0 (.slice A4 n4 c4) 1 n4 (bvs l4))(hl5:l5.length=n5)(hn5:n5≤10000)(hr5:Rd w0 (.slice A5 n5 c5) 1 n5 (bvs l5))(hl:l.length≤800000)(hS:St w0 NoB w (bU g 0 v l H)) :
  Calls Tryz.prog 59 #[.pointer (some ⟨g,0,none⟩),.agg #[.slice A1 n1 c1,.slice A2 n2 c2,.slice A3 n3 c3,.slice A4 n4 c4,.slice A5 n5 c5]] w fun e w'=>e=.returned (.tuple #[])∧∃v',St w0 NoB w' (bU g 0 v' (l++cJ 1 (spEnc ⟨l1,l2,l3,l4,l5⟩)) H):=by
 unfold spEnc
 by_cases h:n4+n5=0
 ·obtain rfl:n4=0:=by omega
  obtain rfl:n5=0:=by omega
  rw[if_pos (show(Sp.k ⟨l1,l2,l3,l4,l5⟩).length+(Sp.v ⟨l1,l2,l3,l4,l5⟩).length=0 by show l4.length+l5.length=0;omega)]
  exact wblock3 g v l A1 A2 A3 A4 A5 n1 n2 n3 c1 c2 c3 c4 c5 l1 l2 l3 l4 l5 hl1 hn1 hr1 hl2 hn2 hr2 hl3 hn3 hr3 hl4 hn4 hr4 hl5 hn5 hr5 hl hS
 ·rw[if_neg (show ¬(Sp.k ⟨l1,l2,l3,l4,l5⟩).length+(Sp.v ⟨l1,l2,l3,l4,l5⟩).length=0 by show ¬l4.length+l5.length=0;omega)]
  exact wblock5 g v l A1 A2 A3 A4 A5 n1 n2 n3 n4 n5 c1 c2 c3 c4 c5 l1 l2 l3 l4 l5 hl1 hn1 hr1 hl2 hn2 hr2 hl3 hn3 hr3 hl4 hn4 hr4 hl5 hn5 hr5 h hl hS
theorem enLong (args:Array Value)(w:World):(callFunc 58 args).run Tryz.prog w=.ok (.enter 58 args) w:=Bt
theorem cont_no (A:Option Addr)(n c:Nat)(l:List Sg)(w:World)(hl:l.length=n)(hn:n≤1000)(ht:∀x∈l,Sp.tiny x.p)(hr:Rd w (.slice A n c) 5 n (aN l)) :
  Calls Tryz.prog 57 #[.slice A n c,.func (.func 58) #[] #[]] w fun e w'=>e=.returned (.bool false)∧Below w.heap.size w w':=by
 subst hl
 refine(contS_any 58 enLong #[] (fun _=>false) (.slice A l.length c) l w hr An ?_).mono ?_
 ·intro w' hw x hx
  obtain⟨h1,h2,h3,h4,h5⟩:=ht x hx
  exact long_core x.b.A x.n.A x.s.A x.k.A x.v.A x.b.b.length x.n.b.length x.s.b.length x.k.b.length x.v.b.length x.b.c x.n.c x.s.c x.k.c x.v.c (Nat.le_trans h1 Bz) (Nat.le_trans h2 Bz) (Nat.le_trans h3 Bz) (Nat.le_trans h4 Bz) (Nat.le_trans h5 Bz) w'
 ·rintro e w' ⟨rfl,hb⟩
  refine⟨?_,hb⟩
  have:l.any (fun _=>false)=false:=by simp
  rw[this]
def EncS (w:World)(q:Nat)(L:List UInt8)(e:Ending)(w':World):Prop:=∃B d,e=.returned (.tuple #[.slice B q d,.int .i64 0])∧Below w.heap.size w w'∧w'.ownsRow w.heap.size 5 1 (.slice B q d) q (bvs L)
theorem blks_take (l:List Sg)(k:Nat)(x:Sg)(h:l[k]?=some x):blksL ((l.take (k+1)).map Sg.p)=blksL ((l.take k).map Sg.p)++cJ 1 (spEnc x.p):=by
 rw[List.take_add_one,h,List.map_append]
 exact blksL_snoc _ _
theorem blks_pre (p:Tp)(k:Nat):(blksL (p.l.take k)).length≤(encL p).length:=by
 have h:blksL p.l=blksL (p.l.take k)++blksL (p.l.drop k):=by
  conv=>lhs;rw[←List.take_append_drop k p.l]
  exact blksL_app _ _
 unfold encL
 rw[List.length_append,List.length_append,h,List.length_append]
 omega
theorem encode_ok (A1 A2 A3 A:Option Addr)(m1 m2 m3 n c1 c2 c3 c q:Nat)(l1 l2 l3:List UInt8)(l:List Sg)(w:World)(hl2:l2.length=m2)(hl3:l3.length=m3)(hl:l.length=n)(h0:0<n)(h8:n≤8)(hm2:m2≤5000)(hm3:m3≤5000)(ht:∀x∈l,Sp.tiny x.p)(hq:(encL ⟨l1,l.map Sg.p,l2,l3⟩).length=q)(hq2:q≤65536)
  (hr2:Rd w (.slice A2 m2 c2) 1 m2 (bvs l2))(hr3:Rd w (.slice A3 m3 c3) 1 m3 (bvs l3))(hr:Rd w (.slice A n c) 5 n (aN l))(hok:∀x∈l,SgOK w x) :
  Calls Tryz.prog 24 #[.agg #[.slice A1 m1 c1,.slice A n c,.slice A2 m2 c2,.slice A3 m3 c3]] w (EncS w q (encL ⟨l1,l.map Sg.p,l2,l3⟩)):=by
 have HS:=aA ((St.init w NoB).alloc #[.slice A1 m1 c1,.slice A n c,.slice A2 m2 c2,.slice A3 m3 c3] 26)
 have HB:Hid (∀k,(blksL ((l.take k).map Sg.p)).length≤65536):=aA (fun k=>by
  have:=blks_pre ⟨l1,l.map Sg.p,l2,l3⟩ k
  rw[hq] at this
  rw[List.map_take]
  exact Nat.le_trans this hq2)
 obtain⟨L,hLL⟩:∃L,encL ⟨l1,l.map Sg.p,l2,l3⟩=L:=⟨_,rfl⟩
 rw[hLL] at hq ⊢
 have HLL:Hid ((blksL (l.map Sg.p)++someL 2 l2)++someL 3 l3=L):=aA hLL
 clear hLL
 have HQ:=aA hq
 have HQ2:=aA hq2
 have HL:=aA hl
 have HL2:=aA hl2
 have HL3:=aA hl3
 have HT:=aA ht
 have HR:=aA hr
 have HR2:=aA hr2
 have HR3:=aA hr3
 have HOK:=aA hok
 have HM2:=aA hm2
 have HM3:=aA hm3
 have HC:=aA (cont_no A n c l _ hl An ht (hr.st HS.out))
 have t1:_=some (Value.slice A n c):=HS.out.cell 0 rfl 1
 have t2:_=some (Value.slice A2 m2 c2):=HS.out.cell 0 rfl 2
 have t3:_=some (Value.slice A3 m3 c3):=HS.out.cell 0 rfl 3
 have d1:((n:Int)==0)=false:=A9
 have d2:decide ((8:Int)<(n:Int))=false:=A9
 have d3:decide ((65536:Int)<(m2:Int))=false:=A9
 have d4:decide ((65536:Int)<(m3:Int))=false:=A9
 clear hq hq2 hl2 hl3 ht hr hr2 hr3 hok hl hm2 hm3 h0
 go_enter Tryz.func24,Tryz.ntmps24
 go_upto_region 4 with(go_at_call 57;(with_reducible refine HC.out.mono ?_);rintro e w2 ⟨rfl,hb⟩;have HS:=aA (HS.out.call hb);have t2:_=some (Value.slice A2 m2 c2):=HS.out.cell 0 rfl 2;have t3:_=some (Value.slice A3 m3 c3):=HS.out.cell 0 rfl 3;clear hb)
 have hS2:=HS.out.alloc #[.slice none 0 0,.int .i64 0] 84
 have HSL:Hid (St w NoB _ (bU w2.heap.size 0 (.slice none 0 0) (blksL ((l.take 0).map Sg.p)) [.cells w.heap.size #[.slice A1 m1 c1,.slice A n c,.slice A2 m2 c2,.slice A3 m3 c3] 26])):=aA (((hS2.row (Below.refl _ _) (World.ownsRow_nil _ _ 5 1)).swap))
 clear hS2 HS t1 t2 t3
 generalize w2.heap.size=g at HSL ⊢
 generalize w2.alloc _=w3 at HSL ⊢
 have t1:_=some (Value.slice A n c):=HSL.out.cell 2 rfl 1
 go_wp2_with fail
 go_loopw [40] (fun i wr=>∃(k:Nat) (v:Value),k≤n∧i=.int .i64 (k:Int)∧Hid (St w NoB wr (bU g 0 v (blksL ((l.take k).map Sg.p)) [.cells w.heap.size #[.slice A1 m1 c1,.slice A n c,.slice A2 m2 c2,.slice A3 m3 c3] 26]))) (fun i _=>(n - intOf i).toNat)
 case atStart=>exact⟨0,.slice none 0 0,An,rfl,HSL⟩
 case round =>
  clear HSL
  obtain⟨k,v,hk,rfl,HS⟩:=hrel
  by_cases hlt:k<n
  ·have e0:decide ((k:Int)<(n:Int))=true:=by simp;omega
   have e0':decide (k<n)=true:=A9
   have kn:(k:Int)<(n:Int):=An
   have kl:k<l.length:=Ca
   have hlk:l[k]?=some l[k]:=gE kl
   obtain⟨b,o,rfl,hb8,hc⟩:=sg_at HR.out hlk
   obtain⟨k0,k1,k2,k3,k4⟩:=hc _ HS.out.below
   have HOX:=aA (HOK.out l[k] (List.getElem_mem kl))
   have HTX:=aA (HT.out l[k] (List.getElem_mem kl))
   have HE:=aA (blks_take l k l[k] hlk)
   generalize l[k]=y at k0 k1 k2 k3 k4 HOX HTX HE
   obtain⟨⟨E1,f1,y1⟩,⟨E2,f2,y2⟩,⟨E3,f3,y3⟩,⟨E4,f4,y4⟩,⟨E5,f5,y5⟩⟩:=y
   clear hc hlk kl
   go_upto_region 7 with(refine wl_storeC rfl rfl (HS.out.alloc _ _) 0 rfl (vs:=[.slice E1 y1.length f1,.slice E2 y2.length f2,.slice E3 y3.length f3,.slice E4 y4.length f4,.slice E5 y5.length f5]) szSigned (Nat.le_refl _) rfl rfl fE ?_;intro w5 hS5;have HS5:=aA hS5;clear hS5)
   have q0:_=some (Value.slice E1 y1.length f1):=HS5.out.cell 0 rfl 0
   have q1:_=some (Value.slice E2 y2.length f2):=HS5.out.cell 0 rfl 1
   have q2:_=some (Value.slice E3 y3.length f3):=HS5.out.cell 0 rfl 2
   have q3:_=some (Value.slice E4 y4.length f4):=HS5.out.cell 0 rfl 3
   have q4:_=some (Value.slice E5 y5.length f5):=HS5.out.cell 0 rfl 4
   have HW:=aA (wblock_any (H:=[.cells wr.heap.size #[.slice E1 y1.length f1,.slice E2 y2.length f2,.slice E3 y3.length f3,.slice E4 y4.length f4,.slice E5 y5.length f5] 32,.cells w.heap.size #[.slice A1 m1 c1,.slice (some ⟨b,o,none⟩) n c,.slice A2 m2 c2,.slice A3 m3 c3] 26]) g v _ E1 E2 E3 E4 E5 y1.length y2.length y3.length y4.length y5.length f1 f2 f3 f4 f5 y1 y2 y3 y4 y5 rfl (Nat.le_trans HTX.out.1 Bz) HOX.out.b rfl (Nat.le_trans HTX.out.2.1 Bz) HOX.out.n rfl (Nat.le_trans HTX.out.2.2.1 Bz) HOX.out.s rfl (Nat.le_trans HTX.out.2.2.2.1 Bz) HOX.out.k rfl (Nat.le_trans HTX.out.2.2.2.2 Bz) HOX.out.v (Nat.le_trans (HB.out k) Bz) (HS5.out.perm ((List.Perm.swap _ _ _).trans (List.Perm.cons _ (List.Perm.swap _ _ _)))))
   clear k0 k1 k2 k3 k4 HOX HTX
   go_wp2_with (go_at_call 59;(with_reducible refine HW.out.mono ?_);rintro e w6 ⟨rfl,v6,hS6⟩;have HS6:=aA hS6;clear hS6)
   have HS7:Hid (St w NoB w6 (bU g 0 v6 (blksL ((l.take (k+1)).map Sg.p)) [.cells w.heap.size #[.slice A1 m1 c1,.slice (some ⟨b,o,none⟩) n c,.slice A2 m2 c2,.slice A3 m3 c3] 26])):=aA (by rw[HE.out];exact St.cut [_,_] _ _ HS6.out)
   go_roundw
   case rel=>exact⟨k+1,v6,An,Cg,HS7⟩
   case measure=>(simp[intOf])<;>omega
  ·obtain rfl:k=n:=by omega
   have e0:decide ((k:Int)<(k:Int))=false:=B0
   have e0':decide (k<k)=false:=B0
   rw[List.take_of_length_le Dp] at HS
   have hb:=HB.out k
   rw[List.take_of_length_le Dp] at hb
   generalize blksL (l.map Sg.p)=bl at *
   have hbs:(bl++someL 2 l2).length≤65536:=by
    have:=HLL.out
    have h2:=HQ.out
    rw[←this,List.length_append] at h2
    have:=HQ2.out
    omega
   have HW2:=aA (wsome_any g 0 v bl 2 A2 c2 l2 An (by rw[HL2.out];exact Nat.le_trans HM2.out Bz) (by rw[HL2.out];exact HR2.out.rdH) HS.out)
   rw[HL2.out] at HW2
   have t2:_=some (Value.slice A2 m2 c2):=HS.out.cell 2 rfl 2
   have M0:=True.intro
   go_wp2_with (first
    |(clear M2;go_at_call 61;have HB4:=aA ((bytes_any g v4 L (by rw[HQ.out];exact Nat.le_trans HQ2.out Bz) (HS4.out.cell 0 rfl 0) (HS4.out.rd 1 rfl)).mono fun _ _ h=>bn_of HQ.out h);(with_reducible refine HB4.out.mono ?_);rintro e w5 ⟨A6,c6,rfl,hb,ho⟩;have HS5:=aA (HS4.out.row hb ho);have t5:_=some (Value.int .i64 0):=HS5.out.cell 1 rfl 1;have d5:decide ((65536:Int)<(q:Int))=false:=(by have:=HQ2.out;simp;omega);clear hb ho;have M3:=True.intro)
    |(clear M1;go_at_call 60;have HW3:=aA (wsome_any g 0 v3 (bl++someL 2 l2) 3 A3 c3 l3 An (by rw[HL3.out];exact Nat.le_trans HM3.out Bz) (by rw[HL3.out];exact HR3.out.rdH) HS3.out);rw[HL3.out,HLL.out] at HW3;(with_reducible refine HW3.out.mono ?_);rintro e w4 ⟨rfl,v4,hS4⟩;have HS4:=aA hS4;clear hS4;have M2:=True.intro)
    |(clear M0;go_at_call 60;(with_reducible refine HW2.out.mono ?_);rintro e w3 ⟨rfl,v3,hS3⟩;have HS3:=aA hS3;clear hS3;have t3:_=some (Value.slice A3 m3 c3):=HS3.out.cell 2 rfl 3;have M1:=True.intro))
   go_ret2
   exact⟨A6,c6,rfl,HS5.out.below,HS5.out.ownsRow 0 rfl⟩
end Go.Proofs.YtnohmgpmmhlloaaGreatDoor.S6
namespace Go.Proofs.YtnohmgpmmhlloaaGreatDoor
open Go.RowKit
theorem mulV_32 {l:List UInt8}(h:l.length=32):mulV l=bval l:=by
 unfold mulV
 rw[List.take_of_length_le An]
theorem lq_eq:S3.Lq=Lq:=by
 unfold S3.Lq Lq
 rfl
theorem sig_take (s m:List UInt8):(sigL s m).take 32=firstL s m:=by
 unfold sigL
 exact List.take_left' (firstL_len s m)
theorem sig_drop (s m:List UInt8):(sigL s m).drop 32=S3.madL (sumS (firstL s m++(cA s++m))) (keyA s) (sumS (keyP s++m)):=by
 unfold sigL
 exact List.drop_left' (firstL_len s m)
theorem sig_right (s m:List UInt8):dX (cA s) m (sigL s m)=true:=by
 have hp:cB (cA s)=some (tmE Bp (mulV (keyA s))):=from_pack _
 rw[ver_right hp (eW s m) (by rw[sig_drop];exact S3.may_madL _ _ _)]
 unfold rightL
 rw[sig_take,sig_drop,mulV_32 (S3.madL_len _ _ _),S3.bval_madL,lq_eq,tmE_mod,tmE_add]
 refine decide_eq_true ?_
 show _=packL (tmE Bp (mulV (sumS (keyP s++m))))
 congr 1
 rw[mulV_32 (keyA_len s),mulV_32 (fO (firstL s m++(cA s++m))),mulV_32 (fO (keyP s++m)),←tmE_mul,Nat.mul_comm (bval (keyA s)),ed_comm (tmE Bp (_*_)),ed_back]
noncomputable def blkOK (by_:List UInt8)(first:Bool)(x:Sp):Bool:=dX by_ x.msg x.s&&(decide (x.k.length+x.v.length=0)||(!first&&dX x.k (x.b++by_) x.v))
noncomputable def verF:List UInt8→Bool→List Sp→Nat
 | _,_,[]=>0
 | by_,first,x::l=>if 65536<x.b.length then 1 else if blkOK by_ first x=true then verF x.n false l else 9
noncomputable def endOK (p:Tp)(x:Sp):Bool:=if 0<p.e.length then decide (p.z.length=0)&&(decide (p.e.length=32)&&decide (cA p.e=x.n)) else dX x.n x.fin p.z
noncomputable def verT (p:Tp):Nat:=match p.l.getLast? with
 | none=>1
 | some z=>if 8<p.l.length then 4 else if verF p.r true p.l≠0 then verF p.r true p.l else if endOK p z=true then 0 else 9
structure Good (p:Tp):Prop where
 e:p.e.length=32
 z:p.z=[]
 last:∃z,p.l.getLast?=some z∧z.n=cA p.e
 ver:verF p.r true p.l=0
theorem blk_sign (y nx:List UInt8)(x:Sp)(first:Bool)(h:(x.k.length+x.v.length=0)∨(first=false∧dX x.k (x.b++cA y) x.v=true)):blkOK (cA y) first (signK y nx x)=true:=by
 obtain⟨b,n,s,k,v⟩:=x
 unfold blkOK signK
 show(dX (cA y) (b++(v++cA nx)) (sigL y (b++(v++cA nx)))&&(decide (k.length+v.length=0)||(!first&&dX k (b++cA y) v)))=true
 rw[sig_right,Bool.true_and]
 rcases h with h|⟨h1,h2⟩
 ·rw[decide_eq_true (show k.length+v.length=0 from h),Bool.true_or]
 ·subst h1
  rw[show dX k (b++cA y) v=true from h2]
  exact Bool.or_true _
theorem good_issue (y nx b:List UInt8)(hy:y.length=32)(hx:nx.length=32)(hb:b.length≤65536):Good (issueK y nx b):=by
 refine⟨hx,rfl,⟨_,rfl,rfl⟩,?_⟩
 show(if 65536<b.length then 1 else if blkOK (cA y) true (signK y nx ⟨b,[],[],[],[]⟩)=true then 0 else 9)=0
 rw[if_neg An,if_pos (blk_sign y nx _ true (.inl rfl))]
theorem blkOK_eq (y:List UInt8)(f:Bool)(l1 l2 l3 l4 l5:List UInt8):blkOK y f ⟨l1,l2,l3,l4,l5⟩=(dX y (l1++(l5++l2)) l3&&(decide (l4.length+l5.length=0)||(!f&&dX l4 (l1++y) l5))):=rfl
theorem right_core (A1 A2 A3 A4 A5:Option Addr)(n1 n2 n3 n4 n5 c1 c2 c3 c4 c5:Nat)(l1 l2 l3 l4 l5:List UInt8)(Ab:Option Addr)(nb cb:Nat)(yb:List UInt8)(fs:Bool)(w:World)(hl1:l1.length=n1)(hn1:n1≤60000)(hr1:Rd w (.slice A1 n1 c1) 1 n1 (bvs l1))(hl2:l2.length=n2)(hn2:n2≤900)(hr2:Rd w (.slice A2 n2 c2) 1 n2 (bvs l2))(hl3:l3.length=n3)(hn3:n3≤900)(hr3:Rd w (.slice A3 n3 c3) 1 n3 (bvs l3))(hl4:l4.length=n4)(hn4:n4≤900)(hr4:Rd w (.slice A4 n4 c4) 1 n4 (bvs l4))(hl5:l5.length=n5)(hn5:n5≤900)(hr5:Rd w (.slice A5 n5 c5) 1 n5 (bvs l5))(hlb:yb.length=nb)(hnb:nb≤900)(hrb:Rd w (.slice Ab nb cb) 1 nb (bvs yb)) :
  Calls Tryz.prog 70 #[.agg #[.slice A1 n1 c1,.slice A2 n2 c2,.slice A3 n3 c3,.slice A4 n4 c4,.slice A5 n5 c5],.slice Ab nb cb,.bool fs] w fun e w'=>e=.returned (.bool (blkOK yb fs ⟨l1,l2,l3,l4,l5⟩))∧Below w.heap.size w w':=by
 have HS:=aA ((St.init w NoB).alloc #[.slice A1 n1 c1,.slice A2 n2 c2,.slice A3 n3 c3,.slice A4 n4 c4,.slice A5 n5 c5] 32)
 have HL1:=aA hl1
 have HR1:=aA hr1
 have HL2:=aA hl2
 have HR2:=aA hr2
 have HL3:=aA hl3
 have HR3:=aA hr3
 have HL4:=aA hl4
 have HR4:=aA hr4
 have HL5:=aA hl5
 have HR5:=aA hr5
 have HLB:=aA hlb
 have HRB:=aA hrb
 have HM:=aA (dK hl1 hl5 hl2)
 have HM2:=aA (len_add hl1 hlb)
 have hbk:=blkOK_eq yb fs l1 l2 l3 l4 l5
 clear hl1 hr1 hl2 hr2 hl3 hr3 hl4 hr4 hl5 hr5 hlb hrb
 cases b1:dX yb (l1++(l5++l2)) l3 with
 | false =>
  rw[b1,Bool.false_and] at hbk
  rw[hbk]
  have B1:=aA b1
  clear b1 hbk
  go_enter Tryz.func70,Tryz.ntmps70
  go_upto_region 1 with fail
  generalize World.alloc w _=wb at HS ⊢
  refine aD [(0,1),(1,0),(3,1),(4,0),(2,2),(5,2),(6,1)] Bt Bt (fun _ _ _ _ h=>h) ?_
  have HS:=aA HS.out.drew
  generalize wb.drew=wc at HS ⊢
  have t1:_=some (Value.slice A1 n1 c1):=HS.out.cell 0 rfl 0
  have t2:_=some (Value.slice A2 n2 c2):=HS.out.cell 0 rfl 1
  have t3:_=some (Value.slice A3 n3 c3):=HS.out.cell 0 rfl 2
  have t4:_=some (Value.slice A4 n4 c4):=HS.out.cell 0 rfl 3
  have t5:_=some (Value.slice A5 n5 c5):=HS.out.cell 0 rfl 4
  have M0:=True.intro
  go_wp2_with (first
   |(clear M1;go_at_call 12;(with_reducible refine(eL _ _ _ _ _ _ _ _ _ _ _ _ _ HLB.out HM.out HL3.out An An (HRB.out.below HS.out.below) (HS.out.rd 0 rfl) (HR3.out.below HS.out.below)).mono ?_);rintro e wv ⟨rfl,hb⟩;rw[B1.out];have HS:=aA (HS.out.call hb);have t1:_=some (Value.slice A1 n1 c1):=HS.out.cell 1 rfl 0;have t4:_=some (Value.slice A4 n4 c4):=HS.out.cell 1 rfl 3;have t5:_=some (Value.slice A5 n5 c5):=HS.out.cell 1 rfl 4;have M2:=True.intro)
   |(clear M0;go_at_call 73;(with_reducible refine(eD _ _ _ _ _ _ _ _ _ _ _ _ _ _ _ _ _ _ _ _ _ HL1.out An (HR1.out.below HS.out.below) HL2.out An (HR2.out.below HS.out.below) HL3.out An (HR3.out.below HS.out.below) HL4.out An (HR4.out.below HS.out.below) HL5.out An (HR5.out.below HS.out.below)).mono ?_);rintro e wy ⟨Bm,dm,rfl,hb,ho⟩;have HS:=aA (HS.out.row hb ho);clear ho;have M1:=True.intro)
   |(refine wpT_nil ?_)|((with_reducible refine fromT_refl ?_);(try refine nm ?_))|((with_reducible refine aE Df ?_);(try refine nm ?_))|(refine aI (v:=?_) rfl rfl ?_ ?_;rotate_left;(intro wx;go_simp;try go_bits)<;>(with_reducible rfl);(try refine nm ?_))|(refine aK (v:=?_) rfl rfl rfl ?_ ?_;rotate_left;(go_simp;try go_bits)<;>(with_reducible rfl);(try refine nm ?_))|(refine aL (v:=?_) rfl rfl ?_ ?_;rotate_left;(intro wx hx;go_simp;try go_bits)<;>(with_reducible rfl);(try refine nm ?_))|(refine aM rfl rfl ?_;intro K hK)|(refine wpT_late rfl rfl ?_;intro K hK)|(refine wpT_any rfl rfl ?_;intro K hK)|(refine wpT_skip rfl rfl ?_;(try refine nm ?_)))
  go_ret
  exact⟨rfl,HS.out.below⟩
 | true =>
  rw[b1,Bool.true_and] at hbk
  have B1:=aA b1
  clear b1
  by_cases h0:n4+n5=0
  ·rw[decide_eq_true (show l4.length+l5.length=0 by rw[HL4.out,HL5.out];exact h0),Bool.true_or] at hbk
   rw[hbk]
   clear hbk
   have d0:(((n4:Int)+(n5:Int))==0)=true:=A9
   have d0':decide ((n4:Int)+(n5:Int)=0)=true:=A9
   go_enter Tryz.func70,Tryz.ntmps70
   go_upto_region 1 with fail
   generalize World.alloc w _=wb at HS ⊢
   refine aD [(0,1),(1,0),(3,1),(4,0),(2,2),(5,2),(6,1)] Bt Bt (fun _ _ _ _ h=>h) ?_
   have HS:=aA HS.out.drew
   generalize wb.drew=wc at HS ⊢
   have t1:_=some (Value.slice A1 n1 c1):=HS.out.cell 0 rfl 0
   have t2:_=some (Value.slice A2 n2 c2):=HS.out.cell 0 rfl 1
   have t3:_=some (Value.slice A3 n3 c3):=HS.out.cell 0 rfl 2
   have t4:_=some (Value.slice A4 n4 c4):=HS.out.cell 0 rfl 3
   have t5:_=some (Value.slice A5 n5 c5):=HS.out.cell 0 rfl 4
   have M0:=True.intro
   go_wp2_with (first
   |(clear M1;go_at_call 12;(with_reducible refine(eL _ _ _ _ _ _ _ _ _ _ _ _ _ HLB.out HM.out HL3.out An An (HRB.out.below HS.out.below) (HS.out.rd 0 rfl) (HR3.out.below HS.out.below)).mono ?_);rintro e wv ⟨rfl,hb⟩;rw[B1.out];have HS:=aA (HS.out.call hb);have t1:_=some (Value.slice A1 n1 c1):=HS.out.cell 1 rfl 0;have t4:_=some (Value.slice A4 n4 c4):=HS.out.cell 1 rfl 3;have t5:_=some (Value.slice A5 n5 c5):=HS.out.cell 1 rfl 4;have M2:=True.intro)
   |(clear M0;go_at_call 73;(with_reducible refine(eD _ _ _ _ _ _ _ _ _ _ _ _ _ _ _ _ _ _ _ _ _ HL1.out An (HR1.out.below HS.out.below) HL2.out An (HR2.out.below HS.out.below) HL3.out An (HR3.out.below HS.out.below) HL4.out An (HR4.out.below HS.out.below) HL5.out An (HR5.out.below HS.out.below)).mono ?_);rintro e wy ⟨Bm,dm,rfl,hb,ho⟩;have HS:=aA (HS.out.row hb ho);clear ho;have M1:=True.intro)
   |(refine wpT_nil ?_)|((with_reducible refine fromT_refl ?_);(try refine nm ?_))|((with_reducible refine aE Df ?_);(try refine nm ?_))|(refine aI (v:=?_) rfl rfl ?_ ?_;rotate_left;(intro wx;go_simp;try go_bits)<;>(with_reducible rfl);(try refine nm ?_))|(refine aK (v:=?_) rfl rfl rfl ?_ ?_;rotate_left;(go_simp;try go_bits)<;>(with_reducible rfl);(try refine nm ?_))|(refine aL (v:=?_) rfl rfl ?_ ?_;rotate_left;(intro wx hx;go_simp;try go_bits)<;>(with_reducible rfl);(try refine nm ?_))|(refine aM rfl rfl ?_;intro K hK)|(refine wpT_late rfl rfl ?_;intro K hK)|(refine wpT_any rfl rfl ?_;intro K hK)|(refine wpT_skip rfl rfl ?_;(try refine nm ?_)))
   go_ret
   exact⟨rfl,HS.out.below⟩
  ·rw[decide_eq_false (show ¬l4.length+l5.length=0 by rw[HL4.out,HL5.out];exact h0),Bool.false_or] at hbk
   have d0:(((n4:Int)+(n5:Int))==0)=false:=A9
   have d0':decide ((n4:Int)+(n5:Int)=0)=false:=A9
   cases fs with
   | true =>
    rw[hbk]
    clear hbk
    go_enter Tryz.func70,Tryz.ntmps70
    go_upto_region 1 with fail
    generalize World.alloc w _=wb at HS ⊢
    refine aD [(0,1),(1,0),(3,1),(4,0),(2,2),(5,2),(6,1)] Bt Bt (fun _ _ _ _ h=>h) ?_
    have HS:=aA HS.out.drew
    generalize wb.drew=wc at HS ⊢
    have t1:_=some (Value.slice A1 n1 c1):=HS.out.cell 0 rfl 0
    have t2:_=some (Value.slice A2 n2 c2):=HS.out.cell 0 rfl 1
    have t3:_=some (Value.slice A3 n3 c3):=HS.out.cell 0 rfl 2
    have t4:_=some (Value.slice A4 n4 c4):=HS.out.cell 0 rfl 3
    have t5:_=some (Value.slice A5 n5 c5):=HS.out.cell 0 rfl 4
    have M0:=True.intro
    go_upto_region 5 with(first
   |(clear M1;go_at_call 12;(with_reducible refine(eL _ _ _ _ _ _ _ _ _ _ _ _ _ HLB.out HM.out HL3.out An An (HRB.out.below HS.out.below) (HS.out.rd 0 rfl) (HR3.out.below HS.out.below)).mono ?_);rintro e wv ⟨rfl,hb⟩;rw[B1.out];have HS:=aA (HS.out.call hb);have t1:_=some (Value.slice A1 n1 c1):=HS.out.cell 1 rfl 0;have t4:_=some (Value.slice A4 n4 c4):=HS.out.cell 1 rfl 3;have t5:_=some (Value.slice A5 n5 c5):=HS.out.cell 1 rfl 4;have M2:=True.intro)
   |(clear M0;go_at_call 73;(with_reducible refine(eD _ _ _ _ _ _ _ _ _ _ _ _ _ _ _ _ _ _ _ _ _ HL1.out An (HR1.out.below HS.out.below) HL2.out An (HR2.out.below HS.out.below) HL3.out An (HR3.out.below HS.out.below) HL4.out An (HR4.out.below HS.out.below) HL5.out An (HR5.out.below HS.out.below)).mono ?_);rintro e wy ⟨Bm,dm,rfl,hb,ho⟩;have HS:=aA (HS.out.row hb ho);clear ho;have M1:=True.intro)
   |(refine wpT_nil ?_)|((with_reducible refine fromT_refl ?_);(try refine nm ?_))|((with_reducible refine aE Df ?_);(try refine nm ?_))|(refine aI (v:=?_) rfl rfl ?_ ?_;rotate_left;(intro wx;go_simp;try go_bits)<;>(with_reducible rfl);(try refine nm ?_))|(refine aK (v:=?_) rfl rfl rfl ?_ ?_;rotate_left;(go_simp;try go_bits)<;>(with_reducible rfl);(try refine nm ?_))|(refine aL (v:=?_) rfl rfl ?_ ?_;rotate_left;(intro wx hx;go_simp;try go_bits)<;>(with_reducible rfl);(try refine nm ?_))|(refine aM rfl rfl ?_;intro K hK)|(refine wpT_late rfl rfl ?_;intro K hK)|(refine wpT_any rfl rfl ?_;intro K hK)|(refine wpT_skip rfl rfl ?_;(try refine nm ?_)))
    refine aD [(0,1),(1,1),(2,1),(3,1),(4,0),(5,1),(6,0),(7,1),(10,1),(11,0),(8,2),(9,2),(12,2),(13,1),(14,1)] Bt Bt (fun _ _ _ _ h=>h) ?_
    have HS:=aA HS.out.drew
    go_wp2_with (first|(refine wpT_nil ?_)|((with_reducible refine fromT_refl ?_);(try refine nm ?_))|((with_reducible refine aE Df ?_);(try refine nm ?_))|(refine aI (v:=?_) rfl rfl ?_ ?_;rotate_left;(intro wx;go_simp;try go_bits)<;>(with_reducible rfl);(try refine nm ?_))|(refine aK (v:=?_) rfl rfl rfl ?_ ?_;rotate_left;(go_simp;try go_bits)<;>(with_reducible rfl);(try refine nm ?_))|(refine aL (v:=?_) rfl rfl ?_ ?_;rotate_left;(intro wx hx;go_simp;try go_bits)<;>(with_reducible rfl);(try refine nm ?_))|(refine aM rfl rfl ?_;intro K hK)|(refine wpT_late rfl rfl ?_;intro K hK)|(refine wpT_any rfl rfl ?_;intro K hK)|(refine wpT_skip rfl rfl ?_;(try refine nm ?_)))
    go_ret
    exact⟨rfl,HS.out.below⟩
   | false =>
    rw[hbk]
    clear hbk
    obtain⟨b2,hb2⟩:∃b,b=dX l4 (l1++yb) l5:=⟨_,rfl⟩
    rw[←hb2]
    have B2:=aA hb2.symm
    clear hb2
    go_enter Tryz.func70,Tryz.ntmps70
    go_upto_region 1 with fail
    generalize World.alloc w _=wb at HS ⊢
    refine aD [(0,1),(1,0),(3,1),(4,0),(2,2),(5,2),(6,1)] Bt Bt (fun _ _ _ _ h=>h) ?_
    have HS:=aA HS.out.drew
    generalize wb.drew=wc at HS ⊢
    have t1:_=some (Value.slice A1 n1 c1):=HS.out.cell 0 rfl 0
    have t2:_=some (Value.slice A2 n2 c2):=HS.out.cell 0 rfl 1
    have t3:_=some (Value.slice A3 n3 c3):=HS.out.cell 0 rfl 2
    have t4:_=some (Value.slice A4 n4 c4):=HS.out.cell 0 rfl 3
    have t5:_=some (Value.slice A5 n5 c5):=HS.out.cell 0 rfl 4
    have M0:=True.intro
    go_upto_region 5 with(first
   |(clear M1;go_at_call 12;(with_reducible refine(eL _ _ _ _ _ _ _ _ _ _ _ _ _ HLB.out HM.out HL3.out An An (HRB.out.below HS.out.below) (HS.out.rd 0 rfl) (HR3.out.below HS.out.below)).mono ?_);rintro e wv ⟨rfl,hb⟩;rw[B1.out];have HS:=aA (HS.out.call hb);have t1:_=some (Value.slice A1 n1 c1):=HS.out.cell 1 rfl 0;have t4:_=some (Value.slice A4 n4 c4):=HS.out.cell 1 rfl 3;have t5:_=some (Value.slice A5 n5 c5):=HS.out.cell 1 rfl 4;have M2:=True.intro)
   |(clear M0;go_at_call 73;(with_reducible refine(eD _ _ _ _ _ _ _ _ _ _ _ _ _ _ _ _ _ _ _ _ _ HL1.out An (HR1.out.below HS.out.below) HL2.out An (HR2.out.below HS.out.below) HL3.out An (HR3.out.below HS.out.below) HL4.out An (HR4.out.below HS.out.below) HL5.out An (HR5.out.below HS.out.below)).mono ?_);rintro e wy ⟨Bm,dm,rfl,hb,ho⟩;have HS:=aA (HS.out.row hb ho);clear ho;have M1:=True.intro)
   |(refine wpT_nil ?_)|((with_reducible refine fromT_refl ?_);(try refine nm ?_))|((with_reducible refine aE Df ?_);(try refine nm ?_))|(refine aI (v:=?_) rfl rfl ?_ ?_;rotate_left;(intro wx;go_simp;try go_bits)<;>(with_reducible rfl);(try refine nm ?_))|(refine aK (v:=?_) rfl rfl rfl ?_ ?_;rotate_left;(go_simp;try go_bits)<;>(with_reducible rfl);(try refine nm ?_))|(refine aL (v:=?_) rfl rfl ?_ ?_;rotate_left;(intro wx hx;go_simp;try go_bits)<;>(with_reducible rfl);(try refine nm ?_))|(refine aM rfl rfl ?_;intro K hK)|(refine wpT_late rfl rfl ?_;intro K hK)|(refine wpT_any rfl rfl ?_;intro K hK)|(refine wpT_skip rfl rfl ?_;(try refine nm ?_)))
    refine aD [(0,1),(1,1),(2,1),(3,1),(4,0),(5,1),(6,0),(7,1),(10,1),(11,0),(8,2),(9,2),(12,2),(13,1),(14,1)] Bt Bt (fun _ _ _ _ h=>h) ?_
    have HS:=aA HS.out.drew
    clear t1 t2 t3 t4 t5 M2
    generalize wv.drew=wd at HS ⊢
    have t1:_=some (Value.slice A1 n1 c1):=HS.out.cell 1 rfl 0
    have t4:_=some (Value.slice A4 n4 c4):=HS.out.cell 1 rfl 3
    have t5:_=some (Value.slice A5 n5 c5):=HS.out.cell 1 rfl 4
    have hbA:=(Below.refl wd.heap.size wd).alloc (Nat.le_refl _) (.cells #[.slice A1 n1 c1,.slice Ab nb cb] 22)
    have M0:=True.intro
    go_wp2_with (first
     |(clear M1;go_at_call 12;(with_reducible refine(eL _ _ _ _ _ _ _ _ _ _ _ _ _ HL4.out HM2.out HL5.out An An (HR4.out.below HS.out.below) (HS.out.rd 0 rfl) (HR5.out.below HS.out.below)).mono ?_);rintro e wz ⟨rfl,hb⟩;rw[B2.out];have HS:=aA (HS.out.call hb);have M2:=True.intro)
     |(clear M0;go_at_call 50;(with_reducible refine(concat2 _ HL1.out HLB.out An (HR1.out.below HS.out.below) (HRB.out.below HS.out.below)).mono ?_);rintro e wy2 ⟨Bm2,dm2,rfl,hb,ho⟩;have HS:=aA ((HS.out.skip _).row hb ho);clear ho;have M1:=True.intro)
     |(refine wpT_nil ?_)|((with_reducible refine fromT_refl ?_);(try refine nm ?_))|((with_reducible refine aE Df ?_);(try refine nm ?_))|(refine aI (v:=?_) rfl rfl ?_ ?_;rotate_left;(intro wx;go_simp;try go_bits)<;>(with_reducible rfl);(try refine nm ?_))|(refine aK (v:=?_) rfl rfl rfl ?_ ?_;rotate_left;(go_simp;try go_bits)<;>(with_reducible rfl);(try refine nm ?_))|(refine aL (v:=?_) rfl rfl ?_ ?_;rotate_left;(intro wx hx;go_simp;try go_bits)<;>(with_reducible rfl);(try refine nm ?_))|(refine aM rfl rfl ?_;intro K hK)|(refine wpT_late rfl rfl ?_;intro K hK)|(refine wpT_any rfl rfl ?_;intro K hK)|(refine wpT_skip rfl rfl ?_;(try refine nm ?_)))
    go_ret
    exact⟨rfl,HS.out.below⟩
theorem beq_dec8 (a b:List UInt8):(a==b)=decide (a=b):=by
 by_cases h:a=b
 ·subst h;simp
 ·rw[decide_eq_false h];simpa using h
theorem ends_core (A1 A2 A3 A:Option Addr)(m1 m2 m3 n c1 c2 c3 c:Nat)(l1 l2 l3:List UInt8)(l:List Sg)(w:World)(hl2:l2.length=m2)(hl3:l3.length=m3)(hn:n≤100)(hm2:m2≤900)(hm3:m3≤900)
  (hr2:Rd w (.slice A2 m2 c2) 1 m2 (bvs l2))(hr3:Rd w (.slice A3 m3 c3) 1 m3 (bvs l3))(hr:Rd w (.slice A (n+1) c) 5 (n+1) (aN l))(z:Sg)(hz:l[n]?=some z)(hok:SgOK w z)(hs:z.b.b.length≤60000∧z.n.b.length≤900∧z.s.b.length≤900∧z.k.b.length≤900∧z.v.b.length≤900) :
  Calls Tryz.prog 71 #[.agg #[.slice A1 m1 c1,.slice A (n+1) c,.slice A2 m2 c2,.slice A3 m3 c3]] w fun e w'=>e=.returned (.bool (endOK ⟨l1,l.map Sg.p,l2,l3⟩ z.p))∧Below w.heap.size w w':=by
 have HS:=aA ((St.init w NoB).alloc #[.slice A1 m1 c1,.slice A (n+1) c,.slice A2 m2 c2,.slice A3 m3 c3] 26)
 obtain⟨b,o,rfl,hb8,hc⟩:=sg_at hr hz
 obtain⟨⟨E1,f1,y1⟩,⟨E2,f2,y2⟩,⟨E3,f3,y3⟩,⟨E4,f4,y4⟩,⟨E5,f5,y5⟩⟩:=z
 obtain⟨k0,k1,k2,k3,k4⟩:=hc _ HS.out.below
 obtain⟨b1,b2,b3,b4,b5⟩:=(show y1.length≤60000∧y2.length≤900∧y3.length≤900∧y4.length≤900∧y5.length≤900 from hs)
 have HE1:Hid (Rd w (.slice E1 y1.length f1) 1 y1.length (bvs y1)):=aA hok.b
 have HE2:Hid (Rd w (.slice E2 y2.length f2) 1 y2.length (bvs y2)):=aA hok.n
 have HE3:Hid (Rd w (.slice E3 y3.length f3) 1 y3.length (bvs y3)):=aA hok.s
 have HE4:Hid (Rd w (.slice E4 y4.length f4) 1 y4.length (bvs y4)):=aA hok.k
 have HE5:Hid (Rd w (.slice E5 y5.length f5) 1 y5.length (bvs y5)):=aA hok.v
 have HR2:=aA hr2
 have HR3:=aA hr3
 have HL2:=aA hl2
 have HL3:=aA hl3
 have hE:endOK ⟨l1,l.map Sg.p,l2,l3⟩ (Sg.p ⟨⟨E1,f1,y1⟩,⟨E2,f2,y2⟩,⟨E3,f3,y3⟩,⟨E4,f4,y4⟩,⟨E5,f5,y5⟩⟩)=if 0<l2.length then decide (l3.length=0)&&(decide (l2.length=32)&&decide (cA l2=y2)) else dX y2 (y1++(y2++y3)) l3:=rfl
 rw[hl2,hl3] at hE
 clear hc hr2 hr3 hr hz hok hs hl2 hl3
 have t1:_=some (Value.slice (some ⟨b,o,none⟩) (n+1) c):=HS.out.cell 0 rfl 1
 have en:((n+1:Nat):Int) - 1=(n:Int):=An
 have en2:(n:Int)+1 - 1=(n:Int):=An
 have nn:(n:Int)<(n:Int)+1:=An
 have nn2:n<n+1:=An
 have nn3:decide ((n:Int)<(n:Int)+1)=true:=A9
 have nn4:decide (n<n+1)=true:=B0
 generalize he:endOK ⟨l1,l.map Sg.p,l2,l3⟩ (Sg.p ⟨⟨E1,f1,y1⟩,⟨E2,f2,y2⟩,⟨E3,f3,y3⟩,⟨E4,f4,y4⟩,⟨E5,f5,y5⟩⟩)=eb at hE ⊢
 clear he
 have HEB:=aA hE
 clear hE
 go_enter Tryz.func71,Tryz.ntmps71
 go_upto_region 2 with fail
 have hS5:=HS.out.alloc #[.slice E1 y1.length f1,.slice E2 y2.length f2,.slice E3 y3.length f3,.slice E4 y4.length f4,.slice E5 y5.length f5] 32
 rw[size_alloc1] at hS5
 have HS5:=aA hS5
 clear hS5
 generalize World.alloc (World.alloc w _) _=w5 at HS5 ⊢
 clear HS t1 k0 k1 k2 k3 k4 hb8 en en2 nn nn2 nn3 nn4
 have HS:=HS5
 clear HS5
 have q2:_=some (Value.slice A2 m2 c2):=HS.out.cell 1 rfl 2
 by_cases h0:m2=0
 ·subst h0
  have hE:=HEB.out
  rw[if_neg (Nat.lt_irrefl 0)] at hE
  have HBB:=aA hE.symm
  clear HEB hE
  go_upto_region 4 with fail
  refine aD [(0,1),(1,0),(2,0),(4,1),(5,0),(3,2),(6,2),(7,1)] Bt Bt (fun _ _ _ _ h=>h) ?_
  have HS:=aA HS.out.drew
  clear q2
  generalize w5.drew=w6 at HS ⊢
  have q3:_=some (Value.slice A3 m3 c3):=HS.out.cell 1 rfl 3
  have s1:_=some (Value.slice E1 y1.length f1):=HS.out.cell 0 rfl 0
  have s2:_=some (Value.slice E2 y2.length f2):=HS.out.cell 0 rfl 1
  have s3:_=some (Value.slice E3 y3.length f3):=HS.out.cell 0 rfl 2
  have s4:_=some (Value.slice E4 y4.length f4):=HS.out.cell 0 rfl 3
  have s5:_=some (Value.slice E5 y5.length f5):=HS.out.cell 0 rfl 4
  have HM:=aA (dK (rfl:y1.length=_) (rfl:y2.length=_) (rfl:y3.length=_))
  have M0:=True.intro
  go_wp2_with (first
   |(clear M1;go_at_call 12;(with_reducible refine(eL _ _ _ _ _ _ _ _ _ _ _ _ _ rfl HM.out HL3.out An An (HE2.out.below HS.out.below) (HS.out.rd 0 rfl) (HR3.out.below HS.out.below)).mono ?_);rintro e wz ⟨rfl,hb⟩;rw[HBB.out];have HS:=aA (HS.out.call hb);have M2:=True.intro)
   |(clear M0;go_at_call 53;(with_reducible refine(sealed_core _ _ _ _ _ _ _ _ _ _ _ _ _ _ _ _ _ _ _ _ _ rfl An (HE1.out.below HS.out.below) rfl An (HE2.out.below HS.out.below) rfl An (HE3.out.below HS.out.below) rfl An (HE4.out.below HS.out.below) rfl An (HE5.out.below HS.out.below)).mono ?_);rintro e w7 ⟨Bm,dm,rfl,hb,ho⟩;have HS:=aA (HS.out.row hb ho);clear ho;have M1:=True.intro)
   |(refine wpT_nil ?_)|((with_reducible refine fromT_refl ?_);(try refine nm ?_))|((with_reducible refine aE Df ?_);(try refine nm ?_))|(refine aI (v:=?_) rfl rfl ?_ ?_;rotate_left;(intro wx;go_simp;try go_bits)<;>(with_reducible rfl);(try refine nm ?_))|(refine aK (v:=?_) rfl rfl rfl ?_ ?_;rotate_left;(go_simp;try go_bits)<;>(with_reducible rfl);(try refine nm ?_))|(refine aL (v:=?_) rfl rfl ?_ ?_;rotate_left;(intro wx hx;go_simp;try go_bits)<;>(with_reducible rfl);(try refine nm ?_))|(refine aM rfl rfl ?_;intro K hK)|(refine wpT_late rfl rfl ?_;intro K hK)|(refine wpT_any rfl rfl ?_;intro K hK)|(refine wpT_skip rfl rfl ?_;(try refine nm ?_)))
  go_ret
  exact⟨rfl,HS.out.below⟩
 ·have hE:=HEB.out
  rw[if_pos An] at hE
  clear HEB
  have g0:decide ((0:Int)<(m2:Int))=true:=A9
  have g0':decide (0<m2)=true:=A9
  go_upto_region 3 with fail
  refine aD [(0,1),(1,0),(2,1),(3,1),(4,1),(5,1),(6,0),(7,2),(8,1),(9,1),(10,1),(11,0),(13,1),(14,0),(12,2),(15,2),(16,1),(17,1)] Bt Bt (fun _ _ _ _ h=>h) ?_
  have HS:=aA HS.out.drew
  clear q2
  generalize w5.drew=w6 at HS ⊢
  have q2:_=some (Value.slice A2 m2 c2):=HS.out.cell 1 rfl 2
  have q3:_=some (Value.slice A3 m3 c3):=HS.out.cell 1 rfl 3
  have s2:_=some (Value.slice E2 y2.length f2):=HS.out.cell 0 rfl 1
  by_cases h3:m3=0
  ·subst h3
   by_cases h32:m2=32
   ·subst h32
    rw[decide_eq_true (rfl:0=0),decide_eq_true (rfl:32=32),Bool.true_and,Bool.true_and,←beq_dec8] at hE
    have HQ:=aA hE.symm
    clear hE
    have M0:=True.intro
    go_wp2_with (first
     |(clear M1;go_at_call 54;(with_reducible refine(eqB_any _ _ _ _ _ _ _ _ _ _ HQ.out (HS.out.rd 0 rfl) (HE2.out.below HS.out.below)).mono ?_);rintro e wy ⟨rfl,rfl⟩;have hb:=Below.refl w8.heap.size w8;have M2:=True.intro)
     |(clear M0;go_at_call 11;(with_reducible refine(pub_32 _ _ _ _ HL2.out (HR2.out.below HS.out.below)).mono ?_);rintro e w8 ⟨Bp,dp,rfl,hb,ho⟩;have HS:=aA (HS.out.row hb ho);clear ho;have M1:=True.intro)
     |(go_at_call 31;(with_reducible refine(seed_yes _ _ _).mono ?_);rintro e wy ⟨rfl,rfl⟩;have hb:=Below.refl w6.heap.size w6)
     |(refine wpT_nil ?_)|((with_reducible refine fromT_refl ?_);(try refine nm ?_))|((with_reducible refine aE Df ?_);(try refine nm ?_))|(refine aI (v:=?_) rfl rfl ?_ ?_;rotate_left;(intro wx;go_simp;try go_bits)<;>(with_reducible rfl);(try refine nm ?_))|(refine aK (v:=?_) rfl rfl rfl ?_ ?_;rotate_left;(go_simp;try go_bits)<;>(with_reducible rfl);(try refine nm ?_))|(refine aL (v:=?_) rfl rfl ?_ ?_;rotate_left;(intro wx hx;go_simp;try go_bits)<;>(with_reducible rfl);(try refine nm ?_))|(refine aM rfl rfl ?_;intro K hK)|(refine wpT_late rfl rfl ?_;intro K hK)|(refine wpT_any rfl rfl ?_;intro K hK)|(refine wpT_skip rfl rfl ?_;(try refine nm ?_)))
    go_ret
    exact⟨rfl,HS.out.below⟩
   ·rw[decide_eq_false h32,Bool.false_and,Bool.and_false] at hE
    subst hE
    go_wp2_with (first
     |(go_at_call 31;(with_reducible refine(seed_no _ _ _ _ h32).mono ?_);rintro e wy ⟨rfl,rfl⟩;have hb:=Below.refl w6.heap.size w6)
     |(refine wpT_nil ?_)|((with_reducible refine fromT_refl ?_);(try refine nm ?_))|((with_reducible refine aE Df ?_);(try refine nm ?_))|(refine aI (v:=?_) rfl rfl ?_ ?_;rotate_left;(intro wx;go_simp;try go_bits)<;>(with_reducible rfl);(try refine nm ?_))|(refine aK (v:=?_) rfl rfl rfl ?_ ?_;rotate_left;(go_simp;try go_bits)<;>(with_reducible rfl);(try refine nm ?_))|(refine aL (v:=?_) rfl rfl ?_ ?_;rotate_left;(intro wx hx;go_simp;try go_bits)<;>(with_reducible rfl);(try refine nm ?_))|(refine aM rfl rfl ?_;intro K hK)|(refine wpT_late rfl rfl ?_;intro K hK)|(refine wpT_any rfl rfl ?_;intro K hK)|(refine wpT_skip rfl rfl ?_;(try refine nm ?_)))
    go_ret
    exact⟨rfl,HS.out.below⟩
  ·rw[decide_eq_false h3,Bool.false_and] at hE
   subst hE
   have g3:((m3:Int)==0)=false:=A9
   have g3':decide ((m3:Int)=0)=false:=A9
   go_wp2_with (first|(refine wpT_nil ?_)|((with_reducible refine fromT_refl ?_);(try refine nm ?_))|((with_reducible refine aE Df ?_);(try refine nm ?_))|(refine aI (v:=?_) rfl rfl ?_ ?_;rotate_left;(intro wx;go_simp;try go_bits)<;>(with_reducible rfl);(try refine nm ?_))|(refine aK (v:=?_) rfl rfl rfl ?_ ?_;rotate_left;(go_simp;try go_bits)<;>(with_reducible rfl);(try refine nm ?_))|(refine aL (v:=?_) rfl rfl ?_ ?_;rotate_left;(intro wx hx;go_simp;try go_bits)<;>(with_reducible rfl);(try refine nm ?_))|(refine aM rfl rfl ?_;intro K hK)|(refine wpT_late rfl rfl ?_;intro K hK)|(refine wpT_any rfl rfl ?_;intro K hK)|(refine wpT_skip rfl rfl ?_;(try refine nm ?_)))
   go_ret
   exact⟨rfl,HS.out.below⟩
theorem verF_cons (y:List UInt8)(f:Bool)(x:Sp)(l:List Sp)(h:x.b.length≤65536):verF y f (x::l)=if blkOK y f x=true then verF x.n false l else 9:=by
 rw[verF,if_neg An]
theorem zz8 (k:Nat):((k:Int)==0)=(k==0)∧decide ((k:Int)=0)=(k==0)∧decide (k=0)=(k==0):=by
 cases k with
 | zero=>exact⟨rfl,rfl,rfl⟩
 | succ k=>exact⟨(beq_eq_false_iff_ne.2 An).trans rfl,(decide_eq_false An).trans rfl,(decide_eq_false An).trans rfl⟩
def Sp.ver (x:Sp):Prop:=x.b.length≤60000∧x.n.length≤900∧x.s.length≤900∧x.k.length≤900∧x.v.length≤900
theorem verify24_any (A1 A2 A3 A:Option Addr)(m1 m2 m3 n c1 c2 c3 c:Nat)(l1 l2 l3:List UInt8)(l:List Sg)(w:World)(hl1:l1.length=m1)(hl2:l2.length=m2)(hl3:l3.length=m3)(hl:l.length=n+1)(hn:n≤7)(hm1:m1≤900)(hm2:m2≤900)(hm3:m3≤900)
  (hr1:Rd w (.slice A1 m1 c1) 1 m1 (bvs l1))(hr2:Rd w (.slice A2 m2 c2) 1 m2 (bvs l2))(hr3:Rd w (.slice A3 m3 c3) 1 m3 (bvs l3))(hr:Rd w (.slice A (n+1) c) 5 (n+1) (aN l))(hok:∀x∈l,SgOK w x)(hs:∀x∈l,x.p.ver) :
  Calls Tryz.prog 29 #[.agg #[.slice A1 m1 c1,.slice A (n+1) c,.slice A2 m2 c2,.slice A3 m3 c3]] w fun e w'=>e=.returned (.int .i64 (verT ⟨l1,l.map Sg.p,l2,l3⟩:Nat))∧Below w.heap.size w w':=by
 have HS:=aA ((St.init w NoB).alloc #[.slice A1 m1 c1,.slice A (n+1) c,.slice A2 m2 c2,.slice A3 m3 c3] 26)
 subst hl1
 have hnl:n<l.length:=An
 have hz:l[n]?=some l[n]:=gE hnl
 have HEN:=aA (fun W (hW:Below w.heap.size w W)=>ends_core A1 A2 A3 A l1.length m2 m3 n c1 c2 c3 c l1 l2 l3 l W hl2 hl3 An hm2 hm3 (hr2.below hW) (hr3.below hW) (hr.below hW) l[n] hz ((hok _ (List.getElem_mem hnl)).on hW) (hs _ (List.getElem_mem hnl)))
 have hv:verT ⟨l1,l.map Sg.p,l2,l3⟩=if verF l1 true (l.map Sg.p)≠0 then verF l1 true (l.map Sg.p) else if endOK ⟨l1,l.map Sg.p,l2,l3⟩ l[n].p=true then 0 else 9:=by
  unfold verT
  rw[show(Tp.l ⟨l1,l.map Sg.p,l2,l3⟩).getLast?=some l[n].p from last_map hl hz]
  show(if 8<(l.map Sg.p).length then 4 else _)=_
  rw[if_neg (by rw[List.length_map];omega)]
 generalize l[n].p=zp at HEN hv
 generalize endOK ⟨l1,l.map Sg.p,l2,l3⟩ zp=eb at HEN hv
 generalize verT ⟨l1,l.map Sg.p,l2,l3⟩=res at hv ⊢
 have HV:=aA hv
 have HL:=aA hl
 have HR:=aA hr
 have HR1:=aA hr1
 have HOK:=aA hok
 have HSS:=aA hs
 have d1:(((n+1:Nat):Int)==0)=false:=A9
 have d1':decide (((n+1:Nat):Int)=0)=false:=A9
 have d2:decide ((8:Int)<((n+1:Nat):Int))=false:=A9
 have d2':decide (8<n+1)=false:=A9
 have d2b:decide ((8:Int)<(n:Int)+1)=false:=A9
 have d1b:(((n:Int)+1)==0)=false:=A9
 have d1c:decide ((n:Int)+1=0)=false:=A9
 have t0:_=some (Value.slice A1 l1.length c1):=HS.out.cell 0 rfl 0
 have t1:_=some (Value.slice A (n+1) c):=HS.out.cell 0 rfl 1
 clear hz hnl hv hl hr hl2 hl3 hr2 hr3 hok hs
 go_enter Tryz.func29,Tryz.ntmps29
 go_wp2_with fail
 go_loopw [3,21] (fun bv iv wr=>∃(k:Nat) (B:Option Addr) (d:Nat) (y:List UInt8),k≤n+1∧iv=.int .i64 (k:Int)∧bv=.slice B y.length d∧y.length≤900∧Hid (verF l1 true (l.map Sg.p)=verF y (k==0) ((l.drop k).map Sg.p))∧Hid (Rd w (.slice B y.length d) 1 y.length (bvs y))∧Hid (St w NoB wr [.cells w.heap.size #[.slice A1 l1.length c1,.slice A (n+1) c,.slice A2 m2 c2,.slice A3 m3 c3] 26])) (fun _ i _=>(n+1 - intOf i).toNat)
 case atStart=>exact⟨0,A1,c1,l1,An,rfl,rfl,hm1,rfl,aA hr1,HS⟩
 case round =>
  clear HS t0 t1 hr1
  obtain⟨k,B,d,y,hk,rfl,rfl,hy,HF,HB,HS⟩:=hrel
  by_cases hlt:k<n+1
  ·have e0:decide ((k:Int)<(n:Int)+1)=true:=by simp;omega
   have e0':decide (k<n+1)=true:=A9
   have kn:(k:Int)<(n:Int)+1:=An
   have kl:k<l.length:=Ca
   have hlk:l[k]?=some l[k]:=gE kl
   obtain⟨b,o,rfl,hb8,hc⟩:=sg_at HR.out hlk
   obtain⟨k0,k1,k2,k3,k4⟩:=hc _ HS.out.below
   have HOX:=aA (HOK.out l[k] (List.getElem_mem kl))
   have HSX:=aA (HSS.out l[k] (List.getElem_mem kl))
   have HD:=aA (show(l.drop k).map Sg.p=l[k].p::(l.drop (k+1)).map Sg.p by rw[List.drop_eq_getElem_cons kl];rfl)
   generalize l[k]=x at k0 k1 k2 k3 k4 HOX HSX HD
   rw[HD.out,verF_cons _ _ _ _ (Nat.le_trans HSX.out.1 Bz)] at HF
   obtain⟨⟨E1,f1,y1⟩,⟨E2,f2,y2⟩,⟨E3,f3,y3⟩,⟨E4,f4,y4⟩,⟨E5,f5,y5⟩⟩:=x
   obtain⟨b1,b2,b3,b4,b5⟩:=(show y1.length≤60000∧y2.length≤900∧y3.length≤900∧y4.length≤900∧y5.length≤900 from HSX.out)
   have HE1:Hid (Rd w (.slice E1 y1.length f1) 1 y1.length (bvs y1)):=aA HOX.out.b
   have HE2:Hid (Rd w (.slice E2 y2.length f2) 1 y2.length (bvs y2)):=aA HOX.out.n
   have HE3:Hid (Rd w (.slice E3 y3.length f3) 1 y3.length (bvs y3)):=aA HOX.out.s
   have HE4:Hid (Rd w (.slice E4 y4.length f4) 1 y4.length (bvs y4)):=aA HOX.out.k
   have HE5:Hid (Rd w (.slice E5 y5.length f5) 1 y5.length (bvs y5)):=aA HOX.out.v
   obtain⟨fs,hf⟩:∃b,(k==0)=b:=⟨_,rfl⟩
   obtain⟨z1,z2,z3⟩:=zz8 k
   rw[hf] at z1 z2 z3
   rw[hf] at HF
   have z4:=hf
   clear hc hlk kl HOX HSX hf
   go_upto_region 9 with(refine wl_storeC rfl rfl (HS.out.alloc _ _) 0 rfl (vs:=[.slice E1 y1.length f1,.slice E2 y2.length f2,.slice E3 y3.length f3,.slice E4 y4.length f4,.slice E5 y5.length f5]) szSigned (Nat.le_refl _) rfl rfl fE ?_;intro w5 hS5;have HS5:=aA hS5;clear hS5)
   have HS5:Hid (St w NoB w5 (.cells wr.heap.size #[.slice E1 y1.length f1,.slice E2 y2.length f2,.slice E3 y3.length f3,.slice E4 y4.length f4,.slice E5 y5.length f5] 32::.cells w.heap.size #[.slice A1 l1.length c1,.slice (some ⟨b,o,none⟩) (n+1) c,.slice A2 m2 c2,.slice A3 m3 c3] 26::[])):=HS5
   have q0:_=some (Value.slice E1 y1.length f1):=HS5.out.cell 0 rfl 0
   have q1:_=some (Value.slice E2 y2.length f2):=HS5.out.cell 0 rfl 1
   have q2:_=some (Value.slice E3 y3.length f3):=HS5.out.cell 0 rfl 2
   have q3:_=some (Value.slice E4 y4.length f4):=HS5.out.cell 0 rfl 3
   have q4:_=some (Value.slice E5 y5.length f5):=HS5.out.cell 0 rfl 4
   have HW:=aA (right_core E1 E2 E3 E4 E5 y1.length y2.length y3.length y4.length y5.length f1 f2 f3 f4 f5 y1 y2 y3 y4 y5 B y.length d y fs _ rfl An (HE1.out.below HS5.out.below) rfl An (HE2.out.below HS5.out.below) rfl An (HE3.out.below HS5.out.below) rfl An (HE4.out.below HS5.out.below) rfl An (HE5.out.below HS5.out.below) rfl An (HB.out.below HS5.out.below))
   obtain⟨bk,hbk⟩:∃b,blkOK y fs ⟨y1,y2,y3,y4,y5⟩=b:=⟨_,rfl⟩
   replace HF:Hid (verF l1 true (l.map Sg.p)=if blkOK y fs ⟨y1,y2,y3,y4,y5⟩=true then verF y2 false ((l.drop (k+1)).map Sg.p) else 9):=HF
   have g1:decide ((65536:Int)<(y1.length:Int))=false:=A9
   have g1':decide (65536<y1.length)=false:=A9
   rw[hbk] at HW HF
   clear HS hbk
   cases bk with
   | false =>
    have HR9:Hid (res=9):=aA Fg
    go_wp2_with (go_at_call 70;(with_reducible refine HW.out.mono ?_);rintro e w6 ⟨rfl,hb⟩;have HS:=aA (HS5.out.call hb);clear hb)
    go_ret
    rw[HR9.out]
    exact⟨rfl,HS.out.below⟩
   | true =>
    go_wp2_with (go_at_call 70;(with_reducible refine HW.out.mono ?_);rintro e w6 ⟨rfl,hb⟩;have HS:=aA (HS5.out.call hb);clear hb q0 q1 q2 q3 q4;have q1:_=some (Value.slice E2 y2.length f2):=HS.out.cell 0 rfl 1)
    go_roundw
    case rel=>exact⟨k+1,E2,f2,y2,An,Cg,rfl,b2,aA (by rw[HF.out,if_pos trivial];rfl),HE2,aA HS.out.tail⟩
    case measure=>(simp[intOf])<;>omega
  ·obtain rfl:k=n+1:=by omega
   have e0:decide (((n+1:Nat):Int)<(n:Int)+1)=false:=B0
   have e0a:decide ((n:Int)+1<(n:Int)+1)=false:=B0
   have e0':decide (n+1<n+1)=false:=B0
   have HR0:Hid (res=if eb=true then 0 else 9):=aA (by
    rw[HV.out,HF.out,List.drop_of_length_le Em]
    rfl)
   have t0:_=some (Value.slice A1 l1.length c1):=HS.out.cell 0 rfl 0
   have t1:_=some (Value.slice A (n+1) c):=HS.out.cell 0 rfl 1
   have t2:_=some (Value.slice A2 m2 c2):=HS.out.cell 0 rfl 2
   have t3:_=some (Value.slice A3 m3 c3):=HS.out.cell 0 rfl 3
   cases eb with
   | false =>
    have HR9:Hid (res=9):=HR0
    go_wp2_with (go_at_call 71;(with_reducible refine(HEN.out _ HS.out.below).mono ?_);rintro e w6 ⟨rfl,hb⟩;have HS:=aA (HS.out.call hb);clear hb)
    go_ret
    rw[HR9.out]
    exact⟨rfl,HS.out.below⟩
   | true =>
    have HR9:Hid (res=0):=HR0
    go_wp2_with (go_at_call 71;(with_reducible refine(HEN.out _ HS.out.below).mono ?_);rintro e w6 ⟨rfl,hb⟩;have HS:=aA (HS.out.call hb);clear hb)
    go_ret
    rw[HR9.out]
    exact⟨rfl,HS.out.below⟩
structure GN (root first:List UInt8)(i:Nat)(p:Tp):Prop where
 good:Good p
 r:p.r=root
 len:p.l.length=i+1
 fst:∃x,p.l[0]?=some x∧x.b=first
 sm:∀x∈p.l,x.b.length≤200∧x.n.length≤32∧x.s.length≤64∧x.k.length≤32∧x.v.length≤64
theorem gn_issue (y nx b:List UInt8)(hy:y.length=32)(hx:nx.length=32)(hb:b.length≤200):GN (cA y) b 0 (issueK y nx b):=by
 refine⟨good_issue y nx b hy hx An,rfl,rfl,⟨_,rfl,rfl⟩,fun x hx=>?_⟩
 obtain rfl:=List.mem_singleton.1 (show x∈[_] from hx)
 exact⟨hb,by show(cA _).length≤_;rw[cM];decide,by show(sigL _ _).length≤_;rw[eW];decide,by show 0≤_;decide,by show 0≤_;decide⟩
theorem tot_le:∀(l:List Sp),(∀x∈l,x.b.length≤200∧x.n.length≤32∧x.s.length≤64∧x.k.length≤32∧x.v.length≤64)→S6.totL l≤392*l.length
 | [],_=>by decide
 | x::l,h=>by
  have ih:=tot_le l fun y hy=>h y (mC _ hy)
  obtain⟨a,b,c,d,e⟩:=h x (List.mem_cons_self ..)
  unfold S6.totL at ih ⊢
  rw[List.map_cons,List.sum_cons,List.length_cons]
  unfold S6.spLen at ih ⊢
  omega
section
variable {w0 w : World} {M : Nat → Prop} {H : List Chunk} {p : Tp} {B1 X B2 B3 : Option Addr} {m1 d1 n x m2 d2 m3 d3 : Nat}
theorem encode_in {q:Nat}(hS:St w0 M w H)(hL:Laid H p B1 m1 d1 X n x B2 m2 d2 B3 m3 d3)(ht:S6.Tiny p)(hq:(S6.encL p).length=q)(hq2:q≤65536) :
  Calls Tryz.prog 24 #[.agg #[.slice B1 m1 d1,.slice X n x,.slice B2 m2 d2,.slice B3 m3 d3]] w (S6.EncS w q (S6.encL p)):=by
 obtain⟨zs,a1,a2,a3,a4,a5,r1,r2,r3,r4,hok⟩:=hL.open hS
 obtain⟨pr,pl,pe,pz⟩:=p
 subst a2
 have h0:0<n:=by have:=ht.n0;rw[List.length_map,a1] at this;exact this
 have h8:n≤8:=by have:=ht.n8;rw[List.length_map,a1] at this;exact this
 exact S6.encode_ok B1 B2 B3 X m1 m2 m3 n d1 d2 d3 x q pr pe pz zs w a4 a5 a1 h0 h8 (by rw[←a4];exact ht.e) (by rw[←a5];exact ht.z) (fun x hx=>ht.l _ (List.mem_map_of_mem hx)) hq hq2 r2 r3 r4 hok
end
theorem decode_inS {A Ar:Option Addr}{n c nr cr:Nat}{raw root:List UInt8}{r:Rz}{M1 N M2 M3:Nat}(w:World)(hl:raw.length=n)(hn:n≤65536)(hlr:root.length=nr)(hnr:nr≤1000000)(hr:Rd w (.slice A n c) 1 n (bvs raw))(hrr:Rd w (.slice Ar nr cr) 1 nr (bvs root))(hz:S6.decRz raw root=r)(h1:r.p.r.length=M1)(h2:r.p.l.length=N)(h3:r.p.e.length=M2)(h4:r.p.z.length=M3) :
  Calls Tryz.prog 26 #[.slice A n c,.slice Ar nr cr] w (TkS w r.c r.p M1 N M2 M3):=by
 have h:=S6.decode_any A Ar n c nr cr raw root w hl hn hlr hnr hr hrr
 rw[hz] at h
 exact h.mono fun _ _ h=>tkS_of h h1 h2 h3 h4
end Go.Proofs.YtnohmgpmmhlloaaGreatDoor
namespace Go.Proofs.YtnohmgpmmhlloaaGreatDoor.S6
open Go.RowKit
structure TkIn0 (W:World)(A1 A2 A3 A:Option Addr)(m1 m2 m3 n c1 c2 c3 c:Nat)(l1 l2 l3:List UInt8)(l:List Sg):Prop where
 h1:l1.length=m1
 h2:l2.length=m2
 h3:l3.length=m3
 h:l.length=n
 r1:Rd W (.slice A1 m1 c1) 1 m1 (bvs l1)
 r2:Rd W (.slice A2 m2 c2) 1 m2 (bvs l2)
 r3:Rd W (.slice A3 m3 c3) 1 m3 (bvs l3)
 r:Rd W (.slice A n c) 5 n (aN l)
 ok:∀x∈l,SgOK W x
theorem TkIn0.on {W W':World}{A1 A2 A3 A:Option Addr}{m1 m2 m3 n c1 c2 c3 c:Nat}{l1 l2 l3:List UInt8}{l:List Sg}(h:TkIn0 W A1 A2 A3 A m1 m2 m3 n c1 c2 c3 c l1 l2 l3 l)(hb:Below W.heap.size W W'):TkIn0 W' A1 A2 A3 A m1 m2 m3 n c1 c2 c3 c l1 l2 l3 l:=
 ⟨h.h1,h.h2,h.h3,h.h,h.r1.below hb,h.r2.below hb,h.r3.below hb,h.r.below hb,fun x hx=>(h.ok x hx).on hb⟩
inductive EncK (p:Tp):Nat→Nat→List UInt8→Prop where
 | ok (q:Nat) (ht:Tiny p) (hq:(encL p).length=q) (hq2:q≤65536):EncK p 0 q (encL p)
 | bad (h:p.l.length=0∨8<p.l.length):EncK p 1 0 []
theorem EncK.len {p:Tp}{ec q:Nat}{L:List UInt8}(h:EncK p ec q L):L.length=q∧q≤65536:=by
 cases h with
 | ok q ht hq hq2=>exact⟨hq,hq2⟩
 | bad h=>exact⟨rfl,Bz⟩
theorem dec_l8 (raw root:List UInt8):(decRz raw root).p.l.length≤8:=by
 unfold decRz
 split
 ·exact Nat.zero_le _
 ·split
  ·exact Nat.zero_le _
  ·split
   ·exact Nat.zero_le _
   ·rename_i h
    show(tkF 0 ⟨root,[],[],[]⟩ _).p.l.length≤8
    omega
theorem decodeR_inS {A Ar:Option Addr}{n c nr cr:Nat}{raw root:List UInt8}{r:Rz}{M1 N M2 M3:Nat}(w:World)(hl:raw.length=n)(hn:n≤65536)(hlr:root.length=nr)(hnr:nr≤10000)(hr:Rd w (.slice A n c) 1 n (bvs raw))(hrr:Rd w (.slice Ar nr cr) 1 nr (bvs root))(hz:decRz raw root=r)(h1:r.p.r.length=M1)(h2:r.p.l.length=N)(h3:r.p.e.length=M2)(h4:r.p.z.length=M3) :
  Calls Tryz.prog 27 #[.slice A n c,.slice Ar nr cr] w (TkS w r.c r.p M1 N M2 M3):=by
 have h:=decodeR_any A Ar n c nr cr raw root w hl hn hlr hnr hr hrr
 rw[hz] at h
 exact h.mono fun _ _ h=>tkS_of h h1 h2 h3 h4
theorem sameRQ {bb:Bool}(A1 A2 A3 A:Option Addr)(m1 m2 m3 n c1 c2 c3 c:Nat)(l1 l2 l3:List UInt8)(l:List Sg)(B1 B2 B3 B:Option Addr)(p1 p2 p3 m d1 d2 d3 d:Nat)(k1 k2 k3:List UInt8)(k:List Sg)(w:World)(ha:TkIn0 w A1 A2 A3 A m1 m2 m3 n c1 c2 c3 c l1 l2 l3 l)(hb:TkIn0 w B1 B2 B3 B p1 p2 p3 m d1 d2 d3 d k1 k2 k3 k)(hn:n≤1000)(hm:m≤1000)(hs:sameTp ⟨l1,l.map Sg.p,l2,l3⟩ ⟨k1,k.map Sg.p,k2,k3⟩=bb) :
  Calls Tryz.prog 14 #[.agg #[.slice A1 m1 c1,.slice A n c,.slice A2 m2 c2,.slice A3 m3 c3],.agg #[.slice B1 p1 d1,.slice B m d,.slice B2 p2 d2,.slice B3 p3 d3]] w fun e w'=>e=.returned (.bool bb)∧Below w.heap.size w w':=by
 have h:=sameR_tok A1 A2 A3 A B1 B2 B3 B m1 m2 m3 n c1 c2 c3 c p1 p2 p3 m d1 d2 d3 d l1 l2 l3 k1 k2 k3 l k w ha.h hb.h hn hm ha.r1 ha.r2 ha.r3 ha.r ha.ok hb.r1 hb.r2 hb.r3 hb.r hb.ok
 rw[hs] at h
 exact h
theorem laid_in0 {w0 w:World}{M:Nat→Prop}{G:List Chunk}{p:Tp}{B1 X B2 B3:Option Addr}{m1 d1 n x m2 d2 m3 d3:Nat}(hS:St w0 M w G)(h:Laid G p B1 m1 d1 X n x B2 m2 d2 B3 m3 d3):∃zs,zs.map Sg.p=p.l∧TkIn0 w B1 B2 B3 X m1 m2 m3 n d1 d2 d3 x p.r p.e p.z zs:=by
 obtain⟨zs,a1,a2,a3,a4,a5,r1,r2,r3,r4,hok⟩:=h.open hS
 exact⟨zs,a2,a3,a4,a5,a1,r1,r2,r3,r4,hok⟩
end Go.Proofs.YtnohmgpmmhlloaaGreatDoor.S6
