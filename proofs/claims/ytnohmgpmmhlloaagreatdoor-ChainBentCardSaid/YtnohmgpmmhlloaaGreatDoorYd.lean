/-
 Joined of texts of mine,in build order: Fl,Bd,Na,Nb,Nc,Nd,Ne. Each says what it proves at its own head.
-/
import Derived.Test.YtnohmgpmmhlloaaGreatDoorYc
set_option linter.unusedSimpArgs false
set_option linter.unusedVariables false
set_option maxRecDepth 100000
set_option maxHeartbeats 25600000
namespace Go.Proofs.YtnohmgpmmhlloaaGreatDoor
open Go.RowKit
section
variable {P : Program} {ops : Array Oper} {Q : Exit → Act → World → Prop} {md : Region.Mode} {lt : Nat → Bool}
def dO (ops:Array Oper)(i:Nat):Option Tmp:=(ops[i]?).bind (·.dst)
def cY (ops:Array Oper)(G:Nat→Nat)(ds:List Nat)(a:Act):Act:=ds.foldl (fun a i=>a.put (dO ops i) (.pointer (some ⟨G i,0,none⟩))) a
theorem bZ (G:Nat→Nat)(i:Nat)(ds:List Nat)(a:Act):cY ops G (i::ds) a=cY ops G ds (a.put (dO ops i) (.pointer (some ⟨G i,0,none⟩))):=rfl
theorem putsG_congr {G G':Nat→Nat}:∀{ds:List Nat} {a:Act},(∀i∈ds,G i=G' i)→cY ops G ds a=cY ops G' ds a
 | [],_,_=>rfl
 | i::ds,a,h=>by
  rw[bZ,bZ,h i (List.mem_cons_self ..)]
  exact putsG_congr fun j hj=>h j (mC _ hj)
theorem putsG_put (G:Nat→Nat)(t:Option Tmp)(v:Value):∀(ds:List Nat) (a:Act),(∀i∈ds,∀d,dO ops i=some d→t≠some d)→(cY ops G ds a).put t v=cY ops G ds (a.put t v)
 | [],_,_=>rfl
 | i::ds,a,h=>by
  rw[bZ,bZ,putsG_put G t v ds _ fun j hj=>h j (mC _ hj)]
  rw[Act.put_comm a _ v (h i (List.mem_cons_self ..))]
def bR (l:Array Bool)(ds:List Nat):Array Bool:=ds.foldl (fun l i=>l.setIfInBounds i true) l
theorem dS (l:Array Bool)(i:Nat)(ds:List Nat):bR l (i::ds)=bR (l.setIfInBounds i true) ds:=rfl
theorem set_comm (l:Array Bool)(i j:Nat):(l.setIfInBounds i true).setIfInBounds j true=(l.setIfInBounds j true).setIfInBounds i true:=by
 by_cases h:i=j
 ·rw[h]
 ·rw[Array.setIfInBounds_comm _ _ h]
theorem setAll_set (i:Nat):∀(ds:List Nat) (l:Array Bool),(bR l ds).setIfInBounds i true=bR (l.setIfInBounds i true) ds
 | [],_=>rfl
 | j::ds,l=>by rw[dS,dS,setAll_set i ds,set_comm]
theorem set_getD (l:Array Bool)(i j:Nat)(d:Bool):(l.setIfInBounds i true).getD j d=if i=j∧j<l.size then true else l.getD j d:=by
 simp only[Array.getD_eq_getD_getElem?,Array.getElem?_setIfInBounds]
 by_cases h:i=j
 ·subst h
  by_cases h2:i<l.size
  ·simp[h2]
  ·simp[h2]
 ·simp[h]
theorem cH (d:Bool)(j:Nat):∀(ds:List Nat) (l:Array Bool),(bR l ds).getD j d=if j∈ds∧j<l.size then true else l.getD j d
 | [],l=>by simp[bR]
 | i::ds,l=>by
  rw[dS,cH d j ds,set_getD,Array.size_setIfInBounds]
  by_cases h1:j∈ds∧j<l.size
  ·rw[if_pos h1,if_pos ⟨mC _ h1.1,h1.2⟩]
  ·rw[if_neg h1]
   by_cases h2:i=j∧j<l.size
   ·rw[if_pos h2,if_pos ⟨by rw[h2.1];exact List.mem_cons_self ..,h2.2⟩]
   ·rw[if_neg h2,if_neg fun h=>?_]
    rcases List.mem_cons.1 h.1 with e|e
    ·exact h2 ⟨e.symm,h.2⟩
    ·exact h1 ⟨e,h.2⟩
theorem wp_put1 {o:Oper}{a:Act}{d:Option Tmp}{v:Value}{x:World}{K:Act→World→Prop}(hs:∀cs b,o.op≠.select cs b)(h1:∀t,d=some t→t∉o.looksAt ops)(h2:∀t,d=some t→o.dst≠some t)
  (hQ:∀c (a:Act) (t:Array Value) w,Q (.panic c) { a with tmps:=t } w→Q (.panic c) a w)(h:o.wp P a x K Q):o.wp P (a.put d v) x (fun a'' w'=>∃a',a''=a'.put d v∧K a' w') Q:=by
 have hp:∀c w,Q (.panic c) a w→Q (.panic c) (a.put d v) w:=fun c w h=>by
  refine hQ c _ a.tmps w ?_
  cases d with
  | none=>exact h
  | some d=>exact h
 unfold Oper.wp at *
 rw[execOp_put o hs a d v h1]
 generalize (execOp a.eval o).run P x=r at *
 cases r with
 | ok n w' =>
  cases n<;>simp only[Oper.upon] at h ⊢
  case value u=>exact⟨_,Act.put_comm a v u h2,h⟩
  case skip=>exact⟨_,Act.put_comm a v undef h2,h⟩
  case defer e=>exact⟨_,by rw[Act.put_defers,Act.put_comm _ v undef h2],h⟩
  case enter f args =>
   refine Calls.mono h fun e w'' he=>?_
   cases e with
   | returned u=>exact⟨_,Act.put_comm a v u h2,he⟩
   | panicked c=>exact hp _ _ he
   | outgrown=>exact he
  case row row args=>exact Rows.mono h fun u w'' he=>⟨_,Act.put_comm a v u h2,he⟩
 | halt z w' =>
  cases z<;>simp only[Oper.upon] at h ⊢
  case panic u=>exact hp _ _ h
def apF (ops:Array Oper)(F:List Nat)(o:Oper):Bool:=F.all fun f=>match dO ops f with
 | none=>true
 | some d=>!(o.looksAt ops).contains d&&o.dst !=some d
theorem apF_spec {F:List Nat}{o:Oper}(h:apF ops F o=true):∀f∈F,∀t,dO ops f=some t→t∉o.looksAt ops∧o.dst≠some t:=fun f hf t ht=>by
 have:=List.all_eq_true.1 h f hf
 rw[ht] at this
 simpa using this
theorem wp_puts {o:Oper}{x:World}(G:Nat→Nat)(hs:∀cs b,o.op≠.select cs b)(hQ:∀c (a:Act) (t:Array Value) w,Q (.panic c) { a with tmps:=t } w→Q (.panic c) a w) :
  ∀(ds:List Nat) (a:Act) (K:Act→World→Prop),(∀f∈ds,∀t,dO ops f=some t→t∉o.looksAt ops∧o.dst≠some t)→o.wp P a x K Q→o.wp P (cY ops G ds a) x (fun a'' w'=>∃a',a''=cY ops G ds a'∧K a' w') Q
 | [],a,K,_,h=>Oper.wp_mono (fun a' w' h'=>⟨a',rfl,h'⟩) h
 | i::ds,a,K,hd,h=>by
  have h1:=wp_put1 (ops:=ops) (v:=.pointer (some ⟨G i,0,none⟩)) hs (fun t ht=>(hd i (List.mem_cons_self ..) t ht).1) (fun t ht=>(hd i (List.mem_cons_self ..) t ht).2) hQ h
  exact Oper.wp_mono (fun a'' w' ⟨a1,e1,a',e2,h'⟩=>⟨a',by rw[e1,e2];rfl,h'⟩) (wp_puts G hs hQ ds _ _ (fun f hf=>hd f (mC _ hf)) h1)
theorem wanted_puts {o:Oper}(G:Nat→Nat):∀(ds:List Nat) (a:Act),(∀f∈ds,∀t,dO ops f=some t→t∉o.looksAt ops∧o.dst≠some t)→Region.wanted o (yielded ops (cY ops G ds a).tmps)=Region.wanted o (yielded ops a.tmps)
 | [],_,_=>rfl
 | i::ds,a,h=>by
  rw[bZ,wanted_puts G ds _ fun f hf=>h f (mC _ hf)]
  exact wanted_put o a _ _ fun t ht=>(h i (List.mem_cons_self ..) t ht).1
theorem exec_puts {o:Oper}(G:Nat→Nat)(hs:∀cs b,o.op≠.select cs b):∀(ds:List Nat) (a:Act),(∀f∈ds,∀t,dO ops f=some t→t∉o.looksAt ops∧o.dst≠some t)→execOp (cY ops G ds a).eval o=execOp a.eval o
 | [],_,_=>rfl
 | i::ds,a,h=>by
  rw[bZ,exec_puts G hs ds _ fun f hf=>h f (mC _ hf)]
  exact execOp_put o hs a _ _ fun t ht=>(h i (List.mem_cons_self ..) t ht).1
structure FlAt (W0:World)(F:List Nat)(cs:Array Value)(e:TypeId)(G:Nat→Nat)(x:World):Prop where
 at_:∀f∈F,W0.heap.size≤G f∧x.heap[G f]?=some (.cells cs e (0,0))
 ne:∀f∈F,∀g∈F,f≠g→G f≠G g
def wpX (P:Program)(ops:Array Oper)(Q:Exit→Act→World→Prop)(W0:World)(F:List Nat)(cs:Array Value)(e:TypeId)(suf:STr):List (Nat×Nat)→Act→World→Prop
 | [],a,w=>∀(G:Nat→Nat) (x:World),aC W0 x→aC w x→FlAt W0 F cs e G x→wpS P ops Q W0 suf (cY ops G F a) x
 |(i,m)::rest,a,w=>∃o,ops[i]?=some o ∧
  if Region.wanted o (yielded ops a.tmps)=true then
   (match m with
    | 0=>∃v,(∀x,aC W0 x→(execOp a.eval o).run P x=.ok (.value v) x)∧wpX P ops Q W0 F cs e suf rest (a.put o.dst v) w
    | 1=>∃v,(∀x,(execOp a.eval o).run P x=.ok (.value v) x)∧wpX P ops Q W0 F cs e suf rest (a.put o.dst v) w
    | _=>∀x,aC w x→o.wp P a x (fun a' w'=>gN x w' (wpX P ops Q W0 F cs e suf rest a' w')) Q)
  else wpX P ops Q W0 F cs e suf rest (a.put o.dst undef) w
def schedX (md:Region.Mode)(ops:Array Oper)(lt:Nat→Bool)(F:List Nat)(suf:STr):List (Nat×Nat)→Array Bool→Bool
 | [],lo=>F.all (fun f=>Region.ready md ops (bR lo (F.filter (fun g=>g !=f)))==[f])&&bP md ops lt true suf (bR lo F)
 |(i,m)::rest,lo=>!F.contains i&&!lt i&&((ops[i]?).map (apF ops F)).getD false&&(match m with
   | 0=>(Region.ready md ops lo).contains i&&Region.free md ops lo i&&lateB md ops lt i
   | 1=>(Region.ready md ops lo).contains i&&Region.free md ops lo i
   | _=>Region.ready md ops (bR lo F)==[i])&&schedX md ops lt F suf rest (lo.setIfInBounds i true)
theorem ready_less {lo:Array Bool}{ds F:List Nat}{j:Nat}(hd:∀f∈ds,f∈F)(hj:j∉F)(h:j∈Region.ready md ops (bR lo ds)):j∈Region.ready md ops (bR lo F):=by
 obtain⟨h1,o,ho,h2⟩:=mem_ready.1 h
 refine mem_ready.2 ⟨?_,o,ho,fun e he hb=>?_⟩
 ·rw[cH] at h1 ⊢
  rw[if_neg fun h=>hj h.1]
  split at h1
  ·cases h1
  ·exact h1
 ·have:=h2 e he hb
  rw[cH] at this ⊢
  split at this
  ·rename_i h
   rw[if_pos ⟨hd _ h.1,h.2⟩]
  ·split
   ·rfl
   ·exact this
theorem ready_more {lo:Array Bool}{ds:List Nat}{j:Nat}(hj:j∉ds)(h:j∈Region.ready md ops lo):j∈Region.ready md ops (bR lo ds):=by
 obtain⟨h1,o,ho,h2⟩:=mem_ready.1 h
 refine mem_ready.2 ⟨?_,o,ho,fun e he hb=>?_⟩
 ·rw[cH,if_neg fun h=>hj h.1]
  exact h1
 ·rw[cH]
  split
  ·rfl
  ·exact h2 e he hb
def leftF (F:List Nat)(D:Nat→Bool):Nat:=(F.filter (fun f=>!D f)).length
def gS (D:Nat→Bool)(f:Nat):Nat→Bool:=fun g=>D g||g==f
theorem filter_add {D:Nat→Bool}{f:Nat}:∀{F:List Nat},f∉F→F.filter (gS D f)=F.filter D
 | [],_=>rfl
 | g::F,h=>by
  have hg:(g==f)=false:=by rw[beq_eq_false_iff_ne];exact fun e=>h (by rw[e];exact List.mem_cons_self ..)
  rw[List.filter_cons,List.filter_cons,filter_add fun h'=>h (mC _ h')]
  unfold gS
  rw[hg,Bool.or_false]
theorem puts_add (G:Nat→Nat){D:Nat→Bool}{f:Nat}(hD:D f=false):∀{F:List Nat} {a:Act},F.Nodup→f∈F→(∀g∈F,∀h∈F,g≠h→∀d,dO ops g=some d→dO ops h≠some d) →
  cY ops G (F.filter (gS D f)) a=(cY ops G (F.filter D) a).put (dO ops f) (.pointer (some ⟨G f,0,none⟩))
 | [],_,_,hf,_=>by cases hf
 | g::F,a,hn,hf,hd=>by
  obtain⟨hg,hn'⟩:=List.nodup_cons.1 hn
  by_cases e:g=f
  ·subst e
   have h1:gS D g g=true:=by unfold gS;simp
   rw[List.filter_cons,if_pos h1,filter_add hg,List.filter_cons,if_neg (by rw[hD];exact Bool.false_ne_true),bZ]
   exact(putsG_put G _ _ _ a fun i hi d h'=>hd i (mC _ ((List.mem_filter.1 hi).1)) g (List.mem_cons_self ..) (fun e=>hg (e▸(List.mem_filter.1 hi).1)) d h').symm
  ·have hf':f∈F:=by
    rcases List.mem_cons.1 hf with h|h
    ·exact absurd h.symm e
    ·exact h
   have h1:gS D f g=D g:=Dh
   rw[List.filter_cons,List.filter_cons,h1]
   have ih:=fun a=>puts_add G hD (F:=F) (a:=a) hn' hf' fun i hi j hj=>hd i (mC _ hi) j (mC _ hj)
   split
   ·rw[bZ,bZ]
    exact ih _
   ·exact ih _
theorem set_add {D:Nat→Bool}{f:Nat}(hD:D f=false):∀{F:List Nat} {l:Array Bool},F.Nodup→f∈F→bR l (F.filter (gS D f))=(bR l (F.filter D)).setIfInBounds f true
 | [],_,_,hf=>by cases hf
 | g::F,l,hn,hf=>by
  obtain⟨hg,hn'⟩:=List.nodup_cons.1 hn
  by_cases e:g=f
  ·subst e
   have h1:gS D g g=true:=by unfold gS;simp
   rw[List.filter_cons,if_pos h1,filter_add hg,List.filter_cons,if_neg (by rw[hD];exact Bool.false_ne_true),dS,setAll_set]
  ·have hf':f∈F:=by
    rcases List.mem_cons.1 hf with h|h
    ·exact absurd h.symm e
    ·exact h
   have h1:gS D f g=D g:=Dh
   rw[List.filter_cons,List.filter_cons,h1]
   split
   ·rw[dS,dS]
    exact set_add hD hn' hf'
   ·exact set_add hD hn' hf'
theorem left_add {D:Nat→Bool}{f:Nat}(hD:D f=false):∀{F:List Nat},F.Nodup→f∈F→leftF F (gS D f)+1=leftF F D
 | [],_,hf=>by cases hf
 | g::F,hn,hf=>by
  obtain⟨hg,hn'⟩:=List.nodup_cons.1 hn
  unfold leftF
  by_cases e:g=f
  ·subst e
   have h1:gS D g g=true:=by unfold gS;simp
   have h2:F.filter (fun f=>!gS D g f)=F.filter (fun f=>!D f):=List.filter_congr fun x hx=>by
    have:(x==g)=false:=by rw[beq_eq_false_iff_ne];exact fun e=>hg (e▸hx)
    unfold gS
    rw[this,Bool.or_false]
   rw[List.filter_cons,List.filter_cons,h1,hD,h2]
   rfl
  ·have hf':f∈F:=by
    rcases List.mem_cons.1 hf with h|h
    ·exact absurd h.symm e
    ·exact h
   have h1:gS D f g=D g:=Dh
   have ih:=left_add hD hn' hf'
   unfold leftF at ih
   rw[List.filter_cons,List.filter_cons,h1]
   split
   ·rw[List.length_cons,List.length_cons];omega
   ·exact ih
theorem left_zero {D:Nat→Bool}{F:List Nat}(h:leftF F D=0):F.filter D=F:=by
 refine List.filter_eq_self.2 fun f hf=>?_
 have h1:=List.filter_eq_nil_iff.1 (List.eq_nil_of_length_eq_zero h) f hf
 simpa using h1
theorem left_pos {D:Nat→Bool}{F:List Nat}(h:leftF F D≠0):∃f∈F,D f=false:=by
 unfold leftF at h
 obtain⟨f,hf⟩:=List.exists_mem_of_length_pos (Nat.pos_of_ne_zero h)
 obtain⟨h1,h2⟩:=List.mem_filter.1 hf
 exact⟨f,h1,by simpa using h2⟩
structure Floats (P:Program)(md:Region.Mode)(ops:Array Oper)(lt:Nat→Bool)(F:List Nat)(cs:Array Value)(e:TypeId):Prop where
 op:∀f∈F,∃o,ops[f]?=some o∧o.guard=none∧(∀e∈o.after,Region.binds md e=false)∧∀(ev:Operand→Value) (x:World),(execOp ev o).run P x=.ok (.value (.pointer (some ⟨x.heap.size,0,none⟩))) (x.alloc (.cells cs e))
 early:∀f∈F,lt f=false
 nodup:F.Nodup
 dst:∀g∈F,∀h∈F,g≠h→∀d,dO ops g=some d→dO ops h≠some d
theorem wpM_of_X {W0:World}{F:List Nat}{cs:Array Value}{e:TypeId}{suf:STr}(hF:Floats P md ops lt F cs e)(hs:Region.noSelect ops=true)(hQ:∀c (a:Act) (t:Array Value) w,Q (.panic c) { a with tmps:=t } w→Q (.panic c) a w) :
  ∀(n:Nat) (chain:List (Nat×Nat)) (D:Nat→Bool) (G:Nat→Nat) (lo:Array Bool) (a:Act) (w x:World) (fuel:Nat),chain.length+leftF F D=n→n+suf.len≤fuel→schedX md ops lt F suf chain lo=true →
   (∀f∈F,lo.getD f true=false)→aC W0 w→aC w x→FlAt W0 (F.filter D) cs e G x→wpX P ops Q W0 F cs e suf chain a w→wpM P md ops Q lt fuel (aC W0) (bR lo (F.filter D)) (cY ops G (F.filter D) a) x:=by
 intro n
 induction n with
 | zero =>
  intro chain D G lo a w x fuel hn hfu hb hlo hW0 hx hG h
  obtain rfl:chain=[]:=List.eq_nil_of_length_eq_zero An
  have hl:=left_zero (F:=F) (D:=D) An
  rw[hl] at hG ⊢
  unfold schedX at hb
  rw[Bool.and_eq_true] at hb
  exact wpM_of_S hs hQ suf fuel _ _ _ (hW0.trans (hx.mono hW0.size)) An hb.2 (h G x (hW0.trans (hx.mono hW0.size)) hx hG)
 | succ n ih =>
  intro chain D G lo a w x fuel hn hfu hb hlo hW0 hx hG h
  obtain⟨fuel,rfl⟩:∃k,fuel=k+1:=⟨fuel - 1,An⟩
  have hsub:∀f∈F.filter D,f∈F:=fun f hf=>(List.mem_filter.1 hf).1
  have hout:∀{i},F.contains i=false→i∉F.filter D:=fun hi hm=>by
   have:=hsub _ hm
   simp at hi
   exact hi this
  -- a float that comes up
  have float:∀f∈F,f∈Region.ready md ops (bR lo (F.filter D))→wpOp P ops Q f (fun a' w'=>(lt f=true∧wpAny P md ops Q fuel ((bR lo (F.filter D)).setIfInBounds f true) a' w') ∨
    (lt f=false∧∃S':World→Prop,(∀y,S' y→aC W0 y)∧S' w'∧wpM P md ops Q lt fuel S' ((bR lo (F.filter D)).setIfInBounds f true) a' w')) (cY ops G (F.filter D) a) x:=by
   intro f hf hr
   have hDf:D f=false:=by
    cases hD:D f with
    | false=>rfl
    | true =>
     have h1:=(mem_ready.1 hr).1
     rw[cH] at h1
     split at h1
     ·cases h1
     ·rename_i h2
      exact absurd ⟨List.mem_filter.2 ⟨hf,hD⟩,Decidable.byContradiction fun hs=>by
       rw[Array.getD_eq_getD_getElem?,Array.getElem?_eq_none An] at h1
       cases h1⟩ h2
   obtain⟨o,ho,hg,_,hrun⟩:=hF.op f hf
   unfold wpOp
   simp only[ho]
   have hw:Region.wanted o (yielded ops (cY ops G (F.filter D) a).tmps)=true:=by unfold Region.wanted;rw[hg]
   rw[if_pos hw]
   refine .inl ?_
   unfold Oper.wp
   rw[hrun]
   refine .inr ⟨hF.early f hf,aC W0,fun _ h=>h,hW0.trans ((hx.trans (((Below.refl _ _).alloc (Nat.le_refl _) _).mono hx.size)).mono hW0.size),?_⟩
   have hodst:o.dst=dO ops f:=by unfold dO;rw[ho];rfl
   have hxs:W0.heap.size≤x.heap.size:=Nat.le_trans hW0.size hx.size
   have hGf:∀g∈F.filter D,(fun g=>if g=f then x.heap.size else G g) g=G g:=fun g hg=>if_neg fun e=>by
    have:=(List.mem_filter.1 hg).2
    rw[e,hDf] at this
    cases this
   have e1:=puts_add (ops:=ops) (a:=a) (fun g=>if g=f then x.heap.size else G g) hDf hF.nodup hf hF.dst
   rw[putsG_congr hGf,if_pos rfl] at e1
   have e2:=set_add (l:=lo) hDf hF.nodup hf
   have e3:=left_add hDf hF.nodup hf
   have hsz:(x.alloc (.cells cs e)).heap.size=x.heap.size+1:=by show(x.heap.push _).size=_;simp
   rw[hodst,←e1,←e2]
   refine ih chain (gS D f) _ lo a w _ fuel An An hb hlo hW0 (hx.trans (((Below.refl _ _).alloc (Nat.le_refl _) _).mono hx.size)) ⟨fun g hg=>?_,fun g hg g' hg' hne=>?_⟩ h
   ·by_cases egf:g=f
    ·subst egf
     rw[if_pos rfl]
     exact⟨An,heap_alloc_new x _⟩
    ·rw[if_neg egf]
     have hg1:g∈F.filter D:=by
      obtain⟨q1,q2⟩:=List.mem_filter.1 hg
      unfold gS at q2
      rw[beq_eq_false_iff_ne.2 egf,Bool.or_false] at q2
      exact List.mem_filter.2 ⟨q1,q2⟩
     obtain⟨q1,q2⟩:=hG.at_ g hg1
     exact⟨q1,(Below.block ((Below.refl x.heap.size x).alloc (Nat.le_refl _) (.cells cs e)) _ (Array.getElem?_eq_some_iff.1 q2).1).trans q2⟩
   ·have lt_of:∀z,z∈F.filter (gS D f)→z≠f→z∈F.filter D∧G z<x.heap.size:=fun z hz hzf=>by
     have hz1:z∈F.filter D:=by
      obtain⟨q1,q2⟩:=List.mem_filter.1 hz
      unfold gS at q2
      rw[beq_eq_false_iff_ne.2 hzf,Bool.or_false] at q2
      exact List.mem_filter.2 ⟨q1,q2⟩
     exact⟨hz1,(Array.getElem?_eq_some_iff.1 (hG.at_ z hz1).2).1⟩
    by_cases egf:g=f
    ·have:=lt_of g' hg' fun e'=>hne (egf.trans e'.symm)
     rw[if_pos egf,if_neg fun e'=>hne (egf.trans e'.symm)]
     omega
    ·by_cases egf':g'=f
     ·have:=lt_of g hg egf
      rw[if_neg egf,if_pos egf']
      omega
     ·rw[if_neg egf,if_neg egf']
      exact hG.ne g (lt_of g hg egf).1 g' (lt_of g' hg' egf').1 hne
  have pending:∀f∈F,D f=false→f∈Region.ready md ops (bR lo (F.filter D)):=fun f hf hD=>by
   obtain⟨o,ho,_,hnb,_⟩:=hF.op f hf
   refine mem_ready.2 ⟨?_,o,ho,fun e he hb=>?_⟩
   ·rw[cH,if_neg fun h=>?_]
    ·exact hlo f hf
    ·have:=(List.mem_filter.1 h.1).2
     rw[hD] at this
     cases this
   ·rw[hnb e he] at hb
    cases hb
  match chain,hb,h,hn with
  | [],hb,h,hn =>
   unfold schedX at hb
   rw[Bool.and_eq_true,List.all_eq_true] at hb
   obtain⟨f0,hf0,hD0⟩:=left_pos (F:=F) (D:=D) (by simp at hn;omega)
   have hrd:=hb.1 f0 hf0
   rw[beq_iff_eq] at hrd
   have hsub2:∀f∈F.filter D,f∈F.filter (fun g=>g !=f0):=fun f hf=>by
    obtain⟨q1,q2⟩:=List.mem_filter.1 hf
    refine List.mem_filter.2 ⟨q1,?_⟩
    rw[bne_iff_ne]
    intro e
    rw[e,hD0] at q2
    cases q2
   have only:∀j,j∈Region.ready md ops (bR lo (F.filter D))→j∈F:=fun j hj=>by
    refine Classical.byContradiction fun hjF=>?_
    have:=ready_less hsub2 (fun h'=>hjF ((List.mem_filter.1 h').1)) hj
    rw[hrd,List.mem_singleton] at this
    exact hjF (this▸hf0)
   refine⟨fun h0=>?_,fun j hj=>float j (only j hj) hj⟩
   have h1:=pending f0 hf0 hD0
   rw[h0] at h1
   cases h1
  |(i,m)::rest,hb,h,hn =>
   obtain⟨o,ho,h⟩:=h
   unfold schedX at hb
   simp only[Bool.and_eq_true,Bool.not_eq_true'] at hb
   obtain⟨⟨⟨⟨hiF,hli⟩,hap⟩,hm⟩,hrec⟩:=hb
   have hap':apF ops F o=true:=by rw[ho] at hap;exact hap
   have hspec:=fun f (hf:f∈F.filter D)=>apF_spec hap' f (hsub f hf)
   have hsel:=Region.noSelect_spec hs
   have hne:∀f∈F,i≠f:=fun f hf e=>by
    rw[e] at hiF
    simp at hiF
    exact hiF hf
   have hlo':∀f∈F,(lo.setIfInBounds i true).getD f true=false:=fun f hf=>by
    rw[set_getD,if_neg fun h=>hne f hf h.1]
    exact hlo f hf
   have hw:=wanted_puts (o:=o) G (F.filter D) a hspec
   have hex:=exec_puts (o:=o) G (fun cs b=>hsel i o cs b ho) (F.filter D) a hspec
   have hpt:∀v,(cY ops G (F.filter D) a).put o.dst v=cY ops G (F.filter D) (a.put o.dst v):=fun v=>putsG_put G _ v _ a (fun f hf d hd=>(hspec f hf d hd).2)
   have hst:=setAll_set i (F.filter D) lo
   have hn':rest.length+leftF F D=n:=by simp at hn;omega
   have next:∀v,wpX P ops Q W0 F cs e suf rest (a.put o.dst v) w→wpM P md ops Q lt fuel (aC W0) ((bR lo (F.filter D)).setIfInBounds i true) ((cY ops G (F.filter D) a).put o.dst v) x:=fun v h=>by
    rw[hpt,hst]
    exact ih rest D G _ _ w x fuel hn' An hrec hlo' hW0 hx hG h
   have first:∀v,i∈Region.ready md ops lo→Region.free md ops lo i=true→((lateB md ops lt i=true∧YieldsIf P ops (aC W0) o v (cY ops G (F.filter D) a))∨Yields P ops o v (cY ops G (F.filter D) a))→wpX P ops Q W0 F cs e suf rest (a.put o.dst v) w →
     wpM P md ops Q lt (fuel+1) (aC W0) (bR lo (F.filter D)) (cY ops G (F.filter D) a) x:=fun v hr hf hy h =>
    wpM_first ho hsel (iS hQ o v) fuel (aC W0) _ _ _ (fun j oj hj hji hun hno=>Region.free_spec ho hf j oj hj hji (by
     rw[cH] at hun
     split at hun
     ·cases hun
     ·exact hun) hno) (ready_more (hout hiF) hr) hy (hW0.trans (hx.mono hW0.size)) (next v h) hli
   match m,h,hm with
   | 0,h,hm =>
    simp only[Bool.and_eq_true] at hm
    by_cases hwa:Region.wanted o (yielded ops a.tmps)=true
    ·rw[if_pos hwa] at h
     obtain⟨v,hv,h⟩:=h
     exact first v (by simpa using hm.1.1) hm.1.2 (.inl ⟨hm.2,.inl ⟨hw.trans hwa,fun y hy=>by rw[hex];exact hv y hy⟩⟩) h
    ·rw[if_neg hwa] at h
     exact first undef (by simpa using hm.1.1) hm.1.2 (.inr (.inr ⟨hw.trans (by simpa using hwa),rfl⟩)) h
   | 1,h,hm =>
    simp only[Bool.and_eq_true] at hm
    by_cases hwa:Region.wanted o (yielded ops a.tmps)=true
    ·rw[if_pos hwa] at h
     obtain⟨v,hv,h⟩:=h
     exact first v (by simpa using hm.1) hm.2 (.inr (.inl ⟨hw.trans hwa,fun y=>by rw[hex];exact hv y⟩)) h
    ·rw[if_neg hwa] at h
     exact first undef (by simpa using hm.1) hm.2 (.inr (.inr ⟨hw.trans (by simpa using hwa),rfl⟩)) h
   | m+2,h,hm =>
    have hm:(Region.ready md ops (bR lo F)==[i])=true:=hm
    rw[beq_iff_eq] at hm
    refine⟨fun h0=>?_,fun j hj=>?_⟩
    ·by_cases hz:leftF F D=0
     ·rw[left_zero hz,hm] at h0
      cases h0
     ·obtain⟨f0,hf0,hD0⟩:=left_pos hz
      have h1:=pending f0 hf0 hD0
      rw[h0] at h1
      cases h1
    ·by_cases hjF:j∈F
     ·exact float j hjF hj
     ·have hji:=ready_less hsub hjF hj
      rw[hm,List.mem_singleton] at hji
      subst hji
      unfold wpOp
      simp only[ho]
      by_cases hwa:Region.wanted o (yielded ops a.tmps)=true
      ·rw[if_pos (hw.trans hwa)]
       rw[if_pos hwa] at h
       refine .inl (Oper.wp_mono (fun a'' w' h'=>?_) (wp_puts G (fun cs b=>hsel j o cs b ho) hQ (F.filter D) a _ hspec (h x hx)))
       obtain⟨a',rfl,hb',h'⟩:=h'
       refine .inr ⟨hli,aC W0,fun _ h=>h,hW0.trans ((hx.trans (hb'.mono hx.size)).mono hW0.size),?_⟩
       rw[hst]
       exact ih rest D G _ a' w' w' fuel hn' An hrec hlo' (hW0.trans ((hx.trans (hb'.mono hx.size)).mono hW0.size)) (aC.refl w') ⟨fun f hf=>⟨(hG.at_ f hf).1,(hb'.block _ (Array.getElem?_eq_some_iff.1 (hG.at_ f hf).2).1).trans (hG.at_ f hf).2⟩,hG.ne⟩ h'
      ·rw[if_neg (fun h=>hwa (hw.symm.trans h))]
       rw[if_neg hwa] at h
       exact .inr ⟨hli,aC W0,fun _ h=>h,hW0.trans (hx.mono hW0.size),next undef h⟩
def dU (G:Nat→Nat)(F:List (Nat×Nat))(a:Act):Act:=F.foldl (fun a p=>a.put (some p.2) (.pointer (some ⟨G p.1,0,none⟩))) a
theorem putsG_E (G:Nat→Nat):∀(F:List (Nat×Nat)) (a:Act),(∀p∈F,dO ops p.1=some p.2)→cY ops G (F.map (·.1)) a=dU G F a
 | [],_,_=>rfl
 | p::F,a,h=>by
  rw[List.map_cons,bZ,h p (List.mem_cons_self ..),putsG_E G F _ fun q hq=>h q (mC _ hq)]
  rfl
def schedXA (ops:Array Oper)(F:List Nat)(chain:List (Nat×Nat))(suf:STr):Bool:=
 Region.noSelect ops&&decide (chain.length+F.length+suf.len≤ops.size)&&schedX .any ops (fun i=>suf.late.contains i) F suf chain (Array.replicate ops.size false) &&
 F.all (fun f=>!suf.late.contains f&&decide (f<ops.size)&&F.all (fun g=>f==g||((dO ops f).isSome&&dO ops f !=dO ops g)))&&decide F.Nodup
theorem wp_region_X {id:Nat}{a:Act}{w:World}(F:List Nat)(chain:List (Nat×Nat))(suf:STr)(cs:Array Value)(e:TypeId)(hm:P.follows .mixedOrders=true)(hb:schedXA ops F chain suf=true)
  (hop:∀f∈F,∃o,ops[f]?=some o∧o.guard=none∧(∀e∈o.after,Region.binds .any e=false)∧∀(ev:Operand→Value) (x:World),(execOp ev o).run P x=.ok (.value (.pointer (some ⟨x.heap.size,0,none⟩))) (x.alloc (.cells cs e)))
  (hQ:∀c (a:Act) (t:Array Value) w,Q (.panic c) { a with tmps:=t } w→Q (.panic c) a w)
  (h:wpX P ops Q w.drew F cs e suf chain a w.drew):(Code.region id ops true).wp P Q a w:=by
 unfold schedXA at hb
 simp only[Bool.and_eq_true,decide_eq_true_eq] at hb
 obtain⟨⟨⟨⟨h1,h2⟩,h3⟩,h4⟩,h5⟩:=hb
 rw[List.all_eq_true] at h4
 have hF:Floats P .any ops (fun i=>suf.late.contains i) F cs e:=⟨hop,fun f hf=>by
   have:=h4 f hf
   simp only[Bool.and_eq_true,Bool.not_eq_true'] at this
   exact this.1.1,h5,fun f hf g hg hne d hd=>by
   have:=h4 f hf
   simp only[Bool.and_eq_true,List.all_eq_true] at this
   have:=this.2 g hg
   rw[Bool.or_eq_true,beq_iff_eq] at this
   rcases this with h|h
   ·exact absurd h hne
   ·rw[Bool.and_eq_true,bne_iff_ne] at h
    rw[←hd]
    exact fun e=>h.2 e.symm⟩
 have hnil:F.filter (fun _=>false)=[]:=List.filter_eq_nil_iff.2 B0
 have hlen:leftF F (fun _=>false)=F.length:=by
  unfold leftF
  rw[List.filter_eq_self.2 B0]
 have hM:=wpM_of_X (W0:=w.drew) hF h1 hQ (chain.length+F.length) chain (fun _=>false) (fun _=>0) (Array.replicate ops.size false) a w.drew w.drew ops.size (by rw[hlen]) An h3 (fun f hf=>by
   have:=h4 f hf
   simp only[Bool.and_eq_true,decide_eq_true_eq] at this
   rw[Array.getD_eq_getD_getElem?]
   simp[this.1.2]) fR fR ⟨fun f hf=>absurd (hnil▸hf:f∈([]:List Nat)) (List.not_mem_nil),fun f hf=>absurd (hnil▸hf:f∈([]:List Nat)) (List.not_mem_nil)⟩ h
 rw[hnil] at hM
 exact wp_region_any hm (wpAny_of_M _ _ _ _ _ hM)
def FlOp (P:Program)(ops:Array Oper)(cs:Array Value)(e:TypeId)(f:Nat):Prop:=∃o,ops[f]?=some o∧o.guard=none∧(∀e∈o.after,Region.binds .any e=false)∧∀(ev:Operand→Value) (x:World),(execOp ev o).run P x=.ok (.value (.pointer (some ⟨x.heap.size,0,none⟩))) (x.alloc (.cells cs e))
def XGo (P:Program)(ops:Array Oper)(Q:Exit→Act→World→Prop)(F:List (Nat×Nat))(cs:Array Value)(e:TypeId)(suf:STr)(W0:World):List (Nat×Nat)→Act→World→Prop
 | [],a,w=>∀(G:Nat→Nat) (x:World),aC W0 x→aC w x→FlAt W0 (F.map (·.1)) cs e G x→wpS P ops Q W0 suf (dU G F a) x
 |(i,m)::rest,a,w=>∃o,ops[i]?=some o ∧
  if Region.wanted o (yielded ops a.tmps)=true then
   (match m with
    | 0=>∃v,(∀x,aC W0 x→(execOp a.eval o).run P x=.ok (.value v) x)∧XGo P ops Q F cs e suf W0 rest (a.put o.dst v) w
    | 1=>∃v,(∀x,(execOp a.eval o).run P x=.ok (.value v) x)∧XGo P ops Q F cs e suf W0 rest (a.put o.dst v) w
    | _=>∀x,aC w x→o.wp P a x (fun a' w'=>gN x w' (XGo P ops Q F cs e suf W0 rest a' w')) Q)
  else XGo P ops Q F cs e suf W0 rest (a.put o.dst undef) w
theorem X_of_go {W0:World}{F:List (Nat×Nat)}{cs:Array Value}{e:TypeId}{suf:STr}(hd:∀p∈F,dO ops p.1=some p.2):∀(chain:List (Nat×Nat)) (a:Act) (w:World),XGo P ops Q F cs e suf W0 chain a w→wpX P ops Q W0 (F.map (·.1)) cs e suf chain a w
 | [],a,w,h=>fun G x h0 hx hF=>by rw[putsG_E G F a hd];exact h G x h0 hx hF
 |(i,m)::rest,a,w,h=>by
  obtain⟨o,ho,h⟩:=h
  refine⟨o,ho,?_⟩
  split
  ·rename_i hw
   rw[if_pos hw] at h
   match m,h with
   | 0,⟨v,hv,h⟩=>exact⟨v,hv,X_of_go hd rest _ _ h⟩
   | 1,⟨v,hv,h⟩=>exact⟨v,hv,X_of_go hd rest _ _ h⟩
   | m+2,h=>exact fun x hx=>Oper.wp_mono (fun a' w' h'=>⟨h'.1,X_of_go hd rest _ _ h'.2⟩) (h x hx)
  ·rename_i hw
   rw[if_neg hw] at h
   exact X_of_go hd rest _ _ h
theorem aU {id:Nat}{a:Act}{w:World}(F chain:List (Nat×Nat))(suf:STr)(cs:Array Value)(e:TypeId)(hm:P.follows .mixedOrders=true)(hb:schedXA ops (F.map (·.1)) chain suf=true)(hd:F.all (fun p=>dO ops p.1==some p.2)=true)
  (hop:∀p∈F,FlOp P ops cs e p.1)(hQ:∀c (a:Act) (t:Array Value) w,Q (.panic c) { a with tmps:=t } w→Q (.panic c) a w)
  (h:XGo P ops Q F cs e suf w.drew chain a w.drew):(Code.region id ops true).wp P Q a w:=
 wp_region_X (F.map (·.1)) chain suf cs e hm hb (fun f hf=>by
  obtain⟨p,hp,rfl⟩:=List.mem_map.1 hf
  exact hop p hp) hQ (X_of_go (fun p hp=>by
   have:=List.all_eq_true.1 hd p hp
   simpa using this) chain a w.drew h)
theorem flOp_of {cs:Array Value}{e:TypeId}{f:Nat}{o:Oper}(ho:ops[f]?=some o)(hg:o.guard=none)(ha:o.after=#[])(hr:∀(ev:Operand→Value) (x:World),(execOp ev o).run P x=.ok (.value (.pointer (some ⟨x.heap.size,0,none⟩))) (x.alloc (.cells cs e))):FlOp P ops cs e f:=
 ⟨o,ho,hg,fun e he=>by rw[ha] at he;simp at he,hr⟩
variable {W0 : World} {F : List (Nat × Nat)} {cs : Array Value} {e : TypeId} {suf : STr} {i : Nat} {o : Oper} {rest : List (Nat × Nat)} {a : Act} {w : World} {v : Value}
theorem wpX_nil (h:∀(G:Nat→Nat) (x:World),aC W0 x→aC w x→FlAt W0 (F.map (·.1)) cs e G x→wpS P ops Q W0 suf (dU G F a) x):XGo P ops Q F cs e suf W0 [] a w:=h
theorem fL (ho:ops[i]?=some o)(hw:Region.wanted o (yielded ops a.tmps)=true)(hv:∀x,(execOp a.eval o).run P x=.ok (.value v) x)(h:XGo P ops Q F cs e suf W0 rest (a.put o.dst v) w):XGo P ops Q F cs e suf W0 ((i,1)::rest) a w:=
 ⟨o,ho,C0⟩
theorem pX (ho:ops[i]?=some o)(hw:Region.wanted o (yielded ops a.tmps)=true)(h:XGo P ops Q F cs e suf W0 rest (a.put o.dst v) w)(hv:∀x,(execOp a.eval o).run P x=.ok (.value v) x:=by (intro wx;go_simp;try go_bits)<;>(with_reducible rfl)):XGo P ops Q F cs e suf W0 ((i,1)::rest) a w:=fL ho hw hv h
theorem wpX_read (ho:ops[i]?=some o)(hw:Region.wanted o (yielded ops a.tmps)=true)(hv:∀x,aC W0 x→(execOp a.eval o).run P x=.ok (.value v) x)(h:XGo P ops Q F cs e suf W0 rest (a.put o.dst v) w):XGo P ops Q F cs e suf W0 ((i,0)::rest) a w:=
 ⟨o,ho,C0⟩
theorem wpX_call (ho:ops[i]?=some o)(hw:Region.wanted o (yielded ops a.tmps)=true)(h:∀x,aC w x→∀K:Act→World→Prop,(∀a' w',gN x w' (XGo P ops Q F cs e suf W0 rest a' w')→K a' w')→o.wp P a x K Q):XGo P ops Q F cs e suf W0 ((i,2)::rest) a w:=
 ⟨o,ho,by rw[if_pos hw];exact fun x hx=>h x hx _ (fun _ _ h=>h)⟩
theorem wpX_skip {m:Nat}(ho:ops[i]?=some o)(hw:Region.wanted o (yielded ops a.tmps)=false)(h:XGo P ops Q F cs e suf W0 rest (a.put o.dst undef) w):XGo P ops Q F cs e suf W0 ((i,m)::rest) a w:=
 ⟨o,ho,Fk⟩
theorem wpX_load {t:TypeId}{x:Operand}(ho:ops[i]?=some o)(hop:o.op=.load t x)(hw:Region.wanted o (yielded ops a.tmps)=true)(hv:(execOp a.eval o).run P W0=.ok (.value v) W0)(h:XGo P ops Q F cs e suf W0 rest (a.put o.dst v) w):XGo P ops Q F cs e suf W0 ((i,0)::rest) a w:=by
 refine wpX_read ho hw (fun y hy=>?_) h
 have hr:dZ P (execOp a.eval o):=by
  unfold execOp
  rw[hop]
  exact bF (iM t _) fun _=>trivial
 exact(readB_run _ hr hv).2 y hy
end
structure Arr (n:Nat)(cs:Array Value):Prop where
 size:cs.size=n
 one:cs.all (·.oneCell')=true
inductive Upd (g:Nat)(c cs:Array Value)(e:TypeId):List Chunk→List Chunk→Prop where
 | head {H:List Chunk}:Upd g c cs e (.cells g c e::H) (.cells g cs e::H)
 | tail {d:Chunk} {H H':List Chunk} (h:Upd g c cs e H H'):Upd g c cs e (d::H) (d::H')
theorem Upd.at {g:Nat}{c cs:Array Value}{e:TypeId}{H H':List Chunk}(h:Upd g c cs e H H'):∃i:Nat,H[i]?=some (.cells g c e)∧H'=H.set i (.cells g cs e):=by
 induction h with
 | head=>exact⟨0,rfl,rfl⟩
 | tail h ih =>
  obtain⟨i,h1,h2⟩:=ih
  exact⟨i+1,As,by rw[h2];rfl⟩
section
variable {P : Program} {w0 w : World} {M : Nat → Prop} {H H' : List Chunk}
theorem St.heapM (h:St w0 M w H){g:Nat}{cs:Array Value}{e:TypeId}(hm:Chunk.cells g cs e∈H):w.heap[g]?=some (.cells cs e (0,0)):=by
 obtain⟨i,hi⟩:=List.getElem?_of_mem hm
 exact h.heap i hi
theorem St.updR (h:St w0 M w H){g:Nat}{c cs:Array Value}{e:TypeId}(hu:Upd g c cs e H H'):w.heap[g]?=some (.cells c e (0,0))∧St w0 M (w.setRow g cs) H':=by
 obtain⟨i,hi,rfl⟩:=hu.at
 exact⟨h.heap i hi,h.setRow i hi cs⟩
theorem St.addAt (h:St w0 M w H){c:Chunk}{g:Nat}(hc:c.sat w)(hb:c.block=some g)(hg:w0.heap.size≤g)(hf:∀d∈H,d.block≠some g):St w0 M w (c::H):=by
 refine⟨h.ext,?_,?_,?_⟩
 ·intro i d hd
  cases i with
  | zero=>simp only[List.getElem?_cons_zero,Option.some.injEq] at hd;subst hd;exact hc
  | succ i=>exact h.sat i d Aj
 ·intro i d k hd hk
  cases i with
  | zero =>
   simp only[List.getElem?_cons_zero,Option.some.injEq] at hd
   subst hd
   rw[hb] at hk
   injection hk with hk
   exact .inl (hk▸hg)
  | succ i=>exact h.own i d k Aj hk
 ·intro i j d e k hij hd he hk hk'
  cases i with
  | zero =>
   simp only[List.getElem?_cons_zero,Option.some.injEq] at hd
   subst hd
   cases j with
   | zero=>exact hij rfl
   | succ j=>exact hf e (mG Al) (hk'.trans (hk.symm.trans hb))
  | succ i =>
   cases j with
   | zero =>
    simp only[List.getElem?_cons_zero,Option.some.injEq] at he
    subst he
    exact hf d (mG Aj) (hk.trans (hk'.symm.trans hb))
   | succ j=>exact h.apart i j d e k An Aj Al hk hk'
theorem St.floats {W0 x:World}{F:List Nat}{cs:Array Value}{e:TypeId}{G:Nat→Nat}(h:St w0 M W0 H)(hx:aC W0 x)(hF:FlAt W0 F cs e G x):∀(F':List Nat),F'.Nodup→(∀f∈F',f∈F)→St w0 M x (F'.map (fun f=>Chunk.cells (G f) cs e)++H):=by
 have hc:=h.call hx
 intro F'
 induction F' with
 | nil=>intro _ _;exact hc
 | cons f F' ih =>
  intro hn hs
  obtain⟨hf,hn'⟩:=List.nodup_cons.1 hn
  have ih:=ih hn' fun g hg=>hs g (mC _ hg)
  have hGf:=hF.at_ f (hs f (List.mem_cons_self ..))
  have hfresh:∀c∈F'.map (fun f=>Chunk.cells (G f) cs e)++H,c.block≠some (G f):=fun c hcm e'=>by
   rcases List.mem_append.1 hcm with hm|hm
   ·obtain⟨g,hg,rfl⟩:=List.mem_map.1 hm
    have:G g=G f:=by injection e'
    exact hF.ne g (hs g (mC _ hg)) f (hs f (List.mem_cons_self ..)) (fun e=>hf (e▸hg)) this
   ·obtain⟨i,hi⟩:=List.getElem?_of_mem hm
    have:=Chunk.lt (h.sat i c hi) e'
    omega
  have hsat:(Chunk.cells (G f) cs e).sat x:=hGf.2
  exact ih.addAt hsat rfl (Nat.le_trans h.ext.size hGf.1) hfresh
def Part (cs part:Array Value)(off:Nat):Prop:=∀(j:Nat) (v:Value),part[j]?=some v→cs[off+j]?=some v
def fS (a b c d:Array Value):Array Value:=a++b++c++d
theorem quad_size (a b c d:Array Value):(fS a b c d).size=a.size+b.size+c.size+d.size:=by unfold fS;rw[Array.size_append,Array.size_append,Array.size_append]
theorem quad_arr {n:Nat}{a b c d:Array Value}(ha:Arr n a)(hb:Arr n b)(hc:Arr n c)(hd:Arr n d){m:Nat}(hm:n*4=m):Arr m (fS a b c d):=
 ⟨by rw[quad_size,ha.size,hb.size,hc.size,hd.size];omega,by unfold fS;rw[Array.all_append,Array.all_append,Array.all_append,ha.one,hb.one,hc.one,hd.one];rfl⟩
inductive PartN (n:Nat):Array Value→Array Value→Nat→Prop where
 | all {cs:Array Value} (h:Arr n cs):PartN n cs cs 0
 | q0 {a b c d:Array Value} (ha:Arr n a):PartN n (fS a b c d) a 0
 | q1 {a b c d:Array Value} (ha:Arr n a) (hb:Arr n b):PartN n (fS a b c d) b (n*1)
 | q2 {a b c d:Array Value} (ha:Arr n a) (hb:Arr n b) (hc:Arr n c):PartN n (fS a b c d) c (n*2)
 | q3 {a b c d:Array Value} (ha:Arr n a) (hb:Arr n b) (hc:Arr n c) (hd:Arr n d):PartN n (fS a b c d) d (n*3)
theorem app_l {a b:Array Value}{j:Nat}{v:Value}(h:a[j]?=some v):(a++b)[j]?=some v:=by
 rw[Array.getElem?_append_left (Array.getElem?_eq_some_iff.1 h).1];exact h
theorem app_r {a b:Array Value}{j k:Nat}{v:Value}(h:b[j]?=some v)(hk:a.size=k):(a++b)[k+j]?=some v:=by
 rw[Array.getElem?_append_right An,show k+j - a.size=j from by omega];exact h
theorem PartN.ok {n:Nat}{cs part:Array Value}{off:Nat}(h:PartN n cs part off):part.size=n∧Part cs part off:=by
 cases h with
 | all h=>exact⟨h.size,fun j v h=>by rw[Nat.zero_add];exact h⟩
 | q0 ha=>exact⟨ha.size,fun j v h=>by rw[Nat.zero_add];exact app_l (app_l (app_l h))⟩
 | q1 ha hb=>exact⟨hb.size,fun j v h=>app_l (app_l (app_r h (by rw[ha.size,Nat.mul_one])))⟩
 | q2 ha hb hc=>exact⟨hc.size,fun j v h=>app_l (app_r h (by rw[Array.size_append,ha.size,hb.size];omega))⟩
 | q3 ha hb hc hd=>exact⟨hd.size,fun j v h=>app_r h (by rw[Array.size_append,Array.size_append,ha.size,hb.size,hc.size];omega)⟩
def isRow (d:TypeDesc):Bool:=match d with|.struct _|.array _ _=>true|_=>false
theorem run_loadVar_part (w:World)(g off:Nat)(t ty:TypeId)(cs part:Array Value)(fr:Nat×Nat)(d:TypeDesc)(hg:w.heap[g]?=some (.cells cs t fr))
  (hu:P.underlying ty=some d)(hd:isRow d=true)(hi:(P.info? ty).map (·.size)=some part.size)(hp:Part cs part off) :
  (loadVar ty ⟨g,off,none⟩).run P w=.ok (.agg part) w:=by
 have hl:(loadCells ⟨g,off,none⟩ part.toList.length).run P w=.ok part.toList.toArray w:=
  run_loadCells_list (P:=P) w ⟨g,off,none⟩ part.toList (fun j v hv=>by
   have hadd:(⟨g,off,none⟩:Addr).add j=⟨g,off+j,none⟩:=by unfold Addr.add;split<;>simp_all
   rw[hadd,cell_of_row w g (off+j) cs t fr hg]
   exact hp j v (by simpa using hv))
 cases hq:P.info? ty with
 | none=>simp[hq] at hi
 | some i =>
  have hs:i.size=part.size:=by simpa[hq] using hi
  have hagg:(isAgg ty).run P w=.ok true w:=by
   unfold isAgg
   rw[Sem.run_bind,run_underlying hu w]
   cases d<;>simp_all [isRow]
  simp only[Array.length_toList,Array.toArray_toList] at hl
  simp[loadVar,Sem.run_bind,hagg,sizeOf,typeInfo,hq,hs,hl]
structure RowOf (P:Program)(t:TypeId)(n:Nat):Prop where
 d:∃d,P.underlying t=some d∧isRow d=true
 n:(P.info? t).map (·.size)=some n
theorem dI {o:Oper}{a:Act}{t:TypeId}{x:Operand}{n:Nat}(ho:o.op=.load t x)(hT:RowOf P t n){g off:Nat}(hx:a.eval x=.pointer (some ⟨g,off,none⟩)){cs part:Array Value}{e:TypeId}(hg:w.heap[g]?=some (.cells cs e (0,0)))(hp:PartN n cs part off) :
  (execOp a.eval o).run P w=.ok (.value (.agg part)) w:=by
 obtain⟨⟨d,hu,hd⟩,hi⟩:=hT
 have h:=run_loadVar_part (P:=P) w g off e t cs part (0,0) d hg hu hd (by rw[hi,hp.ok.1]) hp.ok.2
 unfold execOp
 simp only[ho,hx,Instr.loadAt,Instr.sureAddr,Sem.run_bind,Sem.run_pure,Result.andThen_ok,h]
end
section
variable {P : Program} {ops : Array Oper} {Q : Exit → Act → World → Prop} {rest : List Oper} {restT : List (Nat × Nat)} {i : Nat} {o : Oper} {a : Act} {w0 w : World} {M : Nat → Prop} {H H' : List Chunk} {t e : TypeId} {n g off : Nat} {x : Operand} {cs part : Array Value}
 {W0:World} {F:List (Nat×Nat)} {fc:Array Value} {fe:TypeId} {suf:STr}
theorem wp_loadP {K:Act→World→Prop}(ho:o.op=.load t x)(hx:a.eval x=.pointer (some ⟨g,off,none⟩))(hS:St w0 M w H)(hm:Chunk.cells g cs e∈H)(hp:PartN n cs part off)(hT:RowOf P t n)
  (h:K (a.put o.dst (.agg part)) w):o.wp P a w K Q:=by
 unfold Oper.wp
 rw[dI ho hT hx (hS.heapM hm) hp]
 exact h
theorem wl_loadP (hgd:o.guard=none)(ho:o.op=.load t x)(hx:a.eval x=.pointer (some ⟨g,off,none⟩))(hS:St w0 M w H)(hm:Chunk.cells g cs e∈H)(hT:RowOf P t n)(hp:PartN n cs part off)
  (h:wpList P ops Q rest (a.put o.dst (.agg part)) w):wpList P ops Q (o::rest) a w:=
 wpList_plain hgd fun K hK=>by
  unfold Oper.wp
  rw[dI ho hT hx (hS.heapM hm) hp]
  exact hK _ _ h
theorem aF (hoi:ops[i]?=some o)(ho:o.op=.load t x)(hw:Region.wanted o (yielded ops a.tmps)=true)(hx:a.eval x=.pointer (some ⟨g,off,none⟩))(hS:St w0 M w H)(hm:Chunk.cells g cs e∈H)(hT:RowOf P t n)(hp:PartN n cs part off)
  (h:wpT P ops Q restT (a.put o.dst (.agg part)) w):wpT P ops Q ((i,0)::restT) a w:=
 aK hoi ho hw (dI ho hT hx (hS.heapM hm) hp) h
theorem aG (hoi:ops[i]?=some o)(ho:o.op=.load t x)(hw:Region.wanted o (yielded ops a.tmps)=true)(hx:a.eval x=.pointer (some ⟨g,off,none⟩))(hS:St w0 M W0 H)(hm:Chunk.cells g cs e∈H)(hT:RowOf P t n)(hp:PartN n cs part off)
  (h:XGo P ops Q F fc fe suf W0 restT (a.put o.dst (.agg part)) w):XGo P ops Q F fc fe suf W0 ((i,0)::restT) a w:=
 wpX_load hoi ho hw (dI ho hT hx (hS.heapM hm) hp) h
theorem aH {f:FuncId}{xs:List Operand}{ts:Array TypeId}{vs:List Value}{R:World→Ending→World→Prop}(ho:ops[i]?=some o)(hw:Region.wanted o (yielded ops a.tmps)=true)
  (hop:o.op=.call { callee:=.value (.func f),args:=xs.toArray,argTypes:=ts })(hf:∀(args:Array Value) (w:World),(callFunc f args).run P w=.ok (.enter f args) w)
  (hx:xs.map a.eval=vs)(hc:∀x,Calls P f vs.toArray x (R x))(h:∀x e w',R x e w'→∃v,e=.returned v∧Below x.heap.size x w'∧XGo P ops Q F fc fe suf W0 restT (a.put o.dst v) w'):XGo P ops Q F fc fe suf W0 ((i,2)::restT) a w:=
 wpX_call ho hw fun x _ K hK=>bG hop hf hx (hc x) fun e w' hr=>by
  obtain⟨v,he,hb,hk⟩:=h x e w' hr
  exact⟨v,he,hK _ _ ⟨hb,hk⟩⟩
theorem wp_storeR {K:Act→World→Prop}{p:Operand}{c:Array Value}(ho:o.op=.store t p x)(hp:a.eval p=.pointer (some ⟨g,0,none⟩))(hx:a.eval x=.agg cs)(hS:St w0 M w H)(hT:RowOf P t n)(hu:Upd g c cs e H H')(hc:Arr n c)(hcs:Arr n cs)
  (h:∀w',St w0 M w' H'→K (a.put o.dst undef) w'):o.wp P a w K Q:=by
 obtain⟨h1,h2⟩:=hS.updR hu
 exact wp_store_row t p x ho g cs hp hx e c h1 (by rw[hT.n,hcs.size]) (by rw[hc.size,hcs.size]) hcs.one (h _ h2)
theorem wl_storeR {p:Operand}{c:Array Value}(hgd:o.guard=none)(ho:o.op=.store t p x)(hp:a.eval p=.pointer (some ⟨g,0,none⟩))(hx:a.eval x=.agg cs)(hS:St w0 M w H)(hT:RowOf P t n)(hu:Upd g c cs e H H')(hc:Arr n c)(hcs:Arr n cs)
  (h:∀w',St w0 M w' H'→wpList P ops Q rest (a.put o.dst undef) w'):wpList P ops Q (o::rest) a w:=
 wpList_plain hgd fun _ hK=>wp_storeR ho hp hx hS hT hu hc hcs fun w' h'=>hK _ _ (h w' h')
theorem aS {p:Operand}{c:Array Value}{restS:STr}(hoi:ops[i]?=some o)(hw:Region.wanted o (yielded ops a.tmps)=true)(ho:o.op=.store t p x)(hp:a.eval p=.pointer (some ⟨g,0,none⟩))(hx:a.eval x=.agg cs)(hS:St w0 M w H)(hX:aC W0 w)(hg:W0.heap.size≤g)(hT:RowOf P t n)(hu:Upd g c cs e H H')(hc:Arr n c)(hcs:Arr n cs)
  (h:∀w',St w0 M w' H'→aC W0 w'→wpS P ops Q W0 restS (a.put o.dst undef) w'):wpS P ops Q W0 (.op i 2 restS) a w:=
 aQ hoi hw fun K hK=>by
  obtain⟨h1,h2⟩:=hS.updR hu
  have hX':aC W0 (w.setRow g cs):=⟨hX.os,hX.tape,hX.output,by rw[size_setRow];exact hX.size,fun k hk=>(setRow_other w g k cs An).trans (hX.block k hk)⟩
  exact wp_store_row t p x ho g cs hp hx e c h1 (by rw[hT.n,hcs.size]) (by rw[hc.size,hcs.size]) hcs.one (hK _ _ ⟨hX',h _ h2 hX'⟩)
def NewOf (P:Program)(t:TypeId)(zs:Array Value):Prop:=∀x:World,(Instr.alloc t true (.tuple #[])).run P x=.ok (.pointer (some ⟨x.heap.size,0,none⟩)) (x.alloc (.cells zs t))
theorem eM {zs:Array Value}(ho:o.op=.alloc t)(hN:NewOf P t zs)(ev:Operand→Value)(y:World):(execOp ev o).run P y=.ok (.value (.pointer (some ⟨y.heap.size,0,none⟩))) (y.alloc (.cells zs t)):=by
 unfold execOp
 simp only[ho,Sem.run_bind,hN y,Sem.run_pure,Result.andThen_ok]
theorem wl_allocR {zs:Array Value}(hgd:o.guard=none)(ho:o.op=.alloc t)(hS:St w0 M w H)(hN:NewOf P t zs)
  (h:∀g w',St w0 M w' (.cells g zs t::H)→wpList P ops Q rest (a.put o.dst (.pointer (some ⟨g,0,none⟩))) w'):wpList P ops Q (o::rest) a w:=
 wpList_plain hgd fun _ hK=>by
  unfold Oper.wp
  rw[eM ho hN]
  exact hK _ _ (h _ _ (hS.alloc zs t))
theorem wl_boxR (hgd:o.guard=none)(ho:o.op=.box t x)(hx:a.eval x=.agg cs)(hS:St w0 M w H)
  (h:∀g w',St w0 M w' (.cells g cs t::H)→wpList P ops Q rest (a.put o.dst (.pointer (some ⟨g,0,none⟩))) w'):wpList P ops Q (o::rest) a w:=
 wpList_plain hgd fun _ hK=>by
  unfold Oper.wp execOp
  simp only[ho,hx,Sem.run_bind,Instr.box,newVar,newRow,run_newObj_alloc,Sem.run_pure,Result.andThen_ok]
  exact hK _ _ (h _ _ (hS.alloc cs t))
def BuildOf (P:Program)(t:TypeId)(A:Array Value→Prop):Prop:=∀a b c d:Array Value,A a→A b→A c→A d→P.built t [(0,.agg a),(1,.agg b),(2,.agg c),(3,.agg d)]=some (fS a b c d)
theorem bB {A:Array Value→Prop}{p q r s:Operand}{va vb vc vd:Array Value}(ho:o.op=.build t #[(0,p),(1,q),(2,r),(3,s)])(h0:a.eval p=.agg va)(h1:a.eval q=.agg vb)(h2:a.eval r=.agg vc)(h3:a.eval s=.agg vd)
  (hB:BuildOf P t A)(ha:A va)(hb:A vb)(hc:A vc)(hd:A vd)(y:World):(execOp a.eval o).run P y=.ok (.value (.agg (fS va vb vc vd))) y:=by
 have hf:=hB va vb vc vd ha hb hc hd
 have e:((#[(0,p),(1,q),(2,r),(3,s)]:Array (Nat×Operand)).map fun(i,x)=>(i,a.eval x)).toList=[(0,.agg va),(1,.agg vb),(2,.agg vc),(3,.agg vd)]:=by
  simp[h0,h1,h2,h3]
 unfold execOp
 simp only[ho]
 simp only[Sem.run_bind,run_build y t _ _ (by rw[e];exact hf),Result.andThen_ok]
 rfl
end
def nv:List Int→Int
 | []=>0
 | x::xs=>x+65536*nv xs
theorem nv_append:∀(xs ys:List Int),nv (xs++ys)=nv xs+65536^xs.length*nv ys
 | [],ys=>by simp[nv]
 | x::xs,ys=>by
  simp only[List.cons_append,nv,nv_append xs ys,List.length_cons]
  rw[Int.pow_succ,Int.mul_add,Int.add_assoc,←Int.mul_assoc,Int.mul_comm 65536 (65536^xs.length)]
theorem nv_take {xs:List Int}{k:Nat}{x:Int}(h:xs[k]?=some x):nv (xs.take (k+1))=nv (xs.take k)+x*65536^k:=by
 have hk:=(List.getElem?_eq_some_iff.1 h).1
 rw[List.take_add_one,h,Option.toList_some,nv_append,List.length_take,Nat.min_eq_left An]
 simp only[nv,Int.mul_zero,Int.add_zero]
 rw[Int.mul_comm]
def ky (xs:List Int):Nat→Int
 | 0=>0
 | i+1=>(xs.getD i 0+ky xs i)/65536
def dy (xs:List Int)(i:Nat):Int:=(xs.getD i 0+ky xs i)%65536
def dyL (xs:List Int)(i:Nat):List Int:=(List.range i).map (dy xs)
theorem bI (xs:List Int)(i:Nat):(dyL xs i).length=i:=by simp[dyL]
theorem dyL_succ (xs:List Int)(i:Nat):dyL xs (i+1)=dyL xs i++[dy xs i]:=by unfold dyL;rw[List.range_succ,List.map_append];rfl
theorem dy_bd (xs:List Int)(i:Nat):0≤dy xs i∧dy xs i<65536:=by unfold dy;omega
theorem getD_of {xs:List Int}{k:Nat}{x:Int}(h:xs[k]?=some x):xs.getD k 0=x:=by rw[List.getD_eq_getElem?_getD,h];rfl
theorem split_at (T s:Int):T*(s%65536)+T*65536*(s/65536)=T*s:=by
 rw[Int.mul_assoc,←Int.mul_add,Int.emod_add_mul_ediv]
theorem dyL_nv (xs:List Int):∀i,i≤xs.length→nv (dyL xs i)+65536^i*ky xs i=nv (xs.take i)
 | 0,_=>by simp[dyL,ky,nv]
 | i+1,h=>by
  have hx:xs[i]?=some xs[i]:=gE An
  have hs:=getD_of hx
  rw[dyL_succ,nv_append,bI,nv_take hx,←dyL_nv xs i An]
  simp only[nv,Int.mul_zero,Int.add_zero,dy,ky,hs,Int.pow_succ]
  have h1:=split_at ((65536:Int)^i) (xs[i]+ky xs i)
  rw[Int.mul_add] at h1
  rw[Int.mul_comm xs[i]]
  omega
def cyA (xs:List Int)(i:Nat):List Int:=if i<16 then dyL xs i++((xs.getD i 0+ky xs i)::xs.drop (i+1)) else (dy xs 0+38*ky xs 16)::(dyL xs 16).drop 1
def carL (xs:List Int):List Int:=cyA xs 16
theorem dyL_drop (xs:List Int):dyL xs 16=dy xs 0::(dyL xs 16).drop 1:=rfl
theorem dA (xs:List Int):(carL xs).length=16:=by
 show((dy xs 0+38*ky xs 16)::(dyL xs 16).drop 1).length=16
 rw[List.length_cons,List.length_drop,bI]
theorem cyA_zero (xs:List Int)(h:xs.length=16):cyA xs 0=xs:=by
 match xs,h with
 | x::xs,_=>simp[cyA,dyL,ky]
theorem cyA_at (xs:List Int)(i:Nat)(hi:i<16):(cyA xs i)[i]?=some (xs.getD i 0+ky xs i):=by
 unfold cyA
 rw[if_pos hi,List.getElem?_append_right Dd,bI,Nat.sub_self]
 rfl
theorem cyA_next (xs:List Int)(h:xs.length=16)(i:Nat)(hi:i<15):(cyA xs i)[i+1]?=some (xs.getD (i+1) 0):=by
 unfold cyA
 rw[if_pos An,List.getElem?_append_right Dd,bI,Nat.add_sub_cancel_left,List.getElem?_cons_succ,List.getElem?_drop,Nat.add_zero,List.getD_eq_getElem?_getD,gE An]
 rfl
theorem cyA_last (xs:List Int):(cyA xs 15)[0]?=some (dy xs 0):=rfl
theorem cyA_step (xs:List Int)(h:xs.length=16)(i:Nat)(hi:i<15) :
  ((cyA xs i).set (i+1) (xs.getD (i+1) 0+ky xs (i+1))).set i (dy xs i)=cyA xs (i+1):=by
 have hd:xs.drop (i+1)=xs.getD (i+1) 0::xs.drop (i+2):=by
  rw[List.drop_eq_getElem_cons An,List.getD_eq_getElem?_getD,gE An]
  rfl
 unfold cyA
 rw[if_pos An,if_pos An,List.set_append_right _ _ Dd,bI,Nat.add_sub_cancel_left,List.set_cons_succ,hd,List.set_cons_zero,
  List.set_append_right _ _ Dd,bI,Nat.sub_self,List.set_cons_zero,dyL_succ,List.append_assoc]
 rfl
theorem cyA_end (xs:List Int)(h:xs.length=16) :
  ((cyA xs 15).set 0 (dy xs 0+38*ky xs 16)).set 15 (dy xs 15)=carL xs:=by
 have hd:xs.drop 16=[]:=List.drop_eq_nil_of_le An
 show(((dyL xs 15++((xs.getD 15 0+ky xs 15)::xs.drop 16))).set 0 _).set 15 _=(dy xs 0+38*ky xs 16)::(dyL xs 16).drop 1
 rw[hd]
 rfl
theorem carL_nv (xs:List Int)(h:xs.length=16):nv (carL xs)=nv xs - ky xs 16*(65536^16 - 38):=by
 have h1:=dyL_nv xs 16 An
 rw[List.take_of_length_le An,dyL_drop] at h1
 show nv ((dy xs 0+38*ky xs 16)::(dyL xs 16).drop 1)=_
 simp only[nv] at h1 ⊢
 rw[←h1,Int.mul_sub,Int.mul_comm (ky xs 16) (65536^16)]
 omega
theorem two_pq:(65536^16 - 38:Int)=2*(Pq:Int):=Dc
theorem carL_mod (xs:List Int)(h:xs.length=16):nv (carL xs)%(Pq:Int)=nv xs%(Pq:Int):=by
 rw[carL_nv xs h,two_pq,←Int.mul_assoc,Int.sub_mul_emod_self_right]
theorem iG (xs:List Int)(k:Nat)(hk:k<16):(carL xs)[k]?=some (dy xs k+if k=0 then 38*ky xs 16 else 0):=by
 show((dy xs 0+38*ky xs 16)::(dyL xs 16).drop 1)[k]?=_
 cases k with
 | zero=>rfl
 | succ k =>
  rw[List.getElem?_cons_succ,List.getElem?_drop,dyL,List.getElem?_map,List.getElem?_range An,if_neg An,Int.add_zero,Nat.add_comm 1 k]
  rfl
def NB (xs:List Int):Prop:=xs.length=16∧∀(k:Nat) (x:Int),xs[k]?=some x→(if k=0 then -76 else 0)≤x∧x<65536+(if k=0 then 76 else 0)
theorem ky_bd (xs:List Int)(M:Int)(hM:0≤M)(h:∀(k:Nat) (x:Int),xs[k]?=some x→-M≤x∧x≤M):∀i,-M - 1≤ky xs i∧ky xs i≤M+1
 | 0=>by simp only[ky];omega
 | i+1=>by
  have ih:=ky_bd xs M hM h i
  have hx:-M≤xs.getD i 0∧xs.getD i 0≤M:=by
   rw[List.getD_eq_getElem?_getD]
   cases hg:xs[i]? with
   | none=>simp only[Option.getD_none];omega
   | some x=>exact h i x hg
  simp only[ky]
  omega
theorem carL_nb1 (xs:List Int)(h1:∀(k:Nat) (x:Int),xs[k]?=some x→(if k=0 then -65700 else -65535)≤x∧x≤(if k=0 then 131300 else 131070)):NB (carL xs):=by
 have hk:∀i,1≤i→-2≤ky xs i∧ky xs i≤2:=by
  intro i hi
  induction i with
  | zero=>omega
  | succ i ih =>
   have hx:-65700≤xs.getD i 0∧xs.getD i 0≤131300:=by
    rw[List.getD_eq_getElem?_getD]
    cases hg:xs[i]? with
    | none=>simp only[Option.getD_none];omega
    | some x=>have:=h1 i x hg;split at this<;>simp only[Option.getD_some]<;>omega
   simp only[ky]
   cases i with
   | zero=>simp only[ky];omega
   | succ i=>have:=ih An;omega
 have h16:-2≤ky xs 16∧ky xs 16≤2:=hk 16 An
 refine⟨dA xs,fun k x hx=>?_⟩
 have hk16:k<16:=Di
 rw[iG xs k hk16] at hx
 injection hx with hx
 have hd:=dy_bd xs k
 subst hx
 split<;>omega
theorem carL_nb2 (xs:List Int)(h1:∀(k:Nat) (x:Int),xs[k]?=some x→(if k=0 then -288230376151711744 else 0)≤x∧x≤(if k=0 then 288230376151711744 else 65535)):NB (carL xs):=by
 have hx:∀k,(if k=0 then -288230376151711744 else 0)≤xs.getD k 0∧xs.getD k 0≤(if k=0 then 288230376151711744 else 65535):=by
  intro k
  rw[List.getD_eq_getElem?_getD]
  cases hg:xs[k]? with
  | none=>simp only[Option.getD_none];split<;>omega
  | some x=>exact h1 k x hg
 have k1:-4398046511105≤ky xs 1∧ky xs 1≤4398046511105:=by have:=hx 0;rw[if_pos rfl,if_pos rfl] at this;rw[ky,ky];omega
 have k2:-67108865≤ky xs 2∧ky xs 2≤67108865:=by have:=hx 1;rw[if_neg An,if_neg An] at this;rw[ky];omega
 have k3:-1025≤ky xs 3∧ky xs 3≤1025:=by have:=hx 2;rw[if_neg An,if_neg An] at this;rw[ky];omega
 have hk:∀i,-1≤ky xs (i+4)∧ky xs (i+4)≤1:=by
  intro i
  induction i with
  | zero=>have:=hx 3;rw[if_neg An,if_neg An] at this;rw[ky];omega
  | succ i ih=>have:=hx (i+4);rw[if_neg An,if_neg An] at this;rw[show i+1+4=(i+4)+1 from by omega,ky];omega
 have h16:-1≤ky xs 16∧ky xs 16≤1:=hk 12
 refine⟨dA xs,fun k x hx=>?_⟩
 have hk16:k<16:=Di
 rw[iG xs k hk16] at hx
 injection hx with hx
 have hd:=dy_bd xs k
 subst hx
 split<;>omega
theorem carL_long (xs:List Int)(M:Int)(hM0:0≤M)(hM:M≤4503599627370496)(h:∀(k:Nat) (x:Int),xs[k]?=some x→-M≤x∧x≤M) :
  ∀(k:Nat) (x:Int),(carL xs)[k]?=some x→(if k=0 then -288230376151711744 else 0)≤x∧x≤(if k=0 then 288230376151711744 else 65535):=by
 intro k x hx
 have hk16:k<16:=Di
 rw[iG xs k hk16] at hx
 injection hx with hx
 have hd:=dy_bd xs k
 have hb:=ky_bd xs M hM0 h 16
 subst hx
 split<;>omega
def Dig (xs:List Int):Prop:=xs.length=16∧∀(k:Nat) (x:Int),xs[k]?=some x→0≤x∧x<65536
theorem nv_dig:∀(xs:List Int),(∀x∈xs,0≤x∧x<65536)→0≤nv xs∧nv xs<65536^xs.length
 | [],_=>by simp[nv]
 | x::xs,h=>by
  have ih:=nv_dig xs fun y hy=>h y (mC _ hy)
  have hx:=h x (List.mem_cons_self ..)
  simp only[nv,List.length_cons,Int.pow_succ]
  omega
theorem dig_all {xs:List Int}(h:Dig xs):∀x∈xs,0≤x∧x<65536:=fun x hx=>by
 obtain⟨k,hk⟩:=List.getElem?_of_mem hx
 exact h.2 k x hk
theorem dig_nv {xs:List Int}(h:Dig xs):0≤nv xs∧nv xs<65536^16:=by
 have:=nv_dig xs (dig_all h)
 rw[h.1] at this
 exact this
theorem dyL_dig (xs:List Int):Dig (dyL xs 16):=by
 refine⟨bI xs 16,fun k x hx=>?_⟩
 have hk16:k<16:=by have:=(List.getElem?_eq_some_iff.1 hx).1;rw[bI] at this;exact this
 rw[dyL,List.getElem?_map,List.getElem?_range hk16] at hx
 injection hx with hx
 subst hx
 exact dy_bd xs k
theorem carL_dig {xs:List Int}(h:Dig xs):carL xs=xs:=by
 have hk:∀i,ky xs i=0:=by
  intro i
  induction i with
  | zero=>rfl
  | succ i ih =>
   rw[ky,ih,List.getD_eq_getElem?_getD]
   cases hg:xs[i]? with
   | none=>simp
   | some x=>have:=h.2 i x hg;simp only[Option.getD_some];omega
 apply List.ext_getElem?
 intro k
 rcases Nat.lt_or_ge k 16 with hk16|hk16
 ·have hx:xs[k]?=some (xs[k]'(by rw[h.1];exact hk16)):=gE (by rw[h.1];exact hk16)
  rw[iG xs k hk16,hx,dy,hk,hk,getD_of hx]
  have:=h.2 k _ hx
  congr 1
  split<;>omega
 ·rw[List.getElem?_eq_none (by rw[dA];exact hk16),List.getElem?_eq_none (by rw[h.1];exact hk16)]
theorem nb_nv {xs:List Int}(h:NB xs):-76≤nv xs∧nv xs≤65536^16+75:=by
 obtain⟨hl,hb⟩:=h
 match xs,hl with
 | x::xs,hl =>
  have h0:=hb 0 x rfl
  have hr:=nv_dig xs fun y hy=>by
   obtain⟨k,hk⟩:=List.getElem?_of_mem hy
   have:=hb (k+1) y (by simpa using hk)
   simpa using this
  have hl15:xs.length=15:=by simpa using hl
  rw[hl15] at hr
  simp only[nv] at h0 ⊢
  simp at h0
  have:(65536:Int)^16=65536*65536^15:=by decide
  omega
theorem carL_nb_dig {xs:List Int}(h:NB xs):Dig (carL xs):=by
 have hv:=nb_nv h
 have h1:=dyL_nv xs 16 (by rw[h.1];omega)
 rw[List.take_of_length_le (by rw[h.1];omega)] at h1
 have hd:=dig_nv (dyL_dig xs)
 have hT:(65536:Int)^16=115792089237316195423570985008687907853269984665640564039457584007913129639936:=Bz
 have hk:ky xs 16=0∨ky xs 16=-1∨ky xs 16=1:=by
  rw[hT] at h1 hv hd
  omega
 have h0:nv (dyL xs 16)=dy xs 0+65536*nv ((dyL xs 16).drop 1):=by rw[dyL_drop];rfl
 have hr:=nv_dig ((dyL xs 16).drop 1) fun y hy=>dig_all (dyL_dig xs) y (List.mem_of_mem_drop hy)
 rw[List.length_drop,bI] at hr
 have hT':(65536:Int)^(16 - 1)=1766847064778384329583297500742918515827483896875618958121606201292619776:=Bz
 rw[hT'] at hr
 rw[hT] at h1 hv hd
 have hd0:=dy_bd xs 0
 refine⟨dA xs,fun k x hx=>?_⟩
 have hk16:k<16:=Di
 rw[iG xs k hk16] at hx
 injection hx with hx
 have hdk:=dy_bd xs k
 subst hx
 split
 ·rename_i hk0
  subst hk0
  rcases hk with hk|hk|hk<;>rw[hk] at h1 ⊢<;>omega
 ·omega
def pRow:List Int:=[65517,65535,65535,65535,65535,65535,65535,65535,65535,65535,65535,65535,65535,65535,65535,32767]
theorem pRow_nv:nv pRow=(Pq:Int):=Dc
def suL (t:List Int):List Int:=List.zipWith (·- ·) t pRow
theorem nv_zip:∀(xs ys:List Int),xs.length=ys.length→nv (List.zipWith (·- ·) xs ys)=nv xs - nv ys
 | [],[],_=>rfl
 | x::xs,y::ys,h=>by
  simp only[List.zipWith_cons_cons,nv,nv_zip xs ys Cb]
  omega
 | [],_::_,h=>by simp at h
 | _::_,[],h=>by simp at h
theorem suL_len {t:List Int}(h:t.length=16):(suL t).length=16:=by unfold suL;rw[List.length_zipWith,h];rfl
theorem suL_nv {t:List Int}(h:t.length=16):nv (suL t)=nv t - (Pq:Int):=by unfold suL;rw[nv_zip _ _ (by rw[h];rfl),pRow_nv]
def suA (t:List Int)(i:Nat):List Int:=dyL (suL t) (i - 1)++(((suL t).getD (i - 1) 0+ky (suL t) (i - 1))::t.drop i)
def suE (t:List Int):List Int:=dyL (suL t) 15++[(suL t).getD 15 0+ky (suL t) 15]
def suN (t:List Int):List Int:=if 0≤(suL t).getD 15 0+ky (suL t) 15 then suE t else t
theorem suE_nv {t:List Int}(h:t.length=16):nv (suE t)=nv t - (Pq:Int):=by
 have h15:15<(suL t).length:=by rw[suL_len h];omega
 have hx:(suL t)[15]?=some (suL t)[15]:=gE h15
 have h2:=dyL_nv (suL t) 15 An
 have h3:=nv_take hx
 rw[List.take_of_length_le (by rw[suL_len h];omega),suL_nv h,←h2] at h3
 unfold suE
 rw[nv_append,bI,h3,getD_of hx]
 simp only[nv,Int.mul_zero,Int.add_zero]
 rw[Int.mul_add,Int.mul_comm (suL t)[15]]
 omega
theorem suN_spec {t:List Int}(h:Dig t):Dig (suN t)∧nv (suN t)=if (Pq:Int)≤nv t then nv t - (Pq:Int) else nv t:=by
 have he:=suE_nv h.1
 have hn:nv (suE t)=nv (dyL (suL t) 15)+65536^15*((suL t).getD 15 0+ky (suL t) 15):=by
  unfold suE
  rw[nv_append,bI]
  simp only[nv,Int.mul_zero,Int.add_zero]
 have hd:=nv_dig (dyL (suL t) 15) fun x hx=>by
  simp only[dyL,List.mem_map] at hx
  obtain⟨k,_,rfl⟩:=hx
  exact dy_bd _ _
 rw[bI] at hd
 have ht:=dig_nv h
 have hT:(65536:Int)^16=115792089237316195423570985008687907853269984665640564039457584007913129639936:=Bz
 have hT':(65536:Int)^15=1766847064778384329583297500742918515827483896875618958121606201292619776:=Bz
 rw[hT] at ht
 rw[hT'] at hn hd
 unfold suN
 have hp:(0:Int)≤Pq:=Int.natCast_nonneg _
 split
 ·rename_i hs
  refine⟨⟨by unfold suE;rw[List.length_append,bI];rfl,fun k x hx=>?_⟩,?_⟩
  ·unfold suE at hx
   rcases Nat.lt_or_ge k 15 with hk|hk
   ·rw[List.getElem?_append_left (by rw[bI];exact hk),dyL,List.getElem?_map,List.getElem?_range hk] at hx
    injection hx with hx
    subst hx
    exact dy_bd _ _
   ·rw[List.getElem?_append_right (by rw[bI];exact hk),bI] at hx
    have:k - 15=0:=by
     have:=(List.getElem?_eq_some_iff.1 hx).1
     simp at this
     omega
    rw[this] at hx
    injection hx with hx
    subst hx
    refine⟨hs,?_⟩
    omega
  ·rw[if_pos An];exact he
 ·rename_i hs
  exact⟨h,by rw[if_neg An]⟩
def bytN (xs:List Int):List Int:=suN (suN (suN (carL xs)))
theorem bytN_spec {xs:List Int}(h:NB xs):Dig (bytN xs)∧nv (bytN xs)=nv xs%(Pq:Int):=by
 obtain⟨d1,e1⟩:=suN_spec (carL_nb_dig h)
 obtain⟨d2,e2⟩:=suN_spec d1
 obtain⟨d3,e3⟩:=suN_spec d2
 refine⟨d3,?_⟩
 have hv:=dig_nv (carL_nb_dig h)
 have hm:=carL_mod xs h.1
 have h3:=dig_nv d3
 rw[←hm]
 have hT:(65536:Int)^16=2*(Pq:Int)+38:=by have:=two_pq;omega
 rw[hT] at hv
 have hp:(1000000:Int)<Pq:=Ce
 show nv (suN (suN (suN (carL xs))))=_
 rw[e3,e2,e1]
 generalize nv (carL xs)=V at *
 generalize (Pq:Int)=p at *
 clear e1 e2 e3 hm h3 hT
 have key:∀(V:Int),0≤V→V<p→V%p=V:=fun V h1 h2=>Int.emod_eq_of_lt h1 h2
 by_cases h1:p≤V
 ·rw[if_pos h1]
  have e1:V%p=(V - p)%p:=(Int.sub_emod_right V p).symm
  by_cases h2:p≤V - p
  ·rw[if_pos h2]
   have e2:(V - p)%p=(V - p - p)%p:=(Int.sub_emod_right (V - p) p).symm
   rw[if_neg An,e1,e2,key _ An An]
  ·rw[if_neg h2,if_neg h2,e1,key _ An An]
 ·rw[if_neg h1,if_neg h1,if_neg h1,key _ An An]
def rowB (x:Int):List UInt8:=[UInt8.ofNat (x%256).toNat,UInt8.ofNat (x/256%256).toNat]
theorem rowsB:∀(xs:List Int),(∀x∈xs,0≤x∧x<65536)→xs.flatMap rowB=leB (2*xs.length) (nv xs).toNat
 | [],_=>rfl
 | x::xs,h=>by
  have ih:=rowsB xs fun y hy=>h y (mC _ hy)
  have hx:=h x (List.mem_cons_self ..)
  have hn:=nv_dig xs fun y hy=>h y (mC _ hy)
  rw[List.flatMap_cons,ih,List.length_cons,show 2*(xs.length+1)=(2*xs.length)+1+1 from by omega]
  simp only[leB,rowB,List.cons_append,List.nil_append,nv]
  have e1:(x+65536*nv xs).toNat%256=(x%256).toNat:=An
  have e2:(x+65536*nv xs).toNat/256%256=(x/256%256).toNat:=An
  have e3:(x+65536*nv xs).toNat/256/256=(nv xs).toNat:=An
  rw[e1,e2,e3]
def ivs (xs:List Int):List Value:=xs.map (.int .i64 ·)
theorem ivs_len (xs:List Int):(ivs xs).length=xs.length:=by simp[ivs]
theorem ivs_get {xs:List Int}{k:Nat}{x:Int}(h:xs[k]?=some x):(ivs xs).toArray[k]?=some (.int .i64 x):=by simp[ivs,h]
theorem ivs_set (xs:List Int)(k:Nat)(x:Int):(ivs xs).toArray.setIfInBounds k (.int .i64 x)=(ivs (xs.set k x)).toArray:=by simp[ivs,List.map_set]
theorem ivs_all (xs:List Int):(ivs xs).toArray.all (·.oneCell')=true:=by
 rw[Array.all_eq_true_iff_forall_mem]
 intro v hv
 simp only[ivs,List.mem_toArray,List.mem_map] at hv
 obtain⟨x,_,rfl⟩:=hv
 rfl
def CyB (xs:List Int):Prop:=xs.length=16∧(∀i,-1152921504606846976≤xs.getD i 0∧xs.getD i 0≤1152921504606846976∧-1152921504606846976≤ky xs i∧ky xs i≤1152921504606846976)∧-72057594037927936≤ky xs 16∧ky xs 16≤72057594037927936
def CyRel (w:World)(xs:List Int)(iv:Value)(wr:World):Prop:=
 ∃i:Nat,i≤16∧iv=.int .i64 (i:Int)∧St w NoB wr [.cells (w.heap.size+1) (ivs (List.replicate 16 0)).toArray 130,.cells w.heap.size (ivs (cyA xs i)).toArray 130]
theorem fK (xs:List Int)(w:World)(h:CyB xs) :
  Calls Tryz.prog 166 #[.agg (ivs xs).toArray] w fun e w'=>e=.returned (.agg (ivs (carL xs)).toArray)∧Below w.heap.size w w':=by
 obtain⟨hl,hb,h16⟩:=h
 have HB:=aA hb
 have HL:=aA hl
 have H16:=aA h16
 have HS0:=((St.init w NoB).alloc (ivs xs).toArray 130).alloc (ivs (List.replicate 16 0)).toArray 130
 rw[size_alloc1] at HS0
 have HS:=aA HS0
 clear HS0 hl hb h16
 go_enter Tryz.func166,Tryz.ntmps166
 go_wp2_with fail
 go_loopw [5] (fun i wr=>CyRel w xs i wr) (fun i _=>16 - (intOf i).toNat)
 case atStart=>exact⟨0,An,rfl,by rw[cyA_zero xs HL.out];exact HS.out⟩
 case round =>
  clear HS
  obtain⟨i,hi,rfl,hS⟩:=hrel
  have HS:=aA hS
  by_cases hlt:i<16
  ·have d16:decide ((i:Int)<16)=true:=by simp;omega
   have hy:=HB.out i
   have hy1:=HB.out (i+1)
   by_cases h15:i<15
   ·have d15:decide ((i:Int)<15)=true:=by simp;omega
    have c0:wr.cell? ⟨w.heap.size,i,none⟩=some (.int .i64 (xs.getD i 0+ky xs i)):=by rw[hS.cell 1 rfl i];exact ivs_get (cyA_at xs i hlt)
    have c1:wr.cell? ⟨w.heap.size,i+1,none⟩=some (.int .i64 (xs.getD (i+1) 0)):=by rw[hS.cell 1 rfl (i+1)];exact ivs_get (cyA_next xs HL.out i h15)
    have f0:=hS.free 1 rfl i
    have f1:=hS.free 1 rfl (i+1)
    have HT:=aA (cyA_step xs HL.out i h15)
    have hd:dy xs i=(xs.getD i 0+ky xs i)%65536:=rfl
    have hk:ky xs (i+1)=(xs.getD i 0+ky xs i)/65536:=rfl
    have HD:=aA hd
    have HK:=aA hk
    obtain⟨y,hy0⟩:∃y,y=xs.getD i 0+ky xs i:=⟨_,rfl⟩
    rw[←hy0] at c0
    have by0:-2305843009213693952≤y:=An
    have by1:y≤2305843009213693952:=An
    have HY:=aA hy0
    obtain⟨z,hz0⟩:∃z,z=xs.getD (i+1) 0:=⟨_,rfl⟩
    rw[←hz0] at c1
    have bz0:-1152921504606846976≤z:=An
    have bz1:z≤1152921504606846976:=An
    have HZ:=aA hz0
    have i15:(i:Int)<15:=An
    have i16:(i:Int)<16:=An
    clear hd hk hy0 hz0 hy hy1 hS
    go_wp2_with fail
    go_roundw
    case rel =>
     have h3:=((HS.out.setCell 1 rfl i (.int .i64 (y+65536))).setCell 1 rfl (i+1) (.int .i64 (z+((y+65536)/65536 - 1)))).setCell 1 rfl i (.int .i64 (y+65536 - (y+65536)/65536*65536))
     have e1:z+((y+65536)/65536 - 1)=xs.getD (i+1) 0+ky xs (i+1):=by rw[HK.out,←HZ.out,←HY.out];omega
     have e2:y+65536 - (y+65536)/65536*65536=dy xs i:=by rw[HD.out,←HY.out];omega
     rw[e1,e2] at h3 ⊢
     simp only[List.set_cons_succ,List.set_cons_zero,ivs_set] at h3
     rw[List.set_comm _ _ (by omega:i≠i+1),List.set_set,List.set_comm _ _ (by omega:i+1≠i)] at h3
     rw[List.set_comm _ _ (by omega:i≠i+1),HT.out] at h3
     exact⟨i+1,An,Cg,h3⟩
    case measure=>(simp[intOf])<;>omega
   ·obtain rfl:i=15:=by omega
    have c0:wr.cell? ⟨w.heap.size,15,none⟩=some (.int .i64 (xs.getD 15 0+ky xs 15)):=by rw[hS.cell 1 rfl 15];exact ivs_get (cyA_at xs 15 hlt)
    have c1:wr.cell? ⟨w.heap.size,0,none⟩=some (.int .i64 (dy xs 0)):=by rw[hS.cell 1 rfl 0];exact ivs_get (cyA_last xs)
    have f0:=hS.free 1 rfl 15
    have f1:=hS.free 1 rfl 0
    have HT:=aA (cyA_end xs HL.out)
    have hd:dy xs 15=(xs.getD 15 0+ky xs 15)%65536:=rfl
    have hk:ky xs 16=(xs.getD 15 0+ky xs 15)/65536:=rfl
    have HD:=aA hd
    have HK:=aA hk
    have h16:=H16.out
    rw[hk] at h16
    obtain⟨y,hy0⟩:∃y,y=xs.getD 15 0+ky xs 15:=⟨_,rfl⟩
    rw[←hy0] at c0 h16
    have by0:-2305843009213693952≤y:=An
    have by1:y≤2305843009213693952:=An
    have bq0:-72057594037927936≤(y+65536)/65536 - 1:=An
    have bq1:(y+65536)/65536 - 1≤72057594037927936:=An
    have HY:=aA hy0
    have hz:=dy_bd xs 0
    obtain⟨z,hz0⟩:∃z,z=dy xs 0:=⟨_,rfl⟩
    rw[←hz0] at c1 hz
    have bz0:0≤z:=An
    have bz1:z<65536:=An
    have HZ:=aA hz0
    clear hd hk hy0 hz0 hy hy1 hS h16 hz
    go_wp2_with fail
    go_roundw
    case rel =>
     have h3:=((HS.out.setCell 1 rfl 15 (.int .i64 (y+65536))).setCell 1 rfl 0 (.int .i64 (z+38*((y+65536)/65536 - 1)))).setCell 1 rfl 15 (.int .i64 (y+65536 - (y+65536)/65536*65536))
     have e1:z+38*((y+65536)/65536 - 1)=dy xs 0+38*ky xs 16:=by rw[HK.out,HZ.out,←HY.out];omega
     have e2:y+65536 - (y+65536)/65536*65536=dy xs 15:=by rw[HD.out,←HY.out];omega
     rw[e1,e2] at h3 ⊢
     simp only[List.set_cons_succ,List.set_cons_zero,ivs_set] at h3
     rw[List.set_comm _ _ (by decide:15≠0),List.set_set,List.set_comm _ _ (by decide:0≠15)] at h3
     rw[List.set_comm _ _ (by decide:15≠0),HT.out] at h3
     exact⟨16,An,rfl,h3⟩
    case measure=>(simp[intOf])<;>omega
  ·obtain rfl:i=16:=by omega
   obtain⟨ys,hys⟩:∃ys,ys=(ivs (carL xs)).toArray:=⟨_,rfl⟩
   have hsz:ys.size=16:=by rw[hys,List.size_toArray,ivs_len,dA]
   have hone:ys.all (·.oneCell')=true:=by rw[hys];exact ivs_all _
   have HY:=aA hys
   have h0:St w NoB wr [.cells (w.heap.size+1) (ivs (List.replicate 16 0)).toArray 130,.cells w.heap.size ys 130]:=by rw[hys];exact hS
   have HS1:=aA h0
   have HS2:=aA (h0.setRow 0 rfl ys)
   clear hS h0 hys HS
   go_upto_region 11 with fail
   refine wp_region_list ?_
   refine wpList_load_row rfl 130 (.tmp 1) rfl w.heap.size rfl 130 ys _ _ (HS1.out.heap 1 rfl) Tryz.underlying130 rfl De ?_
   refine wpList_store_row rfl 130 (.tmp 2) (.tmp 42) rfl (w.heap.size+1) ys rfl rfl 130 _ (HS1.out.heap 0 rfl) De (by rw[hsz];rfl) hone ?_
   refine wpList_nil ?_
   go_wp2_with fail
   refine bodyPost_ret (results_cell_row rfl _ _ (w.heap.size+1) _ _ _ _ rfl (HS2.out.heap 0 rfl) Tryz.underlying130 rfl De) rfl ?_
   exact⟨by rw[HY.out],HS2.out.below⟩
section
variable {P : Program} {ops : Array Oper} {rest : List Oper} {o : Oper} {a : Act} {w : World} {Q : Exit → Act → World → Prop}
theorem wl_callN (hgd:o.guard=none){f:FuncId}{xs:List Operand}{ts:Array TypeId}{vs:List Value}{R:Ending→World→Prop}
  (ho:o.op=.call { callee:=.value (.func f),args:=xs.toArray,argTypes:=ts })(hf:∀(args:Array Value) (w:World),(callFunc f args).run P w=.ok (.enter f args) w)
  (hx:xs.map a.eval=vs)(hc:Calls P f vs.toArray w R)(h:∀e w',R e w'→∃v,e=.returned v∧wpList P ops Q rest (a.put o.dst v) w'):wpList P ops Q (o::rest) a w:=
 wpList_plain hgd fun _ hK=>bG ho hf hx hc fun e w' hr=>by
  obtain⟨v,he,hk⟩:=h e w' hr
  exact⟨v,he,hK _ _ hk⟩
end
theorem fX (args:Array Value)(w:World):(callFunc 166 args).run Tryz.prog w=.ok (.enter 166 args) w:=Bt
def zpF (f:Int→Int→Int)(xs ys:List Int)(i:Nat):List Int:=(List.zipWith f xs ys).take i++xs.drop i
theorem zpF_zero (f:Int→Int→Int)(xs ys:List Int):zpF f xs ys 0=xs:=by simp[zpF]
theorem zpF_all (f:Int→Int→Int)(xs ys:List Int)(h:xs.length=16)(h2:ys.length=16):zpF f xs ys 16=List.zipWith f xs ys:=by
 unfold zpF
 rw[List.take_of_length_le (by rw[List.length_zipWith,h,h2];omega),List.drop_of_length_le An,List.append_nil]
theorem zpF_get (f:Int→Int→Int)(xs ys:List Int)(i:Nat)(x:Int)(h:xs.length=16)(h2:ys.length=16)(hx:xs[i]?=some x):(zpF f xs ys i)[i]?=some x:=by
 have hi:=(List.getElem?_eq_some_iff.1 hx).1
 have hl:((List.zipWith f xs ys).take i).length=i:=Dj
 unfold zpF
 rw[List.getElem?_append_right (by rw[hl];omega),hl,Nat.sub_self,List.getElem?_drop,Nat.add_zero,hx]
theorem zpF_set (f:Int→Int→Int)(xs ys:List Int)(i:Nat)(x y:Int)(h:xs.length=16)(h2:ys.length=16)(hx:xs[i]?=some x)(hy:ys[i]?=some y):(zpF f xs ys i).set i (f x y)=zpF f xs ys (i+1):=by
 have hi:=(List.getElem?_eq_some_iff.1 hx).1
 have hl:((List.zipWith f xs ys).take i).length=i:=Dj
 have hz:(List.zipWith f xs ys)[i]?=some (f x y):=by rw[List.getElem?_zipWith,hx,hy]
 unfold zpF
 rw[List.set_append_right _ _ (by rw[hl];omega),hl,Nat.sub_self,List.drop_eq_getElem_cons An,List.set_cons_zero,List.take_add_one,hz,List.append_assoc]
 rfl
def ZpRel (f:Int→Int→Int)(w:World)(xs ys:List Int)(iv:Value)(wr:World):Prop:=
 ∃i:Nat,i≤16∧iv=.int .i64 (i:Int)∧St w NoB wr [.cells (w.heap.size+2) (ivs (List.replicate 16 0)).toArray 130,.cells (w.heap.size+1) (ivs ys).toArray 130,.cells w.heap.size (ivs (zpF f xs ys i)).toArray 130]
theorem cyB_small {xs:List Int}(h:xs.length=16)(h1:∀(k:Nat) (x:Int),xs[k]?=some x→-131300≤x∧x≤131300):CyB xs:=by
 have hb:=ky_bd xs 131300 An h1
 refine⟨h,fun i=>?_,by have:=hb 16;omega,by have:=hb 16;omega⟩
 have:=hb i
 have hx:-131300≤xs.getD i 0∧xs.getD i 0≤131300:=by
  rw[List.getD_eq_getElem?_getD]
  cases hg:xs[i]? with
  | none=>simp only[Option.getD_none];omega
  | some x=>exact h1 i x hg
 omega
theorem nb_get {xs:List Int}(h:NB xs){k:Nat}(hk:k<16):∃x,xs[k]?=some x∧-76≤x∧x<65612:=by
 have hx:xs[k]?=some (xs[k]'(by rw[h.1];exact hk)):=gE (by rw[h.1];exact hk)
 have:=h.2 k _ hx
 refine⟨_,hx,?_⟩
 split at this<;>omega
theorem zip_get {f:Int→Int→Int}{xs ys:List Int}{k:Nat}{z:Int}(h:(List.zipWith f xs ys)[k]?=some z):∃x y,xs[k]?=some x∧ys[k]?=some y∧z=f x y:=by
 rw[List.getElem?_zipWith] at h
 cases hx:xs[k]? with
 | none=>rw[hx] at h;simp at h
 | some x =>
  cases hy:ys[k]? with
  | none=>rw[hx,hy] at h;simp at h
  | some y=>rw[hx,hy] at h;simp at h;exact⟨x,y,rfl,rfl,h.symm⟩
theorem nv_zipAdd:∀(xs ys:List Int),xs.length=ys.length→nv (List.zipWith (·+·) xs ys)=nv xs+nv ys
 | [],[],_=>rfl
 | x::xs,y::ys,h=>by
  simp only[List.zipWith_cons_cons,nv,nv_zipAdd xs ys Cb]
  omega
 | [],_::_,h=>by simp at h
 | _::_,[],h=>by simp at h
theorem nb_addN {xs ys:List Int}(h:NB xs)(h2:NB ys):NB (carL (List.zipWith (·+·) xs ys)):=by
 refine carL_nb1 _ fun k z hz=>?_
 obtain⟨x,y,hx,hy,rfl⟩:=zip_get hz
 have b1:=h.2 k x hx
 have b2:=h2.2 k y hy
 split at b1<;>split at b2<;>first|omega|(split<;>omega)
theorem addN_any (xs ys:List Int)(w:World)(h:NB xs)(h2:NB ys) :
  Calls Tryz.prog 157 #[.agg (ivs xs).toArray,.agg (ivs ys).toArray] w fun e w'=>e=.returned (.agg (ivs (carL (List.zipWith (·+·) xs ys))).toArray)∧Below w.heap.size w w':=by
 have HN:=aA h
 have HM:=aA h2
 have HL:=aA h.1
 have HL2:=aA h2.1
 have HS0:=(((St.init w NoB).alloc (ivs xs).toArray 130).alloc (ivs ys).toArray 130).alloc (ivs (List.replicate 16 0)).toArray 130
 rw[size_alloc1,size_alloc1] at HS0
 have HS:=aA HS0
 clear HS0 h h2
 go_enter Tryz.func157,Tryz.ntmps157
 go_wp2_with fail
 go_loopw [6] (fun i wr=>ZpRel (·+·) w xs ys i wr) (fun i _=>16 - (intOf i).toNat)
 case atStart=>exact⟨0,An,rfl,by rw[zpF_zero];exact HS.out⟩
 case round =>
  clear HS
  obtain⟨i,hi,rfl,hS⟩:=hrel
  have HS:=aA hS
  by_cases hlt:i<16
  ·have d16:decide ((i:Int)<16)=true:=by simp;omega
   have i16:(i:Int)<16:=An
   obtain⟨x,hx,bx0,bx1⟩:=nb_get HN.out hlt
   obtain⟨y,hy,by0,by1⟩:=nb_get HM.out hlt
   have c0:wr.cell? ⟨w.heap.size,i,none⟩=some (.int .i64 x):=Dk
   have c1:wr.cell? ⟨w.heap.size+1,i,none⟩=some (.int .i64 y):=by rw[hS.cell 1 rfl i];exact ivs_get hy
   have f0:=hS.free 2 rfl i
   have HT:=aA (zpF_set (·+·) xs ys i x y HL.out HL2.out hx hy)
   clear hx hy hS
   go_upto_region 4 with fail
   have c0':wr.drew.cell? ⟨w.heap.size,i,none⟩=some (.int .i64 x):=c0
   have c1':wr.drew.cell? ⟨w.heap.size+1,i,none⟩=some (.int .i64 y):=c1
   have f0':wr.drew.frozen? ⟨w.heap.size,i,none⟩=false:=f0
   refine aD [(0,1),(1,1),(2,0),(3,1),(4,1),(5,0),(6,1),(7,1),(8,3)] Bt Bt (fun _ _ _ _ h=>h) ?_
   go_wp2_with (first|(refine wpT_nil ?_)|((with_reducible refine fromT_refl ?_);(try refine nm ?_))|((with_reducible refine aE Df ?_);(try refine nm ?_))|(refine aI (v:=?_) rfl rfl ?_ ?_;rotate_left;(intro wx;go_simp;try go_bits)<;>(with_reducible rfl);(try refine nm ?_))|(refine aK (v:=?_) rfl rfl rfl ?_ ?_;rotate_left;(go_simp;try go_bits)<;>(with_reducible rfl);(try refine nm ?_))|(refine aL (v:=?_) rfl rfl ?_ ?_;rotate_left;(intro wx hx;go_simp;try go_bits)<;>(with_reducible rfl);(try refine nm ?_))|(refine aM rfl rfl ?_;intro K hK)|(refine wpT_late rfl rfl ?_;intro K hK)|(refine wpT_any rfl rfl ?_;intro K hK)|(refine wpT_skip rfl rfl ?_;(try refine nm ?_)))
   go_roundw
   case rel =>
    have h3:=HS.out.drew.setCell 2 rfl i (.int .i64 (x+y))
    simp only[List.set_cons_succ,List.set_cons_zero,ivs_set] at h3
    rw[HT.out] at h3
    exact⟨i+1,An,Cg,h3⟩
   case measure=>(simp[intOf])<;>omega
  ·obtain rfl:i=16:=by omega
   rw[zpF_all _ xs ys HL.out HL2.out] at hS
   obtain⟨zs,hzs⟩:∃zs,zs=List.zipWith (·+·) xs ys:=⟨_,rfl⟩
   have HC:=aA (fK (List.zipWith (·+·) xs ys))
   have hB:CyB (List.zipWith (·+·) xs ys):=by
    refine cyB_small (by rw[List.length_zipWith,HL.out,HL2.out];rfl) fun k z hz=>?_
    obtain⟨x,y,hx,hy,rfl⟩:=zip_get hz
    have b1:=HN.out.2 k x hx
    have b2:=HM.out.2 k y hy
    split at b1<;>split at b2<;>first|omega|(constructor<;>omega)
   rw[←hzs] at hS HC hB
   have HZ:=aA hzs
   have HB:=aA hB
   obtain⟨ys',hys'⟩:∃a,a=(ivs zs).toArray:=⟨_,rfl⟩
   have hsz:ys'.size=16:=by rw[hys',List.size_toArray,ivs_len];exact HB.out.1
   have hone:(ivs (carL zs)).toArray.all (·.oneCell')=true:=ivs_all _
   have hsc:(ivs (carL zs)).toArray.size=16:=by rw[List.size_toArray,ivs_len,dA]
   have HC2:=aA (fun W=>HC.out W HB.out)
   rw[←hys'] at hS HC2
   have HS1:=aA hS
   clear hS hys' HS hB hzs HC
   go_upto_region 6 with fail
   refine wp_region_list ?_
   refine wpList_load_row rfl 130 (.tmp 2) rfl w.heap.size rfl 130 ys' _ _ (HS1.out.heap 2 rfl) Tryz.underlying130 rfl De ?_
   refine wl_callN rfl rfl fX rfl (HC2.out _) ?_
   rintro e w1 ⟨rfl,hb1⟩
   refine⟨_,rfl,?_⟩
   have HS2:=aA (HS1.out.call hb1)
   have HS3:=aA (HS2.out.setRow 0 rfl (ivs (carL zs)).toArray)
   refine wpList_store_row rfl 130 (.tmp 4) (.tmp 19) rfl (w.heap.size+2) (ivs (carL zs)).toArray rfl rfl 130 _ (HS2.out.heap 0 rfl) Dg (by rw[hsc];rfl) hone ?_
   refine wpList_nil ?_
   go_wp2_with fail
   refine bodyPost_ret (results_cell_row rfl _ _ (w.heap.size+2) _ _ _ _ rfl (HS3.out.heap 0 rfl) Tryz.underlying130 rfl Dg) rfl ?_
   exact⟨by rw[HZ.out],HS3.out.below⟩
theorem nb_subN {xs ys:List Int}(h:NB xs)(h2:NB ys):NB (carL (List.zipWith (·- ·) xs ys)):=by
 refine carL_nb1 _ fun k z hz=>?_
 obtain⟨x,y,hx,hy,rfl⟩:=zip_get hz
 have b1:=h.2 k x hx
 have b2:=h2.2 k y hy
 split at b1<;>split at b2<;>first|omega|(split<;>omega)
theorem subN_any (xs ys:List Int)(w:World)(h:NB xs)(h2:NB ys) :
  Calls Tryz.prog 156 #[.agg (ivs xs).toArray,.agg (ivs ys).toArray] w fun e w'=>e=.returned (.agg (ivs (carL (List.zipWith (·- ·) xs ys))).toArray)∧Below w.heap.size w w':=by
 have HN:=aA h
 have HM:=aA h2
 have HL:=aA h.1
 have HL2:=aA h2.1
 have HS0:=(((St.init w NoB).alloc (ivs xs).toArray 130).alloc (ivs ys).toArray 130).alloc (ivs (List.replicate 16 0)).toArray 130
 rw[size_alloc1,size_alloc1] at HS0
 have HS:=aA HS0
 clear HS0 h h2
 go_enter Tryz.func156,Tryz.ntmps156
 go_wp2_with fail
 go_loopw [6] (fun i wr=>ZpRel (·- ·) w xs ys i wr) (fun i _=>16 - (intOf i).toNat)
 case atStart=>exact⟨0,An,rfl,by rw[zpF_zero];exact HS.out⟩
 case round =>
  clear HS
  obtain⟨i,hi,rfl,hS⟩:=hrel
  have HS:=aA hS
  by_cases hlt:i<16
  ·have d16:decide ((i:Int)<16)=true:=by simp;omega
   have i16:(i:Int)<16:=An
   obtain⟨x,hx,bx0,bx1⟩:=nb_get HN.out hlt
   obtain⟨y,hy,by0,by1⟩:=nb_get HM.out hlt
   have c0:wr.cell? ⟨w.heap.size,i,none⟩=some (.int .i64 x):=Dk
   have c1:wr.cell? ⟨w.heap.size+1,i,none⟩=some (.int .i64 y):=by rw[hS.cell 1 rfl i];exact ivs_get hy
   have f0:=hS.free 2 rfl i
   have HT:=aA (zpF_set (·- ·) xs ys i x y HL.out HL2.out hx hy)
   clear hx hy hS
   go_upto_region 4 with fail
   have c0':wr.drew.cell? ⟨w.heap.size,i,none⟩=some (.int .i64 x):=c0
   have c1':wr.drew.cell? ⟨w.heap.size+1,i,none⟩=some (.int .i64 y):=c1
   have f0':wr.drew.frozen? ⟨w.heap.size,i,none⟩=false:=f0
   refine aD [(0,1),(1,1),(2,0),(3,1),(4,1),(5,0),(6,1),(7,1),(8,3)] Bt Bt (fun _ _ _ _ h=>h) ?_
   go_wp2_with (first|(refine wpT_nil ?_)|((with_reducible refine fromT_refl ?_);(try refine nm ?_))|((with_reducible refine aE Df ?_);(try refine nm ?_))|(refine aI (v:=?_) rfl rfl ?_ ?_;rotate_left;(intro wx;go_simp;try go_bits)<;>(with_reducible rfl);(try refine nm ?_))|(refine aK (v:=?_) rfl rfl rfl ?_ ?_;rotate_left;(go_simp;try go_bits)<;>(with_reducible rfl);(try refine nm ?_))|(refine aL (v:=?_) rfl rfl ?_ ?_;rotate_left;(intro wx hx;go_simp;try go_bits)<;>(with_reducible rfl);(try refine nm ?_))|(refine aM rfl rfl ?_;intro K hK)|(refine wpT_late rfl rfl ?_;intro K hK)|(refine wpT_any rfl rfl ?_;intro K hK)|(refine wpT_skip rfl rfl ?_;(try refine nm ?_)))
   go_roundw
   case rel =>
    have h3:=HS.out.drew.setCell 2 rfl i (.int .i64 (x - y))
    simp only[List.set_cons_succ,List.set_cons_zero,ivs_set] at h3
    rw[HT.out] at h3
    exact⟨i+1,An,Cg,h3⟩
   case measure=>(simp[intOf])<;>omega
  ·obtain rfl:i=16:=by omega
   rw[zpF_all _ xs ys HL.out HL2.out] at hS
   obtain⟨zs,hzs⟩:∃zs,zs=List.zipWith (·- ·) xs ys:=⟨_,rfl⟩
   have HC:=aA (fK (List.zipWith (·- ·) xs ys))
   have hB:CyB (List.zipWith (·- ·) xs ys):=by
    refine cyB_small (by rw[List.length_zipWith,HL.out,HL2.out];rfl) fun k z hz=>?_
    obtain⟨x,y,hx,hy,rfl⟩:=zip_get hz
    have b1:=HN.out.2 k x hx
    have b2:=HM.out.2 k y hy
    split at b1<;>split at b2<;>first|omega|(constructor<;>omega)
   rw[←hzs] at hS HC hB
   have HZ:=aA hzs
   have HB:=aA hB
   obtain⟨ys',hys'⟩:∃a,a=(ivs zs).toArray:=⟨_,rfl⟩
   have hsz:ys'.size=16:=by rw[hys',List.size_toArray,ivs_len];exact HB.out.1
   have hone:(ivs (carL zs)).toArray.all (·.oneCell')=true:=ivs_all _
   have hsc:(ivs (carL zs)).toArray.size=16:=by rw[List.size_toArray,ivs_len,dA]
   have HC2:=aA (fun W=>HC.out W HB.out)
   rw[←hys'] at hS HC2
   have HS1:=aA hS
   clear hS hys' HS hB hzs HC
   go_upto_region 6 with fail
   refine wp_region_list ?_
   refine wpList_load_row rfl 130 (.tmp 2) rfl w.heap.size rfl 130 ys' _ _ (HS1.out.heap 2 rfl) Tryz.underlying130 rfl De ?_
   refine wl_callN rfl rfl fX rfl (HC2.out _) ?_
   rintro e w1 ⟨rfl,hb1⟩
   refine⟨_,rfl,?_⟩
   have HS2:=aA (HS1.out.call hb1)
   have HS3:=aA (HS2.out.setRow 0 rfl (ivs (carL zs)).toArray)
   refine wpList_store_row rfl 130 (.tmp 4) (.tmp 19) rfl (w.heap.size+2) (ivs (carL zs)).toArray rfl rfl 130 _ (HS2.out.heap 0 rfl) Dg (by rw[hsc];rfl) hone ?_
   refine wpList_nil ?_
   go_wp2_with fail
   refine bodyPost_ret (results_cell_row rfl _ _ (w.heap.size+2) _ _ _ _ rfl (HS3.out.heap 0 rfl) Tryz.underlying130 rfl Dg) rfl ?_
   exact⟨by rw[HZ.out],HS3.out.below⟩
def muR (a:Int)(b:List Int)(i:Nat):Nat→List Int→List Int
 | 0,t=>t
 | j+1,t=>(muR a b i j t).set (i+j) ((muR a b i j t).getD (i+j) 0+a*b.getD j 0)
def muT (us vs:List Int):Nat→List Int
 | 0=>List.replicate 31 0
 | i+1=>muR (us.getD i 0) vs i 16 (muT us vs i)
theorem muR_len (a:Int)(b:List Int)(i:Nat)(t:List Int):∀j,(muR a b i j t).length=t.length
 | 0=>rfl
 | j+1=>by rw[muR,List.length_set,muR_len a b i t j]
theorem muT_len (us vs:List Int):∀i,(muT us vs i).length=31
 | 0=>rfl
 | i+1=>by rw[muT,muR_len,muT_len us vs i]
theorem getD_set (xs:List Int)(k j:Nat)(y:Int):(xs.set k y).getD j 0=if k=j∧k<xs.length then y else xs.getD j 0:=by
 simp only[List.getD_eq_getElem?_getD,List.getElem?_set]
 split
 ·rename_i h
  subst h
  split
  ·rename_i h;rw[if_pos ⟨rfl,h⟩];rfl
  ·rename_i h;rw[if_neg (fun x=>h x.2),List.getElem?_eq_none An]
 ·rename_i h
  rw[if_neg (fun x=>h x.1)]
theorem muR_bd (a:Int)(b:List Int)(i:Nat)(t:List Int)(C M:Int)(hM:0≤M)(ht:∀k,-C≤t.getD k 0∧t.getD k 0≤C)(hm:∀k,-M≤a*b.getD k 0∧a*b.getD k 0≤M) :
  ∀(j:Nat) (k:Nat),-(C+j*M)≤(muR a b i j t).getD k 0∧(muR a b i j t).getD k 0≤C+j*M
 | 0,k=>by have:=ht k;simp only[muR];omega
 | j+1,k=>by
  have ih:=muR_bd a b i t C M hM ht hm j
  have h1:=ih k
  have h2:=ih (i+j)
  have h3:=hm j
  rw[muR,getD_set]
  have e:((j+1:Nat):Int)*M=(j:Int)*M+M:=by rw[Int.natCast_add,Int.add_mul];omega
  rw[e]
  split<;>omega
theorem muT_bd (us vs:List Int)(M:Int)(hM:0≤M)(hm:∀i k,-M≤us.getD i 0*vs.getD k 0∧us.getD i 0*vs.getD k 0≤M):∀(i k:Nat),-(16*i*M)≤(muT us vs i).getD k 0∧(muT us vs i).getD k 0≤16*i*M
 | 0,k=>by
  have:(List.replicate 31 (0:Int)).getD k 0=0:=by rw[List.getD_eq_getElem?_getD,List.getElem?_replicate];split<;>rfl
  rw[muT,this]
  omega
 | i+1,k=>by
  have:=muR_bd (us.getD i 0) vs i (muT us vs i) (16*i*M) M hM (muT_bd us vs M hM hm i) (hm i) 16 k
  have e:16*((i+1:Nat):Int)*M=16*(i:Int)*M+((16:Nat):Int)*M:=by rw[Int.natCast_add,Int.mul_add,Int.add_mul];rfl
  rw[e]
  exact this
theorem nv_set:∀(xs:List Int) (k:Nat) (y:Int),k<xs.length→nv (xs.set k y)=nv xs+(y - xs.getD k 0)*65536^k
 | [],k,y,h=>by simp at h
 | x::xs,0,y,h=>by simp[nv];omega
 | x::xs,k+1,y,h=>by
  have ih:=nv_set xs k y Cb
  simp only[List.set_cons_succ,nv,List.getD_cons_succ,ih,Int.pow_succ,Int.mul_add]
  rw[show 65536*((y - xs.getD k 0)*65536^k)=(y - xs.getD k 0)*(65536^k*65536) from by rw[Int.mul_comm 65536,Int.mul_assoc]]
  omega
theorem muR_nv (a:Int)(b:List Int)(i:Nat)(t:List Int)(hb:b.length=16):∀j,j≤16→i+j≤t.length→nv (muR a b i j t)=nv t+a*65536^i*nv (b.take j)
 | 0,_,_=>by simp[muR,nv]
 | j+1,hj,h=>by
  have hx:b[j]?=some b[j]:=gE An
  rw[muR,nv_set _ _ _ (by rw[muR_len];omega),muR_nv a b i t hb j An An,nv_take hx,getD_of hx,Int.pow_add,
   show(muR a b i j t).getD (i+j) 0+a*b[j] - (muR a b i j t).getD (i+j) 0=a*b[j] from by omega]
  have:a*b[j]*(65536^i*65536^j)=a*65536^i*(b[j]*65536^j):=by grind
  rw[this,Int.mul_add]
  omega
theorem muT_nv (us vs:List Int)(ha:us.length=16)(hb:vs.length=16):∀i,i≤15+1→nv (muT us vs i)=nv (us.take i)*nv vs
 | 0,_=>by simp only[muT,List.take_zero,nv,Int.zero_mul];decide
 | i+1,h=>by
  have hx:us[i]?=some us[i]:=gE An
  rw[muT,muR_nv _ _ _ _ hb 16 An (by rw[muT_len];omega),muT_nv us vs ha hb i An,nv_take hx,getD_of hx,List.take_of_length_le (l:=vs) (i:=16) An,Int.add_mul]
def oNL (t:List Int):List Int:=List.zipWith (fun x y=>x+38*y) (t.take 16) (t.drop 16++[0])
theorem nv_zip38:∀(xs ys:List Int),xs.length=ys.length→nv (List.zipWith (fun x y=>x+38*y) xs ys)=nv xs+38*nv ys
 | [],[],_=>rfl
 | x::xs,y::ys,h=>by
  simp only[List.zipWith_cons_cons,nv,nv_zip38 xs ys Cb]
  omega
 | [],_::_,h=>by simp at h
 | _::_,[],h=>by simp at h
theorem iQ {t:List Int}(h:t.length=31):(oNL t).length=16:=by unfold oNL;rw[List.length_zipWith,List.length_take,List.length_append,List.length_drop,h];rfl
theorem oNL_nv {t:List Int}(h:t.length=31):nv (oNL t)%(Pq:Int)=nv t%(Pq:Int):=by
 have h1:nv t=nv (t.take 16)+65536^16*nv (t.drop 16):=by
  have:=nv_append (t.take 16) (t.drop 16)
  rw[List.take_append_drop,List.length_take,h] at this
  exact this
 have h2:nv (oNL t)=nv (t.take 16)+38*nv (t.drop 16):=by
  unfold oNL
  rw[nv_zip38 _ _ (by rw[List.length_take,List.length_append,List.length_drop,h];rfl),nv_append]
  simp only[nv]
  omega
 have h3:nv t=nv (oNL t)+(Pq:Int)*(2*nv (t.drop 16)):=by
  have:=two_pq
  rw[h1,h2,show(65536:Int)^16=2*(Pq:Int)+38 from by omega,Int.add_mul]
  have:(Pq:Int)*(2*nv (t.drop 16))=2*(Pq:Int)*nv (t.drop 16):=by rw[←Int.mul_assoc,Int.mul_comm (Pq:Int) 2]
  omega
 rw[h3,Int.add_mul_emod_self_left]
theorem oNL_get {t:List Int}(h:t.length=31){i:Nat}(hi:i<16):(oNL t)[i]?=some (t.getD i 0+38*t.getD (i+16) 0):=by
 have e1:(t.take 16)[i]?=some (t.getD i 0):=by
  rw[List.getElem?_take_of_lt hi,List.getD_eq_getElem?_getD,gE An];rfl
 have e2:(t.drop 16++[0])[i]?=some (t.getD (i+16) 0):=by
  rcases Nat.lt_or_ge i 15 with h15|h15
  ·rw[List.getElem?_append_left (by rw[List.length_drop];omega),List.getElem?_drop,Nat.add_comm,List.getD_eq_getElem?_getD,gE An];rfl
  ·obtain rfl:i=15:=by omega
   rw[List.getElem?_append_right (by rw[List.length_drop,h];omega),List.length_drop,h,List.getD_eq_getElem?_getD,List.getElem?_eq_none (l:=t) An]
   rfl
 unfold oNL
 rw[List.getElem?_zipWith,e1,e2]
def oNP (t:List Int)(i:Nat):List Int:=(oNL t).take i++List.replicate (16 - i) 0
theorem oNP_get {t:List Int}(h:t.length=31){i:Nat}(hi:i<16):(oNP t i)[i]?=some 0:=by
 unfold oNP
 rw[List.getElem?_append_right (by rw[List.length_take,iQ h];omega),List.length_take,iQ h,List.getElem?_replicate,if_pos An]
theorem oNP_set {t:List Int}(h:t.length=31){i:Nat}(hi:i<16):(oNP t i).set i (t.getD i 0+38*t.getD (i+16) 0)=oNP t (i+1):=by
 unfold oNP
 have hl:((oNL t).take i).length=i:=by rw[List.length_take,iQ h];omega
 rw[List.set_append_right _ _ (by rw[hl];exact Nat.le_refl _),hl,Nat.sub_self,show 16 - i=(16 - (i+1))+1 from by omega,List.replicate_succ,List.set_cons_zero,List.take_add_one,oNL_get h hi,List.append_assoc]
 rfl
def muN (xs ys:List Int):List Int:=carL (carL (oNL (muT xs ys 16)))
def MuRel (w:World)(xs ys:List Int)(iv:Value)(wr:World):Prop:=
 ∃i:Nat,i≤16∧iv=.int .i64 (i:Int)∧St w NoB wr [.cells (w.heap.size+3) (ivs (muT xs ys i)).toArray 208,.cells (w.heap.size+2) (ivs (List.replicate 16 0)).toArray 130,.cells (w.heap.size+1) (ivs ys).toArray 130,.cells w.heap.size (ivs xs).toArray 130]
def MvRel (w:World)(xs ys:List Int)(i:Nat)(jv:Value)(wr:World):Prop:=
 ∃j:Nat,j≤16∧jv=.int .i64 (j:Int)∧St w NoB wr [.cells (w.heap.size+3) (ivs (muR (xs.getD i 0) ys i j (muT xs ys i))).toArray 208,.cells (w.heap.size+2) (ivs (List.replicate 16 0)).toArray 130,.cells (w.heap.size+1) (ivs ys).toArray 130,.cells w.heap.size (ivs xs).toArray 130]
def MoRel (w:World)(xs ys:List Int)(g:Nat)(iv:Value)(wr:World):Prop:=
 ∃i:Nat,i≤16∧iv=.int .i64 (i:Int)∧St w NoB wr [.cells g (ivs (oNP (muT xs ys 16) i)).toArray 130,.cells (w.heap.size+3) (ivs (muT xs ys 16)).toArray 208,.cells (w.heap.size+2) (ivs (List.replicate 16 0)).toArray 130]
theorem nb_getD {xs:List Int}(h:NB xs)(k:Nat):-76≤xs.getD k 0∧xs.getD k 0<65612:=by
 rw[List.getD_eq_getElem?_getD]
 cases hg:xs[k]? with
 | none=>simp only[Option.getD_none];omega
 | some x=>have:=h.2 k x hg;simp only[Option.getD_some];split at this<;>omega
theorem nb_prod {xs ys:List Int}(h:NB xs)(h2:NB ys)(i k:Nat):-8589934592≤xs.getD i 0*ys.getD k 0∧xs.getD i 0*ys.getD k 0≤8589934592:=by
 have h1:=nb_getD h i
 have h2:=nb_getD h2 k
 generalize xs.getD i 0=x at *
 generalize ys.getD k 0=y at *
 have e1:(x+76)*(y+76)=x*y+76*x+76*y+5776:=Cu
 have e2:0≤(x+76)*(y+76):=Int.mul_nonneg An An
 have e3:(x+76)*(y+76)≤65688*65688:=Int.mul_le_mul An An An An
 omega
theorem mu_len31 {xs:List Int}{k:Nat}(h:xs.length=31)(hk:k<31):xs[k]?=some (xs.getD k 0):=by
 rw[List.getD_eq_getElem?_getD,gE An];rfl
theorem fU {xs:List Int}{k:Nat}(h:xs.length=16)(hk:k<16):xs[k]?=some (xs.getD k 0):=by
 rw[List.getD_eq_getElem?_getD,gE An];rfl
theorem oNL_bd {t:List Int}(h:t.length=31)(C:Int)(hC:0≤C)(ht:∀k,-C≤t.getD k 0∧t.getD k 0≤C)(k:Nat)(x:Int)(hx:(oNL t)[k]?=some x):-(39*C)≤x∧x≤39*C:=by
 have hk:k<16:=by have:=(List.getElem?_eq_some_iff.1 hx).1;rw[iQ h] at this;exact this
 rw[oNL_get h hk] at hx
 injection hx with hx
 have h1:=ht k
 have h2:=ht (k+16)
 subst hx
 omega
theorem mulN_any (xs ys:List Int)(w:World)(h:NB xs)(h2:NB ys) :
  Calls Tryz.prog 137 #[.agg (ivs xs).toArray,.agg (ivs ys).toArray] w fun e w'=>e=.returned (.agg (ivs (muN xs ys)).toArray)∧Below w.heap.size w w':=by
 have HN:=aA h
 have HM:=aA h2
 have HP:=aA (nb_prod h h2)
 have HL:=aA h.1
 have HL2:=aA h2.1
 have HS0:=((((St.init w NoB).alloc (ivs xs).toArray 130).alloc (ivs ys).toArray 130).alloc (ivs (List.replicate 16 0)).toArray 130).alloc (ivs (List.replicate 31 0)).toArray 208
 rw[size_alloc1,size_alloc1,size_alloc1] at HS0
 have HS:=aA HS0
 have HBD:=aA (muT_bd xs ys 8589934592 An HP.out)
 clear HS0 h h2
 go_enter Tryz.func137,Tryz.ntmps137
 go_wp2_with fail
 go_loopw [10] (fun i wr=>MuRel w xs ys i wr) (fun i _=>16 - (intOf i).toNat)
 case atStart=>exact⟨0,An,rfl,HS.out⟩
 case round =>
  clear HS
  obtain⟨i,hi,rfl,hS⟩:=hrel
  have HS:=aA hS
  clear hS
  by_cases hlt:i<16
  ·have d16:decide ((i:Int)<16)=true:=by simp;omega
   have i16:(i:Int)<16:=An
   go_wp2_with fail
   go_loopw [13] (fun j wr=>MvRel w xs ys i j wr) (fun j _=>16 - (intOf j).toNat)
   case atStart=>exact⟨0,An,rfl,HS.out⟩
   case round =>
    clear HS
    obtain⟨j,hj,rfl,hS⟩:=hrel
    have HS:=aA hS
    by_cases hjt:j<16
    ·have j16:(j:Int)<16:=by omega
     have e16:decide ((j:Int)<16)=true:=A9
     have hP:=HP.out i j
     have hC:=muR_bd (xs.getD i 0) ys i (muT xs ys i) (16*i*8589934592) 8589934592 An (HBD.out i) (HP.out i) j (i+j)
     obtain⟨t,ht⟩:∃t,t=(muR (xs.getD i 0) ys i j (muT xs ys i)).getD (i+j) 0:=⟨_,rfl⟩
     have c2:wr.drew.cell? ⟨w.heap.size+3,i+j,none⟩=some (.int .i64 t):=by rw[hS.drew.cell 0 rfl (i+j),ht];exact ivs_get (mu_len31 (by rw[muR_len,muT_len]) An)
     have HT:=aA (show(muR (xs.getD i 0) ys i j (muT xs ys i)).set (i+j) (t+xs.getD i 0*ys.getD j 0)=muR (xs.getD i 0) ys i (j+1) (muT xs ys i) by rw[ht];rfl)
     rw[←ht] at hC
     have c0:wr.drew.cell? ⟨w.heap.size,i,none⟩=some (.int .i64 (xs.getD i 0)):=by rw[hS.drew.cell 3 rfl i];exact ivs_get (fU HL.out hlt)
     have c1:wr.drew.cell? ⟨w.heap.size+1,j,none⟩=some (.int .i64 (ys.getD j 0)):=by rw[hS.drew.cell 2 rfl j];exact ivs_get (fU HL2.out hjt)
     have f0:=hS.drew.free 0 rfl (i+j)
     have s1:IntKind.i64.wrap ((i:Int)+(j:Int))=((i+j:Nat):Int):=Ct
     have s2:((i+j:Nat):Int)<31:=An
     have s3:(0:Int)≤((i+j:Nat):Int):=An
     have tb0:-4398046511104≤t:=An
     have tb1:t≤4398046511104:=An
     obtain⟨x0,hx0⟩:∃x,x=xs.getD i 0:=⟨_,rfl⟩
     obtain⟨y0,hy0⟩:∃y,y=ys.getD j 0:=⟨_,rfl⟩
     rw[←hx0] at c0 hP
     rw[←hy0] at c1 hP
     have HT2:=aA (show(muR (xs.getD i 0) ys i j (muT xs ys i)).set (i+j) (t+x0*y0)=muR (xs.getD i 0) ys i (j+1) (muT xs ys i) by rw[hx0,hy0];exact HT.out)
     obtain⟨pr,hpr⟩:∃p,p=x0*y0:=⟨_,rfl⟩
     rw[←hpr] at hP HT2
     have w1:wrap64 (x0*y0)=pr:=by rw[←hpr];exact IntWalk.wrap64_in _ ⟨An,An⟩
     obtain⟨z,hz⟩:∃z,z=t+pr:=⟨_,rfl⟩
     rw[←hz] at HT2
     have w2:wrap64 (t+pr)=z:=by rw[hz];exact IntWalk.wrap64_in _ ⟨An,An⟩
     generalize hij:i+j=ij at *
     clear hC hP hS ht tb0 tb1 hz hpr hij hx0 hy0 HT
     go_upto_region 8 with fail
     refine aD [(0,1),(1,1),(2,1),(3,1),(4,0),(5,1),(6,1),(7,0),(8,1),(9,1),(10,0),(11,1),(12,1),(13,1),(14,3)] Bt Bt (fun _ _ _ _ h=>h) ?_
     go_wp2_with (first|(refine wpT_nil ?_)|((with_reducible refine fromT_refl ?_);(try refine nm ?_))|((with_reducible refine aE Df ?_);(try refine nm ?_))|(refine aI (v:=?_) rfl rfl ?_ ?_;rotate_left;(intro wx;go_simp;try go_bits)<;>(with_reducible rfl);(try refine nm ?_))|(refine aK (v:=?_) rfl rfl rfl ?_ ?_;rotate_left;(go_simp;try go_bits)<;>(with_reducible rfl);(try refine nm ?_))|(refine aL (v:=?_) rfl rfl ?_ ?_;rotate_left;(intro wx hx;go_simp;try go_bits)<;>(with_reducible rfl);(try refine nm ?_))|(refine aM rfl rfl ?_;intro K hK)|(refine wpT_late rfl rfl ?_;intro K hK)|(refine wpT_any rfl rfl ?_;intro K hK)|(refine wpT_skip rfl rfl ?_;(try refine nm ?_)))
     go_roundw
     case rel =>
      have h3:=HS.out.drew.setCell 0 rfl ij (.int .i64 z)
      simp only[List.set_cons_zero,ivs_set] at h3
      rw[HT2.out] at h3
      exact⟨j+1,An,Cg,h3⟩
     case measure=>(simp[intOf])<;>omega
    ·obtain rfl:j=16:=by omega
     clear hS
     go_wp2_with fail
     go_roundw
     case rel=>exact⟨i+1,An,Cg,HS.out⟩
     case measure=>(simp[intOf])<;>omega
  ·obtain rfl:i=16:=by omega
   simp only[Int.cast_ofNat_Int]
   go_wp2_with fail
   have HS3:=aA (show St w NoB _ _ from HS.out.alloc (ivs (List.replicate 16 0)).toArray 130)
   obtain⟨g,hg⟩:∃g,g=wr.heap.size:=⟨_,rfl⟩
   rw[←hg] at HS3 ⊢
   have hne:g≠w.heap.size+3:=fun e=>by
    have:=Chunk.lt (HS.out.sat 0 _ rfl) (k:=w.heap.size+3) rfl
    omega
   clear hg HS
   go_loopw [32] (fun i wr=>MoRel w xs ys g i wr) (fun i _=>16 - (intOf i).toNat)
   case atStart=>exact⟨0,An,rfl,HS3.out.pickL [0,1,2] Bz rfl⟩
   case round =>
    clear HS3
    obtain⟨i,hi,rfl,hS⟩:=hrel
    have HS:=aA hS
    have hT31:=muT_len xs ys 16
    have hB16:=HBD.out 16
    obtain⟨tt,htt⟩:∃t,t=muT xs ys 16:=⟨_,rfl⟩
    rw[←htt] at hS hT31 hB16
    by_cases hlt:i<16
    ·have d16:decide ((i:Int)<16)=true:=by simp;omega
     have i16:(i:Int)<16:=An
     have q1:=hB16 i
     have q2:=hB16 (i+16)
     have HT:=aA (oNP_set hT31 hlt)
     have c0:wr.cell? ⟨w.heap.size+3,i,none⟩=some (.int .i64 (tt.getD i 0)):=by rw[hS.cell 1 rfl i];exact ivs_get (mu_len31 hT31 An)
     have c2:wr.cell? ⟨g,i,none⟩=some (.int .i64 0):=by rw[hS.cell 0 rfl i];exact ivs_get (oNP_get hT31 hlt)
     have f0:=hS.free 0 rfl i
     have hne':w.heap.size+3≠g:=fun e=>hne e.symm
     by_cases h15:i<15
     ·have d15:decide ((i:Int)<15)=true:=by simp;omega
      have i15:(i:Int)<15:=An
      have c1:wr.cell? ⟨w.heap.size+3,i+16,none⟩=some (.int .i64 (tt.getD (i+16) 0)):=by rw[hS.cell 1 rfl (i+16)];exact ivs_get (mu_len31 hT31 An)
      obtain⟨k,hk⟩:∃k,k=i+16:=⟨_,rfl⟩
      rw[←hk] at c1
      have HK:=aA hk
      have s1:wrap64 ((i:Int)+16)=(k:Int):=by rw[hk];exact IntWalk.wrap64_in _ ⟨An,An⟩
      have s2:IntKind.i64.wrap ((i:Int)+16)=(k:Int):=Ct
      have k31:(k:Int)<31:=An
      clear hk
      have HH:=aA htt
      obtain⟨x,hx⟩:∃x,x=tt.getD i 0:=⟨_,rfl⟩
      obtain⟨y,hy⟩:∃y,y=tt.getD (i+16) 0:=⟨_,rfl⟩
      rw[←hx] at q1 c0
      rw[HK.out] at c1
      rw[←hy] at q2 c1
      rw[←HK.out] at c1
      have HX:=aA hx
      have HY:=aA hy
      have x0:-4398046511104≤x:=An
      have x1:x≤4398046511104:=An
      have y0:-4398046511104≤y:=An
      have y1:y≤4398046511104:=An
      clear hx hy htt q1 q2 hB16 hT31 hS
      go_upto_region 17 with fail
      refine aD [(0,1),(1,1),(2,0),(3,1),(4,1),(5,1),(6,0),(7,1),(8,1),(9,1),(10,3)] Bt Bt (fun _ _ _ _ h=>h) ?_
      go_wp2_with (first|(refine wpT_nil ?_)|((with_reducible refine fromT_refl ?_);(try refine nm ?_))|((with_reducible refine aE Df ?_);(try refine nm ?_))|(refine aI (v:=?_) rfl rfl ?_ ?_;rotate_left;(intro wx;go_simp;try go_bits)<;>(with_reducible rfl);(try refine nm ?_))|(refine aK (v:=?_) rfl rfl rfl ?_ ?_;rotate_left;(go_simp;try go_bits)<;>(with_reducible rfl);(try refine nm ?_))|(refine aL (v:=?_) rfl rfl ?_ ?_;rotate_left;(intro wx hx;go_simp;try go_bits)<;>(with_reducible rfl);(try refine nm ?_))|(refine aM rfl rfl ?_;intro K hK)|(refine wpT_late rfl rfl ?_;intro K hK)|(refine wpT_any rfl rfl ?_;intro K hK)|(refine wpT_skip rfl rfl ?_;(try refine nm ?_)))
      go_roundw
      case rel =>
       have h3:=((HS.out.setCell 0 rfl i (.int .i64 x)).drew).setCell 0 rfl i (.int .i64 (x+38*y))
       simp only[List.set_cons_zero,ivs_set,List.set_set] at h3
       have e:(oNP (muT xs ys 16) i).set i (x+38*y)=oNP (muT xs ys 16) (i+1):=by rw[←HH.out,HX.out,HY.out,HT.out]
       rw[e] at h3
       exact⟨i+1,An,Cg,h3⟩
      case measure=>(simp[intOf])<;>omega
     ·obtain rfl:i=15:=by omega
      have HH:=aA htt
      obtain⟨x,hx⟩:∃x,x=tt.getD 15 0:=⟨_,rfl⟩
      have h31:tt.getD (15+16) 0=0:=by rw[List.getD_eq_getElem?_getD,List.getElem?_eq_none An];rfl
      have HT2:=aA (show(oNP tt 15).set 15 x=oNP tt 16 by have:=HT.out;rw[h31,Int.mul_zero,Int.add_zero,←hx] at this;exact this)
      rw[←hx] at c0
      clear hx htt q1 q2 hB16 hT31 hS h31 HT
      go_wp2_with fail
      go_roundw
      case rel =>
       have h3:=HS.out.setCell 0 rfl 15 (.int .i64 x)
       simp only[List.set_cons_zero,ivs_set] at h3
       have e:(oNP (muT xs ys 16) 15).set 15 x=oNP (muT xs ys 16) 16:=by rw[←HH.out,HT2.out]
       rw[e] at h3
       exact⟨16,An,Cg,h3⟩
      case measure=>(simp[intOf])<;>omega
    ·obtain rfl:i=16:=by omega
     have hO:oNP tt 16=oNL tt:=by unfold oNP;rw[List.take_of_length_le (by rw[iQ hT31];omega)];simp
     rw[hO] at hS
     have hC1:=carL_long (oNL tt) 171523813933056 An An (fun k x hx=>by
      have:=oNL_bd hT31 4398046511104 An (fun k=>by have:=hB16 k;omega) k x hx
      omega)
     have hA1:CyB (oNL tt):=by
      have hb0:=oNL_bd hT31 4398046511104 An (fun k=>by have:=hB16 k;omega)
      have hb:=ky_bd (oNL tt) 171523813933056 An (fun k x hx=>by have:=hb0 k x hx;omega)
      refine⟨iQ hT31,fun i=>?_,by have:=hb 16;omega,by have:=hb 16;omega⟩
      have:=hb i
      have hx:-171523813933056≤(oNL tt).getD i 0∧(oNL tt).getD i 0≤171523813933056:=by
       rw[List.getD_eq_getElem?_getD]
       cases hg:(oNL tt)[i]? with
       | none=>simp only[Option.getD_none];omega
       | some x=>have:=hb0 i x hg;simp only[Option.getD_some];omega
      omega
     have hA2:CyB (carL (oNL tt)):=by
      have hb:=ky_bd (carL (oNL tt)) 288230376151711744 An (fun k x hx=>by have:=hC1 k x hx;split at this<;>omega)
      have hn:=carL_nb2 (carL (oNL tt)) hC1
      refine⟨dA _,fun i=>?_,?_⟩
      ·have:=hb i
       have hx:-288230376151711744≤(carL (oNL tt)).getD i 0∧(carL (oNL tt)).getD i 0≤288230376151711744:=by
        rw[List.getD_eq_getElem?_getD]
        cases hg:(carL (oNL tt))[i]? with
        | none=>simp only[Option.getD_none];omega
        | some x=>have:=hC1 i x hg;simp only[Option.getD_some];split at this<;>omega
       omega
      ·have h0:=hn.2 0 _ (iG (carL (oNL tt)) 0 An)
       have hd:=dy_bd (carL (oNL tt)) 0
       rw[if_pos rfl,if_pos rfl,if_pos rfl] at h0
       omega
     have HA1:=aA (fun W=>fK (oNL tt) W hA1)
     have HA2:=aA (fun W=>fK (carL (oNL tt)) W hA2)
     have HE:=aA (show muN xs ys=carL (carL (oNL tt)) by unfold muN;rw[htt])
     obtain⟨ys',hys'⟩:∃a,a=(ivs (oNL tt)).toArray:=⟨_,rfl⟩
     have hsz:ys'.size=16:=by rw[hys',List.size_toArray,ivs_len];exact hA1.1
     obtain⟨rr,hrr⟩:∃r,r=(ivs (carL (carL (oNL tt)))).toArray:=⟨_,rfl⟩
     have hone:rr.all (·.oneCell')=true:=by rw[hrr];exact ivs_all _
     have hsc:rr.size=16:=by rw[hrr,List.size_toArray,ivs_len,dA]
     have HR:=aA hrr
     rw[←hrr] at HA2
     rw[←hys'] at hS HA1
     have HS1:=aA hS
     clear hS hys' HS hO hC1 hA1 hA2 htt hB16 hT31 hrr
     go_upto_region 19 with fail
     refine wp_region_list ?_
     refine wpList_load_row rfl 130 (.tmp 8) rfl g rfl 130 ys' _ _ (HS1.out.heap 0 rfl) Tryz.underlying130 rfl De ?_
     refine wl_callN rfl rfl fX rfl (HA1.out _) ?_
     rintro e w1 ⟨rfl,hb1⟩
     refine⟨_,rfl,?_⟩
     refine wl_callN rfl rfl fX rfl (HA2.out _) ?_
     rintro e w2 ⟨rfl,hb2⟩
     refine⟨_,rfl,?_⟩
     have HS2:=aA ((HS1.out.call hb1).call hb2)
     have HS3:=aA (HS2.out.setRow 2 rfl rr)
     refine wpList_store_row rfl 130 (.tmp 4) (.tmp 55) rfl (w.heap.size+2) rr rfl rfl 130 _ (HS2.out.heap 2 rfl) Dg (by rw[hsc];rfl) hone ?_
     refine wpList_nil ?_
     go_wp2_with fail
     refine bodyPost_ret (results_cell_row rfl _ _ (w.heap.size+2) _ _ _ _ rfl (HS3.out.heap 2 rfl) Tryz.underlying130 rfl Dg) rfl ?_
     exact⟨by rw[HE.out,HR.out],HS3.out.below⟩
theorem muN_ok {xs ys:List Int}(h:NB xs)(h2:NB ys):NB (muN xs ys)∧nv (muN xs ys)%(Pq:Int)=nv xs*nv ys%(Pq:Int):=by
 have hT31:=muT_len xs ys 16
 have hB16:=muT_bd xs ys 8589934592 An (nb_prod h h2) 16
 have hC1:=carL_long (oNL (muT xs ys 16)) 171523813933056 An An (fun k x hx=>by
  have:=oNL_bd hT31 4398046511104 An (fun k=>by have:=hB16 k;omega) k x hx
  omega)
 refine⟨carL_nb2 _ hC1,?_⟩
 have hv:=muT_nv xs ys h.1 h2.1 16 An
 rw[List.take_of_length_le (by rw[h.1];omega)] at hv
 unfold muN
 rw[carL_mod _ (dA _),carL_mod _ (iQ hT31),oNL_nv hT31,hv]
theorem suL_get {t:List Int}(h:t.length=16){i:Nat}(hi:i<16):(suL t).getD i 0=t.getD i 0 - pRow.getD i 0:=by
 unfold suL
 rw[List.getD_eq_getElem?_getD,List.getElem?_zipWith,fU h hi,fU (xs:=pRow) rfl hi]
 rfl
theorem pRow_mid {i:Nat}(h1:1≤i)(h2:i<15):pRow.getD i 0=65535:=by
 match i,h1,h2 with
 | 1,_,_=>rfl
 | 2,_,_=>rfl
 | 3,_,_=>rfl
 | 4,_,_=>rfl
 | 5,_,_=>rfl
 | 6,_,_=>rfl
 | 7,_,_=>rfl
 | 8,_,_=>rfl
 | 9,_,_=>rfl
 | 10,_,_=>rfl
 | 11,_,_=>rfl
 | 12,_,_=>rfl
 | 13,_,_=>rfl
 | 14,_,_=>rfl
theorem suA_one {t:List Int}(h:t.length=16):t.set 0 (t.getD 0 0 - 65517)=suA t 1:=by
 match t,h with
 | x::t,h =>
  unfold suA
  rw[suL_get h An]
  simp[dyL,ky,pRow]
theorem suA_at {t:List Int}(h:t.length=16){i:Nat}(h1:1≤i)(hi:i≤16):(suA t i)[i - 1]?=some ((suL t).getD (i - 1) 0+ky (suL t) (i - 1)):=by
 unfold suA
 rw[List.getElem?_append_right Dd,bI,Nat.sub_self]
 rfl
theorem suA_next {t:List Int}(h:t.length=16){i:Nat}(h1:1≤i)(hi:i<16):(suA t i)[i]?=some (t.getD i 0):=by
 obtain⟨k,rfl⟩:∃k,i=k+1:=⟨i - 1,An⟩
 unfold suA
 rw[Nat.add_sub_cancel,List.getElem?_append_right Dd,bI,Nat.add_sub_cancel_left,List.getElem?_cons_succ,List.getElem?_drop,Nat.add_zero]
 exact fU h hi
theorem suA_step {t:List Int}(h:t.length=16){i:Nat}(h1:1≤i)(hi:i<16) :
  ((suA t i).set i ((suL t).getD i 0+ky (suL t) i)).set (i - 1) (dy (suL t) (i - 1))=suA t (i+1):=by
 obtain⟨k,rfl⟩:∃k,i=k+1:=⟨i - 1,An⟩
 have hd:t.drop (k+1)=t.getD (k+1) 0::t.drop (k+2):=by
  have:=fU h hi
  rw[gE An] at this
  injection this with this
  rw[List.drop_eq_getElem_cons An,this]
 unfold suA
 rw[Nat.add_sub_cancel,Nat.add_sub_cancel,List.set_append_right _ _ Dd,bI,Nat.add_sub_cancel_left,List.set_cons_succ,hd,List.set_cons_zero,
  List.set_append_right _ _ Dd,bI,Nat.sub_self,List.set_cons_zero,dyL_succ,List.append_assoc]
 rfl
theorem suA_end {t:List Int}(h:t.length=16):suA t 16=suE t:=by
 unfold suA suE
 rw[List.drop_of_length_le An]
theorem suL_bd {t:List Int}(h:Dig t){i:Nat}(hi:i<16):-65535≤(suL t).getD i 0∧(suL t).getD i 0≤65535:=by
 rw[suL_get h.1 hi]
 have h1:=h.2 i _ (fU h.1 hi)
 have h2:0≤pRow.getD i 0∧pRow.getD i 0≤65535:=by
  have:∀j:Fin 16,0≤pRow.getD j.val 0∧pRow.getD j.val 0≤65535:=by decide
  exact this ⟨i,hi⟩
 omega
theorem suL_ky {t:List Int}(h:Dig t):∀i,i≤16→-1≤ky (suL t) i∧ky (suL t) i≤0
 | 0,_=>by simp[ky]
 | i+1,hi=>by
  have ih:=suL_ky h i An
  have hb:=suL_bd h (i:=i) An
  have hz:(suL t).getD i 0+ky (suL t) i≤65535:=An
  rw[ky]
  omega
theorem set_same {xs:List Int}{k:Nat}{x:Int}(h:xs[k]?=some x):xs.set k x=xs:=by
 apply List.ext_getElem?
 intro j
 rw[List.getElem?_set]
 have hk:=(List.getElem?_eq_some_iff.1 h).1
 split
 ·rename_i e
  subst e
  simp[h]
 ·rfl
def byN (ts:List Int)(k:Nat):List UInt8:=(ts.take k).flatMap rowB
theorem byN_succ (ts:List Int)(h:ts.length=16)(k:Nat)(hk:k<16):byN ts (k+1)=byN ts k++rowB (ts.getD k 0):=by
 unfold byN
 rw[List.take_add_one,fU h hk,Option.toList_some,List.flatMap_append]
 simp
def suNi (t:List Int):Nat→List Int
 | 0=>t
 | k+1=>suN (suNi t k)
theorem suNi_dig {t:List Int}(h:Dig t):∀k,Dig (suNi t k)
 | 0=>h
 | k+1=>(suN_spec (suNi_dig h k)).1
def ByRel (w:World)(g:Nat)(t:List Int)(kv:Value)(wr:World):Prop:=
 ∃k:Nat,k≤3∧kv=.int .i64 (k:Int)∧St w NoB wr [.cells g (ivs (suNi t k)).toArray 130]
def BzRel (w:World)(g g2:Nat)(t:List Int)(iv:Value)(wr:World):Prop:=
 ∃j:Nat,j≤15∧iv=.int .i64 ((j:Int)+1)∧St w NoB wr [.cells g2 (ivs (suA t (j+1))).toArray 130,.cells g (ivs t).toArray 130]
def BvRel (w:World)(t:List Int)(bv iv:Value)(wr:World):Prop:=
 ∃(i:Nat) (A:Option Addr) (c:Nat),i≤16∧iv=.int .i64 (i:Int)∧bv=.slice A (2*i) c∧St w NoB wr [.row (.slice A (2*i) c) 5 1 (2*i) (bvs (byN t i))]
theorem ixn0 (x0 x1 x2 x3 x4 x5 x6 x7 x8 x9 x10 x11 x12 x13 x14 x15:Int)(W:World):(Instr.index 130 (.agg #[.int .i64 x0,.int .i64 x1,.int .i64 x2,.int .i64 x3,.int .i64 x4,.int .i64 x5,.int .i64 x6,.int .i64 x7,.int .i64 x8,.int .i64 x9,.int .i64 x10,.int .i64 x11,.int .i64 x12,.int .i64 x13,.int .i64 x14,.int .i64 x15]) (.int .i64 ((0:Nat):Int))).run Tryz.prog W=.ok (.int .i64 x0) W:=Bt
theorem ixn1 (x0 x1 x2 x3 x4 x5 x6 x7 x8 x9 x10 x11 x12 x13 x14 x15:Int)(W:World):(Instr.index 130 (.agg #[.int .i64 x0,.int .i64 x1,.int .i64 x2,.int .i64 x3,.int .i64 x4,.int .i64 x5,.int .i64 x6,.int .i64 x7,.int .i64 x8,.int .i64 x9,.int .i64 x10,.int .i64 x11,.int .i64 x12,.int .i64 x13,.int .i64 x14,.int .i64 x15]) (.int .i64 ((1:Nat):Int))).run Tryz.prog W=.ok (.int .i64 x1) W:=Bt
theorem ixn2 (x0 x1 x2 x3 x4 x5 x6 x7 x8 x9 x10 x11 x12 x13 x14 x15:Int)(W:World):(Instr.index 130 (.agg #[.int .i64 x0,.int .i64 x1,.int .i64 x2,.int .i64 x3,.int .i64 x4,.int .i64 x5,.int .i64 x6,.int .i64 x7,.int .i64 x8,.int .i64 x9,.int .i64 x10,.int .i64 x11,.int .i64 x12,.int .i64 x13,.int .i64 x14,.int .i64 x15]) (.int .i64 ((2:Nat):Int))).run Tryz.prog W=.ok (.int .i64 x2) W:=Bt
theorem ixn3 (x0 x1 x2 x3 x4 x5 x6 x7 x8 x9 x10 x11 x12 x13 x14 x15:Int)(W:World):(Instr.index 130 (.agg #[.int .i64 x0,.int .i64 x1,.int .i64 x2,.int .i64 x3,.int .i64 x4,.int .i64 x5,.int .i64 x6,.int .i64 x7,.int .i64 x8,.int .i64 x9,.int .i64 x10,.int .i64 x11,.int .i64 x12,.int .i64 x13,.int .i64 x14,.int .i64 x15]) (.int .i64 ((3:Nat):Int))).run Tryz.prog W=.ok (.int .i64 x3) W:=Bt
theorem ixn4 (x0 x1 x2 x3 x4 x5 x6 x7 x8 x9 x10 x11 x12 x13 x14 x15:Int)(W:World):(Instr.index 130 (.agg #[.int .i64 x0,.int .i64 x1,.int .i64 x2,.int .i64 x3,.int .i64 x4,.int .i64 x5,.int .i64 x6,.int .i64 x7,.int .i64 x8,.int .i64 x9,.int .i64 x10,.int .i64 x11,.int .i64 x12,.int .i64 x13,.int .i64 x14,.int .i64 x15]) (.int .i64 ((4:Nat):Int))).run Tryz.prog W=.ok (.int .i64 x4) W:=Bt
theorem ixn5 (x0 x1 x2 x3 x4 x5 x6 x7 x8 x9 x10 x11 x12 x13 x14 x15:Int)(W:World):(Instr.index 130 (.agg #[.int .i64 x0,.int .i64 x1,.int .i64 x2,.int .i64 x3,.int .i64 x4,.int .i64 x5,.int .i64 x6,.int .i64 x7,.int .i64 x8,.int .i64 x9,.int .i64 x10,.int .i64 x11,.int .i64 x12,.int .i64 x13,.int .i64 x14,.int .i64 x15]) (.int .i64 ((5:Nat):Int))).run Tryz.prog W=.ok (.int .i64 x5) W:=Bt
theorem ixn6 (x0 x1 x2 x3 x4 x5 x6 x7 x8 x9 x10 x11 x12 x13 x14 x15:Int)(W:World):(Instr.index 130 (.agg #[.int .i64 x0,.int .i64 x1,.int .i64 x2,.int .i64 x3,.int .i64 x4,.int .i64 x5,.int .i64 x6,.int .i64 x7,.int .i64 x8,.int .i64 x9,.int .i64 x10,.int .i64 x11,.int .i64 x12,.int .i64 x13,.int .i64 x14,.int .i64 x15]) (.int .i64 ((6:Nat):Int))).run Tryz.prog W=.ok (.int .i64 x6) W:=Bt
theorem ixn7 (x0 x1 x2 x3 x4 x5 x6 x7 x8 x9 x10 x11 x12 x13 x14 x15:Int)(W:World):(Instr.index 130 (.agg #[.int .i64 x0,.int .i64 x1,.int .i64 x2,.int .i64 x3,.int .i64 x4,.int .i64 x5,.int .i64 x6,.int .i64 x7,.int .i64 x8,.int .i64 x9,.int .i64 x10,.int .i64 x11,.int .i64 x12,.int .i64 x13,.int .i64 x14,.int .i64 x15]) (.int .i64 ((7:Nat):Int))).run Tryz.prog W=.ok (.int .i64 x7) W:=Bt
theorem ixn8 (x0 x1 x2 x3 x4 x5 x6 x7 x8 x9 x10 x11 x12 x13 x14 x15:Int)(W:World):(Instr.index 130 (.agg #[.int .i64 x0,.int .i64 x1,.int .i64 x2,.int .i64 x3,.int .i64 x4,.int .i64 x5,.int .i64 x6,.int .i64 x7,.int .i64 x8,.int .i64 x9,.int .i64 x10,.int .i64 x11,.int .i64 x12,.int .i64 x13,.int .i64 x14,.int .i64 x15]) (.int .i64 ((8:Nat):Int))).run Tryz.prog W=.ok (.int .i64 x8) W:=Bt
theorem ixn9 (x0 x1 x2 x3 x4 x5 x6 x7 x8 x9 x10 x11 x12 x13 x14 x15:Int)(W:World):(Instr.index 130 (.agg #[.int .i64 x0,.int .i64 x1,.int .i64 x2,.int .i64 x3,.int .i64 x4,.int .i64 x5,.int .i64 x6,.int .i64 x7,.int .i64 x8,.int .i64 x9,.int .i64 x10,.int .i64 x11,.int .i64 x12,.int .i64 x13,.int .i64 x14,.int .i64 x15]) (.int .i64 ((9:Nat):Int))).run Tryz.prog W=.ok (.int .i64 x9) W:=Bt
theorem ixn10 (x0 x1 x2 x3 x4 x5 x6 x7 x8 x9 x10 x11 x12 x13 x14 x15:Int)(W:World):(Instr.index 130 (.agg #[.int .i64 x0,.int .i64 x1,.int .i64 x2,.int .i64 x3,.int .i64 x4,.int .i64 x5,.int .i64 x6,.int .i64 x7,.int .i64 x8,.int .i64 x9,.int .i64 x10,.int .i64 x11,.int .i64 x12,.int .i64 x13,.int .i64 x14,.int .i64 x15]) (.int .i64 ((10:Nat):Int))).run Tryz.prog W=.ok (.int .i64 x10) W:=Bt
theorem ixn11 (x0 x1 x2 x3 x4 x5 x6 x7 x8 x9 x10 x11 x12 x13 x14 x15:Int)(W:World):(Instr.index 130 (.agg #[.int .i64 x0,.int .i64 x1,.int .i64 x2,.int .i64 x3,.int .i64 x4,.int .i64 x5,.int .i64 x6,.int .i64 x7,.int .i64 x8,.int .i64 x9,.int .i64 x10,.int .i64 x11,.int .i64 x12,.int .i64 x13,.int .i64 x14,.int .i64 x15]) (.int .i64 ((11:Nat):Int))).run Tryz.prog W=.ok (.int .i64 x11) W:=Bt
theorem ixn12 (x0 x1 x2 x3 x4 x5 x6 x7 x8 x9 x10 x11 x12 x13 x14 x15:Int)(W:World):(Instr.index 130 (.agg #[.int .i64 x0,.int .i64 x1,.int .i64 x2,.int .i64 x3,.int .i64 x4,.int .i64 x5,.int .i64 x6,.int .i64 x7,.int .i64 x8,.int .i64 x9,.int .i64 x10,.int .i64 x11,.int .i64 x12,.int .i64 x13,.int .i64 x14,.int .i64 x15]) (.int .i64 ((12:Nat):Int))).run Tryz.prog W=.ok (.int .i64 x12) W:=Bt
theorem ixn13 (x0 x1 x2 x3 x4 x5 x6 x7 x8 x9 x10 x11 x12 x13 x14 x15:Int)(W:World):(Instr.index 130 (.agg #[.int .i64 x0,.int .i64 x1,.int .i64 x2,.int .i64 x3,.int .i64 x4,.int .i64 x5,.int .i64 x6,.int .i64 x7,.int .i64 x8,.int .i64 x9,.int .i64 x10,.int .i64 x11,.int .i64 x12,.int .i64 x13,.int .i64 x14,.int .i64 x15]) (.int .i64 ((13:Nat):Int))).run Tryz.prog W=.ok (.int .i64 x13) W:=Bt
theorem ixn14 (x0 x1 x2 x3 x4 x5 x6 x7 x8 x9 x10 x11 x12 x13 x14 x15:Int)(W:World):(Instr.index 130 (.agg #[.int .i64 x0,.int .i64 x1,.int .i64 x2,.int .i64 x3,.int .i64 x4,.int .i64 x5,.int .i64 x6,.int .i64 x7,.int .i64 x8,.int .i64 x9,.int .i64 x10,.int .i64 x11,.int .i64 x12,.int .i64 x13,.int .i64 x14,.int .i64 x15]) (.int .i64 ((14:Nat):Int))).run Tryz.prog W=.ok (.int .i64 x14) W:=Bt
theorem ixn15 (x0 x1 x2 x3 x4 x5 x6 x7 x8 x9 x10 x11 x12 x13 x14 x15:Int)(W:World):(Instr.index 130 (.agg #[.int .i64 x0,.int .i64 x1,.int .i64 x2,.int .i64 x3,.int .i64 x4,.int .i64 x5,.int .i64 x6,.int .i64 x7,.int .i64 x8,.int .i64 x9,.int .i64 x10,.int .i64 x11,.int .i64 x12,.int .i64 x13,.int .i64 x14,.int .i64 x15]) (.int .i64 ((15:Nat):Int))).run Tryz.prog W=.ok (.int .i64 x15) W:=Bt
theorem ix16 {u:List Int}{i:Nat}(h:u.length=16)(hi:i<16)(W:World):(Instr.index 130 (.agg (ivs u).toArray) (.int .i64 (i:Int))).run Tryz.prog W=.ok (.int .i64 (u.getD i 0)) W:=by
 match u,h with
 | [x0,x1,x2,x3,x4,x5,x6,x7,x8,x9,x10,x11,x12,x13,x14,x15],_ =>
  match i,hi with
  | 0,_=>exact ixn0 x0 x1 x2 x3 x4 x5 x6 x7 x8 x9 x10 x11 x12 x13 x14 x15 W
  | 1,_=>exact ixn1 x0 x1 x2 x3 x4 x5 x6 x7 x8 x9 x10 x11 x12 x13 x14 x15 W
  | 2,_=>exact ixn2 x0 x1 x2 x3 x4 x5 x6 x7 x8 x9 x10 x11 x12 x13 x14 x15 W
  | 3,_=>exact ixn3 x0 x1 x2 x3 x4 x5 x6 x7 x8 x9 x10 x11 x12 x13 x14 x15 W
  | 4,_=>exact ixn4 x0 x1 x2 x3 x4 x5 x6 x7 x8 x9 x10 x11 x12 x13 x14 x15 W
  | 5,_=>exact ixn5 x0 x1 x2 x3 x4 x5 x6 x7 x8 x9 x10 x11 x12 x13 x14 x15 W
  | 6,_=>exact ixn6 x0 x1 x2 x3 x4 x5 x6 x7 x8 x9 x10 x11 x12 x13 x14 x15 W
  | 7,_=>exact ixn7 x0 x1 x2 x3 x4 x5 x6 x7 x8 x9 x10 x11 x12 x13 x14 x15 W
  | 8,_=>exact ixn8 x0 x1 x2 x3 x4 x5 x6 x7 x8 x9 x10 x11 x12 x13 x14 x15 W
  | 9,_=>exact ixn9 x0 x1 x2 x3 x4 x5 x6 x7 x8 x9 x10 x11 x12 x13 x14 x15 W
  | 10,_=>exact ixn10 x0 x1 x2 x3 x4 x5 x6 x7 x8 x9 x10 x11 x12 x13 x14 x15 W
  | 11,_=>exact ixn11 x0 x1 x2 x3 x4 x5 x6 x7 x8 x9 x10 x11 x12 x13 x14 x15 W
  | 12,_=>exact ixn12 x0 x1 x2 x3 x4 x5 x6 x7 x8 x9 x10 x11 x12 x13 x14 x15 W
  | 13,_=>exact ixn13 x0 x1 x2 x3 x4 x5 x6 x7 x8 x9 x10 x11 x12 x13 x14 x15 W
  | 14,_=>exact ixn14 x0 x1 x2 x3 x4 x5 x6 x7 x8 x9 x10 x11 x12 x13 x14 x15 W
  | 15,_=>exact ixn15 x0 x1 x2 x3 x4 x5 x6 x7 x8 x9 x10 x11 x12 x13 x14 x15 W
  | i+16,hi=>exact absurd hi An
theorem cyB_nb {xs:List Int}(h:NB xs):CyB xs:=cyB_small h.1 (fun k x hx=>by have:=h.2 k x hx;split at this<;>omega)
theorem dig_nb {xs:List Int}(h:Dig xs):NB xs:=⟨h.1,fun k x hx=>by have:=h.2 k x hx;split<;>omega⟩
theorem bytesN_any (xs:List Int)(w:World)(h:NB xs) :
  Calls Tryz.prog 136 #[.agg (ivs xs).toArray] w fun e w'=>∃B d,e=.returned (.slice B 32 d)∧Below w.heap.size w w'∧w'.ownsRow w.heap.size 5 1 (.slice B 32 d) 32 (bvs (leB 32 (nv xs%(Pq:Int)).toNat)):=by
 have hd:=carL_nb_dig h
 have hc2:carL (carL xs)=carL xs:=carL_dig hd
 have HC1:=aA (fun W=>fK xs W (cyB_nb h))
 have HC2:=aA (fun W=>fK (carL xs) W (cyB_nb (dig_nb hd)))
 have HE:=aA (bytN_spec h)
 obtain⟨t,ht⟩:∃t,t=carL xs:=⟨_,rfl⟩
 rw[hc2,←ht] at HC2
 rw[←ht] at HC1 hd
 have HTD:=aA hd
 have HTT:=aA ht
 obtain⟨xa,hxa⟩:∃a,a=(ivs xs).toArray:=⟨_,rfl⟩
 have hsz:xa.size=16:=by rw[hxa,List.size_toArray,ivs_len];exact h.1
 obtain⟨ta,hta⟩:∃a,a=(ivs t).toArray:=⟨_,rfl⟩
 have hst:ta.size=16:=by rw[hta,List.size_toArray,ivs_len];exact hd.1
 have hone:ta.all (·.oneCell')=true:=by rw[hta];exact ivs_all _
 have HS0:=aA ((St.init w NoB).alloc xa 130)
 rw[←hxa] at HC1 ⊢
 rw[←hta] at HC1 HC2
 have HTA:=aA hta
 clear h hd hc2 ht hxa hta
 go_enter Tryz.func136,Tryz.ntmps136
 go_upto_region 1 with fail
 refine wp_region_list ?_
 refine wpList_load_row rfl 130 (.tmp 1) rfl w.heap.size rfl 130 xa _ _ (HS0.out.heap 0 rfl) Tryz.underlying130 rfl De ?_
 refine wl_callN rfl rfl fX rfl (HC1.out _) ?_
 rintro e w1 ⟨rfl,hb1⟩
 refine⟨_,rfl,?_⟩
 refine wl_callN rfl rfl fX rfl (HC2.out _) ?_
 rintro e w2 ⟨rfl,hb2⟩
 refine⟨_,rfl,?_⟩
 refine wl_callN rfl rfl fX rfl (HC2.out _) ?_
 rintro e w3 ⟨rfl,hb3⟩
 refine⟨_,rfl,?_⟩
 have HS1:=aA (((HS0.out.call hb1).call hb2).call hb3)
 refine wpList_plain rfl ?_
 intro K hK
 go_simp
 refine hK _ _ ?_
 clear hK K
 have HS2:=aA (show St w NoB _ _ from HS1.out.alloc (ivs (List.replicate 16 0)).toArray 130)
 obtain⟨g,hg⟩:∃g,g=w3.heap.size:=⟨_,rfl⟩
 rw[←hg] at HS2
 have HS3:=aA (show St w NoB _ [.cells g ta 130] from(HS2.out.setRow 0 rfl ta).pickL [0] Bz rfl)
 refine wpList_store_row rfl 130 (.tmp 3) (.tmp 12) rfl g ta (by rw[hg];rfl) rfl 130 _ (HS2.out.heap 0 rfl) (by rw[hst];kernel_rfl) (by rw[hst];rfl) hone ?_
 refine wpList_nil ?_
 rw[HTA.out] at HS3
 have hgE:w3.heap.size=g:=hg.symm
 simp only[hgE]
 clear hgE hg HS2 HS1
 go_wp2_with fail
 go_loopw [13] (fun k wr=>ByRel w g t k wr) (fun k _=>3 - (intOf k).toNat)
 case atStart=>exact⟨0,An,rfl,HTA.out▸HS3.out⟩
 case round =>
  clear HS3
  obtain⟨k,hk,rfl,hS⟩:=hrel
  have hkd:=suNi_dig HTD.out k
  obtain⟨u,hu⟩:∃u,u=suNi t k:=⟨_,rfl⟩
  rw[←hu] at hS hkd
  have HKD:=aA hkd
  have HU:=aA hu
  by_cases hlt:k<3
  ·have d3:decide ((k:Int)<3)=true:=by simp;omega
   obtain⟨ua,hua⟩:∃a,a=(ivs u).toArray:=⟨_,rfl⟩
   have hsu:ua.size=16:=by rw[hua,List.size_toArray,ivs_len];exact hkd.1
   have hou:ua.all (·.oneCell')=true:=by rw[hua];exact ivs_all _
   rw[←hua] at hS
   have HUA:=aA hua
   have HS:=aA hS
   clear hS hu hua hkd
   go_upto_region 4 with fail
   refine wp_region_list ?_
   refine wpList_load_row rfl 130 (.tmp 3) rfl g rfl 130 ua _ _ (HS.out.heap 0 rfl) Tryz.underlying130 rfl (by rw[hsu];kernel_rfl) ?_
   refine wpList_plain rfl ?_
   intro K hK
   go_simp
   refine hK _ _ ?_
   clear hK K
   have HS2:=aA (show St w NoB _ _ from HS.out.alloc #[.int .i64 0,.int .i64 0,.int .i64 0,.int .i64 0,.int .i64 0,.int .i64 0,.int .i64 0,.int .i64 0,.int .i64 0,.int .i64 0,.int .i64 0,.int .i64 0,.int .i64 0,.int .i64 0,.int .i64 0,.int .i64 0] 130)
   obtain⟨g2,hg⟩:∃g,g=wr.heap.size:=⟨_,rfl⟩
   have hne:g2≠g:=fun e=>by
    have:=Chunk.lt (HS.out.sat 0 _ rfl) (k:=g) rfl
    omega
   have hne':g≠g2:=fun e=>hne e.symm
   rw[←hg] at HS2
   have hS3:=HS2.out.setRow 0 rfl ua
   refine wpList_store_row rfl 130 (.tmp 4) (.tmp 15) rfl g2 ua (by rw[hg];rfl) rfl 130 _ (HS2.out.heap 0 rfl) (by rw[hsu];kernel_rfl) (by rw[hsu];rfl) hou ?_
   refine wpList_nil ?_
   have hgE:wr.heap.size=g2:=hg.symm
   simp only[hgE]
   generalize ((wr.alloc (.cells #[.int .i64 0,.int .i64 0,.int .i64 0,.int .i64 0,.int .i64 0,.int .i64 0,.int .i64 0,.int .i64 0,.int .i64 0,.int .i64 0,.int .i64 0,.int .i64 0,.int .i64 0,.int .i64 0,.int .i64 0,.int .i64 0] 130)).setRow g2 ua)=wq at hS3 ⊢
   rw[HUA.out] at hS3
   have HS3:=aA (show St w NoB wq [.cells g2 (ivs u).toArray 130,.cells g (ivs u).toArray 130] from hS3)
   have c0:wq.cell? ⟨g,0,none⟩=some (.int .i64 (u.getD 0 0)):=by rw[HS3.out.cell 1 rfl 0];exact ivs_get (fU HKD.out.1 An)
   have c1:wq.cell? ⟨g2,0,none⟩=some (.int .i64 (u.getD 0 0)):=by rw[HS3.out.cell 0 rfl 0];exact ivs_get (fU HKD.out.1 An)
   have f1:=HS3.out.free 0 rfl 0
   have b0:=HKD.out.2 0 _ (fU HKD.out.1 An)
   have HS4:=aA (show St w NoB (wq.setCell ⟨g2,0,none⟩ (.int .i64 (u.getD 0 0 - 65517))) [.cells g2 (ivs (suA u 1)).toArray 130,.cells g (ivs u).toArray 130] by
    have h:=HS3.out.setCell 0 rfl 0 (.int .i64 (u.getD 0 0 - 65517))
    simp only[List.set_cons_zero,ivs_set] at h
    rw[suA_one HKD.out.1] at h
    exact h)
   obtain⟨u0,hu0⟩:∃x,x=u.getD 0 0:=⟨_,rfl⟩
   rw[←hu0] at c0 c1 b0 HS4
   obtain⟨b00,b01⟩:=b0
   clear hgE hg HS2 HS hS3 hu0 HS3
   go_wp2_with fail
   go_loopw [5] (fun i wr=>BzRel w g g2 u i wr) (fun i _=>16 - (intOf i).toNat)
   case atStart=>exact⟨0,An,rfl,HS4.out⟩
   case round =>
    clear HS4 c0 c1 f1 b00 b01
    obtain⟨j,hj,rfl,hS⟩:=hrel
    have HS:=aA hS
    by_cases hlt:j<15
    ·have hy0:=suL_bd HKD.out (i:=j) An
     have hk0:=suL_ky HKD.out j An
     have hz0:=HKD.out.2 (j+1) _ (fU HKD.out.1 An)
     have hv0:=suL_get HKD.out.1 (i:=j+1) An
     have c0:wr.cell? ⟨g,j+1,none⟩=some (.int .i64 (u.getD (j+1) 0)):=by rw[hS.cell 1 rfl (j+1)];exact ivs_get (fU HKD.out.1 An)
     have c1:wr.cell? ⟨g2,j,none⟩=some (.int .i64 ((suL u).getD j 0+ky (suL u) j)):=by rw[hS.cell 0 rfl j];exact ivs_get (suA_at HKD.out.1 (i:=j+1) An An)
     have c2:wr.cell? ⟨g2,j+1,none⟩=some (.int .i64 (u.getD (j+1) 0)):=by rw[hS.cell 0 rfl (j+1)];exact ivs_get (suA_next HKD.out.1 (i:=j+1) An An)
     have f1:=hS.free 0 rfl j
     have f2:=hS.free 0 rfl (j+1)
     have HT:=aA (suA_step HKD.out.1 (i:=j+1) An An)
     have hdd:dy (suL u) j=((suL u).getD j 0+ky (suL u) j)%65536:=rfl
     have hkk:ky (suL u) (j+1)=((suL u).getD j 0+ky (suL u) j)/65536:=rfl
     have HDD:=aA hdd
     have HKK:=aA hkk
     have HV:=aA hv0
     obtain⟨y,hy⟩:∃y,y=(suL u).getD j 0+ky (suL u) j:=⟨_,rfl⟩
     obtain⟨z,hz⟩:∃z,z=u.getD (j+1) 0:=⟨_,rfl⟩
     rw[←hy] at c1
     rw[←hz] at c0 c2 hz0
     have y0:-65536≤y:=An
     have y1:y≤65535:=An
     obtain⟨z0,z1⟩:=hz0
     have HY:=aA hy
     have HZ:=aA hz
     have j16:(j:Int)+1<16:=An
     have d16:decide ((j:Int)+1<16)=true:=A9
     clear hy0 hk0 hv0 hdd hkk hy hz hS
     by_cases h15:j=14
     ·subst h15
      have hq:pRow.getD (14+1) 0=32767:=rfl
      have HQ:=aA hq
      clear hq
      by_cases hneg:y<0
      ·have dn:decide (y<0)=true:=by simp;omega
       go_wp2_with fail
       go_roundw
       case rel =>
        have h3:=((((HS.out.setCell 0 rfl 15 (.int .i64 (z - 65535))).setCell 0 rfl 15 (.int .i64 (z - 32767))).setCell 0 rfl 15 (.int .i64 (z - 32767 - 1))).setCell 0 rfl 14 (.int .i64 (y+65536)))
        simp only[List.set_cons_zero,ivs_set,List.set_set] at h3
        have e1:z - 32767 - 1=(suL u).getD (15) 0+ky (suL u) (15):=Dl
        have e2:y+65536=dy (suL u) 14:=Dm
        have e3:((suA u (14+1)).set (15) (z - 32767 - 1)).set 14 (y+65536)=suA u (14+1+1):=by rw[e1,e2];exact HT.out
        rw[e3] at h3
        exact⟨14+1,An,Cg,h3⟩
       case measure=>(simp[intOf])<;>omega
      ·have dn:decide (y<0)=false:=by simp;omega
       go_wp2_with fail
       go_roundw
       case rel =>
        have h3:=((HS.out.setCell 0 rfl 15 (.int .i64 (z - 65535))).setCell 0 rfl 15 (.int .i64 (z - 32767)))
        simp only[List.set_cons_zero,ivs_set,List.set_set] at h3
        have e1:z - 32767=(suL u).getD (15) 0+ky (suL u) (15):=Dl
        have e2:y=dy (suL u) 14:=Dm
        have e4:((suA u (14+1)).set (15) (z - 32767)).set 14 y=(suA u (14+1)).set (15) (z - 32767):=set_same (by rw[List.getElem?_set_ne An,HY.out];exact suA_at HKD.out.1 (i:=14+1) An An)
        have e3:(suA u (14+1)).set (15) (z - 32767)=suA u (14+1+1):=by rw[←e4,e1,e2];exact HT.out
        rw[e3] at h3
        exact⟨14+1,An,Cg,h3⟩
       case measure=>(simp[intOf])<;>omega
     ·have e15:decide ((j:Int)+1=15)=false:=by simp;omega
      have e15b:((j:Int)+1==15)=false:=A9
      have e15c:((j:Int)==14)=false:=A9
      have e15d:decide ((j:Int)=14)=false:=A9
      have n15:¬(j:Int)=14:=An
      have hq:=pRow_mid (i:=j+1) An An
      have HQ:=aA hq
      clear hq
      by_cases hneg:y<0
      ·have dn:decide (y<0)=true:=by simp;omega
       go_wp2_with fail
       go_roundw
       case rel =>
        have h3:=(((HS.out.setCell 0 rfl (j+1) (.int .i64 (z - 65535))).setCell 0 rfl (j+1) (.int .i64 (z - 65535 - 1))).setCell 0 rfl j (.int .i64 (y+65536)))
        simp only[List.set_cons_zero,ivs_set,List.set_set] at h3
        have e1:z - 65535 - 1=(suL u).getD (j+1) 0+ky (suL u) (j+1):=Dl
        have e2:y+65536=dy (suL u) j:=Dm
        have e3:((suA u (j+1)).set (j+1) (z - 65535 - 1)).set j (y+65536)=suA u (j+1+1):=by rw[e1,e2];exact HT.out
        rw[e3] at h3
        exact⟨j+1,An,Cg,h3⟩
       case measure=>(simp[intOf])<;>omega
      ·have dn:decide (y<0)=false:=by simp;omega
       go_wp2_with fail
       go_roundw
       case rel =>
        have h3:=(HS.out.setCell 0 rfl (j+1) (.int .i64 (z - 65535)))
        simp only[List.set_cons_zero,ivs_set,List.set_set] at h3
        have e1:z - 65535=(suL u).getD (j+1) 0+ky (suL u) (j+1):=Dl
        have e2:y=dy (suL u) j:=Dm
        have e4:((suA u (j+1)).set (j+1) (z - 65535)).set j y=(suA u (j+1)).set (j+1) (z - 65535):=set_same (by rw[List.getElem?_set_ne An,HY.out];exact suA_at HKD.out.1 (i:=j+1) An An)
        have e3:(suA u (j+1)).set (j+1) (z - 65535)=suA u (j+1+1):=by rw[←e4,e1,e2];exact HT.out
        rw[e3] at h3
        exact⟨j+1,An,Cg,h3⟩
       case measure=>(simp[intOf])<;>omega
    ·obtain rfl:j=15:=by omega
     have hsE:suA u (15+1)=suE u:=suA_end HKD.out.1
     rw[hsE] at hS
     have c1:wr.cell? ⟨g2,15,none⟩=some (.int .i64 ((suL u).getD 15 0+ky (suL u) 15)):=by rw[hS.cell 0 rfl 15];exact ivs_get rfl
     have hN:suNi t (k+1)=suN u:=by rw[HU.out];rfl
     have HN:=aA hN
     have hE:suN u=if 0≤(suL u).getD 15 0+ky (suL u) 15 then suE u else u:=rfl
     have HEE:=aA hE
     have hb:=suL_bd HKD.out (i:=15) An
     have hk15:=suL_ky HKD.out 15 An
     obtain⟨y,hy⟩:∃y,y=(suL u).getD 15 0+ky (suL u) 15:=⟨_,rfl⟩
     rw[←hy] at c1 HEE
     have y0:-65536≤y:=An
     have y1:y≤65535:=An
     clear hN hE hsE hb hk15 hy HS
     by_cases hpos:0≤y
     ·have dp:decide (0≤y)=true:=by simp;omega
      have dpn:decide (y<0)=false:=A9
      have hEE:=HEE.out
      rw[if_pos hpos] at hEE
      obtain⟨ea,hea⟩:∃a,a=(ivs (suE u)).toArray:=⟨_,rfl⟩
      have hse:ea.size=16:=by rw[hea,List.size_toArray,ivs_len];unfold suE;rw[List.length_append,bI];rfl
      have hoe:ea.all (·.oneCell')=true:=by rw[hea];exact ivs_all _
      have hsu:(ivs u).toArray.size=16:=by rw[List.size_toArray,ivs_len];exact HKD.out.1
      rw[←hea] at hS
      have HEA:=aA (hea.trans (by rw[←hEE,←HN.out]))
      have HS7:=aA hS
      have HS8:=aA (show St w NoB (wr.setRow g ea) [.cells g ea 130] from(hS.setRow 1 rfl ea).pickL [1] Bz rfl)
      clear hS hEE hea
      go_upto_region 16 with fail
      refine wp_region_list ?_
      refine wpList_load_row rfl 130 (.tmp 4) rfl g2 rfl 130 ea _ _ (HS7.out.heap 0 rfl) Tryz.underlying130 rfl (by rw[hse];kernel_rfl) ?_
      refine wpList_store_row rfl 130 (.tmp 3) (.tmp 57) rfl g ea rfl rfl 130 _ (HS7.out.heap 1 rfl) (by rw[hse];kernel_rfl) (by rw[hse,hsu]) hoe ?_
      refine wpList_nil ?_
      go_wp2_with fail
      go_roundw
      case rel=>exact⟨k+1,An,Cg,HEA.out▸HS8.out⟩
      case measure=>(simp[intOf])<;>omega
     ·have dp:decide (0≤y)=false:=by simp;omega
      have dpn:decide (y<0)=true:=A9
      have hEE:=HEE.out
      rw[if_neg hpos] at hEE
      have HS8:=aA (show St w NoB wr [.cells g (ivs (suNi t (k+1))).toArray 130] by
       rw[HN.out,hEE]
       exact hS.pickL [1] Bz rfl)
      clear hS hEE
      go_wp2_with fail
      go_roundw
      case rel=>exact⟨k+1,An,Cg,HS8.out⟩
      case measure=>(simp[intOf])<;>omega
  ·obtain rfl:k=3:=by omega
   have hb:u=bytN xs:=by rw[hu,HTT.out];rfl
   have hbb:=HE.out
   rw[←hb] at hbb
   have HV:=aA (show leB 32 (nv xs%(Pq:Int)).toNat=byN u 16 by
    unfold byN
    rw[List.take_of_length_le (by rw[hkd.1];exact Nat.le_refl _),rowsB u (dig_all hkd),hkd.1,hbb.2])
   obtain⟨ua,hua⟩:∃a,a=(ivs u).toArray:=⟨_,rfl⟩
   have hsu:ua.size=16:=by rw[hua,List.size_toArray,ivs_len];exact hkd.1
   rw[←hua] at hS
   have HUA:=aA hua
   have HS:=aA hS
   clear hS hu hua hkd hbb hb
   simp only[Int.cast_ofNat_Int]
   go_upto_region 19 with fail
   refine wp_region_list ?_
   refine wpList_load_row rfl 130 (.tmp 3) rfl g rfl 130 ua _ _ (HS.out.heap 0 rfl) Tryz.underlying130 rfl (by rw[hsu];kernel_rfl) ?_
   have HSR:=aA ((HS.out.row (Below.refl _ _) (World.ownsRow_nil _ _ 5 1)).pickL [0] Bz rfl:St w NoB wr [.row (.slice none 0 0) 5 1 0 []])
   go_wp2_with fail
   go_loopw [6,60] (fun b i wr=>BvRel w u b i wr) (fun _ i _=>16 - (intOf i).toNat)
   case atStart=>exact⟨0,none,0,An,rfl,rfl,HSR.out⟩
   case round =>
    clear HSR HS
    obtain⟨i,A,c,hi,rfl,rfl,hS⟩:=hrel
    have HS:=aA hS
    by_cases hlt:i<16
    ·have d16:decide ((i:Int)<16)=true:=by simp;omega
     have i16:(i:Int)<16:=An
     have hxd:=HKD.out.2 i _ (fU HKD.out.1 hlt)
     have hix:∀W,(Instr.index 130 (.agg ua) (.int .i64 (i:Int))).run Tryz.prog W=.ok (.int .i64 (u.getD i 0)) W:=fun W=>by
      rw[HUA.out]
      exact ix16 HKD.out.1 hlt W
     have HT:=aA (byN_succ u HKD.out.1 i hlt)
     obtain⟨x,hx⟩:∃x,x=u.getD i 0:=⟨_,rfl⟩
     rw[←hx] at hix hxd HT
     obtain⟨x0,x1⟩:=hxd
     obtain⟨p,hp⟩:∃p:Nat,(p:Int)=x%256:=⟨(x%256).toNat,An⟩
     obtain⟨q,hq⟩:∃q:Nat,(q:Int)=x/256%256:=⟨(x/256%256).toNat,An⟩
     have hr:bvs (rowB x)=[.int .u8 (p:Int),.int .u8 (q:Int)]:=by
      have e1:(x%256).toNat=p:=An
      have e2:(x/256%256).toNat=q:=An
      simp only[bvs,rowB,List.map_cons,List.map_nil,bv,e1,e2,UInt8.toNat_ofNat']
      rw[Nat.mod_eq_of_lt An,Nat.mod_eq_of_lt An]
     have HRB:=aA hr
     have w1:IntKind.u8.wrap x=(p:Int):=by rw[IntKind.wrap_u8];omega
     have w2:IntKind.u8.wrap (x/256)=(q:Int):=by rw[IntKind.wrap_u8];omega
     have w3:x%256=(p:Int):=hp.symm
     have w4:x/256%256=(q:Int):=hq.symm
     have p256:(p:Int)<256:=An
     have q256:(q:Int)<256:=An
     clear hx hp hq hr hS
     go_wp2_with (at_builtin;refine bQ rfl rfl tyB HS.out 0 rfl rfl (us:=[.int .u8 (p:Int),.int .u8 (q:Int)]) rfl rfl ?_ ?_ Bz ?_;(intro u hu;simp only[List.mem_cons,List.not_mem_nil,or_false] at hu;rcases hu with rfl|rfl<;>rfl);(simp only[List.length_cons,List.length_nil];omega);intro B3 d3 w3 hS3)
     go_roundw
     case rel =>
      simp only[List.set_cons_zero] at hS3
      rw[←HRB.out,←cK,←HT.out] at hS3
      exact⟨i+1,B3,d3,An,Cg,by rw[Nat.mul_add],hS3⟩
     case measure=>(simp[intOf])<;>omega
    ·obtain rfl:i=16:=by omega
     clear hS
     go_wp2_with fail
     go_ret
     exact⟨A,c,rfl,HS.out.below,by rw[HV.out];exact HS.out.ownsRow 0 rfl⟩
end Go.Proofs.YtnohmgpmmhlloaaGreatDoor
