import Derived.Test.YtkpodagbefnebaaGreatDoorYh6
import Derived.Recover
import Derived.Defers
import Derived.Test.YtkpodagbefnebaaGreatDoorYh7
set_option linter.unusedSimpArgs false
set_option linter.unusedVariables false
set_option linter.unusedSectionVars false
namespace Go.Proofs.YtkpodagbefnebaaGreatDoor
namespace Am
variable [Tb]
open Go.RowKit
section
variable {P:Program} {ρ:Operand→Option V} {H:Nat→Option HO} {t e:Nat} {ty:TypeId} {pos:String} {af:Array Edge} {gu:Option (Nat×Bool)} {x:Operand} {cs:List C}
theorem gW (n:Nat) (hn:H n=none) (hz:Zw P e cs):AS P ρ H ⟨some t,.alloc e,ty,pos,af,gu⟩ ⟨.c (.ptr n 0),[(n,.obj e cs)],[n]⟩:=.alloc rfl hn hz
end
theorem AY.thenL {P:Program} {nt:Nat} {ops:Array Oper} {X:Cx} {Q:Exit→Act→World→Prop} {l2:List Oper} {R:St→List FP→Prop} (hX:X.nt=nt) (hR:∀ σ fs a w κ,R σ fs→Gm X σ a w κ→wpList P ops Q l2 a w) :
 ∀ (l:List Oper) (σ:St) (fs:List FP) (a:Act) (w:World) (κ:K),(l.all fun o=>match o.dst with|some t=>decide (t<nt)|none=>true)=true→AY P ops l σ fs R (fun _ _ _ _=>False)→Gm X σ a w κ→wpList P ops Q (l++l2) a w
 |[],σ,fs,a,w,κ,_,h,g=>hR σ fs a w κ h g
 |o :: l,σ,fs,a,w,κ,hl,h,g=>by
  rcases h with⟨e,hs,h⟩|⟨v,L,hg,hq,hj⟩
  ·rw[List.all_cons,Bool.and_eq_true] at hl
   refine wpList_step fun K hK=>?_
   refine hs.sound g (fun t ht=>?_) fun a' w' κ' g'=>hK _ _ (AY.thenL hX hR l _ _ a' w' κ' hl.2 h g')
   have:=hl.1
   rw[ht] at this
   rw[hX]
   exact of_decide_eq_true this
  ·exact hj.elim
def eY (κ:K) (N:List Nat):Array Value:=(N.map fun n=>Value.pointer (some ⟨κ.μ n,0,none⟩)).toArray
def qU (fc:FuncId) (N:List Nat) (κ:K):Bool→List Deferred
 |false=>[]
 |true=>[{target:=.fn (.func fc) (eY κ N),args:=#[]}]
def AWD (P:Program) (nt:Nat) (fc:FuncId) (N:List Nat) (c:Code) (Q:Bool→Exit→St→Prop) (σ:St):Prop:=
 ∀ (X:Cx) (a:Act) (w:World) (κ:K),X.nt=nt→X.dfs=[]→Gm X σ a w κ→c.wp P (fun e a' w'=>∃ b σ',Q b e σ'∧∃ κ',Gm {X with dfs:=qU fc N κ' b} σ' a' w' κ') a w
section
variable {X:Cx} {σ:St} {a:Act} {w:World} {κ:K}
def Gg (X:Cx) (w:World):List Nat:=List.range' X.w0.heap.size (w.heap.size - X.w0.heap.size)
theorem kf {b:Nat} (h:X.w0.heap.size≤w.heap.size):b∈Gg X w↔X.w0.heap.size≤b∧b<w.heap.size:=by
 unfold Gg;rw[List.mem_range'_1];omega
def Cx.re (X:Cx) (w:World) (κ:K) (ds:List Deferred):Cx where
 w0:=w
 S0:=κ.S
 F:=X.F++Gg X w
 nt:=X.nt
 K0:={κ with D:=fun n=>κ.D n∧(n=0∨1000≤n)}
 ent:=fun _ h=>h.2
 R:=X.R++Gg X w
 sub:=fun b h=>(List.mem_append.1 h).elim (fun h=>List.mem_append_left _ (X.sub b h)) fun h=>List.mem_append_right _ h
 dfs:=ds
theorem Gm.re (g:Gm X σ a w κ) (ds:List Deferred):Gm (X.re w κ ds) σ {a with defers:=ds} w κ:=by
 have hs:=g.only.size
 have mF:∀ b,b<w.heap.size→b∈X.F∨X.w0.heap.size≤b→b∈(X.re w κ ds).F:=fun b hb h=>List.mem_append.2 (h.imp id fun h=>(kf hs).2 ⟨h,hb⟩)
 have mR:∀ b,b<w.heap.size→b∈X.R∨X.w0.heap.size≤b→b∈(X.re w κ ds).R:=fun b hb h=>List.mem_append.2 (h.imp id fun h=>(kf hs).2 ⟨h,hb⟩)
 refine⟨g.sl,fun n o ho=>⟨(g.hp n o ho).1,?_⟩,g.D,g.dis,Keep.refl _ _,fun _ _ h _=>.inl h,g.s1,g.sz,rfl,⟨fun n hn=>⟨hn.1,rfl⟩,fun _ _ h _=>⟨h,rfl⟩,fun _ _=>.inl rfl⟩,g.tw,fun b hb hG=>?_⟩
 ·have hO:=(g.hp n o ho).2
  cases o with
  |obj ty cs=>obtain ⟨vs,h1,h2,h3,h4⟩:=hO;exact⟨vs,h1,h2,h3,.inl (mF _ h1.lt h4)⟩
  |row e k m=>
   obtain ⟨h1,h2⟩:=hO
   exact⟨h1,h2.imp id fun⟨b,cap,cur,g1,g2,g3,g4,g5,g6,g7⟩=>⟨b,cap,cur,g1,g2,g3,g4,g5,g6,.inl (mR _ g2.lt g7)⟩⟩
  |bld ty e bs=>
   obtain ⟨p,v,h1,h2,h3,h4,h5,h6⟩:=hO
   refine⟨p,v,h1,h2,h3,h4,h5,fun b hb=>⟨(h6 b hb).1,.inl (mF b ?_ (h6 b hb).2)⟩⟩
   rcases hb with rfl|hb
   ·exact h1.lt
   ·exact(h5 b hb).1
  |lost=>trivial
  |gone=>exact⟨hO.1,hO.2.1,.inl (mF _ hO.1 hO.2.2)⟩
 ·have hlt:=Tb.lt _ _ g.tb.1 hG
  rcases List.mem_append.1 hb with hb|hb
  ·exact g.tb.2 b hb hG
  ·have:=((kf hs).1 hb).1;omega
theorem Gm.back (g:Gm X σ a w κ) {ds:List Deferred} {σ':St} {a':Act} {w':World} {κ':K} (g':Gm (X.re w κ ds) σ' a' w' κ'):Gm {X with dfs:=ds} σ' a' w' κ'∧∀ n,κ.D n→1000≤n→κ'.μ n=κ.μ n:=by
 have hs:=g.only.size
 have up:∀ b,b∈(X.re w κ ds).F∨w.heap.size≤b→b∈X.F∨X.w0.heap.size≤b:=fun b hb=>by
  rcases hb with hb|hb
  ·exact(List.mem_append.1 hb).imp id fun h=>((kf hs).1 h).1
  ·exact .inr (by omega)
 have upR:∀ b,b∈(X.re w κ ds).R∨w.heap.size≤b→b∈X.R∨X.w0.heap.size≤b:=fun b hb=>by
  rcases hb with hb|hb
  ·exact(List.mem_append.1 hb).imp id fun h=>((kf hs).1 h).1
  ·exact .inr (by omega)
 have l0:Le X.K0 X.w0 (X.re w κ ds).K0 w:=⟨fun n hn=>⟨⟨(g.m0.D n hn).1,X.ent n hn⟩,(g.m0.D n hn).2⟩,g.m0.S,g.m0.T⟩
 refine⟨⟨g'.sl,fun n o ho=>⟨(g'.hp n o ho).1,?_⟩,g'.D,g'.dis,g.only.trans g'.only fun x hx=>up x (.inl hx),fun b i hi hlt=>?_,g'.s1,g'.sz,g'.df,l0.trans g'.m0 hs,g.tb⟩,fun n hD hn=>(g'.m0.D n ⟨hD,.inr hn⟩).2⟩
 ·have hO:=(g'.hp n o ho).2
  cases o with
  |obj ty cs=>obtain ⟨vs,h1,h2,h3,h4⟩:=hO;exact⟨vs,h1,h2,h3,up _ h4⟩
  |row e k m=>
   obtain ⟨h1,h2⟩:=hO
   exact⟨h1,h2.imp id fun⟨b,cap,cur,g1,g2,g3,g4,g5,g6,g7⟩=>⟨b,cap,cur,g1,g2,g3,g4,g5,g6,upR _ g7⟩⟩
  |bld ty e bs=>
   obtain ⟨p,v,h1,h2,h3,h4,h5,h6⟩:=hO
   exact⟨p,v,h1,h2,h3,h4,h5,fun b hb=>⟨(h6 b hb).1,up b (h6 b hb).2⟩⟩
  |lost=>trivial
  |gone=>exact⟨hO.1,hO.2.1,up _ hO.2.2⟩
 ·rcases g'.s0 b i hi (Nat.lt_of_lt_of_le hlt hs) with k|k
  ·exact g.s0 b i k hlt
  ·rcases upR b (.inl k) with k|k
   ·exact .inr k
   ·have hlt:b<X.w0.heap.size:=hlt;omega
end
section
variable {P:Program} {nt:Nat} {fc:FuncId} {N:List Nat} {Q:Bool→Exit→St→Prop} {σ:St}
theorem IW {X:Cx} (h:X.dfs=[]):({X with dfs:=[]}:Cx)=X:=by
 cases X;simp only at h;subst h;rfl
theorem AWD.seq {x y:Code} (h:AW P nt x (qk (fun σ'=>AWD P nt fc N y Q σ') (Q false)) σ):AWD P nt fc N (.seq x y) Q σ:=fun X a w κ hX hd g=>by
 refine wp_seq (Go.wp_mono (h X a w κ hX g) fun e a' w' hq=>?_)
 obtain ⟨σ',hs,κ',g'⟩:=hq
 have fin:∀ e',Q false e' σ'→∃ b σ',Q b e' σ'∧∃ κ',Gm {X with dfs:=qU fc N κ' b} σ' a' w' κ':=fun e' hs=>⟨false,σ',hs,κ',by show Gm {X with dfs:=[]} σ' a' w' κ';rw[IW hd];exact g'⟩
 cases e with
 |normal=>exact hs X a' w' κ' hX hd g'
 |_=>exact fin _ hs
theorem AWD.defer {id:Nat} {l:List Oper} {rest:Code} {x:Operand} {ats:Array TypeId} {ty:TypeId} {pos:String} {af:Array Edge} {d0:Option Nat} (hl:(l.all fun o=>match o.dst with|some t=>decide (t<nt)|none=>true)=true) (hd0:d0=none) (hN:∀ n∈N,1000≤n)
 (h:AY P (l++([⟨d0,.defer {callee:=.value x,args:=#[],argTypes:=ats},ty,pos,af,none⟩]:List Oper)).toArray l σ [] (fun σ1 _=>Ev (evA σ1.sl) x (.c (.fn fc (N.map fun n=>.ptr n 0)))∧AW P nt rest (Q true) σ1) fun _ _ _ _=>False) :
 AWD P nt fc N (.seq (.region id (l++([⟨d0,.defer {callee:=.value x,args:=#[],argTypes:=ats},ty,pos,af,none⟩]:List Oper)).toArray false) rest) Q σ:=fun X a w κ hX hdf g=>by
 subst hd0
 refine wp_seq (wp_region_lit (AY.thenL hX (fun σ1 fs a1 w1 κ1 hR g1=>?_) l σ [] a w κ hl h g))
 obtain ⟨hx,hrest⟩:=hR
 refine wpList_step fun K hK=>?_
 rw[gT g1 (t:=true) rfl,if_pos rfl]
 have hp:=g1.ev hx
 cases hp with
 |c hp=>
  generalize he:a1.eval x=y at hp
  cases hp with
  |fn cv h1 h2 h3=>
   rename_i cap
   have hcap:cap=eY κ1 N:=by
    refine Array.ext (by unfold eY;rw[h1];simp) fun j hj hj'=>?_
    have hjn:j<N.length:=by rw[h1] at hj;simpa using hj
    have hv:=h2 j (by simpa using hjn)
    have hr:=h3 j (.ptr N[j] 0) (by simp[hjn])
    have e1:cap[j]=cv j:=by rw[Array.getElem?_eq_getElem hj] at hv;injection hv
    rw[e1]
    generalize cv j=z at hr
    cases hr
    simp[eY]
   have hD:∀ n∈N,κ1.D n:=fun n hn=>by
    obtain ⟨j,hj,rfl⟩:=List.mem_iff_getElem.1 hn
    have hr:=h3 j (.ptr N[j] 0) (by simp[hj])
    generalize cv j=z at hr
    cases hr with|ptr h=>exact h
   unfold Oper.wp execOp
   simp only[resolve]
   have hof:Deferred.ofValue (a1.eval x) (Array.map a1.eval #[])=(pure {target:=.fn (.func fc) cap,args:=#[]++Array.map a1.eval #[]}:Sem Deferred):=by rw[he];rfl
   have em:(#[]++Array.map a1.eval #[]:Array Value)= #[]:=by simp
   rw[em] at hof
   simp only[hof,Sem.run_bind,Sem.run_pure,Result.andThen_ok]
   rw[Oper.upon_defer]
   have had:a1.defers=[]:=by rw[g1.df];exact hdf
   rw[had,hcap]
   refine hK _ _ ?_
   have g2:=g1.re (qU fc N κ1 true)
   refine Go.wp_mono (hrest _ _ w1 κ1 (show(X.re w1 κ1 _).nt=nt from hX) g2) fun e a' w' hq=>?_
   obtain ⟨σ',hs,κ',g'⟩:=hq
   obtain ⟨k1,k2⟩:=g1.back g'
   refine⟨true,σ',hs,κ',?_⟩
   have e:qU fc N κ' true=qU fc N κ1 true:=by
    unfold qU eY
    have:(N.map fun n=>Value.pointer (some ⟨κ'.μ n,0,none⟩))=N.map fun n=>Value.pointer (some ⟨κ1.μ n,0,none⟩):=List.map_congr_left fun n hn=>by rw[k2 n (hD n hn) (hN n hn)]
    rw[this]
   rw[e]
   exact k1
end
def fq:HO→Bool
 | .obj _ cs=>okL noN cs
 |_=>false
def MD (P:Program) (f:FuncId) (N:List Nat) (h:Nat→Option HO) (u u':FrameMode) (h':Nat→Option HO):Prop:=∀ (X:Cx),Tb.T X.w0→(∀ b∈X.F,¬ Tb.G b)→X.S0=X.K0.S→(∀ n,X.K0.D n↔n∈N)→Objs X X.K0 X.w0 N h→(∀ g i,X.S0 g i→g<X.w0.heap.size)→
 CallsD P f (eY X.K0 N) u X.w0 fun e u2 w'=>∃ x κ',e= .returned x∧u2=u'∧Keep X.F X.w0 w'∧Le X.K0 X.w0 κ' w'∧(∀ g i,κ'.S g i→g<X.w0.heap.size→X.S0 g i∨g∈X.R)∧(∀ g i,κ'.S g i→g<w'.heap.size)∧Objs X κ' w' N h'
theorem kx {o:HO} (h:fq o=true):∃ ty cs,o= .obj ty cs∧okL noN cs=true:=by
 cases o with
 |obj ty cs=>exact⟨ty,cs,rfl,h⟩
 |_=>cases h
theorem Gm.leave {P:Program} {X:Cx} {σ σ2:St} {a:Act} {w:World} {κ:K} {f:FuncId} {N:List Nat} {h h':Nat→Option HO} {u u':FrameMode} (g:Gm X σ a w κ) (hent:∀ n∈N,1000≤n) (hh:∀ n∈N,∃ ob,σ.hp n=some ob∧fq ob=true∧h n=some ob) (hh':∀ n∈N,∃ ob,h' n=some ob∧fq ob=true)
 (hP:MD P f N h u u' h') (e1:σ2.sl=σ.sl) (e2:∀ n∈N,σ2.hp n=h' n) (e3:∀ m,m ∉ N→σ2.hp m=σ.hp m):CallsD P f (eY κ N) u w fun e u2 w'=>∃ x κ',e= .returned x∧u2=u'∧Gm X σ2 a w' κ':=by
 let κ0:K:={κ with D:=fun n=>n∈N}
 let X0:Cx:=⟨w,κ.S,N.map κ.μ,0,κ0,fun n hn=>.inr (hent n hn),[],(fun _ h=>nomatch h),[]⟩
 have hb1:∀ n∈N,∀ (o:HO) (σ:St) (κ:K),σ.hp n=some o→fq o=true→bl σ κ n=[κ.μ n]:=fun n _ o σ κ k1 k2=>by
  obtain ⟨ty,cs,rfl,_⟩:=kx k2
  unfold bl;rw[k1]
 have hbl:∀ n∈N,bl σ κ n=[κ.μ n]:=fun n hn=>by
  obtain ⟨ob,k1,k2,_⟩:=hh n hn
  exact hb1 n hn ob σ κ k1 k2
 have mF:∀ b∈N.map κ.μ,∃ n∈N,b∈bl σ κ n:=fun b hb=>by
  obtain ⟨n,hn,rfl⟩:=List.mem_map.1 hb
  exact⟨n,hn,by rw[hbl n hn];exact .head _⟩
 have hobj:Objs X0 κ0 w N h:=by
  refine⟨fun n hn=>?_,fun n hn n' hn' b hne k1 k2=>?_⟩
  ·obtain ⟨ob,k1,k2,k3⟩:=hh n hn
   obtain ⟨ty,cs,rfl,k4⟩:=kx k2
   obtain ⟨_,ws,q1,q2,q3,_⟩:=g.hp n _ k1
   exact⟨_,k3,hn,ws,q1,Reps.only (κ:=κ) (κ':=κ0) (d:=noN) rfl (fun n hn=>by cases hn) q2 k4,q3,.inl (List.mem_map.2 ⟨n,hn,rfl⟩)⟩
  ·obtain ⟨ob,q1,q2,q3⟩:=hh n hn
   obtain ⟨ob',r1,r2,r3⟩:=hh n' hn'
   rw[hb1 n hn ob _ κ0 q3 q2] at k1
   rw[hb1 n' hn' ob' _ κ0 r3 r2] at k2
   exact g.dis n n' b hne (by rw[hbl n hn];exact k1) (by rw[hbl n' hn'];exact k2)
 refine(hP X0 g.tw (fun b hb=>?_) rfl (fun n=>Iff.rfl) hobj g.s1).mono ?_
 ·obtain ⟨n,_,hb⟩:=mF b hb
  exact g.tG b hb
 rintro e u2 w' ⟨x,κ1,rfl,rfl,hk,l1,s0,s1,hO'⟩
 have hk:Keep (N.map κ.μ) w w':=hk
 let κ2:K:={κ with S:=κ1.S}
 have l:Le κ w κ2 w':=⟨fun n hn=>⟨hn,rfl⟩,l1.S,fun _ _=>.inl rfl⟩
 have out:∀ m,m ∉ N→∀ b∈bl σ κ m,b ∉ N.map κ.μ:=fun m hm b hb hF=>by
  obtain ⟨n,hn,hb'⟩:=mF b hF
  exact g.dis n m b (fun e=>hm (e▸hn)) hb' hb
 have old:∀ b,b<w.heap.size→∀ i,κ1.S b i→κ.S b i:=fun b hb i hs=>(s0 b i hs hb).resolve_right fun h=>nomatch h
 have hbl2:∀ m,bl σ2 κ2 m=bl σ κ m:=fun m=>by
  by_cases hm:m∈N
  ·obtain ⟨ob,k1,k2⟩:=hh' m hm
   rw[hb1 m hm ob σ2 κ2 ((e2 m hm).trans k1) k2,hbl m hm]
  ·unfold bl;rw[e3 m hm]
 refine⟨x,κ2,rfl,rfl,fun t v hv=>?_,fun m q hm=>?_,fun m hm=>?_,fun m m' b hne k1 k2=>?_,g.only.trans hk fun b hb=>?_,fun b i hs hlt=>?_,s1,g.sz,g.df,g.m0.trans l g.only.size,g.tb⟩
 ·rw[e1] at hv
  obtain ⟨z,hz,hr⟩:=g.sl t v hv
  exact⟨z,hz,hr.mono l⟩
 ·by_cases hi:m∈N
  ·obtain ⟨ob,k1,k2⟩:=hh' m hi
   rw[e2 m hi,k1] at hm
   injection hm with hm
   subst hm
   obtain ⟨ty,cs,rfl,k4⟩:=kx k2
   obtain ⟨ob0,z1,z2,_⟩:=hh m hi
   obtain ⟨ty0,cs0,rfl,_⟩:=kx z2
   obtain ⟨hD,_,_,_,_,z3⟩:=g.hp m _ z1
   obtain ⟨ob1,f1,f2,f3⟩:=hO'.ok m hi
   rw[k1] at f1
   injection f1 with f1
   subst f1
   obtain ⟨ws,b1,b2,b3,_⟩:=f3
   have hμ:κ1.μ m=κ.μ m:=(l1.D m hi).2
   rw[hμ] at b1 b3
   exact⟨hD,ws,b1,Reps.only (κ:=κ1) (κ':=κ2) (d:=noN) rfl (fun n hn=>by cases hn) b2 k4,b3,z3⟩
  ·rw[e3 m hi] at hm
   obtain ⟨hD,hO⟩:=g.hp m q hm
   have nF:=out m hi
   refine⟨hD,?_⟩
   cases q with
   |obj ty cs=>
    obtain ⟨ws,k1,k2,k3,k4⟩:=hO
    have hb:κ.μ m∈bl σ κ m:=by unfold bl;simp only[hm];exact List.mem_singleton.2 rfl
    exact⟨ws,hk.blk k1 (nF _ hb),k2.mono l,fun i hs=>k3 i (old _ k1.lt i hs),k4⟩
   |row e k c=>
    obtain ⟨k1,k2⟩:=hO
    refine⟨k1,k2.imp id fun⟨b,cap,cur,p1,p2,p3,p4,p5,p6,p7⟩=>?_⟩
    have hb:b∈bl σ κ m:=by unfold bl;simp only[hm,p1];exact List.mem_singleton.2 rfl
    exact⟨b,cap,cur,p1,hk.blk p2 (nF _ hb),p3,p4,p5,fun i hs=>p6 i (old _ p2.lt i hs),p7⟩
   |bld ty e bs=>exact hO.bld rfl rfl (fun b hb hlt=>hk.block b hlt (nF b ((fO hm).2 hb))) hk.size fun b i hlt _ hs=>old b hlt i hs
   |lost=>trivial
   |gone=>
    have hb:κ.μ m∈bl σ κ m:=by unfold bl;simp only[hm];exact List.mem_singleton.2 rfl
    exact⟨Nat.lt_of_lt_of_le hO.1 hk.size,fun i hs=>hO.2.1 i (old _ hO.1 i hs),hO.2.2⟩
 ·by_cases hi:m∈N
  ·obtain ⟨ob,k1,_⟩:=hh' m hi
   exact⟨ob,(e2 m hi).trans k1⟩
  ·obtain ⟨q,hq⟩:=g.D m hm
   exact⟨q,(e3 m hi).trans hq⟩
 ·rw[hbl2] at k1 k2
  exact g.dis m m' b hne k1 k2
 ·obtain ⟨n,_,hb⟩:=mF b hb
  exact(g.blk hb).2
 ·have hlt2:b<w.heap.size:=Nat.lt_of_lt_of_le hlt g.only.size
  exact g.s0 b i (old b hlt2 i hs) hlt
theorem uX (args:List V):look (args.zipIdx.map fun p=>(p.2,p.1))=fun i=>args[i]?:=by
 have key:∀ (l:List V) (b i:Nat),look ((l.zipIdx b).map fun p=>(p.2,p.1)) (b+i)=l[i]?:=by
  intro l
  induction l with
  |nil=>intro b i;rfl
  |cons v l ih=>
   intro b i
   rw[List.zipIdx_cons,List.map_cons]
   unfold look
   cases i with
   |zero=>simp
   |succ i=>
    have:Nat.beq b (b+(i+1))=false:=by
     cases hb:Nat.beq b (b+(i+1)) with
     |false=>rfl
     |true=>have:=Nat.eq_of_beq_eq_true hb;omega
    simp only[this]
    have:=ih (b+1) i
    rw[show b+(i+1)=b+1+i by omega,this]
    rfl
 funext i
 have:=key args 0 i
 rw[Nat.zero_add] at this
 exact this
theorem MD.of {P:Program} {f nt id t s:Nat} {fn:Func} {o o2:Oper} {rest:Code} {N:List Nat} {os os':List (Nat×HO)} {v:Value} {u u':FrameMode} {older:List PanicEntry} (hu:(u= .panicking ({v:=v,recovered:=false} :: older)∧u'= .panicking ({v:=v,recovered:=true} :: older))∨(u= .returning∧u'= .returning∧v= .nilIface))
 (hf:P.funcs[f]? =some fn) (hb:fn.body=some (.seq (.region id #[o,o2] false) rest)) (hn:fn.ntmps=nt) (hop:∀ ρ w,(execOp ρ o).run P w= .ok .recover w) (hds:o.dst=some t) (hgu:o.guard=none) (hop2:∀ (ρ:Operand→Value) w,(execOp ρ o2).run P w= .ok (.value (ρ (.tmp t))) w) (hds2:o2.dst=some s) (hgu2:o2.guard=none) (ht:t<nt) (hs:s<nt) (hl:N.length≤nt) (hres:fn.results= #[]) (hos:os.map (·.1)=N) (hsv:jG v=true)
 (hw:AW P nt rest (fun e σ=>(e= .ret∨e= .normal)∧∀ n∈N,σ.hp n=look os' n) (mk ((s,.c (.sc v)) :: (t,.c (.sc v)) :: (N.map fun n=>V.c (.ptr n 0)).zipIdx.map fun p=>(p.2,p.1)) os)):MD P f N (look os) u u' (look os'):=by
 have hN:∀ n,n ∉ N→look os n=none:=fun n hn=>j8 (hos▸hn)
 generalize hh:look os=h at hN
 generalize hh':look os'=h' at hw
 intro X0 hT hG hS0 hD hO hS
 let X:Cx:={X0 with nt:=nt,dfs:=[]}
 have mem:∀ {n b},b∈bl ⟨fun i=>(N.map fun n=>V.c (.ptr n 0))[i]?,h⟩ X0.K0 n→n∈N:=fun {n b} hb=>by
  by_cases hm:n∈N
  ·exact hm
  ·rw[lP (hN n hm)] at hb;cases hb
 have hvl:(eY X0.K0 N).size=N.length:=by unfold eY;simp
 have g:Gm X ⟨fun i=>(N.map fun n=>V.c (.ptr n 0))[i]?,h⟩ {tmps:=eY X0.K0 N++Array.replicate (fn.ntmps - (eY X0.K0 N).size) undef,defers:=[]} X0.w0 X0.K0:=by
  refine⟨fun j x hx=>?_,fun n o ho=>?_,fun n hn=>?_,fun n n' b hne h1 h2=>?_,Keep.refl _ _,fun g i hs _=>.inl (by show X0.S0 g i;rw[hS0];exact hs),fun g i hs=>hS g i (by rw[hS0];exact hs),?_,rfl,Le.refl _ _,hT,hG⟩
  ·have hx:(N.map fun n=>V.c (.ptr n 0))[j]? =some x:=hx
   rw[List.getElem?_map,Option.map_eq_some_iff] at hx
   obtain ⟨n,hj,rfl⟩:=hx
   have hlt:=(List.getElem?_eq_some_iff.1 hj).1
   refine⟨.pointer (some ⟨X0.K0.μ n,0,none⟩),?_,.c (.ptr ((hD n).2 (List.mem_of_getElem? hj)))⟩
   rw[Array.getElem?_append_left (by rw[hvl];exact hlt)]
   unfold eY
   simp[hj]
  ·have ho:h n=some o:=ho
   by_cases hm:n∈N
   ·obtain ⟨o',k1,k2,k3⟩:=hO.ok n hm
    rw[ho] at k1
    injection k1 with k1
    subst k1
    exact⟨k2,k3⟩
   ·rw[hN n hm] at ho;cases ho
  ·obtain ⟨o',k1,_⟩:=hO.ok n ((hD n).1 hn)
   exact⟨o',k1⟩
  ·exact hO.dis n (mem h1) n' (mem h2) b hne h1 h2
  ·simp[X,hn,hvl];omega
 refine callsD_of_wpS hf hb fun c₀ cs hc=>wpS_seq (wpS_region ?_)
 have hsz:(eY X0.K0 N++Array.replicate (fn.ntmps - (eY X0.K0 N).size) undef).size=nt:=g.sz
 have go:∀ cs',(cs'= {c₀ with mode:=u'} :: cs)→rest.wpS P (bodyPostS P fn c₀ cs fun e u2 w'=>∃ x κ',e= .returned x∧u2=u'∧Keep X0.F X0.w0 w'∧Le X0.K0 X0.w0 κ' w'∧(∀ g i,κ'.S g i→g<X0.w0.heap.size→X0.S0 g i∨g∈X0.R)∧(∀ g i,κ'.S g i→g<w'.heap.size)∧Objs X0 κ' w' N h') (Act.put (Act.put {tmps:=eY X0.K0 N++Array.replicate (fn.ntmps - (eY X0.K0 N).size) undef,defers:=[]} (some t) v) (some s) v) cs' X0.w0:=fun cs' hcs=>by
  have g1:=g.put (v:=.c (.sc v)) (d:=some t) (.c (.sc hsv)) (fun t' e=>by injection e with e;subst e;exact ht)
  have g2:=g1.put (v:=.c (.sc v)) (d:=some s) (.c (.sc hsv)) (fun t' e=>by injection e with e;subst e;exact hs)
  have e:St.put (St.put ⟨fun i=>(N.map fun n=>V.c (.ptr n 0))[i]?,h⟩ (some t) (.c (.sc v))) (some s) (.c (.sc v))=mk ((s,.c (.sc v)) :: (t,.c (.sc v)) :: (N.map fun n=>V.c (.ptr n 0)).zipIdx.map fun p=>(p.2,p.1)) os:=by
   rw[← ig,←ig]
   unfold mk
   rw[hh,uX]
  rw[e] at g2
  refine wpS_of_wp (Go.wp_mono (hw X _ _ _ rfl g2) fun e a' w' hq=>?_)
  obtain ⟨σ',⟨he,hh⟩,κ',g'⟩:=hq
  have hobj:Objs X0 κ' w' N h':=by
   refine⟨fun n hm=>?_,fun n hm n' hm' b hne h1 h2=>?_⟩
   ·have hd:=(g'.m0.D n ((hD n).2 hm)).1
    obtain ⟨o,ho⟩:=g'.D n hd
    exact⟨o,(hh n hm)▸ho,hd,(g'.hp n o ho).2⟩
   ·rw[j0 (τ:=σ') (show h' n=σ'.hp n from(hh n hm).symm)] at h1
    rw[j0 (τ:=σ') (show h' n'=σ'.hp n' from(hh n' hm').symm)] at h2
    exact g'.dis n n' b hne h1 h2
  have hrs:(results fn a'.tmps).run P w'= .ok (.tuple #[]) w':=by unfold results;rw[hres];simp
  rcases he with rfl|rfl
  ·exact⟨g'.df,u',hcs,_,hrs,_,κ',rfl,rfl,g'.only,g'.m0,g'.s0,g'.s1,hobj⟩
  ·exact⟨g'.df,u',hcs,_,hrs,_,κ',rfl,rfl,g'.only,g'.m0,g'.s0,g'.s1,hobj⟩
 show wpOpsS P #[o,o2] _ [0,1] _ _ _
 have hw1:∀ y,Region.wanted o y=true:=fun y=>by unfold Region.wanted;rw[hgu]
 have hw2:∀ y,Region.wanted o2 y=true:=fun y=>by unfold Region.wanted;rw[hgu2]
 have hev:(Act.put {tmps:=eY X0.K0 N++Array.replicate (fn.ntmps - (eY X0.K0 N).size) undef,defers:=[]} (some t) v).eval (.tmp t)=v:=by
  simp only[Act.put,Act.eval]
  rw[Array.getD_eq_getD_getElem?,Array.getElem?_setIfInBounds_self_of_lt (by rw[hsz];exact ht)]
  rfl
 have two:∀ cs',(cs'= {c₀ with mode:=u'} :: cs)→wpOpsS P #[o,o2] (Exit.thenS (rest.wpS P (bodyPostS P fn c₀ cs fun e u2 w'=>∃ x κ',e= .returned x∧u2=u'∧Keep X0.F X0.w0 w'∧Le X0.K0 X0.w0 κ' w'∧(∀ g i,κ'.S g i→g<X0.w0.heap.size→X0.S0 g i∨g∈X0.R)∧(∀ g i,κ'.S g i→g<w'.heap.size)∧Objs X0 κ' w' N h')) (bodyPostS P fn c₀ cs fun e u2 w'=>∃ x κ',e= .returned x∧u2=u'∧Keep X0.F X0.w0 w'∧Le X0.K0 X0.w0 κ' w'∧(∀ g i,κ'.S g i→g<X0.w0.heap.size→X0.S0 g i∨g∈X0.R)∧(∀ g i,κ'.S g i→g<w'.heap.size)∧Objs X0 κ' w' N h')) [1] (Act.put {tmps:=eY X0.K0 N++Array.replicate (fn.ntmps - (eY X0.K0 N).size) undef,defers:=[]} (some t) v) cs' X0.w0:=fun cs' hcs=>by
  unfold wpOpsS
  simp only[List.getElem?_toArray,List.getElem?_cons_succ,List.getElem?_cons_zero,hw2,if_true,hop2,hev,hds2,Oper.upon_value]
  exact go cs' hcs
 unfold wpOpsS
 simp only[List.getElem?_toArray,List.getElem?_cons_zero,hw1,if_true,hop,hds]
 rcases hu with⟨rfl,rfl⟩|⟨rfl,rfl,rfl⟩
 ·unfold recoverD
  simp only[hc]
  exact two _ rfl
 ·unfold recoverD
  simp only[hc]
  refine two _ ?_
  rw[← hc]
def RetD (P:Program) (fc:FuncId) (Nc:List Nat) (rl:List ResultVar) (N:List Nat) (r:V) (h':Nat→Option HO):Bool→Exit→St→Prop
 |false,e,σ=>tO P rl N r h' e σ
 |true,e,σ=>∃ (u u':FrameMode) (hc hc':Nat→Option HO) (σ2:St),(((e= .ret∨e= .normal)∧u= .returning)∨∃ v,e=jM v∧u= .panicking [{v:=v,recovered:=false}])∧settle u'= .returning∧MD P fc Nc hc u u' hc'∧
  (∀ n∈Nc,∃ ob,σ.hp n=some ob∧fq ob=true∧hc n=some ob)∧(∀ n∈Nc,∃ ob,hc' n=some ob∧fq ob=true)∧σ2.sl=σ.sl∧(∀ n∈Nc,σ2.hp n=hc' n)∧(∀ m,m ∉ Nc→σ2.hp m=σ.hp m)∧tO P rl N r h' .ret σ2
theorem MN.ofD {P:Program} {f nt fc:Nat} {fn:Func} {c:Code} {N Nc:List Nat} {h h':Nat→Option HO} {args:List V} {r:V} (hc:bJ P f) (hcc:bJ P fc) (hf:P.funcs[f]? =some fn) (hb:fn.body=some c) (hn:fn.ntmps=nt) (hl:args.length≤nt) (hN:∀ n,n ∉ N→h n=none) (hNc:∀ n∈Nc,1000≤n)
 (hw:AWD P nt fc Nc c (RetD P fc Nc fn.results.toList N r h') ⟨fun i=>args[i]?,h⟩):MN P f N h args r h':=by
 refine⟨hc,fun X0 vs hT hG hS0 hD hO hS hv=>?_⟩
 have hvl:vs.size=args.length:=by have:=hv.1;simp at this;omega
 let X:Cx:={X0 with nt:=nt,dfs:=[]}
 have mem:∀ {n b},b∈bl ⟨fun i=>args[i]?,h⟩ X0.K0 n→n∈N:=fun {n b} hb=>by
  by_cases hm:n∈N
  ·exact hm
  ·rw[lP (hN n hm)] at hb;cases hb
 have g:Gm X ⟨fun i=>args[i]?,h⟩ {tmps:=vs++Array.replicate (fn.ntmps - vs.size) undef,defers:=[]} X0.w0 X0.K0:=by
  refine⟨fun t v hv'=>?_,fun n o ho=>?_,fun n hn=>?_,fun n n' b hne h1 h2=>?_,Keep.refl _ _,fun g i hs _=>.inl (by show X0.S0 g i;rw[hS0];exact hs),fun g i hs=>hS g i (by rw[hS0];exact hs),?_,rfl,Le.refl _ _,hT,hG⟩
  ·obtain ⟨x,hx,hr'⟩:=hv.get hv'
   refine⟨x,?_,hr'⟩
   have hlt:=(List.getElem?_eq_some_iff.1 hx).1
   have e:vs[t]? =some x:=by simpa using hx
   rw[Array.getElem?_append_left (by simpa using hlt)]
   exact e
  ·have ho:h n=some o:=ho
   by_cases hm:n∈N
   ·obtain ⟨o',k1,k2,k3⟩:=hO.ok n hm
    rw[ho] at k1
    injection k1 with k1
    subst k1
    exact⟨k2,k3⟩
   ·rw[hN n hm] at ho;cases ho
  ·obtain ⟨o',k1,_⟩:=hO.ok n ((hD n).1 hn)
   exact⟨o',k1⟩
  ·exact hO.dis n (mem h1) n' (mem h2) b hne h1 h2
  ·simp[X,hn];omega
 have fin:∀ {e:Exit} {σ':St} {a':Act} {w':World} {κ':K} {ds:List Deferred},tO P fn.results.toList N r h' e σ'→Gm {X with dfs:=ds} σ' a' w' κ'→∃ v,(results fn a'.tmps).run P w'= .ok v w'∧∃ x κ',(Ending.returned v)= .returned x∧Keep X0.F X0.w0 w'∧Le X0.K0 X0.w0 κ' w'∧(∀ g i,κ'.S g i→g<X0.w0.heap.size→X0.S0 g i∨g∈X0.R)∧(∀ g i,κ'.S g i→g<w'.heap.size)∧Objs X0 κ' w' N h'∧RepV κ' w' r x:=fun {e σ' a' w' κ' ds} ⟨he,hh,us,hres,hun⟩ g'=>by
  obtain ⟨x,hx,hrx⟩:=iX g' hres
  have hr:RepV κ' w' r x:=by
   rcases hun with rfl|rfl
   ·exact hrx
   ·exact hrx.un
  have hobj:Objs X0 κ' w' N h':=by
   refine⟨fun n hm=>?_,fun n hm n' hm' b hne h1 h2=>?_⟩
   ·have hd:=(g'.m0.D n ((hD n).2 hm)).1
    obtain ⟨o,ho⟩:=g'.D n hd
    exact⟨o,(hh n hm)▸ho,hd,(g'.hp n o ho).2⟩
   ·rw[j0 (τ:=σ') (show h' n=σ'.hp n from(hh n hm).symm)] at h1
    rw[j0 (τ:=σ') (show h' n'=σ'.hp n' from(hh n' hm').symm)] at h2
    exact g'.dis n n' b hne h1 h2
  exact⟨x,hx,x,κ',rfl,g'.only,g'.m0,g'.s0,g'.s1,hobj,hr⟩
 refine calls_of_wp_defers hf hb (Go.wp_mono (hw X _ X0.w0 _ rfl rfl g) fun e a' w' hq=>?_)
 obtain ⟨b,σ',hR,κ',g'⟩:=hq
 have hinv:(invoke (.fn (.func fc) (eY κ' Nc)) #[]).run P w'= .ok (.enter fc (eY κ' Nc)) w':=by
  unfold invoke
  simp only[Array.empty_append]
  exact hcc _ _
 have hdf:=g'.df
 cases b with
 |false=>
  have hdf:a'.defers=[]:=hdf
  have he:=hR.1
  have hfin:=fin hR g'
  rcases he with rfl|rfl
  ·show Leaves P fn a'.tmps _ a'.defers .returning w'
   rw[hdf];exact hfin
  ·show Leaves P fn a'.tmps _ a'.defers .returning w'
   rw[hdf];exact hfin
 |true=>
  have hdf:a'.defers=[{target:=.fn (.func fc) (eY κ' Nc),args:=#[]}]:=hdf
  obtain ⟨u,u',hc0,hc1,σ2,hm,hset,hMD,k1,k2,k3,k4,k5,hRN⟩:=hR
  have key:∀ u0,u0=u→u0≠.run→Leaves P fn a'.tmps (fun e w'=>∃ x κ',e= .returned x∧Keep X0.F X0.w0 w'∧Le X0.K0 X0.w0 κ' w'∧(∀ g i,κ'.S g i→g<X0.w0.heap.size→X0.S0 g i∨g∈X0.R)∧(∀ g i,κ'.S g i→g<w'.heap.size)∧Objs X0 κ' w' N h'∧RepV κ' w' r x) a'.defers u0 w':=fun u0 e0 hrun=>by
   subst e0
   rw[hdf]
   refine leaves_cons hrun hinv ((g'.leave hNc k1 k2 hMD k3 k4 k5).mono ?_)
   rintro e u2 w2 ⟨x,κ2,rfl,rfl,g2⟩
   show Leaves P fn a'.tmps _ [] (settle u2) w2
   rw[hset]
   exact fin hRN g2
  rcases hm with⟨he,hu⟩|⟨v,rfl,hu⟩
  ·rcases he with rfl|rfl
   ·exact key _ hu.symm (by simp)
   ·exact key _ hu.symm (by simp)
  ·exact key _ hu.symm (by simp)
theorem MNL.ofD {P:Program} {f nt fc:Nat} {fn:Func} {c:Code} {rl:List ResultVar} {os os':List (Nat×HO)} {Nc:List Nat} {args:List V} {r:V} {sl:List (Nat×V)} (hc:bJ P f) (hcc:bJ P fc) (hf:P.funcs[f]? =some fn) (hb:fn.body=some c) (hn:fn.ntmps=nt) (hres:fn.results=rl.toArray) (hl:Nat.ble args.length nt=true)
 (hs:sl=args.zipIdx.map fun p=>(p.2,p.1)) (hNc:∀ n∈Nc,1000≤n) (hw:AWD P nt fc Nc c (RetD P fc Nc rl (os.map (·.1)) r (look os')) (mk sl os)):MNL P f os args r os':=by
 refine MN.ofD hc hcc hf hb hn (Nat.le_of_ble_eq_true hl) (fun n hn=>j8 hn) hNc ?_
 rw[hres,List.toList_toArray]
 subst hs
 unfold mk at hw
 rw[uX] at hw
 exact hw
theorem Pure.of_mn {P:Program} {f:FuncId} {args:List V} {r:V} (h:MNL P f [] args r []) (hr:V.ok noN r=true):Pure P f args r:=by
 refine⟨h.1,fun w S vs hT hS hv=>?_⟩
 refine(h.2 (cx0 w S [] 0) vs hT (fun b hb=>(by cases hb)) rfl (fun n=>⟨fun h=>h.elim,fun h=>(by cases h)⟩) ⟨fun n hn=>(by cases hn),fun n hn=>(by cases hn)⟩ hS hv).mono ?_
 rintro e w' ⟨x,κ',rfl,hk,l,s0,s1,_,hr'⟩
 refine⟨x,rfl,hk,?_⟩
 have h2:RepV (cz κ'.S) w' r x:=RepV.only (κ:=κ') (κ':=cz κ'.S) (d:=noN) rfl (fun n hn=>by cases hn) hr' hr
 refine h2.mono (gK fun g i hs=>?_)
 rcases Nat.lt_or_ge g w.heap.size with hlt|hge
 ·exact .inl ((s0 g i hs hlt).resolve_right fun h=>List.not_mem_nil h)
 ·exact .inr ⟨hge,s1 g i hs⟩
theorem RetD.mk {P:Program} {fc:FuncId} {Nc:List Nat} {rl:List ResultVar} {N:List Nat} {r:V} {h':Nat→Option HO} {e:Exit} {l:List (Nat×V)} {h bx bx':List (Nat×HO)} {u u':FrameMode} (hm:((e= .ret∨e= .normal)∧u= .returning)∨∃ v,e=jM v∧u= .panicking [{v:=v,recovered:=false}]) (hset:settle u'= .returning) (hMD:MD P fc Nc (look bx) u u' (look bx'))
 (hn:bx'.map (·.1)=Nc) (k1:∀ n∈Nc,∃ ob,look h n=some ob∧fq ob=true∧look bx n=some ob) (k2:∀ n∈Nc,∃ ob,look bx' n=some ob∧fq ob=true) (hR:tO P rl N r h' .ret (Am.mk l (bx'++h))):RetD P fc Nc rl N r h' true e (Am.mk l h):=by
 have app:∀ (a b:List (Nat×HO)) (n:Nat),look (a++b) n=match look a n with|some x=>some x|none=>look b n:=by
  intro a
  induction a with
  |nil=>intro b n;rfl
  |cons p a ih=>
   intro b n
   obtain ⟨k,v⟩:=p
   show(match Nat.beq k n with|true=>some v|false=>look (a++b) n)=(match (match Nat.beq k n with|true=>some v|false=>look a n) with|some x=>some x|none=>look b n)
   cases Nat.beq k n with
   |true=>rfl
   |false=>exact ih b n
 refine⟨u,u',look bx,look bx',Am.mk l (bx'++h),hm,hset,hMD,k1,k2,rfl,fun n hn'=>?_,fun m hm'=>?_,hR⟩
 ·obtain ⟨ob,q1,_⟩:=k2 n hn'
  show look (bx'++h) n=look bx' n
  rw[app,q1]
 ·show look (bx'++h) m=look h m
  rw[app,j8 (hn▸hm')]
theorem tR {P:Program} {ρ:Operand→Option V} {H:Nat→Option HO} {d:Option Nat} {ty:TypeId} {pos:String} {af:Array Edge} {gu:Option (Nat×Bool)} {x:Operand} {T s:TypeId} {us:List Value} (hx:Ev ρ x (.c (.sc (.iface T (.agg us.toArray))))) (hu:(us.all jG)=true)
 (hr:∀ w,(Instr.typeAssert (.iface T (.agg us.toArray)) s T true).run P w= .ok (.tuple #[.agg us.toArray,.bool true]) w):AS P ρ H ⟨d,.typeAssert x s T true,ty,pos,af,gu⟩ ⟨.tup [.agg (us.map C.sc),.c (.sc (.bool true))],[],[]⟩:=by
 refine .still (x:=.tuple #[.agg us.toArray,.bool true]) (fun r hr' w=>?_) fun _=>.ab fun v hv=>List.all_eq_true.1 hu v hv
 have h1:=hr' x (by simp[Op.operands]) _ _ hx .sc
 unfold execOp
 simp only[h1,Sem.run_bind,hr,Result.andThen_ok,Sem.run_pure]
end Am
namespace Am
variable [Tb]
open Go.RowKit
set_option maxRecDepth 100000
section
variable {P:Program} {σ:St}
theorem Lc {t0 ty0 n0 off0 to0 k0:Nat} {cs0:List C} {b0:Bool} {t1 ty1 n1 off1 to1 k1:Nat} {cs1:List C} {b1:Bool} {v0 v1:V} {u0 u1:V} (e0:v0.un=u0) (e1:v1.un=u1) (h0:Ev (evA σ.sl) (.tmp t0) (.c (.ptr n0 off0)):=by exact az) (hh0:σ.hp n0=some (.obj to0 cs0):=by rfl) (ht0:tyi P ty0=some (k0,b0):=by exact dT rfl) (hc0:aU b0 cs0 off0 k0=some v0:=by(first|(simp only[fK];rfl)|(rw[er _ _ _ _ _ (by(try simp only[kO]);decide)];simp only[fK,Nat.reduceAdd];rfl)|rfl)) (h1:Ev (evA σ.sl) (.tmp t1) (.c (.ptr n1 off1)):=by exact az) (hh1:σ.hp n1=some (.obj to1 cs1):=by rfl) (ht1:tyi P ty1=some (k1,b1):=by exact dT rfl) (hc1:aU b1 cs1 off1 k1=some v1:=by(first|(simp only[fK];rfl)|(rw[er _ _ _ _ _ (by(try simp only[kO]);decide)];simp only[fK,Nat.reduceAdd];rfl)|rfl)):Ret P [.cell t0 ty0,.cell t1 ty1] (.tup [u0,u1]) .ret σ:=⟨.inl rfl,_,(.cell h0 hh0 ht0 hc0 (.cell h1 hh1 ht1 hc1 .nil)),by show V.tup (unV _)=_;simp only[unV,e0,e1]⟩
end
section
variable {P:Program} {α β ε:Type} {sp:Except ε (α×β)} {R:α→V} {E:ε→Value} {l:List (Nat×V)} {h:List (Nat×HO)}
theorem Cu {O1:β→HO} {o:HO} {t0:Nat} {t1 ty1 n1 off1 to1 k1:Nat} {cs1:List C} {b1:Bool} {v0 v1:V} (k:∃ a b,sp= .ok (a,b)∧(V.tup [v0,v1]).un=R a∧HO.le o (O1 b)) (h0:Ev (evA (look l)) (.tmp t0) v0:=by exact az) (h1:Ev (evA (look l)) (.tmp t1) (.c (.ptr n1 off1)):=by exact az) (hh1:look h n1=some (.obj to1 cs1):=by rfl) (ht1:tyi P ty1=some (k1,b1):=by exact dT rfl) (hc1:aU b1 cs1 off1 k1=some v1:=by(first|(simp only[fK];rfl)|(rw[er _ _ _ _ _ (by(try simp only[kO]);decide)];simp only[fK,Nat.reduceAdd];rfl)|rfl)) (ho:look h 0=some o:=by rfl):iL P [.tmp t0,.cell t1 ty1] [0] sp R (fun b=>[(0,O1 b)]) E .ret (mk l h):=by
 obtain ⟨a,b,q1,q2,q3⟩:=k
 exact .inr ⟨.inl rfl,a,b,q1,fun n hn=>by rw[List.mem_singleton.1 hn];exact⟨o,_,ho,rfl,q3⟩,[v0,v1],(.tmp h0 (.cell h1 hh1 ht1 hc1 .nil)),q2⟩
theorem MF {O1:β→HO} {o:HO} {t0 ty0 n0 off0 to0 k0:Nat} {cs0:List C} {b0:Bool} {t1 ty1 n1 off1 to1 k1:Nat} {cs1:List C} {b1:Bool} {v0 v1:V} (k:∃ a b,sp= .ok (a,b)∧(V.tup [v0,v1]).un=R a∧HO.le o (O1 b)) (h0:Ev (evA (look l)) (.tmp t0) (.c (.ptr n0 off0)):=by exact az) (hh0:look h n0=some (.obj to0 cs0):=by rfl) (ht0:tyi P ty0=some (k0,b0):=by exact dT rfl) (hc0:aU b0 cs0 off0 k0=some v0:=by(first|(simp only[fK];rfl)|(rw[er _ _ _ _ _ (by(try simp only[kO]);decide)];simp only[fK,Nat.reduceAdd];rfl)|rfl)) (h1:Ev (evA (look l)) (.tmp t1) (.c (.ptr n1 off1)):=by exact az) (hh1:look h n1=some (.obj to1 cs1):=by rfl) (ht1:tyi P ty1=some (k1,b1):=by exact dT rfl) (hc1:aU b1 cs1 off1 k1=some v1:=by(first|(simp only[fK];rfl)|(rw[er _ _ _ _ _ (by(try simp only[kO]);decide)];simp only[fK,Nat.reduceAdd];rfl)|rfl)) (ho:look h 0=some o:=by rfl):iL P [.cell t0 ty0,.cell t1 ty1] [0] sp R (fun b=>[(0,O1 b)]) E .ret (mk l h):=by
 obtain ⟨a,b,q1,q2,q3⟩:=k
 exact .inr ⟨.inl rfl,a,b,q1,fun n hn=>by rw[List.mem_singleton.1 hn];exact⟨o,_,ho,rfl,q3⟩,[v0,v1],(.cell h0 hh0 ht0 hc0 (.cell h1 hh1 ht1 hc1 .nil)),q2⟩
end
section
variable {P:Program} {l:List (Nat×V)} {h:List (Nat×HO)} {N:List Nat} {h':Nat→Option HO} {r:V}
theorem n_c {t0 ty0 n0 off0 to0 k0:Nat} {cs0:List C} {b0:Bool} {v0:V} (e:(one [v0]).un=r) (hN:∀ n∈N,look h n=h' n) (h0:Ev (evA (look l)) (.tmp t0) (.c (.ptr n0 off0)):=by exact az) (hh0:look h n0=some (.obj to0 cs0):=by rfl) (ht0:tyi P ty0=some (k0,b0):=by exact dT rfl) (hc0:aU b0 cs0 off0 k0=some v0:=by(first|(simp only[fK];rfl)|(rw[er _ _ _ _ _ (by(try simp only[kO]);decide)];simp only[fK,Nat.reduceAdd];rfl)|rfl)):tO P [.cell t0 ty0] N r h' .ret (mk l h):=⟨.inl rfl,hN,[v0],(.cell h0 hh0 ht0 hc0 .nil),.inr e⟩
theorem CQ {t0 ty0 n0 off0 to0 k0:Nat} {cs0:List C} {b0:Bool} {t1 ty1 n1 off1 to1 k1:Nat} {cs1:List C} {b1:Bool} {t2 ty2 n2 off2 to2 k2:Nat} {cs2:List C} {b2:Bool} {v0 v1 v2:V} (e:(one [v0,v1,v2]).un=r) (hN:∀ n∈N,look h n=h' n) (h0:Ev (evA (look l)) (.tmp t0) (.c (.ptr n0 off0)):=by exact az) (hh0:look h n0=some (.obj to0 cs0):=by rfl) (ht0:tyi P ty0=some (k0,b0):=by exact dT rfl) (hc0:aU b0 cs0 off0 k0=some v0:=by(first|(simp only[fK];rfl)|(rw[er _ _ _ _ _ (by(try simp only[kO]);decide)];simp only[fK,Nat.reduceAdd];rfl)|rfl)) (h1:Ev (evA (look l)) (.tmp t1) (.c (.ptr n1 off1)):=by exact az) (hh1:look h n1=some (.obj to1 cs1):=by rfl) (ht1:tyi P ty1=some (k1,b1):=by exact dT rfl) (hc1:aU b1 cs1 off1 k1=some v1:=by(first|(simp only[fK];rfl)|(rw[er _ _ _ _ _ (by(try simp only[kO]);decide)];simp only[fK,Nat.reduceAdd];rfl)|rfl)) (h2:Ev (evA (look l)) (.tmp t2) (.c (.ptr n2 off2)):=by exact az) (hh2:look h n2=some (.obj to2 cs2):=by rfl) (ht2:tyi P ty2=some (k2,b2):=by exact dT rfl) (hc2:aU b2 cs2 off2 k2=some v2:=by(first|(simp only[fK];rfl)|(rw[er _ _ _ _ _ (by(try simp only[kO]);decide)];simp only[fK,Nat.reduceAdd];rfl)|rfl)):tO P [.cell t0 ty0,.cell t1 ty1,.cell t2 ty2] N r h' .ret (mk l h):=⟨.inl rfl,hN,[v0,v1,v2],(.cell h0 hh0 ht0 hc0 (.cell h1 hh1 ht1 hc1 (.cell h2 hh2 ht2 hc2 .nil))),.inr e⟩
end
section
variable {P:Program} {ops:Array Oper} {l:List (Nat×V)} {h:List (Nat×HO)} {rest:List Oper} {fs:List FP} {K:St→List FP→Prop} {J:Value→St→List FP→List Nat→Prop} {t:Nat} {ty:TypeId} {pos:String} {af:Array Edge} {x:Operand} {args:Array Operand} {ats:Array TypeId} {f:Nat} {us:List V} {n m:Nat}
variable {α β ε:Type} {sp:Except ε (α×β)} {R:α→V} {E:ε→Value}
theorem Ml {o:HO} {O:β→HO} (hx:Ev (evA (look l)) x (.c (.fn f []))) (hv:EvL (evA (look l)) args.toList (.c (.ptr n 0) :: us)) (hn:look h n=some o) (hP:MX P f [(0,o)] (.c (.ptr 0 0) :: us) sp R (fun b=>[(0,O b)]) E) (hok:okV noN us=true) (h1:o.one=true)
 (k1:∀ a b,sp= .ok (a,b)→AY P ops rest (mk ((t,R a) :: l) ((n,O b) :: h)) (fs++[([n],[n])]) K J) (k2:∀ e,sp= .error e→J (E e) (mk l ((n,.lost) :: h)) fs [n]):AY P ops (⟨some t,.call {callee:=.value x,args:=args,argTypes:=ats},ty,pos,af,none⟩ :: rest) (mk l h) fs K J:=by
 cases hsp:sp with
 |ok p=>exact y_w (Io hx hv hn (hP.ok p.1 p.2 hsp) hok h1 (by have:=(hP.hO p.2).2;simpa using this) (hP.hR _)) (k1 p.1 p.2 hsp)
 |error e=>exact .inr ⟨_,[(n,.lost)],rfl,wc [(0,n)] hx hv (hP.no e hsp) (D3 n) (by rw[List.map_nil,List.append_nil];exact .ptr rfl rfl (nQ hok)) (.cons hn h1 .nil) rfl,by rw[zy];exact k2 e hsp⟩
theorem Ng {d:Option Nat} {v:Value} (hx:Ev (evA (look l)) x (.c (.fn f []))) (hv:EvL (evA (look l)) args.toList us) (hP:MQL P f [] us v) (hok:okV noN us=true) (k:J v (mk l h) fs []):AY P ops (⟨d,.call {callee:=.value x,args:=args,argTypes:=ats},ty,pos,af,none⟩ :: rest) (mk l h) fs K J:=
 .inr ⟨v,[],rfl,wc [] hx hv hP rfl (by simp only[List.map_nil,List.append_nil];exact nQ hok) .nil rfl,k⟩
theorem Nb {o s:HO} {O S:β→HO} (hx:Ev (evA (look l)) x (.c (.fn f [.ptr m 0]))) (hv:EvL (evA (look l)) args.toList [.c (.ptr n 0)]) (hn:look h n=some o) (hm:look h m=some s) (hP:MX P f [(0,o),(1001,s)] [.c (.ptr 0 0),.c (.ptr 1001 0)] sp R (fun b=>[(0,O b),(1001,S b)]) E) (h1:o.one=true) (h2:s.one=true) (hnm:Nat.beq n m=false)
 (k1:∀ a b,sp= .ok (a,b)→AY P ops rest (mk ((t,R a) :: l) ((m,S b) :: (n,O b) :: h)) (fs++[([n,m],[n,m])]) K J) (k2:∀ e,sp= .error e→J (E e) (mk l ((m,.lost) :: (n,.lost) :: h)) fs [n,m]):AY P ops (⟨some t,.call {callee:=.value x,args:=args,argTypes:=ats},ty,pos,af,none⟩ :: rest) (mk l h) fs K J:=by
 cases hsp:sp with
 |ok p=>
  have:=(hP.hO p.2).2
  simp only[List.all_cons,List.all_nil,Bool.and_true,Bool.and_eq_true] at this
  exact Mq (Ir [(0,n),(1001,m)] hx hv (hP.ok p.1 p.2 hsp) (vh hnm) rfl (.ptr rfl rfl (.ptr rfl rfl .nil)) (.cons hn h1 (.cons hm h2 .nil)) rfl (by simp[this.1,this.2]) (hP.hR _) rfl rfl) (k1 p.1 p.2 hsp)
 |error e=>exact .inr ⟨_,[(n,.lost),(m,.lost)],rfl,wc [(0,n),(1001,m)] hx hv (hP.no e hsp) (vh hnm) (.ptr rfl rfl (.ptr rfl rfl .nil)) (.cons hn h1 (.cons hm h2 .nil)) rfl,by rw[zy];exact k2 e hsp⟩
theorem I4 {o:HO} {O:β→HO} (hx:Ev (evA (look l)) x (.c (.fn f [])):=by exact az) (hv:EvL (evA (look l)) args.toList (.c (.ptr n 0) :: us):=by(first|((repeat(first|exact .nil|((apply EvL.cons);(· (first|(refine .wh rfl ?_;first|assumption|(rw[hp];rfl)|(simp_all;done))|exact .pl rfl)))));done)|fail)) (hn:look h n=some o:=by rfl) (hP:MX P f [(0,o)] (.c (.ptr 0 0) :: us) sp R (fun b=>[(0,O b)]) E) (hok:okV noN us=true:=by(first|rfl|(simp[okV,V.ok,okL,C.ok,okA];done)|(simp[okV,V.ok,okL,C.ok,okA,fP,fQ,-List.map_map, *];done)|(simp[okV,V.ok,okL,bB,C.ok,okA,nsC,NS.zero,lvC,Lv.zero,rgC,Rg.zero,cxC,Ct.zero,moC,Mo.zero];done)|(simp[okV,V.ok,okL,C.ok,okA,-List.map_drop];done))) (h1:o.one=true:=by(first|rfl|(simp[HO.one,okL,C.ok,okA];done))) (k1:∀ a b,sp= .ok (a,b)→AY P ops rest (mk ((t,R a) :: l) ((n,O b) :: h)) (fs++[([n],[n])]) K J) (k2:∀ e,sp= .error e→J (E e) (mk l ((n,.lost) :: h)) fs [n]):AY P ops (⟨some t,.call {callee:=.value x,args:=args,argTypes:=ats},ty,pos,af,none⟩ :: rest) (mk l h) fs K J:=Ml hx hv hn hP hok h1 k1 k2
theorem ML {d:Option Nat} {v:Value} (hx:Ev (evA (look l)) x (.c (.fn f [])):=by exact az) (hv:EvL (evA (look l)) args.toList us:=by(first|((repeat(first|exact .nil|((apply EvL.cons);(· (first|(refine .wh rfl ?_;first|assumption|(rw[hp];rfl)|(simp_all;done))|exact .pl rfl)))));done)|fail)) (hP:MQL P f [] us v) (hok:okV noN us=true:=by(first|rfl|(simp[okV,V.ok,okL,C.ok,okA];done)|(simp[okV,V.ok,okL,C.ok,okA,fP,fQ,-List.map_map, *];done)|(simp[okV,V.ok,okL,bB,C.ok,okA,nsC,NS.zero,lvC,Lv.zero,rgC,Rg.zero,cxC,Ct.zero,moC,Mo.zero];done)|(simp[okV,V.ok,okL,C.ok,okA,-List.map_drop];done))) (k:J v (mk l h) fs []):AY P ops (⟨d,.call {callee:=.value x,args:=args,argTypes:=ats},ty,pos,af,none⟩ :: rest) (mk l h) fs K J:=Ng hx hv hP hok k
theorem JZ {o s:HO} {O S:β→HO} (hx:Ev (evA (look l)) x (.c (.fn f [.ptr m 0])):=by exact az) (hv:EvL (evA (look l)) args.toList [.c (.ptr n 0)]:=by(first|((repeat(first|exact .nil|((apply EvL.cons);(· (first|(refine .wh rfl ?_;first|assumption|(rw[hp];rfl)|(simp_all;done))|exact .pl rfl)))));done)|fail)) (hn:look h n=some o:=by rfl) (hm:look h m=some s:=by rfl) (hP:MX P f [(0,o),(1001,s)] [.c (.ptr 0 0),.c (.ptr 1001 0)] sp R (fun b=>[(0,O b),(1001,S b)]) E) (h1:o.one=true:=by(first|rfl|(simp[HO.one,okL,C.ok,okA];done))) (h2:s.one=true:=by(first|rfl|assumption|(simp[HO.one,okL,C.ok,okA];done))) (hnm:Nat.beq n m=false:=by rfl) (k1:∀ a b,sp= .ok (a,b)→AY P ops rest (mk ((t,R a) :: l) ((m,S b) :: (n,O b) :: h)) (fs++[([n,m],[n,m])]) K J) (k2:∀ e,sp= .error e→J (E e) (mk l ((m,.lost) :: (n,.lost) :: h)) fs [n,m]):AY P ops (⟨some t,.call {callee:=.value x,args:=args,argTypes:=ats},ty,pos,af,none⟩ :: rest) (mk l h) fs K J:=Nb hx hv hn hm hP h1 h2 hnm k1 k2
end
end Am
end Go.Proofs.YtkpodagbefnebaaGreatDoor
