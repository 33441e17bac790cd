import Derived.Test.YtkpodagbefnebaaGreatDoorYe22
import Derived.Test.YtkpodagbefnebaaGreatDoorYe33
import Derived.Test.YtkpodagbefnebaaGreatDoorYe34
import Derived.Test.YtkpodagbefnebaaGreatDoorYe30
import Derived.Test.YtkpodagbefnebaaGreatDoorYe26
import Derived.Test.YtkpodagbefnebaaGreatDoorYe21
import Derived.Test.YtkpodagbefnebaaGreatDoorYe8
import Derived.Laws.StructEq
import Derived.Test.YtkpodagbefnebaaGreatDoorYe23
set_option linter.unusedSimpArgs false
set_option linter.unusedVariables false
set_option linter.unusedSectionVars false
namespace Go.Proofs.YtkpodagbefnebaaGreatDoor
namespace Am
open Tk Go.RowKit
set_option maxRecDepth 100000
set_option maxHeartbeats 4000000
def Fb (P:Program) (rl:List ResultVar) (ty:Nat) (cs:List C):Exit→St→Prop:=fun e σ=>(e= .ret∨e= .normal)∧∃ n cs0,σ.hp n=some (.obj ty cs0)∧unL cs0=cs∧∃ vs,ARes P σ rl vs∧one vs= .c (.ptr n 0)
theorem Eg [Tb] {P:Program} {f nt:Nat} {fn:Func} {c:Code} {rl:List ResultVar} {a0:V} {ty:Nat} {cs:List C} (hc:bp P f) (hf:P.funcs[f]? =some fn) (hb:fn.body=some c) (hn:fn.ntmps=nt) (hres:fn.results=rl.toArray) (hl:Nat.ble 1 nt=true) (hr:okL noN cs=true) (h:AW P nt c (Fb P rl ty cs) (mk [(0,a0)] [])):NewC P f [a0] ty cs:=
 NewC.of hc hf hb hn (Nat.le_of_ble_eq_true hl) hr (by
  have e:(⟨fun i=>[a0][i]?,fun _=>none⟩:St)=mk [(0,a0)] []:=by
   congr 1
   funext i
   match i with
   |0=>rfl
   |i+1=>rfl
  rw[e,hres];exact h)
theorem C3 {P:Program} {l:List (Nat×V)} {h:List (Nat×HO)} {ty t0 n:Nat} {cs cs0:List C} (e:unL cs0=cs) (h0:Ev (evA (look l)) (.tmp t0) (.c (.ptr n 0)):=by exact .pl rfl) (hh:look h n=some (.obj ty cs0):=by rfl):Fb P [.tmp t0] ty cs .ret (mk l h):=⟨.inl rfl,n,cs0,hh,e,[_],.tmp h0 .nil,rfl⟩
def ji {l:List Tok} (k:Ix l) (f:Fa):Fa:=if f.code=0∧(tk k).kind≠0 then flt 9 (tk k) else f
abbrev F4:Tok:=Tok.zero
def sq (src:ByteArray):List Tok×Fa:=match dI src with
 | .ok l=>(l,Fa.zero)
 | .error f=>([F4],f)
theorem Dv:Fine [F4]:=⟨by decide,by decide,fun k h=>absurd (show(tk k).kind=0 from by
 obtain ⟨i,hi⟩:=k
 have:i=0:=by simp at hi;omega
 subst this;rfl) h,fun k h=>by
 obtain ⟨i,hi⟩:=k
 have:i=0:=by simp at hi;omega
 subst this;exact absurd h (show ¬ ((0:Int)=2) by decide)⟩
theorem vc {src:ByteArray} {l:List Tok} {f:Fa} (hs:sq src=(l,f)):Fine l:=by
 unfold sq at hs
 cases hsc:dI src with
 |ok ts=>
  rw[hsc] at hs
  injection hs with h1 h2
  subst h1
  exact fU hsc
 |error g=>
  rw[hsc] at hs
  injection hs with h1 h2
  subst h1
  exact Dv
theorem Au {l:List Tok} (k:Ix l) (f:Fa) (c:Int):MX Tryz.prog 58 [(0,qsO k f c)] [.c (.ptr 0 0)] (.ok (ji k f,ji k f):Except Fa (Fa×Fa)) (fun g=>.agg (faC g)) (fun g=>[(0,qsO k g c)]) pvS:=by
 have nw:=cB (l:=l) (k:=k) (f:=f) (c:=c)
 have fa:=cN (l:=l) (k:=k) (f:=f) (c:=c)
 have fl:=du (c:=c) k f 9 (tk k)
 by_cases h:f.code=0
 ·have e1:cA f 9 (tk k)=flt 9 (tk k):=iR h
  rw[e1] at fl
  have e2:(!decide (f.code=0))=false:=by simp[h]
  rw[e2] at fa
  by_cases hk:(tk k).kind=0
  ·have e:ji k f=f:=by unfold ji;rw[if_neg fun h=>h.2 hk]
   rw[e]
   refine MXA (fn:=Tryz.f58) Tryz.call58 Tryz.func58 rfl Tryz.ntmps58 Tryz.results58 rfl rfl ?_
   repeat'(first|(with_reducible first|apply AW.seq|apply AW.skip|apply AW.ret|apply aa|apply y_e|refine ae ?_)|((with_reducible apply ai);first|refine t_v AS.v ?_|refine t_v (by first|exact az (hP:=nw)|exact az (hP:=fa)) ?_|refine t_w AS.w ?_|refine t_w (by exact av (hP:=fl)) ?_)|((with_reducible apply aK);first|refine t_f ?_|refine t_m (hs:=fun hg=>AS.v) (k:=?_)|refine t_m (hs:=fun hg=>(by exact az (hP:=nw))) (k:=?_))|((with_reducible apply ay);refine t_s AS.s ?_)|((with_reducible refine aq ?_);first|refine aI ?_|(refine ah (fun hc=>?_) (fun hc=>?_);all_goals(try(exfalso;simp[*] at hc;done))))|((with_reducible refine aE ?_);refine b8 (k:=?_))|fail)
   all_goals exact⟨_,_,rfl,cw _,ar rfl⟩
  ·have e:ji k f=flt 9 (tk k):=by unfold ji;rw[if_pos ⟨h,hk⟩]
   rw[e]
   refine MXA (fn:=Tryz.f58) Tryz.call58 Tryz.func58 rfl Tryz.ntmps58 Tryz.results58 rfl rfl ?_
   repeat'(first|(with_reducible first|apply AW.seq|apply AW.skip|apply AW.ret|apply aa|apply y_e|refine ae ?_)|((with_reducible apply ai);first|refine t_v AS.v ?_|refine t_v (by first|exact az (hP:=nw)|exact az (hP:=fa)) ?_|refine t_w AS.w ?_|refine t_w (by exact av (hP:=fl)) ?_)|((with_reducible apply aK);first|refine t_f ?_|refine t_m (hs:=fun hg=>AS.v) (k:=?_)|refine t_m (hs:=fun hg=>(by exact az (hP:=nw))) (k:=?_))|((with_reducible apply ay);refine t_s AS.s ?_)|((with_reducible refine aq ?_);first|refine aI ?_|(refine ah (fun hc=>?_) (fun hc=>?_);all_goals(try(exfalso;simp[*] at hc;done))))|((with_reducible refine aE ?_);refine b8 (k:=?_))|fail)
   all_goals exact⟨_,_,rfl,cw _,ar rfl⟩
 ·have e2:(!decide (f.code=0))=true:=by simp[h]
  rw[e2] at fa
  have e:ji k f=f:=by unfold ji;rw[if_neg fun h'=>h h'.1]
  rw[e]
  refine MXA (fn:=Tryz.f58) Tryz.call58 Tryz.func58 rfl Tryz.ntmps58 Tryz.results58 rfl rfl ?_
  repeat'(first|(with_reducible first|apply AW.seq|apply AW.skip|apply AW.ret|apply aa|apply y_e|refine ae ?_)|((with_reducible apply ai);first|refine t_v AS.v ?_|refine t_v (by first|exact az (hP:=nw)|exact az (hP:=fa)) ?_|refine t_w AS.w ?_|refine t_w (by exact av (hP:=fl)) ?_)|((with_reducible apply aK);first|refine t_f ?_|refine t_m (hs:=fun hg=>AS.v) (k:=?_)|refine t_m (hs:=fun hg=>(by exact az (hP:=nw))) (k:=?_))|((with_reducible apply ay);refine t_s AS.s ?_)|((with_reducible refine aq ?_);first|refine aI ?_|(refine ah (fun hc=>?_) (fun hc=>?_);all_goals(try(exfalso;simp[*] at hc;done))))|((with_reducible refine aE ?_);refine b8 (k:=?_))|fail)
  all_goals exact⟨_,_,rfl,cw _,ar rfl⟩
theorem qm {src:ByteArray} {l:List Tok} {f:Fa} (hs:sq src=(l,f)) (h0:0<l.length):NewC Tryz.prog 52 [.c (sS src)] 139 (qsC ⟨l,(((⟨0,h0⟩:Ix l).1:Nat):Int),f,0⟩):=by
 have sc:=zF src
 unfold sq at hs
 cases hsc:dI src with
 |ok ts=>
  rw[hsc] at hs sc
  injection hs with h1 h2
  subst h1 h2
  have sc:Pure _ _ _ (.tup [.c (.lst none 4 (ts.map tkC)),.agg (faC Fa.zero)]):=sc
  refine Eg (fn:=Tryz.f52) Tryz.call52 Tryz.func52 rfl Tryz.ntmps52 Tryz.results52 rfl (by simp[okL,C.ok,okA]) ?_
  repeat'(first|(with_reducible first|apply AW.seq|apply AW.skip|apply AW.ret|apply aa|apply ak|apply y_e|refine ae ?_)|((with_reducible apply ai);first|refine t_v AS.v ?_|refine t_v (by exact aj (hP:=sc)) ?_|refine t_w AS.w ?_)|((with_reducible apply ay);refine t_s AS.s ?_)|((with_reducible refine aq ?_);first|refine aI ?_|(refine ah (fun hc=>?_) (fun hc=>?_);all_goals(try(exfalso;simp[*] at hc;done))))|fail)
  all_goals first|(refine C3 ?_ (.pl rfl) rfl;first|rfl|(simp only[unA];done)|(simp only[unA];rfl))|(exfalso;simp_all;done)|trace_state
 |error g=>
  rw[hsc] at hs sc
  injection hs with h1 h2
  subst h1 h2
  have sc:Pure _ _ _ (.tup [.c .nil,.agg (faC g)]):=sc
  have hg:=(kB src g hsc).1
  refine Eg (fn:=Tryz.f52) Tryz.call52 Tryz.func52 rfl Tryz.ntmps52 Tryz.results52 rfl (by simp[okL,C.ok,okA]) ?_
  repeat'(first|(with_reducible first|apply AW.seq|apply AW.skip|apply AW.ret|apply aa|apply ak|apply y_e|refine ae ?_)|((with_reducible apply ai);first|refine t_v AS.v ?_|refine t_v (by exact aj (hP:=sc)) ?_|refine t_w AS.w ?_)|((with_reducible apply ay);refine t_s AS.s ?_)|((with_reducible refine aq ?_);first|refine aI ?_|(refine ah (fun hc=>?_) (fun hc=>?_);all_goals(try(exfalso;simp[*] at hc;done))))|fail)
  all_goals((refine C3 ?_ (.pl rfl) rfl;rfl))
theorem zk {l:List Tok} (k:Ix l) (f:Fa) (c:Int):MNL Tryz.prog 58 [(0,qsO k f c)] [.c (.ptr 0 0)] (.agg (faC (ji k f))) [(0,qsO k (ji k f) c)]:=(Au k f c).ok _ _ rfl
end Am
namespace Am
open Tk Go.RowKit
set_option maxRecDepth 100000
set_option maxHeartbeats 4000000
theorem E2 {α:Type} {src:ByteArray} {l:List Tok} {f:Fa} (hs:sq src=(l,f)) (h0:0<l.length) {sp:∀ l:List Tok,Ix l→Except Fa (α×(Ix l×Nat))} {t:QS l α} (h:RS f (sp l ⟨0,h0⟩) t) (hz:NZ l (sp l ⟨0,h0⟩)) :
 (∀ x,(ko src fun l k=>sp l k)= .ok x→t.1=x∧(ji t.2.1 t.2.2.1).code=0)∧∀ g,(ko src fun l k=>sp l k)= .error g→g.code≠0∧ji t.2.1 t.2.2.1=g:=by
 unfold sq at hs
 unfold ko
 cases hsc:dI src with
 |error g=>
  rw[hsc] at hs
  injection hs with h1 h2
  subst h2
  refine⟨fun x hx=>(by cases hx),fun g' hg'=>?_⟩
  injection hg' with hg'
  subst hg'
  have hn:=(kB src g hsc).1
  refine⟨hn,?_⟩
  rw[h.1 hn]
  unfold ji
  rw[if_neg fun h=>hn h.1]
 |ok ts=>
  rw[hsc] at hs
  injection hs with h1 h2
  subst h1 h2
  have h2:=h.2 rfl
  simp only[ag,dif_pos h0]
  cases hp:sp ts ⟨0,h0⟩ with
  |error g=>
   rw[hp] at h2
   have h2:t.2.2.1=g:=h2
   have hn:=(hz g hp).1
   refine⟨fun x hx=>(by cases hx),fun g' hg'=>?_⟩
   have hg':(Except.error g:Except Fa α)= .error g':=hg'
   injection hg' with hg'
   subst hg'
   refine⟨hn,?_⟩
   rw[h2]
   unfold ji
   rw[if_neg fun h=>hn h.1]
  |ok x=>
   rw[hp] at h2
   have h2:t=(x.1,(x.2.1,(Fa.zero,(x.2.2:Int)))):=h2
   subst h2
   have e:((.ok x:Except Fa (α×(Ix ts×Nat)))>>=fun y=>if(tk y.2.1).kind=0 then .ok y.1 else .error (flt 9 (tk y.2.1)):Except Fa α)=if(tk x.2.1).kind=0 then .ok x.1 else .error (flt 9 (tk x.2.1)):=rfl
   rw[e]
   by_cases hk:(tk x.2.1).kind=0
   ·rw[if_pos hk]
    refine⟨fun y hy=>?_,fun g hg=>(by cases hg)⟩
    injection hy with hy
    refine⟨hy,?_⟩
    unfold ji
    rw[if_neg fun h=>h.2 hk];rfl
   ·rw[if_neg hk]
    refine⟨fun y hy=>(by cases hy),fun g hg=>?_⟩
    injection hg with hg
    refine⟨by rw[← hg];exact(by decide:(9:Int)≠0),?_⟩
    unfold ji
    rw[if_pos ⟨rfl,hk⟩];exact hg
theorem vf (src:ByteArray):Pure Tryz.prog 21 [.c (sS src)] (rtV (.c .nil) (fun x=>.c (.lst none 55 (x.map stC))) (mf src)):=by
 obtain ⟨l,f,hs⟩:∃ l f,sq src=(l,f):=⟨_,_,rfl⟩
 have hf:=vc hs
 have nw:=qm hs hf.pos
 have st:=vF hf ⟨0,hf.pos⟩ f
 have rq:=E2 hs hf.pos (sp:=fun l k=>mU k) (CX hf ⟨0,hf.pos⟩ f) (ua _)
 generalize iO (fuel l) [] (⟨0,hf.pos⟩:Ix l) f 0=q at *
 obtain ⟨x,k1,f1,c1⟩:=q
 dsimp only at st rq
 have en:=zk k1 f1 c1
 have e:mf src=ko src fun l k=>mU k:=rfl
 rw[e]
 clear e hs
 cases hp:(ko src fun l k=>mU k) with
 |ok y=>
  obtain ⟨rfl,hz⟩:=rq.1 y hp
  clear rq hp
  show Pure _ _ _ (.tup [.c (.lst none 55 (x.map stC)),.agg (faC Fa.zero)])
  generalize ji k1 f1=g at *
  refine fn1 (fn:=Tryz.f21) Tryz.call21 Tryz.func21 rfl Tryz.ntmps21 Tryz.results21 rfl (by first|rfl|simp[V.ok,okL,C.ok,okA,okV]) ?_
  repeat'(first|(with_reducible first|apply AW.seq|apply AW.skip|apply AW.ret|apply aa|apply ak|apply y_e|refine ae ?_|refine b6 ?_)|((with_reducible apply ai);first|refine t_w (Cc nw) ?_|refine t_v AS.v ?_|refine t_w AS.w ?_|refine t_w (by first|exact av (hP:=st)|exact av (hP:=en)) ?_)|((with_reducible apply ay);refine t_s AS.s ?_)|((with_reducible refine aq ?_);((refine ah (fun hc=>?_) (fun hc=>?_);all_goals(try(exfalso;simp[*] at hc;done)))))|(refine⟨by decide +kernel,?_⟩)|fail)
  all_goals first|exact jy (gD _ _) (dw _)|exact jy rfl (dw _)|rfl|simp only[unA]|trace_state
 |error g=>
  obtain ⟨hz,he⟩:=rq.2 g hp
  clear rq hp
  show Pure _ _ _ (.tup [.c .nil,.agg (faC g)])
  rw[he] at en
  refine fn1 (fn:=Tryz.f21) Tryz.call21 Tryz.func21 rfl Tryz.ntmps21 Tryz.results21 rfl (by first|rfl|simp[V.ok,okL,C.ok,okA,okV]) ?_
  repeat'(first|(with_reducible first|apply AW.seq|apply AW.skip|apply AW.ret|apply aa|apply ak|apply y_e|refine ae ?_|refine b6 ?_)|((with_reducible apply ai);first|refine t_w (Cc nw) ?_|refine t_v AS.v ?_|refine t_w AS.w ?_|refine t_w (by first|exact av (hP:=st)|exact av (hP:=en)) ?_)|((with_reducible apply ay);refine t_s AS.s ?_)|((with_reducible refine aq ?_);((refine ah (fun hc=>?_) (fun hc=>?_);all_goals(try(exfalso;simp[*] at hc;done)))))|(refine⟨by decide +kernel,?_⟩)|fail)
  all_goals exact jy rfl (dw _)
end Am
namespace Am
set_option maxRecDepth 100000
set_option maxHeartbeats 1000000
def ij {α β:Type} (p:α→β→Bool):List α→List β→Bool
 |[],[]=>true
 |x :: l,y :: m=>p x y&&ij p l m
 |[],_ :: _=>false
 |_ :: _,[]=>false
section
variable {α β:Type} {p:α→β→Bool}
theorem mZ:∀ {l:List α} {m:List β},l.length≠m.length→ij p l m=false
 |[],[],h=>absurd rfl h
 |x :: l,y :: m,h=>by rw[ij,mZ (l:=l) (m:=m) (by simpa using h),Bool.and_false]
 |[],_ :: _,_=>rfl
 |_ :: _,[],_=>rfl
def o4 (p:α→β→Bool) (l:List α) (m:List β) (j:Nat):Prop:=∀ i x y,i<j→l[i]? =some x→m[i]? =some y→p x y=true
theorem nW {l:List α} {m:List β}:o4 p l m 0:=fun i x y h=>absurd h (Nat.not_lt_zero _)
theorem nX {l:List α} {m:List β} {j:Nat} {x:α} {y:β} (h:o4 p l m j) (hx:l[j]? =some x) (hy:m[j]? =some y) (e:p x y=true):o4 p l m (j+1):=by
 intro i u v hi hu hv
 rcases Nat.lt_or_ge i j with h1|h1
 ·exact h i u v h1 hu hv
 ·obtain rfl:i=j:=by omega
  rw[hx] at hu;rw[hy] at hv;cases hu;cases hv;exact e
theorem p9:∀ {l:List α} {m:List β} {j:Nat} {x:α} {y:β},l[j]? =some x→m[j]? =some y→p x y=false→ij p l m=false
 |[],_,_,_,_,h,_,_=>by simp at h
 |_ :: _,[],_,_,_,_,h,_=>by simp at h
 |a :: l,b :: m,0,x,y,hx,hy,e=>by
  obtain rfl:a=x:=by simpa using hx
  obtain rfl:b=y:=by simpa using hy
  rw[ij,e,Bool.false_and]
 |a :: l,b :: m,j+1,x,y,hx,hy,e=>by
  rw[ij,p9 (j:=j) (by simpa using hx) (by simpa using hy) e,Bool.and_false]
theorem mj:∀ {l:List α} {m:List β} {j:Nat},o4 p l m j→l.length≤j→l.length=m.length→ij p l m=true
 |[],[],_,_,_,_=>rfl
 |x :: l,y :: m,0,_,h,_=>by simp at h
 |x :: l,y :: m,j+1,h,h1,h2=>by
  rw[ij,h 0 x y (Nat.succ_pos _) rfl rfl,mj (l:=l) (m:=m) (j:=j) (fun i u v hi hu hv=>h (i+1) u v (by omega) (by simpa using hu) (by simpa using hv)) (by simpa using h1) (by simpa using h2)]
  rfl
 |[],_ :: _,_,_,_,h=>by simp at h
 |_ :: _,[],_,_,_,h=>by simp at h
end
def o0 (a b:Ex):Bool:=decide (a.op=b.op)&&decide (a.a=b.a)&&decide (a.rel=b.rel)&&decide (a.b=b.b)&&Se.eqB a.set b.set&&decide (a.names=b.names)
mutual
def iK:Ex→Ex→Bool
 |⟨op,a,rel,b,names,set,kids⟩,⟨op',a',rel',b',names',set',kids'⟩=>o0 ⟨op,a,rel,b,names,set,kids⟩ ⟨op',a',rel',b',names',set',kids'⟩&&jG kids kids'
def jG:List Ex→List Ex→Bool
 |[],[]=>true
 |x :: l,y :: m=>iK x y&&jG l m
 |[],_ :: _=>false
 |_ :: _,[]=>false
end
theorem mV:∀ l m:List Ex,jG l m=ij iK l m
 |[],[]=>by rw[jG];rfl
 |x :: l,y :: m=>by rw[jG,mV l m];rfl
 |[],_ :: _=>by rw[jG];rfl
 |_ :: _,[]=>by rw[jG];rfl
theorem qc (a b:Ex):iK a b=(o0 a b&&ij iK a.kids b.kids):=by
 cases a;cases b;rw[iK,mV]
end Am
namespace Am
set_option maxRecDepth 100000
set_option maxHeartbeats 1000000
theorem wO {s x:Stm} (h:x∈s.thn):SizeOf.sizeOf x<SizeOf.sizeOf s:=by
 cases s
 have:=List.sizeOf_lt_of_mem h
 simp only[Stm.mk.sizeOf_spec] at this ⊢
 omega
theorem wa {s x:Stm} (h:x∈s.els):SizeOf.sizeOf x<SizeOf.sizeOf s:=by
 cases s
 have:=List.sizeOf_lt_of_mem h
 simp only[Stm.mk.sizeOf_spec] at this ⊢
 omega
def lM (a b:Stm):Bool:=decide (a.kind=b.kind)&&decide (a.op=b.op)&&decide (a.name=b.name)&&decide (a.result=b.result)&&decide (a.text=b.text)&&(a.value == b.value)&&decide (a.list=b.list)&&decide (a.aliases=b.aliases)&&jN a.source b.source&&jN a.target b.target&&jN a.cls b.cls&&jN a.perms b.perms&&iK a.cond b.cond&&jd a.level b.level&&mv a.range b.range&&decide (a.ctx.user=b.ctx.user)&&decide (a.ctx.role=b.ctx.role)&&decide (a.ctx.type=b.ctx.type)&&mv a.ctx.rng b.ctx.rng
mutual
def fy:Stm→Stm→Bool
 |⟨a1,a2,a3,a4,a5,a6,a7,a8,a9,a10,a11,a12,a13,a14,a15,a16,a17,t,e⟩,b=>lM ⟨a1,a2,a3,a4,a5,a6,a7,a8,a9,a10,a11,a12,a13,a14,a15,a16,a17,t,e⟩ b&&je t b.thn&&je e b.els
def je:List Stm→List Stm→Bool
 |[],[]=>true
 |x :: l,y :: m=>fy x y&&je l m
 |[],_ :: _=>false
 |_ :: _,[]=>false
end
theorem jL:∀ l m:List Stm,je l m=ij fy l m
 |[],[]=>by rw[je];rfl
 |x :: l,y :: m=>by rw[je,jL l m];rfl
 |[],_ :: _=>by rw[je];rfl
 |_ :: _,[]=>by rw[je];rfl
theorem qi (a b:Stm):fy a b=(lM a b&&ij fy a.thn b.thn&&ij fy a.els b.els):=by
 cases a;rw[fy,jL,jL]
end Am
namespace Am
open Tk
set_option maxRecDepth 100000
set_option maxHeartbeats 4000000
mutual
def npS:Stm→Stm
 |⟨a1,a2,_,a4,a5,a6,a7,a8,a9,a10,a11,a12,a13,a14,a15,a16,a17,t,e⟩=>⟨a1,a2,⟨0,0⟩,a4,a5,a6,a7,a8,a9,a10,a11,a12,a13,a14,a15,a16,a17,xD t,xD e⟩
def xD:List Stm→List Stm
 |[]=>[]
 |x :: l=>npS x :: xD l
end
theorem nn:∀ l:List Stm,xD l=l.map npS
 |[]=>rfl
 |x :: l=>by rw[xD,nn l];rfl
theorem wi (s:Stm):npS s= {s with pos:=⟨0,0⟩,thn:=s.thn.map npS,els:=s.els.map npS}:=by
 cases s;rw[npS,nn,nn]
section
variable {l:List Tok}
end
section
variable {l:List Tok}
end
end Am
namespace Am
open Tk
set_option maxRecDepth 100000
set_option maxHeartbeats 4000000
section
variable {l:List Tok}
end
end Am
namespace Am
open Tk
set_option maxRecDepth 100000
theorem kH {α:Type} {p:α→α→Bool}:∀ l:List α,(∀ x∈l,p x x=true)→ij p l l=true
 |[],_=>rfl
 |x :: l,h=>by rw[ij,h x (.head _),kH l fun y hy=>h y (.tail _ hy)];rfl
theorem qz:∀ (n:Nat) (a:Ex),SizeOf.sizeOf a<n→iK a a=true
 |0,_,h=>absurd h (Nat.not_lt_zero _)
 |n+1,a,h=>by
  rw[qc,kH a.kids fun x hx=>qz n x (by have:=y6 hx;omega)]
  simp[o0,Se.eqB]
theorem AR (a:Ex):iK a a=true:=qz _ a (Nat.lt_succ_self _)
theorem rF {p:Stm→Stm→Bool}:∀ l m:List Stm,(∀ x∈l,∀ y,npS x=npS y→p x y=true)→l.map npS=m.map npS→ij p l m=true
 |[],[],_,_=>rfl
 |[],_ :: _,_,h=>by cases h
 |_ :: _,[],_,h=>by cases h
 |x :: l,y :: m,hp,h=>by
  injection h with h1 h2
  rw[ij,hp x (.head _) y h1,rF l m (fun z hz=>hp z (.tail _ hz)) h2];rfl
theorem mA:∀ (n:Nat) (a b:Stm),SizeOf.sizeOf a<n→npS a=npS b→fy a b=true
 |0,_,_,h,_=>absurd h (Nat.not_lt_zero _)
 |n+1,a,b,h,e=>by
  have e':=e
  rw[wi,wi] at e'
  injection e' with e1 e2 _ e4 e5 e6 e7 e8 e9 e10 e11 e12 e13 e14 e15 e16 e17 e18 e19
  rw[qi,rF a.thn b.thn (fun x hx y hy=>mA n x y (by have:=wO hx;omega) hy) e18,rF a.els b.els (fun x hx y hy=>mA n x y (by have:=wa hx;omega) hy) e19]
  unfold lM
  rw[e1,e2,e4,e5,e6,e7,e8,e9,e10,e11,e12,e13,e14,e15,e16,e17,AR]
  simp[jN,jd,mv]
theorem yO {a b:Stm} (h:npS a=npS b):fy a b=true:=mA _ a b (Nat.lt_succ_self _) h
theorem AC (l:List Stm):ij fy l l=true:=kH l fun x _=>yO rfl
end Am
namespace Am
open Tk
set_option maxRecDepth 100000
set_option maxHeartbeats 4000000
theorem C4 {κ:K} {w:World} {x:Value} {cs:List C} {t:Option Nat} {k:Nat} {α:Type} {f:α→List C} {l:List α} (hr:RepV κ w (.agg cs) x) (hc:C.lst t k (l.map f)∈cs):l.length≤9223372036854775807:=by
 cases hr with|agg h=>
  obtain ⟨v,hv⟩:=ze h hc
  have:=Ci hv
  rwa [List.length_map] at this
theorem ye {κ:K} {w:World} {x:Value} {e:Ex} (hr:RepV κ w (.agg (exC e)) x):e.kids.length≤9223372036854775807:=
 C4 hr (t:=none) (k:=10) (f:=exC) (by rw[exC,eL];simp)
theorem lU (l m:List ByteArray):Pure Tryz.prog 126 [.c (bD l),.c (bD m)] (.c (sB (decide (l=m)))):=by
 refine fn2 (fn:=Tryz.f126) Tryz.call126 Tryz.func126 rfl Tryz.ntmps126 Tryz.results126 rfl (by rfl) ?_
 refine AW.fact (t:=0) rfl (fun κ w x hr=>mz hr) fun hn=>?_
 repeat'(first|(with_reducible first|apply AW.seq|apply AW.block|apply AW.skip|apply AW.ret|apply aa|apply ak|apply aw|apply aL|apply y_e|refine ae ?_|refine b6 ?_)|((with_reducible apply ai);refine t_v AS.v ?_)|((with_reducible refine aq ?_);((refine ah (fun hc=>?_) (fun hc=>?_);all_goals(try(exfalso;revert hc;simp;omega)))))|((with_reducible refine aM ?_);refine k_b ?_)|(refine⟨by decide +kernel,?_⟩)|fail)
 ·rw[eq_comm,decide_eq_false_iff_not]
  rintro rfl
  simp at hc
 have hlen:l.length=m.length:=by
  have:(l.length:Int)=m.length:=by simpa using hc
  omega
 refine AW.loop (fun n σ=>∃ j,n=l.length - j∧j≤l.length∧l.take j=m.take j∧σ=mk [(0,.c (bD l)),(1,.c (bD m)),(5,.c (sI j))] []) l.length ?_ ?_
 ·exact⟨_,wkA,0,rfl,Nat.zero_le _,rfl,rfl⟩
 rintro n σ ⟨j,rfl,hj,ha,rfl⟩
 by_cases hlt:j<l.length
 ·obtain ⟨x,hx⟩:∃ x,l[j]? =some x:=⟨_,List.getElem?_eq_getElem hlt⟩
  obtain ⟨y,hy⟩:∃ y,m[j]? =some y:=⟨_,List.getElem?_eq_getElem (by omega)⟩
  repeat'(first|(with_reducible first|apply AW.seq|apply AW.block|apply AW.skip|apply AW.ret|apply aa|apply ak|apply aw|apply aL|apply y_e|refine ae ?_|refine b6 ?_)|((with_reducible apply ai);refine t_v AS.v ?_)|((with_reducible refine aq ?_);((refine ah (fun hc=>?_) (fun hc=>?_);all_goals(try(exfalso;revert hc;simp;omega)))))|((with_reducible refine aM ?_);refine k_b ?_)|(refine⟨by decide +kernel,?_⟩)|fail)
  ·rw[eq_comm,decide_eq_false_iff_not]
   exact wS hx hy (by simpa using hc)
  ·exact⟨_,_,(show l.length - (j+1)<l.length - j by omega),wkA,j+1,rfl,hlt,pM ha hx hy (by simpa using hc),rfl⟩
 ·repeat'(first|(with_reducible first|apply AW.seq|apply AW.ret|apply AW.exit|apply aa|apply aD|apply aH|apply y_e|refine ae ?_)|((with_reducible apply ai);refine t_v AS.v ?_)|((with_reducible refine aq ?_);((refine ah (fun hc=>?_) (fun hc=>?_);all_goals(try(exfalso;revert hc;simp;omega)))))|((with_reducible refine aM ?_);refine k_b ?_)|fail)
  exact(decide_eq_true (sZ ha (by omega) hlen)).symm
theorem vO (a b:NS):Pure Tryz.prog 127 [.agg (nsC a),.agg (nsC b)] (.c (sB (jN a b))):=by
 refine fn2 (fn:=Tryz.f127) Tryz.call127 Tryz.func127 rfl Tryz.ntmps127 Tryz.results127 rfl (by rfl) ?_
 repeat'(first|(with_reducible first|apply AW.seq|apply AW.ret|apply aa|apply y_e|refine ae ?_)|((with_reducible apply ai);first|refine t_v AS.v ?_|refine t_w AS.w ?_)|((with_reducible apply aK);first|refine t_m (hs:=fun hg=>AS.v) (k:=?_)|refine t_m (hs:=fun hg=>(by exact aj (hP:=lU _ _))) (k:=?_))|((with_reducible refine aM ?_);refine k_b ?_)|fail)
 simp[jN]
theorem kE (a b:Lv):Pure Tryz.prog 129 [.agg (lvC a),.agg (lvC b)] (.c (sB (jd a b))):=by
 refine fn2 (fn:=Tryz.f129) Tryz.call129 Tryz.func129 rfl Tryz.ntmps129 Tryz.results129 rfl (by rfl) ?_
 refine AW.fact (t:=0) rfl (fun κ w x hr=>C4 hr (l:=a.cats) (f:=spC) (.tail _ (.head _))) fun hn=>?_
 repeat'(first|(with_reducible first|apply AW.seq|apply AW.block|apply AW.skip|apply AW.ret|apply aa|apply ak|apply aw|apply aL|apply y_e|refine ae ?_|refine b6 ?_)|((with_reducible apply ai);first|refine t_v AS.v ?_|refine t_w AS.w ?_)|((with_reducible apply aK);refine t_m (hs:=fun hg=>AS.v) (k:=?_))|((with_reducible refine aq ?_);((refine ah (fun hc=>?_) (fun hc=>?_);all_goals(try(exfalso;revert hc;simp;omega)))))|((with_reducible refine aM ?_);refine k_b ?_)|(refine⟨by decide +kernel,?_⟩)|fail)
 ·rw[eq_comm,jd,Bool.and_eq_false_iff]
  simp only[List.length_map] at hc
  by_cases h1:a.sens=b.sens
  ·right
   rw[decide_eq_false_iff_not]
   intro h2
   rw[h1,h2] at hc
   simp at hc
  ·left;exact decide_eq_false h1
 have hlen:a.sens=b.sens∧a.cats.length=b.cats.length:=by
  simp only[List.length_map] at hc
  simp at hc
  exact⟨hc.1,by omega⟩
 refine AW.loop (fun n σ=>∃ j,n=a.cats.length - j∧j≤a.cats.length∧a.cats.take j=b.cats.take j∧σ=mk [(2,.c (.ptr 2 0)),(3,.c (.ptr 3 0)),(5,.c (sI j))] [(3,.obj 63 (lvC b)),(2,.obj 63 (lvC a))]) a.cats.length ?_ ?_
 ·exact⟨_,wkA,0,rfl,Nat.zero_le _,rfl,rfl⟩
 rintro n σ ⟨j,rfl,hj,ha,rfl⟩
 by_cases hlt:j<a.cats.length
 ·obtain ⟨x,hx⟩:∃ x,a.cats[j]? =some x:=⟨_,List.getElem?_eq_getElem hlt⟩
  obtain ⟨y,hy⟩:∃ y,b.cats[j]? =some y:=⟨_,List.getElem?_eq_getElem (by omega)⟩
  repeat'(first|(with_reducible first|apply AW.seq|apply AW.block|apply AW.skip|apply AW.ret|apply aa|apply ak|apply aw|apply aL|apply y_e|refine ae ?_|refine b6 ?_)|((with_reducible apply ai);first|refine t_v AS.v ?_|refine t_w AS.w ?_)|((with_reducible apply aK);refine t_m (hs:=fun hg=>AS.v) (k:=?_))|((with_reducible refine aq ?_);((refine ah (fun hc=>?_) (fun hc=>?_);all_goals(try(exfalso;revert hc;simp;omega)))))|((with_reducible refine aM ?_);refine k_b ?_)|(refine⟨by decide +kernel,?_⟩)|fail)
  ·rw[jd,decide_eq_false (wS hx hy (by simpa using hc)),Bool.and_false]
  ·exact⟨_,_,(show a.cats.length - (j+1)<a.cats.length - j by omega),wkA,j+1,rfl,hlt,pM ha hx hy (by simpa using hc),rfl⟩
 ·repeat'(first|(with_reducible first|apply AW.seq|apply AW.ret|apply AW.exit|apply aa|apply aD|apply aH|apply y_e|refine ae ?_)|((with_reducible apply ai);refine t_v AS.v ?_)|((with_reducible refine aq ?_);((refine ah (fun hc=>?_) (fun hc=>?_);all_goals(try(exfalso;revert hc;simp;omega)))))|((with_reducible refine aM ?_);refine k_b ?_)|fail)
  rw[jd,decide_eq_true hlen.1,decide_eq_true (sZ ha (by omega) hlen.2)];rfl
theorem o6 (a b:Rg):Pure Tryz.prog 130 [.agg (rgC a),.agg (rgC b)] (.c (sB (mv a b))):=by
 refine fn2 (fn:=Tryz.f130) Tryz.call130 Tryz.func130 rfl Tryz.ntmps130 Tryz.results130 rfl (by rfl) ?_
 repeat'(first|(with_reducible first|apply AW.seq|apply AW.ret|apply aa|apply y_e|refine ae ?_)|((with_reducible apply ai);first|refine t_v AS.v ?_|refine t_v (by exact aj (hP:=kE _ _)) ?_|refine t_w AS.w ?_)|((with_reducible apply aK);first|refine t_m (hs:=fun hg=>AS.v) (k:=?_)|refine t_m (hs:=fun hg=>(by exact aj (hP:=kE _ _))) (k:=?_))|((with_reducible refine aM ?_);refine k_b ?_)|fail)
 rfl
def x8 (a b:Ct):Bool:=decide (a.user=b.user)&&decide (a.role=b.role)&&decide (a.type=b.type)&&mv a.rng b.rng
theorem um (a b:Ct):Pure Tryz.prog 131 [.agg (cxC a),.agg (cxC b)] (.c (sB (x8 a b))):=by
 refine fn2 (fn:=Tryz.f131) Tryz.call131 Tryz.func131 rfl Tryz.ntmps131 Tryz.results131 rfl (by rfl) ?_
 repeat'(first|(with_reducible first|apply AW.seq|apply AW.ret|apply aa|apply y_e|refine ae ?_)|((with_reducible apply ai);first|refine t_v AS.v ?_|refine t_w AS.w ?_)|((with_reducible apply aK);first|refine t_m (hs:=fun hg=>AS.v) (k:=?_)|refine t_m (hs:=fun hg=>(by exact aj (hP:=o6 _ _))) (k:=?_))|((with_reducible refine aM ?_);refine k_b ?_)|fail)
 rfl
theorem qH:∀ (n:Nat) (a b:Ex),SizeOf.sizeOf a<n→Pure Tryz.prog 128 [.agg (exC a),.agg (exC b)] (.c (sB (iK a b)))
 |0,_,_,h=>absurd h (Nat.not_lt_zero _)
 |n+1,a,b,h=>by
  have ih:∀ x∈a.kids,∀ y,Pure Tryz.prog 128 [.agg (exC x),.agg (exC y)] (.c (sB (iK x y))):=fun x hx y=>
   qH n x y (by have:=y6 hx;omega)
  rw[qc]
  refine fn2 (fn:=Tryz.f128) Tryz.call128 Tryz.func128 rfl Tryz.ntmps128 Tryz.results128 rfl (by rfl) ?_
  refine AW.fact (t:=0) rfl (fun κ w x hr=>ye hr) fun hn=>?_
  repeat'(first|(with_reducible first|apply AW.seq|apply AW.block|apply AW.skip|apply AW.ret|apply aa|apply ak|apply y_e|refine ae ?_)|((with_reducible apply ai);first|refine t_v AS.v ?_|refine t_w AS.w ?_)|((with_reducible apply aK);first|refine t_m (hs:=fun hg=>AS.v) (k:=?_)|refine t_m (hs:=fun hg=>(by exact aj (hP:=lU _ _))) (k:=?_))|((with_reducible refine aq ?_);((refine ah (fun hc=>?_) (fun hc=>?_))))|((with_reducible refine aM ?_);refine k_b ?_)|fail)
  ·simp only[List.length_map] at hc
   rcases Nat.decEq a.kids.length b.kids.length with hn|hn
   ·rw[mZ hn,Bool.and_false]
   ·unfold o0
    rw[eq_comm,Bool.and_eq_false_iff];left
    revert hc;simp[hn]
    grind
  have hlen:a.kids.length=b.kids.length∧o0 a b=true:=by
   simp only[List.length_map] at hc
   unfold o0
   grind
  rw[hlen.2,Bool.true_and]
  refine AW.loop (fun n σ=>∃ j,n=a.kids.length - j∧j≤a.kids.length∧o4 iK a.kids b.kids j∧σ=mk [(2,.c (.ptr 2 0)),(3,.c (.ptr 3 0)),(5,.c (sI j))] [(3,.obj 49 (exC b)),(2,.obj 49 (exC a))]) a.kids.length ?_ ?_
  ·exact⟨_,wkA,0,rfl,Nat.zero_le _,nW,rfl⟩
  rintro n σ ⟨j,rfl,hj,ha,rfl⟩
  by_cases hlt:j<a.kids.length
  ·obtain ⟨x,hx⟩:∃ x,a.kids[j]? =some x:=⟨_,List.getElem?_eq_getElem hlt⟩
   obtain ⟨y,hy⟩:∃ y,b.kids[j]? =some y:=⟨_,List.getElem?_eq_getElem (by omega)⟩
   have hp:=ih x (List.mem_of_getElem? hx) y
   repeat'(first|(with_reducible first|apply AW.seq|apply AW.block|apply AW.skip|apply AW.ret|apply aa|apply ak|apply aw|apply aL|apply y_e|refine ae ?_|refine b6 ?_)|((with_reducible apply ai);first|refine t_v AS.v ?_|refine t_v (by exact aj (hP:=hp)) ?_)|((with_reducible refine aq ?_);((refine ah (fun hc=>?_) (fun hc=>?_);all_goals(try(exfalso;revert hc;simp;omega)))))|((with_reducible refine aM ?_);refine k_b ?_)|(refine⟨by decide +kernel,?_⟩)|fail)
   ·rw[p9 hx hy (by simpa using hc)]
   ·exact⟨_,_,(show a.kids.length - (j+1)<a.kids.length - j by omega),wkA,j+1,rfl,hlt,nX ha hx hy (by simpa using hc),rfl⟩
  ·repeat'(first|(with_reducible first|apply AW.seq|apply AW.ret|apply AW.exit|apply aa|apply aD|apply aH|apply y_e|refine ae ?_)|((with_reducible apply ai);refine t_v AS.v ?_)|((with_reducible refine aq ?_);((refine ah (fun hc=>?_) (fun hc=>?_);all_goals(try(exfalso;revert hc;simp;omega)))))|((with_reducible refine aM ?_);refine k_b ?_)|fail)
   rw[mj ha (by omega) hlen.1]
theorem wX (a b:Ex):Pure Tryz.prog 128 [.agg (exC a),.agg (exC b)] (.c (sB (iK a b))):=qH _ a b (Nat.lt_succ_self _)
theorem l7 {l m:List Stm} (h:∀ x∈l,∀ y,Pure Tryz.prog 64 [.agg (stC x),.agg (stC y)] (.c (sB (fy x y)))):Pure Tryz.prog 22 [.c (.lst none 55 (l.map stC)),.c (.lst none 55 (m.map stC))] (.c (sB (ij fy l m))):=by
 refine fn2 (fn:=Tryz.f22) Tryz.call22 Tryz.func22 rfl Tryz.ntmps22 Tryz.results22 rfl (by rfl) ?_
 refine AW.fact (t:=0) rfl (fun κ w x hr=>mz hr) fun hn=>?_
 repeat'(first|(with_reducible first|apply AW.seq|apply AW.block|apply AW.skip|apply AW.ret|apply aa|apply ak|apply y_e|refine ae ?_)|((with_reducible apply ai);refine t_v AS.v ?_)|((with_reducible refine aq ?_);((refine ah (fun hc=>?_) (fun hc=>?_))))|((with_reducible refine aM ?_);refine k_b ?_)|fail)
 ·rw[mZ (by have h1:¬((l.length:Int)=m.length):=by simpa using hc
            omega)]
 have hlen:l.length=m.length:=by
  have:(l.length:Int)=m.length:=by simpa using hc
  omega
 refine AW.loop (fun n σ=>∃ j,n=l.length - j∧j≤l.length∧o4 fy l m j∧σ=mk [(0,.c (.lst none 55 (l.map stC))),(1,.c (.lst none 55 (m.map stC))),(5,.c (sI j))] []) l.length ?_ ?_
 ·exact⟨_,wkA,0,rfl,Nat.zero_le _,nW,rfl⟩
 rintro n σ ⟨j,rfl,hj,ha,rfl⟩
 by_cases hlt:j<l.length
 ·obtain ⟨x,hx⟩:∃ x,l[j]? =some x:=⟨_,List.getElem?_eq_getElem hlt⟩
  obtain ⟨y,hy⟩:∃ y,m[j]? =some y:=⟨_,List.getElem?_eq_getElem (by omega)⟩
  have hp:=h x (List.mem_of_getElem? hx) y
  repeat'(first|(with_reducible first|apply AW.seq|apply AW.block|apply AW.skip|apply AW.ret|apply aa|apply ak|apply aw|apply aL|apply y_e|refine ae ?_|refine b6 ?_)|((with_reducible apply ai);first|refine t_v AS.v ?_|refine t_v (by exact aj (hP:=hp)) ?_)|((with_reducible refine aq ?_);((refine ah (fun hc=>?_) (fun hc=>?_);all_goals(try(exfalso;revert hc;simp;omega)))))|((with_reducible refine aM ?_);refine k_b ?_)|(refine⟨by decide +kernel,?_⟩)|fail)
  ·rw[p9 hx hy (by simpa using hc)]
  ·exact⟨_,_,(show l.length - (j+1)<l.length - j by omega),wkA,j+1,rfl,hlt,nX ha hx hy (by simpa using hc),rfl⟩
 ·repeat'(first|(with_reducible first|apply AW.seq|apply AW.ret|apply AW.exit|apply aa|apply aD|apply aH|apply y_e|refine ae ?_)|((with_reducible apply ai);refine t_v AS.v ?_)|((with_reducible refine aq ?_);((refine ah (fun hc=>?_) (fun hc=>?_);all_goals(try(exfalso;revert hc;simp;omega)))))|((with_reducible refine aM ?_);refine k_b ?_)|fail)
  rw[mj ha (by omega) hlen]
theorem nq:∀ (n:Nat) (a b:Stm),SizeOf.sizeOf a<n→Pure Tryz.prog 64 [.agg (stC a),.agg (stC b)] (.c (sB (fy a b)))
 |0,_,_,h=>absurd h (Nat.not_lt_zero _)
 |n+1,a,b,h=>by
  have i1:∀ x∈a.thn,∀ y,Pure Tryz.prog 64 [.agg (stC x),.agg (stC y)] (.c (sB (fy x y))):=fun x hx y=>
   nq n x y (by have:=wO hx;omega)
  have i2:∀ x∈a.els,∀ y,Pure Tryz.prog 64 [.agg (stC x),.agg (stC y)] (.c (sB (fy x y))):=fun x hx y=>
   nq n x y (by have:=wa hx;omega)
  rw[qi]
  refine fn2 (fn:=Tryz.f64) Tryz.call64 Tryz.func64 rfl Tryz.ntmps64 Tryz.results64 rfl (by rfl) ?_
  repeat'(first|(with_reducible first|apply AW.seq|apply AW.skip|apply AW.ret|apply aa|apply ak|apply y_e|refine ae ?_)|((with_reducible apply ai);first|refine t_v AS.v ?_|refine t_v (by first|exact aj (hP:=lU _ _)|exact aj (hP:=wX _ _)) ?_|refine t_w AS.w ?_)|((with_reducible apply aK);first|refine t_m (hs:=fun hg=>AS.v) (k:=?_)|refine t_m (hs:=fun hg=>(by first|exact aj (hP:=lU _ _)|exact aj (hP:=vO _ _)|exact aj (hP:=kE _ _)|exact aj (hP:=o6 _ _)|exact aj (hP:=um _ _)|exact aj (hP:=l7 i1)|exact aj (hP:=l7 i2))) (k:=?_))|((with_reducible refine aq ?_);((refine ah (fun hc=>?_) (fun hc=>?_))))|((with_reducible refine aM ?_);refine k_b ?_)|fail)
  all_goals
   clear i1 i2
   simp only[lM,x8]
   grind
theorem vR (a b:Stm):Pure Tryz.prog 64 [.agg (stC a),.agg (stC b)] (.c (sB (fy a b))):=nq _ a b (Nat.lt_succ_self _)
theorem uC (l m:List Stm):Pure Tryz.prog 22 [.c (.lst none 55 (l.map stC)),.c (.lst none 55 (m.map stC))] (.c (sB (ij fy l m))):=l7 fun x _ y=>vR x y
end Am
namespace Am
open Tk Go.RowKit
set_option maxRecDepth 100000
set_option maxHeartbeats 4000000
theorem Po.ext' {a b:Po} (h1:a.line=b.line) (h2:a.col=b.col):a=b:=by cases a;cases b;simp_all
instance:DecidableEq Po:=fun a b=>if h:a.line=b.line∧a.col=b.col then isTrue (Po.ext' h.1 h.2) else isFalse fun e=>h (e▸⟨rfl,rfl⟩)
theorem Fa.ext' {a b:Fa} (h1:a.code=b.code) (h2:a.pos=b.pos) (h3:a.name=b.name):a=b:=by cases a;cases b;simp_all
instance:DecidableEq Fa:=fun a b=>if h:a.code=b.code∧a.pos=b.pos∧a.name=b.name then isTrue (Fa.ext' h.1 h.2.1 h.2.2) else isFalse fun e=>h (e▸⟨rfl,rfl,rfl⟩)
theorem sL (d:Nat) (a b c e:Int) (w:World):(Op.equalIn (d+2) 28 (.agg #[.int .i64 a,.int .i64 b]) (.agg #[.int .i64 c,.int .i64 e])).run Tryz.prog w= .ok ((a == c)&&(b == e)) w:=by
 have hS:Tryz.prog.underlying 28=some (.struct (Tryz.prog.fieldsOf 28)):=by kernel_rfl
 have hp:Tryz.prog.stoodInHeld 28=false:=by kernel_rfl
 rw[run_equalIn_agg w (d+1) 28 _ _ hS hp]
 simp only[Program.fieldsOf,Tryz.underlying28]
 go_simp
 by_cases h1:a=c <;> by_cases h2:b=e <;> simp[h1,h2]
theorem pI (d:Nat) (a b c i e f:Int) (s t:ByteArray) (w:World):(Op.equalIn (d+3) 30 (.agg #[.int .i64 a,.int .i64 b,.int .i64 c,.string s]) (.agg #[.int .i64 i,.int .i64 e,.int .i64 f,.string t])).run Tryz.prog w= .ok ((a == i)&&((b == e)&&(c == f))&&(s.toList == t.toList)) w:=by
 have hS:Tryz.prog.underlying 30=some (.struct (Tryz.prog.fieldsOf 30)):=by kernel_rfl
 have hp:Tryz.prog.stoodInHeld 30=false:=by kernel_rfl
 have hq:=sL d b c e f w
 rw[run_equalIn_agg w (d+2) 30 _ _ hS hp]
 simp only[Program.fieldsOf,Tryz.underlying30]
 go_simp
 by_cases h1:a=i
 ·by_cases h2:b=e
  ·by_cases h3:c=f
   ·by_cases h4:s.toList=t.toList
    ·simp[h1,h2,h3,h4]
    ·simp[h1,h2,h3,h4]
   ·simp[h1,h2,h3]
  ·simp[h1,h2]
 ·simp[h1]
theorem F6 (a b:Po):((a.line == b.line)&&(a.col == b.col))=decide (a=b):=by
 rw[Bool.eq_iff_iff]
 simp only[Bool.and_eq_true,beq_iff_eq,decide_eq_true_eq]
 exact⟨fun h=>Po.ext' h.1 h.2,fun h=>by rw[h];exact⟨rfl,rfl⟩⟩
theorem y8 (a b:Fa):((a.code == b.code)&&((a.pos.line == b.pos.line)&&(a.pos.col == b.pos.col))&&(a.name.toList == b.name.toList))=decide (a=b):=by
 rw[Bool.eq_iff_iff]
 simp only[Bool.and_eq_true,beq_iff_eq,decide_eq_true_eq,l4]
 exact⟨fun h=>Fa.ext' h.1.1 (Po.ext' h.1.2.1 h.1.2.2) h.2,fun h=>by rw[h];exact⟨⟨rfl,rfl,rfl⟩,rfl⟩⟩
section
variable {ρ:Operand→Option V} {H:Nat→Option HO} {d:Option Nat} {ty t2:TypeId} {pos:String} {af:Array Edge} {gu:Option (Nat×Bool)} {x y:Operand}
theorem At {a b:Po} (hx:Ev ρ x (.agg (poC a)):=by exact aC) (hy:Ev ρ y (.agg (poC b)):=by exact aC):AS Tryz.prog ρ H ⟨d,.binOp .eql 28 x y t2,ty,pos,af,gu⟩ ⟨.c (sB (decide (a=b))),[],[]⟩:=by
 refine .still (x:=.bool (decide (a=b))) (fun q hq w=>?_) fun _=>.sc rfl
 have h1:=hq x (by simp[Op.operands]) _ _ hx (Cq.agg (vs:=[.int .i64 a.line,.int .i64 a.col]))
 have h2:=hq y (by simp[Op.operands]) _ _ hy (Cq.agg (vs:=[.int .i64 b.line,.int .i64 b.col]))
 have h3:(do eqGuard .eql 28 x y (.agg #[.int .i64 a.line,.int .i64 a.col]) (.agg #[.int .i64 b.line,.int .i64 b.col]);binOp .eql 28 (.agg #[.int .i64 a.line,.int .i64 a.col]) (.agg #[.int .i64 b.line,.int .i64 b.col]):Sem Value).run Tryz.prog w= .ok (.bool (decide (a=b))) w:=by
  have hz:(binOp .eql 28 (.agg #[.int .i64 a.line,.int .i64 a.col]) (.agg #[.int .i64 b.line,.int .i64 b.col])).run Tryz.prog w= .ok (.bool (decide (a=b))) w:=by
   rw[run_eql_struct,show(10000:Nat)=9998+2 from rfl,sL 9998,←F6];rfl
  have hg:(eqGuard .eql 28 x y (.agg #[.int .i64 a.line,.int .i64 a.col]) (.agg #[.int .i64 b.line,.int .i64 b.col])).run Tryz.prog w= .ok () w:=by simp[go_sem]
  rw[Sem.run_bind,hg,Result.andThen_ok,hz]
 unfold execOp
 simp only[h1,h2]
 simp only[Sem.run_bind] at h3 ⊢
 rw[h3]
 simp
theorem A4 {a b:Po} (hx:Ev ρ x (.agg (poC a)):=by exact aC) (hy:Ev ρ y (.agg (poC b)):=by exact aC):AS Tryz.prog ρ H ⟨d,.binOp .neq 28 x y t2,ty,pos,af,gu⟩ ⟨.c (sB (!decide (a=b))),[],[]⟩:=by
 refine .still (x:=.bool (!decide (a=b))) (fun q hq w=>?_) fun _=>.sc rfl
 have h1:=hq x (by simp[Op.operands]) _ _ hx (Cq.agg (vs:=[.int .i64 a.line,.int .i64 a.col]))
 have h2:=hq y (by simp[Op.operands]) _ _ hy (Cq.agg (vs:=[.int .i64 b.line,.int .i64 b.col]))
 have h3:(do eqGuard .neq 28 x y (.agg #[.int .i64 a.line,.int .i64 a.col]) (.agg #[.int .i64 b.line,.int .i64 b.col]);binOp .neq 28 (.agg #[.int .i64 a.line,.int .i64 a.col]) (.agg #[.int .i64 b.line,.int .i64 b.col]):Sem Value).run Tryz.prog w= .ok (.bool (!decide (a=b))) w:=by
  have hz:(binOp .neq 28 (.agg #[.int .i64 a.line,.int .i64 a.col]) (.agg #[.int .i64 b.line,.int .i64 b.col])).run Tryz.prog w= .ok (.bool (!decide (a=b))) w:=by
   rw[run_neq_struct,show(10000:Nat)=9998+2 from rfl,sL 9998,←F6];rfl
  have hg:(eqGuard .neq 28 x y (.agg #[.int .i64 a.line,.int .i64 a.col]) (.agg #[.int .i64 b.line,.int .i64 b.col])).run Tryz.prog w= .ok () w:=by simp[go_sem]
  rw[Sem.run_bind,hg,Result.andThen_ok,hz]
 unfold execOp
 simp only[h1,h2]
 simp only[Sem.run_bind] at h3 ⊢
 rw[h3]
 simp
theorem tZ {a b:Fa} (hx:Ev ρ x (.agg (faC a)):=by exact aC) (hy:Ev ρ y (.agg (faC b)):=by exact aC):AS Tryz.prog ρ H ⟨d,.binOp .eql 30 x y t2,ty,pos,af,gu⟩ ⟨.c (sB (decide (a=b))),[],[]⟩:=by
 refine .still (x:=.bool (decide (a=b))) (fun q hq w=>?_) fun _=>.sc rfl
 have h1:=hq x (by simp[Op.operands]) _ _ hx (Cq.agg (vs:=[.int .i64 a.code,.int .i64 a.pos.line,.int .i64 a.pos.col,.string a.name]))
 have h2:=hq y (by simp[Op.operands]) _ _ hy (Cq.agg (vs:=[.int .i64 b.code,.int .i64 b.pos.line,.int .i64 b.pos.col,.string b.name]))
 have h3:(do eqGuard .eql 30 x y (.agg #[.int .i64 a.code,.int .i64 a.pos.line,.int .i64 a.pos.col,.string a.name]) (.agg #[.int .i64 b.code,.int .i64 b.pos.line,.int .i64 b.pos.col,.string b.name]);binOp .eql 30 (.agg #[.int .i64 a.code,.int .i64 a.pos.line,.int .i64 a.pos.col,.string a.name]) (.agg #[.int .i64 b.code,.int .i64 b.pos.line,.int .i64 b.pos.col,.string b.name]):Sem Value).run Tryz.prog w= .ok (.bool (decide (a=b))) w:=by
  have hz:(binOp .eql 30 (.agg #[.int .i64 a.code,.int .i64 a.pos.line,.int .i64 a.pos.col,.string a.name]) (.agg #[.int .i64 b.code,.int .i64 b.pos.line,.int .i64 b.pos.col,.string b.name])).run Tryz.prog w= .ok (.bool (decide (a=b))) w:=by
   rw[run_eql_struct,show(10000:Nat)=9997+3 from rfl,pI 9997,←y8];rfl
  have hg:(eqGuard .eql 30 x y (.agg #[.int .i64 a.code,.int .i64 a.pos.line,.int .i64 a.pos.col,.string a.name]) (.agg #[.int .i64 b.code,.int .i64 b.pos.line,.int .i64 b.pos.col,.string b.name])).run Tryz.prog w= .ok () w:=by simp[go_sem]
  rw[Sem.run_bind,hg,Result.andThen_ok,hz]
 unfold execOp
 simp only[h1,h2]
 simp only[Sem.run_bind] at h3 ⊢
 rw[h3]
 simp
theorem Bf {a b:Fa} (hx:Ev ρ x (.agg (faC a)):=by exact aC) (hy:Ev ρ y (.agg (faC b)):=by exact aC):AS Tryz.prog ρ H ⟨d,.binOp .neq 30 x y t2,ty,pos,af,gu⟩ ⟨.c (sB (!decide (a=b))),[],[]⟩:=by
 refine .still (x:=.bool (!decide (a=b))) (fun q hq w=>?_) fun _=>.sc rfl
 have h1:=hq x (by simp[Op.operands]) _ _ hx (Cq.agg (vs:=[.int .i64 a.code,.int .i64 a.pos.line,.int .i64 a.pos.col,.string a.name]))
 have h2:=hq y (by simp[Op.operands]) _ _ hy (Cq.agg (vs:=[.int .i64 b.code,.int .i64 b.pos.line,.int .i64 b.pos.col,.string b.name]))
 have h3:(do eqGuard .neq 30 x y (.agg #[.int .i64 a.code,.int .i64 a.pos.line,.int .i64 a.pos.col,.string a.name]) (.agg #[.int .i64 b.code,.int .i64 b.pos.line,.int .i64 b.pos.col,.string b.name]);binOp .neq 30 (.agg #[.int .i64 a.code,.int .i64 a.pos.line,.int .i64 a.pos.col,.string a.name]) (.agg #[.int .i64 b.code,.int .i64 b.pos.line,.int .i64 b.pos.col,.string b.name]):Sem Value).run Tryz.prog w= .ok (.bool (!decide (a=b))) w:=by
  have hz:(binOp .neq 30 (.agg #[.int .i64 a.code,.int .i64 a.pos.line,.int .i64 a.pos.col,.string a.name]) (.agg #[.int .i64 b.code,.int .i64 b.pos.line,.int .i64 b.pos.col,.string b.name])).run Tryz.prog w= .ok (.bool (!decide (a=b))) w:=by
   rw[run_neq_struct,show(10000:Nat)=9997+3 from rfl,pI 9997,←y8];rfl
  have hg:(eqGuard .neq 30 x y (.agg #[.int .i64 a.code,.int .i64 a.pos.line,.int .i64 a.pos.col,.string a.name]) (.agg #[.int .i64 b.code,.int .i64 b.pos.line,.int .i64 b.pos.col,.string b.name])).run Tryz.prog w= .ok () w:=by simp[go_sem]
  rw[Sem.run_bind,hg,Result.andThen_ok,hz]
 unfold execOp
 simp only[h1,h2]
 simp only[Sem.run_bind] at h3 ⊢
 rw[h3]
 simp
end
end Am
namespace Am
set_option maxRecDepth 100000
set_option maxHeartbeats 4000000
theorem AD (s:Stm):SizeOf.sizeOf s.thn<SizeOf.sizeOf s:=by
 cases s;simp only[Stm.mk.sizeOf_spec];omega
theorem BU (s:Stm):SizeOf.sizeOf s.els<SizeOf.sizeOf s:=by
 cases s;simp only[Stm.mk.sizeOf_spec];omega
end Am
namespace Am
open Tk Go.RowKit
set_option maxRecDepth 100000
set_option maxHeartbeats 4000000
theorem oD:∀ (n:Nat) (l:List Stm),SizeOf.sizeOf l<n→Pure Tryz.prog 17 [.c (.lst none 55 (l.map stC)),.c (.lst none 55 (l.map stC))] (.c (sB true))
 |0,_,h=>absurd h (Nat.not_lt_zero _)
 |n+1,l,h=>by
  have ht:∀ x∈l,Pure Tryz.prog 17 [.c (.lst none 55 (x.thn.map stC)),.c (.lst none 55 (x.thn.map stC))] (.c (sB true)):=fun x hx=>oD n x.thn (by have:=List.sizeOf_lt_of_mem hx;have:=AD x;omega)
  have he:∀ x∈l,Pure Tryz.prog 17 [.c (.lst none 55 (x.els.map stC)),.c (.lst none 55 (x.els.map stC))] (.c (sB true)):=fun x hx=>oD n x.els (by have:=List.sizeOf_lt_of_mem hx;have:=BU x;omega)
  refine fn2 (fn:=Tryz.f17) Tryz.call17 Tryz.func17 rfl Tryz.ntmps17 Tryz.results17 rfl (by rfl) ?_
  refine AW.fact (t:=0) rfl (fun κ w x hr=>mz hr) fun hn=>?_
  repeat'(first|(with_reducible first|apply AW.seq|apply AW.block|apply AW.skip|apply aa|apply y_e|refine ae ?_)|((with_reducible apply ai);refine t_v AS.v ?_)|((with_reducible refine aq ?_);((refine ah (fun hc=>?_) (fun hc=>?_);all_goals(try(exfalso;simp[*] at hc;done)))))|fail)
  refine AW.loop (fun n σ=>∃ j,n=l.length - j∧j≤l.length∧σ=mk [(0,.c (.lst none 55 (l.map stC))),(1,.c (.lst none 55 (l.map stC))),(5,.c (sI (j:Int)))] []) l.length ?_ ?_
  ·exact⟨_,wkA,0,rfl,Nat.zero_le _,rfl⟩
  rintro n σ ⟨j,rfl,hj,rfl⟩
  by_cases hlt:j<l.length
  ·obtain ⟨x,hx⟩:∃ x,l[j]? =some x:=⟨_,List.getElem?_eq_getElem hlt⟩
   have hm:=List.mem_of_getElem? hx
   have ht:=ht x hm
   have he:=he x hm
   repeat'(first|(with_reducible first|apply AW.seq|apply AW.block|apply AW.skip|apply aa|apply aw|apply y_e|refine ae ?_|refine b6 ?_)|((with_reducible apply ai);first|refine t_v AS.v ?_|refine t_v (by exact A4) ?_)|((with_reducible apply aK);first|refine t_m (hs:=fun hg=>AS.v) (k:=?_)|refine t_m (hs:=fun hg=>(by first|exact aj (hP:=ht)|exact aj (hP:=he))) (k:=?_))|((with_reducible refine aq ?_);((refine ah (fun hc=>?_) (fun hc=>?_);all_goals(try(exfalso;simp[*] at hc;done)))))|(refine⟨by decide +kernel,?_⟩)|fail)
   all_goals((exact⟨_,_,(show l.length - (j+1)<l.length - j by omega),wkA,j+1,rfl,hlt,rfl⟩))
  ·repeat'(first|(with_reducible first|apply AW.seq|apply AW.ret|apply AW.exit|apply aa|apply aD|apply aH|apply y_e|refine ae ?_)|((with_reducible apply ai);refine t_v AS.v ?_)|((with_reducible refine aq ?_);((refine ah (fun hc=>?_) (fun hc=>?_);all_goals(try(exfalso;simp[*] at hc;done)))))|((with_reducible refine aM ?_);refine k_b ?_)|fail)
   rfl
theorem zY (l:List Stm):Pure Tryz.prog 17 [.c (.lst none 55 (l.map stC)),.c (.lst none 55 (l.map stC))] (.c (sB true)):=oD _ l (Nat.lt_succ_self _)
end Am
end Go.Proofs.YtkpodagbefnebaaGreatDoor
