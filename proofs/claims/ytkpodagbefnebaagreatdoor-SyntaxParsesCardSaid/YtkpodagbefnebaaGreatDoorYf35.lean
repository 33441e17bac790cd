import Derived.Test.YtkpodagbefnebaaGreatDoorYf30
import Derived.Test.YtkpodagbefnebaaGreatDoorYf34
import Derived.Test.YtkpodagbefnebaaGreatDoorYf26
import Derived.Test.YtkpodagbefnebaaGreatDoorYf21
import Derived.Test.YtkpodagbefnebaaGreatDoorYf8
import Derived.Laws.StructEq
import Derived.Test.YtkpodagbefnebaaGreatDoorYf23
set_option linter.unusedSimpArgs false
set_option linter.unusedVariables false
set_option linter.unusedSectionVars false
namespace Go.Proofs.YtkpodagbefnebaaGreatDoor
namespace Am
open Tk Go.RowKit
set_option maxRecDepth 100000
set_option maxHeartbeats 4000000
theorem EY {α:Type} {src:ByteArray} {l:List Tok} {f:Fa} (hs:sw src=(l,f)) (h0:0<l.length) {sp:∀ l:List Tok,Ix l→Except Fa (α×(Ix l×Nat))} {t:QS l α} (h:RS f (sp l ⟨0,h0⟩) t) (hz:NZ l (sp l ⟨0,h0⟩)) :
 (∀ x,(l5 src fun l k=>sp l k)= .ok x→t.1=x∧(jo t.2.1 t.2.2.1).code=0)∧∀ g,(l5 src fun l k=>sp l k)= .error g→g.code≠0∧jo t.2.1 t.2.2.1=g:=by
 unfold sw at hs
 unfold l5
 cases hsc:dL src with
 |error g=>
  rw[hsc] at hs
  injection hs with h1 h2
  subst h2
  refine⟨fun x hx=>(by cases hx),fun g' hg'=>?_⟩
  injection hg' with hg'
  subst hg'
  have hn:=(kr src g hsc).1
  refine⟨hn,?_⟩
  rw[h.1 hn]
  unfold jo
  rw[if_neg fun h=>hn h.1]
 |ok ts=>
  rw[hsc] at hs
  injection hs with h1 h2
  subst h1 h2
  have h2:=h.2 rfl
  simp only[ag,dif_pos h0]
  cases hp:sp ts ⟨0,h0⟩ with
  |error g=>
   rw[hp] at h2
   have h2:t.2.2.1=g:=h2
   have hn:=(hz g hp).1
   refine⟨fun x hx=>(by cases hx),fun g' hg'=>?_⟩
   have hg':(Except.error g:Except Fa α)= .error g':=hg'
   injection hg' with hg'
   subst hg'
   refine⟨hn,?_⟩
   rw[h2]
   unfold jo
   rw[if_neg fun h=>hn h.1]
  |ok x=>
   rw[hp] at h2
   have h2:t=(x.1,(x.2.1,(Fa.zero,(x.2.2:Int)))):=h2
   subst h2
   have e:((.ok x:Except Fa (α×(Ix ts×Nat)))>>=fun y=>if(tk y.2.1).kind=0 then .ok y.1 else .error (flt 9 (tk y.2.1)):Except Fa α)=if(tk x.2.1).kind=0 then .ok x.1 else .error (flt 9 (tk x.2.1)):=rfl
   rw[e]
   by_cases hk:(tk x.2.1).kind=0
   ·rw[if_pos hk]
    refine⟨fun y hy=>?_,fun g hg=>(by cases hg)⟩
    injection hy with hy
    refine⟨hy,?_⟩
    unfold jo
    rw[if_neg fun h=>h.2 hk];rfl
   ·rw[if_neg hk]
    refine⟨fun y hy=>(by cases hy),fun g hg=>?_⟩
    injection hg with hg
    refine⟨by rw[← hg];exact(by decide:(9:Int)≠0),?_⟩
    unfold jo
    rw[if_pos ⟨rfl,hk⟩];exact hg
theorem uJ (src:ByteArray):Pure Tryz.prog 15 [.c (sS src)] (rtV (.agg (moC Mo.zero)) (fun x=>.agg (moC x)) (iy src)):=by
 obtain ⟨l,f,hs⟩:∃ l f,sw src=(l,f):=⟨_,_,rfl⟩
 have hf:=uq hs
 have nw:=pU hs hf.pos
 have rq:=EY hs hf.pos (sp:=fun l k=>lD k) (CK hf ⟨0,hf.pos⟩ f) (tz _)
 unfold mdT mB at rq
 have m1:=lM (c:=0) hf (⟨0,hf.pos⟩:Ix l) f ⟨#[109,111,100,117,108,101]⟩
 generalize iu ⟨#[109,111,100,117,108,101]⟩ (⟨0,hf.pos⟩:Ix l) f=q at *
 obtain ⟨k1,f1⟩:=q
 dsimp only at m1 rq
 unfold px at rq
 have m2:=bk (c:=0) hf k1 f1
 generalize aB k1 f1=q at *
 obtain ⟨s,k2,f2⟩:=q
 dsimp only at m2 rq
 unfold jW at rq
 have m3:=xR (c:=0) hf k2 f2
 generalize gl k2 f2=q at *
 obtain ⟨v,k3,f3⟩:=q
 dsimp only at m3 rq
 unfold rY at rq
 have m4:=bV (c:=0) hf k3 f3 ⟨#[59]⟩
 generalize aO ⟨#[59]⟩ k3 f3=q at *
 obtain ⟨k4,f4⟩:=q
 dsimp only at m4 rq
 unfold E3 at rq
 have st:=uF hf k4 f4
 generalize iL (fuel l) [] k4 f4 0=q at *
 obtain ⟨x,k5,f5,c5⟩:=q
 dsimp only at st rq
 have en:=Bh k5 f5 c5
 have e:iy src=l5 src fun l k=>lD k:=rfl
 rw[e]
 clear e hs
 cases hp:(l5 src fun l k=>lD k) with
 |ok y=>
  obtain ⟨rfl,hz⟩:=rq.1 y hp
  clear rq hp
  show Pure _ _ _ (.tup [.agg (moC ⟨s,v,x⟩),.agg (faC Fa.zero)])
  generalize jo k5 f5=g at *
  refine fn1 (fn:=Tryz.f15) Tryz.call15 Tryz.func15 rfl Tryz.ntmps15 Tryz.results15 rfl (by first|rfl|simp[V.ok,okL,C.ok,okA,okV]) ?_
  repeat'(first|(with_reducible first|apply AW.seq|apply AW.skip|apply AW.ret|apply aa|apply ak|apply y_e|refine ae ?_|refine b7 ?_)|((with_reducible apply ai);first|refine t_w (Cb nw) ?_|refine t_v AS.v ?_|refine t_w AS.w ?_|refine t_w (by first|exact av (hP:=m1)|exact av (hP:=m2)|exact av (hP:=m3)|exact av (hP:=m4)|exact av (hP:=st)|exact av (hP:=en)) ?_)|((with_reducible apply ay);refine t_s AS.s ?_)|((with_reducible refine aq ?_);((refine ah (fun hc=>?_) (fun hc=>?_);all_goals(try(exfalso;simp[*] at hc;done)))))|((with_reducible refine aM ?_);(((refine uI ?_ ?_);all_goals(with_reducible (apply eO)))))|(refine⟨by decide +kernel,?_⟩)|fail)
  all_goals first|rfl|simp only[unA]|simp|trace_state
 |error g=>
  obtain ⟨hz,he⟩:=rq.2 g hp
  clear rq hp
  show Pure _ _ _ (.tup [.agg (moC Mo.zero),.agg (faC g)])
  rw[he] at en
  refine fn1 (fn:=Tryz.f15) Tryz.call15 Tryz.func15 rfl Tryz.ntmps15 Tryz.results15 rfl (by first|rfl|simp[V.ok,okL,C.ok,okA,okV]) ?_
  repeat'(first|(with_reducible first|apply AW.seq|apply AW.skip|apply AW.ret|apply aa|apply ak|apply y_e|refine ae ?_|refine b7 ?_)|((with_reducible apply ai);first|refine t_w (Cb nw) ?_|refine t_v AS.v ?_|refine t_w AS.w ?_|refine t_w (by first|exact av (hP:=m1)|exact av (hP:=m2)|exact av (hP:=m3)|exact av (hP:=m4)|exact av (hP:=st)|exact av (hP:=en)) ?_)|((with_reducible apply ay);refine t_s AS.s ?_)|((with_reducible refine aq ?_);((refine ah (fun hc=>?_) (fun hc=>?_);all_goals(try(exfalso;simp[*] at hc;done)))))|((with_reducible refine aM ?_);(((refine uI ?_ ?_);all_goals(with_reducible (apply eO)))))|(refine⟨by decide +kernel,?_⟩)|fail)
  all_goals rfl
end Am
namespace Am
set_option maxRecDepth 100000
set_option maxHeartbeats 1000000
def gP {α β:Type} (p:α→β→Bool):List α→List β→Bool
 |[],[]=>true
 |x :: l,y :: m=>p x y&&gP p l m
 |[],_ :: _=>false
 |_ :: _,[]=>false
section
variable {α β:Type} {p:α→β→Bool}
theorem mW:∀ {l:List α} {m:List β},l.length≠m.length→gP p l m=false
 |[],[],h=>absurd rfl h
 |x :: l,y :: m,h=>by rw[gP,mW (l:=l) (m:=m) (by simpa using h),Bool.and_false]
 |[],_ :: _,_=>rfl
 |_ :: _,[],_=>rfl
def oc (p:α→β→Bool) (l:List α) (m:List β) (j:Nat):Prop:=∀ i x y,i<j→l[i]? =some x→m[i]? =some y→p x y=true
theorem oA {l:List α} {m:List β}:oc p l m 0:=fun i x y h=>absurd h (Nat.not_lt_zero _)
theorem oq {l:List α} {m:List β} {j:Nat} {x:α} {y:β} (h:oc p l m j) (hx:l[j]? =some x) (hy:m[j]? =some y) (e:p x y=true):oc p l m (j+1):=by
 intro i u v hi hu hv
 rcases Nat.lt_or_ge i j with h1|h1
 ·exact h i u v h1 hu hv
 ·obtain rfl:i=j:=by omega
  rw[hx] at hu;rw[hy] at hv;cases hu;cases hv;exact e
theorem oJ:∀ {l:List α} {m:List β} {j:Nat} {x:α} {y:β},l[j]? =some x→m[j]? =some y→p x y=false→gP p l m=false
 |[],_,_,_,_,h,_,_=>by simp at h
 |_ :: _,[],_,_,_,_,h,_=>by simp at h
 |a :: l,b :: m,0,x,y,hx,hy,e=>by
  obtain rfl:a=x:=by simpa using hx
  obtain rfl:b=y:=by simpa using hy
  rw[gP,e,Bool.false_and]
 |a :: l,b :: m,j+1,x,y,hx,hy,e=>by
  rw[gP,oJ (j:=j) (by simpa using hx) (by simpa using hy) e,Bool.and_false]
theorem mJ:∀ {l:List α} {m:List β} {j:Nat},oc p l m j→l.length≤j→l.length=m.length→gP p l m=true
 |[],[],_,_,_,_=>rfl
 |x :: l,y :: m,0,_,h,_=>by simp at h
 |x :: l,y :: m,j+1,h,h1,h2=>by
  rw[gP,h 0 x y (Nat.succ_pos _) rfl rfl,mJ (l:=l) (m:=m) (j:=j) (fun i u v hi hu hv=>h (i+1) u v (by omega) (by simpa using hu) (by simpa using hv)) (by simpa using h1) (by simpa using h2)]
  rfl
 |[],_ :: _,_,_,_,h=>by simp at h
 |_ :: _,[],_,_,_,h=>by simp at h
end
def oG (a b:Ex):Bool:=decide (a.op=b.op)&&decide (a.a=b.a)&&decide (a.rel=b.rel)&&decide (a.b=b.b)&&Se.eqB a.set b.set&&decide (a.names=b.names)
mutual
def iN:Ex→Ex→Bool
 |⟨op,a,rel,b,names,set,kids⟩,⟨op',a',rel',b',names',set',kids'⟩=>oG ⟨op,a,rel,b,names,set,kids⟩ ⟨op',a',rel',b',names',set',kids'⟩&&jR kids kids'
def jR:List Ex→List Ex→Bool
 |[],[]=>true
 |x :: l,y :: m=>iN x y&&jR l m
 |[],_ :: _=>false
 |_ :: _,[]=>false
end
theorem mm:∀ l m:List Ex,jR l m=gP iN l m
 |[],[]=>by rw[jR];rfl
 |x :: l,y :: m=>by rw[jR,mm l m];rfl
 |[],_ :: _=>by rw[jR];rfl
 |_ :: _,[]=>by rw[jR];rfl
theorem qP (a b:Ex):iN a b=(oG a b&&gP iN a.kids b.kids):=by
 cases a;cases b;rw[iN,mm]
end Am
namespace Am
set_option maxRecDepth 100000
set_option maxHeartbeats 1000000
theorem wi {s x:Stm} (h:x∈s.thn):SizeOf.sizeOf x<SizeOf.sizeOf s:=by
 cases s
 have:=List.sizeOf_lt_of_mem h
 simp only[Stm.mk.sizeOf_spec] at this ⊢
 omega
theorem zj {s x:Stm} (h:x∈s.els):SizeOf.sizeOf x<SizeOf.sizeOf s:=by
 cases s
 have:=List.sizeOf_lt_of_mem h
 simp only[Stm.mk.sizeOf_spec] at this ⊢
 omega
def lV (a b:Stm):Bool:=decide (a.kind=b.kind)&&decide (a.op=b.op)&&decide (a.name=b.name)&&decide (a.result=b.result)&&decide (a.text=b.text)&&(a.value == b.value)&&decide (a.list=b.list)&&decide (a.aliases=b.aliases)&&jQ a.source b.source&&jQ a.target b.target&&jQ a.cls b.cls&&jQ a.perms b.perms&&iN a.cond b.cond&&jc a.level b.level&&mG a.range b.range&&decide (a.ctx.user=b.ctx.user)&&decide (a.ctx.role=b.ctx.role)&&decide (a.ctx.type=b.ctx.type)&&mG a.ctx.rng b.ctx.rng
mutual
def eR:Stm→Stm→Bool
 |⟨a1,a2,a3,a4,a5,a6,a7,a8,a9,a10,a11,a12,a13,a14,a15,a16,a17,t,e⟩,b=>lV ⟨a1,a2,a3,a4,a5,a6,a7,a8,a9,a10,a11,a12,a13,a14,a15,a16,a17,t,e⟩ b&&jl t b.thn&&jl e b.els
def jl:List Stm→List Stm→Bool
 |[],[]=>true
 |x :: l,y :: m=>eR x y&&jl l m
 |[],_ :: _=>false
 |_ :: _,[]=>false
end
theorem jS:∀ l m:List Stm,jl l m=gP eR l m
 |[],[]=>by rw[jl];rfl
 |x :: l,y :: m=>by rw[jl,jS l m];rfl
 |[],_ :: _=>by rw[jl];rfl
 |_ :: _,[]=>by rw[jl];rfl
theorem pQ (a b:Stm):eR a b=(lV a b&&gP eR a.thn b.thn&&gP eR a.els b.els):=by
 cases a;rw[eR,jS,jS]
end Am
namespace Am
open Tk
set_option maxRecDepth 100000
set_option maxHeartbeats 4000000
mutual
def npS:Stm→Stm
 |⟨a1,a2,_,a4,a5,a6,a7,a8,a9,a10,a11,a12,a13,a14,a15,a16,a17,t,e⟩=>⟨a1,a2,⟨0,0⟩,a4,a5,a6,a7,a8,a9,a10,a11,a12,a13,a14,a15,a16,a17,wB t,wB e⟩
def wB:List Stm→List Stm
 |[]=>[]
 |x :: l=>npS x :: wB l
end
theorem mY:∀ l:List Stm,wB l=l.map npS
 |[]=>rfl
 |x :: l=>by rw[wB,mY l];rfl
theorem yD (s:Stm):npS s= {s with pos:=⟨0,0⟩,thn:=s.thn.map npS,els:=s.els.map npS}:=by
 cases s;rw[npS,mY,mY]
def npM (m:Mo):Mo:={m with stmts:=m.stmts.map npS}
section
variable {l:List Tok}
end
section
variable {l:List Tok}
end
end Am
namespace Am
open Tk
set_option maxRecDepth 100000
set_option maxHeartbeats 4000000
section
variable {l:List Tok}
end
end Am
namespace Am
open Tk
set_option maxRecDepth 100000
theorem oC {α:Type} {p:α→α→Bool}:∀ l:List α,(∀ x∈l,p x x=true)→gP p l l=true
 |[],_=>rfl
 |x :: l,h=>by rw[gP,h x (.head _),oC l fun y hy=>h y (.tail _ hy)];rfl
theorem qS:∀ (n:Nat) (a:Ex),SizeOf.sizeOf a<n→iN a a=true
 |0,_,h=>absurd h (Nat.not_lt_zero _)
 |n+1,a,h=>by
  rw[qP,oC a.kids fun x hx=>qS n x (by have:=wP hx;omega)]
  simp[oG,Se.eqB]
theorem BN (a:Ex):iN a a=true:=qS _ a (Nat.lt_succ_self _)
theorem po {p:Stm→Stm→Bool}:∀ l m:List Stm,(∀ x∈l,∀ y,npS x=npS y→p x y=true)→l.map npS=m.map npS→gP p l m=true
 |[],[],_,_=>rfl
 |[],_ :: _,_,h=>by cases h
 |_ :: _,[],_,h=>by cases h
 |x :: l,y :: m,hp,h=>by
  injection h with h1 h2
  rw[gP,hp x (.head _) y h1,po l m (fun z hz=>hp z (.tail _ hz)) h2];rfl
theorem nI:∀ (n:Nat) (a b:Stm),SizeOf.sizeOf a<n→npS a=npS b→eR a b=true
 |0,_,_,h,_=>absurd h (Nat.not_lt_zero _)
 |n+1,a,b,h,e=>by
  have e':=e
  rw[yD,yD] at e'
  injection e' with e1 e2 _ e4 e5 e6 e7 e8 e9 e10 e11 e12 e13 e14 e15 e16 e17 e18 e19
  rw[pQ,po a.thn b.thn (fun x hx y hy=>nI n x y (by have:=wi hx;omega) hy) e18,po a.els b.els (fun x hx y hy=>nI n x y (by have:=zj hx;omega) hy) e19]
  unfold lV
  rw[e1,e2,e4,e5,e6,e7,e8,e9,e10,e11,e12,e13,e14,e15,e16,e17,BN]
  simp[jQ,jc,mG]
theorem xk {a b:Stm} (h:npS a=npS b):eR a b=true:=nI _ a b (Nat.lt_succ_self _) h
theorem yP {a b:Mo} (h:npM a=npM b):(decide (a.name=b.name)&&decide (a.version=b.version)&&gP eR a.stmts b.stmts)=true:=by
 unfold npM at h
 injection h with h1 h2 h3
 rw[decide_eq_true h1,decide_eq_true h2,po a.stmts b.stmts (fun x _ y hy=>xk hy) h3];rfl
end Am
namespace Am
open Tk
set_option maxRecDepth 100000
set_option maxHeartbeats 4000000
theorem Cg {κ:K} {w:World} {x:Value} {cs:List C} {t:Option Nat} {k:Nat} {α:Type} {f:α→List C} {l:List α} (hr:RepV κ w (.agg cs) x) (hc:C.lst t k (l.map f)∈cs):l.length≤9223372036854775807:=by
 cases hr with|agg h=>
  obtain ⟨v,hv⟩:=wy h hc
  have:=Cc hv
  rwa [List.length_map] at this
theorem yx {κ:K} {w:World} {x:Value} {e:Ex} (hr:RepV κ w (.agg (exC e)) x):e.kids.length≤9223372036854775807:=
 Cg hr (t:=none) (k:=10) (f:=exC) (by rw[exC,eF];simp)
theorem lG (l m:List ByteArray):Pure Tryz.prog 126 [.c (bC l),.c (bC m)] (.c (sB (decide (l=m)))):=by
 refine fn2 (fn:=Tryz.f126) Tryz.call126 Tryz.func126 rfl Tryz.ntmps126 Tryz.results126 rfl (by rfl) ?_
 refine AW.fact (t:=0) rfl (fun κ w x hr=>mO hr) fun hn=>?_
 repeat'(first|(with_reducible first|apply AW.seq|apply AW.block|apply AW.skip|apply AW.ret|apply aa|apply ak|apply aw|apply aL|apply y_e|refine ae ?_|refine b7 ?_)|((with_reducible apply ai);refine t_v AS.v ?_)|((with_reducible refine aq ?_);((refine ah (fun hc=>?_) (fun hc=>?_);all_goals(try(exfalso;revert hc;simp;omega)))))|((with_reducible refine aM ?_);refine k_b ?_)|(refine⟨by decide +kernel,?_⟩)|fail)
 ·rw[eq_comm,decide_eq_false_iff_not]
  rintro rfl
  simp at hc
 have hlen:l.length=m.length:=by
  have:(l.length:Int)=m.length:=by simpa using hc
  omega
 refine AW.loop (fun n σ=>∃ j,n=l.length - j∧j≤l.length∧l.take j=m.take j∧σ=mk [(0,.c (bC l)),(1,.c (bC m)),(5,.c (sI j))] []) l.length ?_ ?_
 ·exact⟨_,wkA,0,rfl,Nat.zero_le _,rfl,rfl⟩
 rintro n σ ⟨j,rfl,hj,ha,rfl⟩
 by_cases hlt:j<l.length
 ·obtain ⟨x,hx⟩:∃ x,l[j]? =some x:=⟨_,List.getElem?_eq_getElem hlt⟩
  obtain ⟨y,hy⟩:∃ y,m[j]? =some y:=⟨_,List.getElem?_eq_getElem (by omega)⟩
  repeat'(first|(with_reducible first|apply AW.seq|apply AW.block|apply AW.skip|apply AW.ret|apply aa|apply ak|apply aw|apply aL|apply y_e|refine ae ?_|refine b7 ?_)|((with_reducible apply ai);refine t_v AS.v ?_)|((with_reducible refine aq ?_);((refine ah (fun hc=>?_) (fun hc=>?_);all_goals(try(exfalso;revert hc;simp;omega)))))|((with_reducible refine aM ?_);refine k_b ?_)|(refine⟨by decide +kernel,?_⟩)|fail)
  ·rw[eq_comm,decide_eq_false_iff_not]
   exact xK hx hy (by simpa using hc)
  ·exact⟨_,_,(show l.length - (j+1)<l.length - j by omega),wkA,j+1,rfl,hlt,r8 ha hx hy (by simpa using hc),rfl⟩
 ·repeat'(first|(with_reducible first|apply AW.seq|apply AW.ret|apply AW.exit|apply aa|apply aE|apply aH|apply y_e|refine ae ?_)|((with_reducible apply ai);refine t_v AS.v ?_)|((with_reducible refine aq ?_);((refine ah (fun hc=>?_) (fun hc=>?_);all_goals(try(exfalso;revert hc;simp;omega)))))|((with_reducible refine aM ?_);refine k_b ?_)|fail)
  exact(decide_eq_true (uf ha (by omega) hlen)).symm
theorem vT (a b:NS):Pure Tryz.prog 127 [.agg (nsC a),.agg (nsC b)] (.c (sB (jQ a b))):=by
 refine fn2 (fn:=Tryz.f127) Tryz.call127 Tryz.func127 rfl Tryz.ntmps127 Tryz.results127 rfl (by rfl) ?_
 repeat'(first|(with_reducible first|apply AW.seq|apply AW.ret|apply aa|apply y_e|refine ae ?_)|((with_reducible apply ai);first|refine t_v AS.v ?_|refine t_w AS.w ?_)|((with_reducible apply aK);first|refine t_m (hs:=fun hg=>AS.v) (k:=?_)|refine t_m (hs:=fun hg=>(by exact aj (hP:=lG _ _))) (k:=?_))|((with_reducible refine aM ?_);refine k_b ?_)|fail)
 simp[jQ]
theorem kV (a b:Lv):Pure Tryz.prog 129 [.agg (lvC a),.agg (lvC b)] (.c (sB (jc a b))):=by
 refine fn2 (fn:=Tryz.f129) Tryz.call129 Tryz.func129 rfl Tryz.ntmps129 Tryz.results129 rfl (by rfl) ?_
 refine AW.fact (t:=0) rfl (fun κ w x hr=>Cg hr (l:=a.cats) (f:=spC) (.tail _ (.head _))) fun hn=>?_
 repeat'(first|(with_reducible first|apply AW.seq|apply AW.block|apply AW.skip|apply AW.ret|apply aa|apply ak|apply aw|apply aL|apply y_e|refine ae ?_|refine b7 ?_)|((with_reducible apply ai);first|refine t_v AS.v ?_|refine t_w AS.w ?_)|((with_reducible apply aK);refine t_m (hs:=fun hg=>AS.v) (k:=?_))|((with_reducible refine aq ?_);((refine ah (fun hc=>?_) (fun hc=>?_);all_goals(try(exfalso;revert hc;simp;omega)))))|((with_reducible refine aM ?_);refine k_b ?_)|(refine⟨by decide +kernel,?_⟩)|fail)
 ·rw[eq_comm,jc,Bool.and_eq_false_iff]
  simp only[List.length_map] at hc
  by_cases h1:a.sens=b.sens
  ·right
   rw[decide_eq_false_iff_not]
   intro h2
   rw[h1,h2] at hc
   simp at hc
  ·left;exact decide_eq_false h1
 have hlen:a.sens=b.sens∧a.cats.length=b.cats.length:=by
  simp only[List.length_map] at hc
  simp at hc
  exact⟨hc.1,by omega⟩
 refine AW.loop (fun n σ=>∃ j,n=a.cats.length - j∧j≤a.cats.length∧a.cats.take j=b.cats.take j∧σ=mk [(2,.c (.ptr 2 0)),(3,.c (.ptr 3 0)),(5,.c (sI j))] [(3,.obj 63 (lvC b)),(2,.obj 63 (lvC a))]) a.cats.length ?_ ?_
 ·exact⟨_,wkA,0,rfl,Nat.zero_le _,rfl,rfl⟩
 rintro n σ ⟨j,rfl,hj,ha,rfl⟩
 by_cases hlt:j<a.cats.length
 ·obtain ⟨x,hx⟩:∃ x,a.cats[j]? =some x:=⟨_,List.getElem?_eq_getElem hlt⟩
  obtain ⟨y,hy⟩:∃ y,b.cats[j]? =some y:=⟨_,List.getElem?_eq_getElem (by omega)⟩
  repeat'(first|(with_reducible first|apply AW.seq|apply AW.block|apply AW.skip|apply AW.ret|apply aa|apply ak|apply aw|apply aL|apply y_e|refine ae ?_|refine b7 ?_)|((with_reducible apply ai);first|refine t_v AS.v ?_|refine t_w AS.w ?_)|((with_reducible apply aK);refine t_m (hs:=fun hg=>AS.v) (k:=?_))|((with_reducible refine aq ?_);((refine ah (fun hc=>?_) (fun hc=>?_);all_goals(try(exfalso;revert hc;simp;omega)))))|((with_reducible refine aM ?_);refine k_b ?_)|(refine⟨by decide +kernel,?_⟩)|fail)
  ·rw[jc,decide_eq_false (xK hx hy (by simpa using hc)),Bool.and_false]
  ·exact⟨_,_,(show a.cats.length - (j+1)<a.cats.length - j by omega),wkA,j+1,rfl,hlt,r8 ha hx hy (by simpa using hc),rfl⟩
 ·repeat'(first|(with_reducible first|apply AW.seq|apply AW.ret|apply AW.exit|apply aa|apply aE|apply aH|apply y_e|refine ae ?_)|((with_reducible apply ai);refine t_v AS.v ?_)|((with_reducible refine aq ?_);((refine ah (fun hc=>?_) (fun hc=>?_);all_goals(try(exfalso;revert hc;simp;omega)))))|((with_reducible refine aM ?_);refine k_b ?_)|fail)
  rw[jc,decide_eq_true hlen.1,decide_eq_true (uf ha (by omega) hlen.2)];rfl
theorem ou (a b:Rg):Pure Tryz.prog 130 [.agg (rgC a),.agg (rgC b)] (.c (sB (mG a b))):=by
 refine fn2 (fn:=Tryz.f130) Tryz.call130 Tryz.func130 rfl Tryz.ntmps130 Tryz.results130 rfl (by rfl) ?_
 repeat'(first|(with_reducible first|apply AW.seq|apply AW.ret|apply aa|apply y_e|refine ae ?_)|((with_reducible apply ai);first|refine t_v AS.v ?_|refine t_v (by exact aj (hP:=kV _ _)) ?_|refine t_w AS.w ?_)|((with_reducible apply aK);first|refine t_m (hs:=fun hg=>AS.v) (k:=?_)|refine t_m (hs:=fun hg=>(by exact aj (hP:=kV _ _))) (k:=?_))|((with_reducible refine aM ?_);refine k_b ?_)|fail)
 rfl
def xA (a b:Ct):Bool:=decide (a.user=b.user)&&decide (a.role=b.role)&&decide (a.type=b.type)&&mG a.rng b.rng
theorem vq (a b:Ct):Pure Tryz.prog 131 [.agg (cxC a),.agg (cxC b)] (.c (sB (xA a b))):=by
 refine fn2 (fn:=Tryz.f131) Tryz.call131 Tryz.func131 rfl Tryz.ntmps131 Tryz.results131 rfl (by rfl) ?_
 repeat'(first|(with_reducible first|apply AW.seq|apply AW.ret|apply aa|apply y_e|refine ae ?_)|((with_reducible apply ai);first|refine t_v AS.v ?_|refine t_w AS.w ?_)|((with_reducible apply aK);first|refine t_m (hs:=fun hg=>AS.v) (k:=?_)|refine t_m (hs:=fun hg=>(by exact aj (hP:=ou _ _))) (k:=?_))|((with_reducible refine aM ?_);refine k_b ?_)|fail)
 rfl
theorem qb:∀ (n:Nat) (a b:Ex),SizeOf.sizeOf a<n→Pure Tryz.prog 128 [.agg (exC a),.agg (exC b)] (.c (sB (iN a b)))
 |0,_,_,h=>absurd h (Nat.not_lt_zero _)
 |n+1,a,b,h=>by
  have ih:∀ x∈a.kids,∀ y,Pure Tryz.prog 128 [.agg (exC x),.agg (exC y)] (.c (sB (iN x y))):=fun x hx y=>
   qb n x y (by have:=wP hx;omega)
  rw[qP]
  refine fn2 (fn:=Tryz.f128) Tryz.call128 Tryz.func128 rfl Tryz.ntmps128 Tryz.results128 rfl (by rfl) ?_
  refine AW.fact (t:=0) rfl (fun κ w x hr=>yx hr) fun hn=>?_
  repeat'(first|(with_reducible first|apply AW.seq|apply AW.block|apply AW.skip|apply AW.ret|apply aa|apply ak|apply y_e|refine ae ?_)|((with_reducible apply ai);first|refine t_v AS.v ?_|refine t_w AS.w ?_)|((with_reducible apply aK);first|refine t_m (hs:=fun hg=>AS.v) (k:=?_)|refine t_m (hs:=fun hg=>(by exact aj (hP:=lG _ _))) (k:=?_))|((with_reducible refine aq ?_);((refine ah (fun hc=>?_) (fun hc=>?_))))|((with_reducible refine aM ?_);refine k_b ?_)|fail)
  ·simp only[List.length_map] at hc
   rcases Nat.decEq a.kids.length b.kids.length with hn|hn
   ·rw[mW hn,Bool.and_false]
   ·unfold oG
    rw[eq_comm,Bool.and_eq_false_iff];left
    revert hc;simp[hn]
    grind
  have hlen:a.kids.length=b.kids.length∧oG a b=true:=by
   simp only[List.length_map] at hc
   unfold oG
   grind
  rw[hlen.2,Bool.true_and]
  refine AW.loop (fun n σ=>∃ j,n=a.kids.length - j∧j≤a.kids.length∧oc iN a.kids b.kids j∧σ=mk [(2,.c (.ptr 2 0)),(3,.c (.ptr 3 0)),(5,.c (sI j))] [(3,.obj 49 (exC b)),(2,.obj 49 (exC a))]) a.kids.length ?_ ?_
  ·exact⟨_,wkA,0,rfl,Nat.zero_le _,oA,rfl⟩
  rintro n σ ⟨j,rfl,hj,ha,rfl⟩
  by_cases hlt:j<a.kids.length
  ·obtain ⟨x,hx⟩:∃ x,a.kids[j]? =some x:=⟨_,List.getElem?_eq_getElem hlt⟩
   obtain ⟨y,hy⟩:∃ y,b.kids[j]? =some y:=⟨_,List.getElem?_eq_getElem (by omega)⟩
   have hp:=ih x (List.mem_of_getElem? hx) y
   repeat'(first|(with_reducible first|apply AW.seq|apply AW.block|apply AW.skip|apply AW.ret|apply aa|apply ak|apply aw|apply aL|apply y_e|refine ae ?_|refine b7 ?_)|((with_reducible apply ai);first|refine t_v AS.v ?_|refine t_v (by exact aj (hP:=hp)) ?_)|((with_reducible refine aq ?_);((refine ah (fun hc=>?_) (fun hc=>?_);all_goals(try(exfalso;revert hc;simp;omega)))))|((with_reducible refine aM ?_);refine k_b ?_)|(refine⟨by decide +kernel,?_⟩)|fail)
   ·rw[oJ hx hy (by simpa using hc)]
   ·exact⟨_,_,(show a.kids.length - (j+1)<a.kids.length - j by omega),wkA,j+1,rfl,hlt,oq ha hx hy (by simpa using hc),rfl⟩
  ·repeat'(first|(with_reducible first|apply AW.seq|apply AW.ret|apply AW.exit|apply aa|apply aE|apply aH|apply y_e|refine ae ?_)|((with_reducible apply ai);refine t_v AS.v ?_)|((with_reducible refine aq ?_);((refine ah (fun hc=>?_) (fun hc=>?_);all_goals(try(exfalso;revert hc;simp;omega)))))|((with_reducible refine aM ?_);refine k_b ?_)|fail)
   rw[mJ ha (by omega) hlen.1]
theorem yr (a b:Ex):Pure Tryz.prog 128 [.agg (exC a),.agg (exC b)] (.c (sB (iN a b))):=qb _ a b (Nat.lt_succ_self _)
theorem kF {l m:List Stm} (h:∀ x∈l,∀ y,Pure Tryz.prog 64 [.agg (stC x),.agg (stC y)] (.c (sB (eR x y)))):Pure Tryz.prog 22 [.c (.lst none 55 (l.map stC)),.c (.lst none 55 (m.map stC))] (.c (sB (gP eR l m))):=by
 refine fn2 (fn:=Tryz.f22) Tryz.call22 Tryz.func22 rfl Tryz.ntmps22 Tryz.results22 rfl (by rfl) ?_
 refine AW.fact (t:=0) rfl (fun κ w x hr=>mO hr) fun hn=>?_
 repeat'(first|(with_reducible first|apply AW.seq|apply AW.block|apply AW.skip|apply AW.ret|apply aa|apply ak|apply y_e|refine ae ?_)|((with_reducible apply ai);refine t_v AS.v ?_)|((with_reducible refine aq ?_);((refine ah (fun hc=>?_) (fun hc=>?_))))|((with_reducible refine aM ?_);refine k_b ?_)|fail)
 ·rw[mW (by have h1:¬((l.length:Int)=m.length):=by simpa using hc
            omega)]
 have hlen:l.length=m.length:=by
  have:(l.length:Int)=m.length:=by simpa using hc
  omega
 refine AW.loop (fun n σ=>∃ j,n=l.length - j∧j≤l.length∧oc eR l m j∧σ=mk [(0,.c (.lst none 55 (l.map stC))),(1,.c (.lst none 55 (m.map stC))),(5,.c (sI j))] []) l.length ?_ ?_
 ·exact⟨_,wkA,0,rfl,Nat.zero_le _,oA,rfl⟩
 rintro n σ ⟨j,rfl,hj,ha,rfl⟩
 by_cases hlt:j<l.length
 ·obtain ⟨x,hx⟩:∃ x,l[j]? =some x:=⟨_,List.getElem?_eq_getElem hlt⟩
  obtain ⟨y,hy⟩:∃ y,m[j]? =some y:=⟨_,List.getElem?_eq_getElem (by omega)⟩
  have hp:=h x (List.mem_of_getElem? hx) y
  repeat'(first|(with_reducible first|apply AW.seq|apply AW.block|apply AW.skip|apply AW.ret|apply aa|apply ak|apply aw|apply aL|apply y_e|refine ae ?_|refine b7 ?_)|((with_reducible apply ai);first|refine t_v AS.v ?_|refine t_v (by exact aj (hP:=hp)) ?_)|((with_reducible refine aq ?_);((refine ah (fun hc=>?_) (fun hc=>?_);all_goals(try(exfalso;revert hc;simp;omega)))))|((with_reducible refine aM ?_);refine k_b ?_)|(refine⟨by decide +kernel,?_⟩)|fail)
  ·rw[oJ hx hy (by simpa using hc)]
  ·exact⟨_,_,(show l.length - (j+1)<l.length - j by omega),wkA,j+1,rfl,hlt,oq ha hx hy (by simpa using hc),rfl⟩
 ·repeat'(first|(with_reducible first|apply AW.seq|apply AW.ret|apply AW.exit|apply aa|apply aE|apply aH|apply y_e|refine ae ?_)|((with_reducible apply ai);refine t_v AS.v ?_)|((with_reducible refine aq ?_);((refine ah (fun hc=>?_) (fun hc=>?_);all_goals(try(exfalso;revert hc;simp;omega)))))|((with_reducible refine aM ?_);refine k_b ?_)|fail)
  rw[mJ ha (by omega) hlen]
theorem mM:∀ (n:Nat) (a b:Stm),SizeOf.sizeOf a<n→Pure Tryz.prog 64 [.agg (stC a),.agg (stC b)] (.c (sB (eR a b)))
 |0,_,_,h=>absurd h (Nat.not_lt_zero _)
 |n+1,a,b,h=>by
  have i1:∀ x∈a.thn,∀ y,Pure Tryz.prog 64 [.agg (stC x),.agg (stC y)] (.c (sB (eR x y))):=fun x hx y=>
   mM n x y (by have:=wi hx;omega)
  have i2:∀ x∈a.els,∀ y,Pure Tryz.prog 64 [.agg (stC x),.agg (stC y)] (.c (sB (eR x y))):=fun x hx y=>
   mM n x y (by have:=zj hx;omega)
  rw[pQ]
  refine fn2 (fn:=Tryz.f64) Tryz.call64 Tryz.func64 rfl Tryz.ntmps64 Tryz.results64 rfl (by rfl) ?_
  repeat'(first|(with_reducible first|apply AW.seq|apply AW.skip|apply AW.ret|apply aa|apply ak|apply y_e|refine ae ?_)|((with_reducible apply ai);first|refine t_v AS.v ?_|refine t_v (by first|exact aj (hP:=lG _ _)|exact aj (hP:=yr _ _)) ?_|refine t_w AS.w ?_)|((with_reducible apply aK);first|refine t_m (hs:=fun hg=>AS.v) (k:=?_)|refine t_m (hs:=fun hg=>(by first|exact aj (hP:=lG _ _)|exact aj (hP:=vT _ _)|exact aj (hP:=kV _ _)|exact aj (hP:=ou _ _)|exact aj (hP:=vq _ _)|exact aj (hP:=kF i1)|exact aj (hP:=kF i2))) (k:=?_))|((with_reducible refine aq ?_);((refine ah (fun hc=>?_) (fun hc=>?_))))|((with_reducible refine aM ?_);refine k_b ?_)|fail)
  all_goals
   clear i1 i2
   simp only[lV,xA]
   grind
theorem xm (a b:Stm):Pure Tryz.prog 64 [.agg (stC a),.agg (stC b)] (.c (sB (eR a b))):=mM _ a b (Nat.lt_succ_self _)
theorem vH (l m:List Stm):Pure Tryz.prog 22 [.c (.lst none 55 (l.map stC)),.c (.lst none 55 (m.map stC))] (.c (sB (gP eR l m))):=kF fun x _ y=>xm x y
theorem AP (a b:Mo):Pure Tryz.prog 16 [.agg (moC a),.agg (moC b)] (.c (sB (decide (a.name=b.name)&&decide (a.version=b.version)&&gP eR a.stmts b.stmts))):=by
 refine fn2 (fn:=Tryz.f16) Tryz.call16 Tryz.func16 rfl Tryz.ntmps16 Tryz.results16 rfl (by rfl) ?_
 repeat'(first|(with_reducible first|apply AW.seq|apply AW.ret|apply aa|apply y_e|refine ae ?_)|((with_reducible apply ai);first|refine t_v AS.v ?_|refine t_w AS.w ?_)|((with_reducible apply aK);first|refine t_m (hs:=fun hg=>AS.v) (k:=?_)|refine t_m (hs:=fun hg=>(by exact aj (hP:=vH _ _))) (k:=?_))|((with_reducible refine aM ?_);refine k_b ?_)|fail)
 rfl
end Am
namespace Am
open Tk Go.RowKit
set_option maxRecDepth 100000
set_option maxHeartbeats 4000000
theorem Po.ext' {a b:Po} (h1:a.line=b.line) (h2:a.col=b.col):a=b:=by cases a;cases b;simp_all
instance:DecidableEq Po:=fun a b=>if h:a.line=b.line∧a.col=b.col then isTrue (Po.ext' h.1 h.2) else isFalse fun e=>h (e▸⟨rfl,rfl⟩)
theorem Fa.ext' {a b:Fa} (h1:a.code=b.code) (h2:a.pos=b.pos) (h3:a.name=b.name):a=b:=by cases a;cases b;simp_all
instance:DecidableEq Fa:=fun a b=>if h:a.code=b.code∧a.pos=b.pos∧a.name=b.name then isTrue (Fa.ext' h.1 h.2.1 h.2.2) else isFalse fun e=>h (e▸⟨rfl,rfl,rfl⟩)
theorem sf (d:Nat) (a b c e:Int) (w:World):(Op.equalIn (d+2) 28 (.agg #[.int .i64 a,.int .i64 b]) (.agg #[.int .i64 c,.int .i64 e])).run Tryz.prog w= .ok ((a == c)&&(b == e)) w:=by
 have hS:Tryz.prog.underlying 28=some (.struct (Tryz.prog.fieldsOf 28)):=by kernel_rfl
 have hp:Tryz.prog.stoodInHeld 28=false:=by kernel_rfl
 rw[run_equalIn_agg w (d+1) 28 _ _ hS hp]
 simp only[Program.fieldsOf,Tryz.underlying28]
 go_simp
 by_cases h1:a=c <;> by_cases h2:b=e <;> simp[h1,h2]
theorem ql (d:Nat) (a b c i e f:Int) (s t:ByteArray) (w:World):(Op.equalIn (d+3) 30 (.agg #[.int .i64 a,.int .i64 b,.int .i64 c,.string s]) (.agg #[.int .i64 i,.int .i64 e,.int .i64 f,.string t])).run Tryz.prog w= .ok ((a == i)&&((b == e)&&(c == f))&&(s.toList == t.toList)) w:=by
 have hS:Tryz.prog.underlying 30=some (.struct (Tryz.prog.fieldsOf 30)):=by kernel_rfl
 have hp:Tryz.prog.stoodInHeld 30=false:=by kernel_rfl
 have hq:=sf d b c e f w
 rw[run_equalIn_agg w (d+2) 30 _ _ hS hp]
 simp only[Program.fieldsOf,Tryz.underlying30]
 go_simp
 by_cases h1:a=i
 ·by_cases h2:b=e
  ·by_cases h3:c=f
   ·by_cases h4:s.toList=t.toList
    ·simp[h1,h2,h3,h4]
    ·simp[h1,h2,h3,h4]
   ·simp[h1,h2,h3]
  ·simp[h1,h2]
 ·simp[h1]
theorem F3 (a b:Po):((a.line == b.line)&&(a.col == b.col))=decide (a=b):=by
 rw[Bool.eq_iff_iff]
 simp only[Bool.and_eq_true,beq_iff_eq,decide_eq_true_eq]
 exact⟨fun h=>Po.ext' h.1 h.2,fun h=>by rw[h];exact⟨rfl,rfl⟩⟩
theorem yR (a b:Fa):((a.code == b.code)&&((a.pos.line == b.pos.line)&&(a.pos.col == b.pos.col))&&(a.name.toList == b.name.toList))=decide (a=b):=by
 rw[Bool.eq_iff_iff]
 simp only[Bool.and_eq_true,beq_iff_eq,decide_eq_true_eq,kP]
 exact⟨fun h=>Fa.ext' h.1.1 (Po.ext' h.1.2.1 h.1.2.2) h.2,fun h=>by rw[h];exact⟨⟨rfl,rfl,rfl⟩,rfl⟩⟩
section
variable {ρ:Operand→Option V} {H:Nat→Option HO} {d:Option Nat} {ty t2:TypeId} {pos:String} {af:Array Edge} {gu:Option (Nat×Bool)} {x y:Operand}
theorem C3 {a b:Po} (hx:Ev ρ x (.agg (poC a)):=by exact aC) (hy:Ev ρ y (.agg (poC b)):=by exact aC):AS Tryz.prog ρ H ⟨d,.binOp .eql 28 x y t2,ty,pos,af,gu⟩ ⟨.c (sB (decide (a=b))),[],[]⟩:=by
 refine .still (x:=.bool (decide (a=b))) (fun q hq w=>?_) fun _=>.sc rfl
 have h1:=hq x (by simp[Op.operands]) _ _ hx (Cq.agg (vs:=[.int .i64 a.line,.int .i64 a.col]))
 have h2:=hq y (by simp[Op.operands]) _ _ hy (Cq.agg (vs:=[.int .i64 b.line,.int .i64 b.col]))
 have h3:(do eqGuard .eql 28 x y (.agg #[.int .i64 a.line,.int .i64 a.col]) (.agg #[.int .i64 b.line,.int .i64 b.col]);binOp .eql 28 (.agg #[.int .i64 a.line,.int .i64 a.col]) (.agg #[.int .i64 b.line,.int .i64 b.col]):Sem Value).run Tryz.prog w= .ok (.bool (decide (a=b))) w:=by
  have hz:(binOp .eql 28 (.agg #[.int .i64 a.line,.int .i64 a.col]) (.agg #[.int .i64 b.line,.int .i64 b.col])).run Tryz.prog w= .ok (.bool (decide (a=b))) w:=by
   rw[run_eql_struct,show(10000:Nat)=9998+2 from rfl,sf 9998,←F3];rfl
  have hg:(eqGuard .eql 28 x y (.agg #[.int .i64 a.line,.int .i64 a.col]) (.agg #[.int .i64 b.line,.int .i64 b.col])).run Tryz.prog w= .ok () w:=by simp[go_sem]
  rw[Sem.run_bind,hg,Result.andThen_ok,hz]
 unfold execOp
 simp only[h1,h2]
 simp only[Sem.run_bind] at h3 ⊢
 rw[h3]
 simp
theorem Bt {a b:Po} (hx:Ev ρ x (.agg (poC a)):=by exact aC) (hy:Ev ρ y (.agg (poC b)):=by exact aC):AS Tryz.prog ρ H ⟨d,.binOp .neq 28 x y t2,ty,pos,af,gu⟩ ⟨.c (sB (!decide (a=b))),[],[]⟩:=by
 refine .still (x:=.bool (!decide (a=b))) (fun q hq w=>?_) fun _=>.sc rfl
 have h1:=hq x (by simp[Op.operands]) _ _ hx (Cq.agg (vs:=[.int .i64 a.line,.int .i64 a.col]))
 have h2:=hq y (by simp[Op.operands]) _ _ hy (Cq.agg (vs:=[.int .i64 b.line,.int .i64 b.col]))
 have h3:(do eqGuard .neq 28 x y (.agg #[.int .i64 a.line,.int .i64 a.col]) (.agg #[.int .i64 b.line,.int .i64 b.col]);binOp .neq 28 (.agg #[.int .i64 a.line,.int .i64 a.col]) (.agg #[.int .i64 b.line,.int .i64 b.col]):Sem Value).run Tryz.prog w= .ok (.bool (!decide (a=b))) w:=by
  have hz:(binOp .neq 28 (.agg #[.int .i64 a.line,.int .i64 a.col]) (.agg #[.int .i64 b.line,.int .i64 b.col])).run Tryz.prog w= .ok (.bool (!decide (a=b))) w:=by
   rw[run_neq_struct,show(10000:Nat)=9998+2 from rfl,sf 9998,←F3];rfl
  have hg:(eqGuard .neq 28 x y (.agg #[.int .i64 a.line,.int .i64 a.col]) (.agg #[.int .i64 b.line,.int .i64 b.col])).run Tryz.prog w= .ok () w:=by simp[go_sem]
  rw[Sem.run_bind,hg,Result.andThen_ok,hz]
 unfold execOp
 simp only[h1,h2]
 simp only[Sem.run_bind] at h3 ⊢
 rw[h3]
 simp
theorem B2 {a b:Fa} (hx:Ev ρ x (.agg (faC a)):=by exact aC) (hy:Ev ρ y (.agg (faC b)):=by exact aC):AS Tryz.prog ρ H ⟨d,.binOp .eql 30 x y t2,ty,pos,af,gu⟩ ⟨.c (sB (decide (a=b))),[],[]⟩:=by
 refine .still (x:=.bool (decide (a=b))) (fun q hq w=>?_) fun _=>.sc rfl
 have h1:=hq x (by simp[Op.operands]) _ _ hx (Cq.agg (vs:=[.int .i64 a.code,.int .i64 a.pos.line,.int .i64 a.pos.col,.string a.name]))
 have h2:=hq y (by simp[Op.operands]) _ _ hy (Cq.agg (vs:=[.int .i64 b.code,.int .i64 b.pos.line,.int .i64 b.pos.col,.string b.name]))
 have h3:(do eqGuard .eql 30 x y (.agg #[.int .i64 a.code,.int .i64 a.pos.line,.int .i64 a.pos.col,.string a.name]) (.agg #[.int .i64 b.code,.int .i64 b.pos.line,.int .i64 b.pos.col,.string b.name]);binOp .eql 30 (.agg #[.int .i64 a.code,.int .i64 a.pos.line,.int .i64 a.pos.col,.string a.name]) (.agg #[.int .i64 b.code,.int .i64 b.pos.line,.int .i64 b.pos.col,.string b.name]):Sem Value).run Tryz.prog w= .ok (.bool (decide (a=b))) w:=by
  have hz:(binOp .eql 30 (.agg #[.int .i64 a.code,.int .i64 a.pos.line,.int .i64 a.pos.col,.string a.name]) (.agg #[.int .i64 b.code,.int .i64 b.pos.line,.int .i64 b.pos.col,.string b.name])).run Tryz.prog w= .ok (.bool (decide (a=b))) w:=by
   rw[run_eql_struct,show(10000:Nat)=9997+3 from rfl,ql 9997,←yR];rfl
  have hg:(eqGuard .eql 30 x y (.agg #[.int .i64 a.code,.int .i64 a.pos.line,.int .i64 a.pos.col,.string a.name]) (.agg #[.int .i64 b.code,.int .i64 b.pos.line,.int .i64 b.pos.col,.string b.name])).run Tryz.prog w= .ok () w:=by simp[go_sem]
  rw[Sem.run_bind,hg,Result.andThen_ok,hz]
 unfold execOp
 simp only[h1,h2]
 simp only[Sem.run_bind] at h3 ⊢
 rw[h3]
 simp
theorem C2 {a b:Fa} (hx:Ev ρ x (.agg (faC a)):=by exact aC) (hy:Ev ρ y (.agg (faC b)):=by exact aC):AS Tryz.prog ρ H ⟨d,.binOp .neq 30 x y t2,ty,pos,af,gu⟩ ⟨.c (sB (!decide (a=b))),[],[]⟩:=by
 refine .still (x:=.bool (!decide (a=b))) (fun q hq w=>?_) fun _=>.sc rfl
 have h1:=hq x (by simp[Op.operands]) _ _ hx (Cq.agg (vs:=[.int .i64 a.code,.int .i64 a.pos.line,.int .i64 a.pos.col,.string a.name]))
 have h2:=hq y (by simp[Op.operands]) _ _ hy (Cq.agg (vs:=[.int .i64 b.code,.int .i64 b.pos.line,.int .i64 b.pos.col,.string b.name]))
 have h3:(do eqGuard .neq 30 x y (.agg #[.int .i64 a.code,.int .i64 a.pos.line,.int .i64 a.pos.col,.string a.name]) (.agg #[.int .i64 b.code,.int .i64 b.pos.line,.int .i64 b.pos.col,.string b.name]);binOp .neq 30 (.agg #[.int .i64 a.code,.int .i64 a.pos.line,.int .i64 a.pos.col,.string a.name]) (.agg #[.int .i64 b.code,.int .i64 b.pos.line,.int .i64 b.pos.col,.string b.name]):Sem Value).run Tryz.prog w= .ok (.bool (!decide (a=b))) w:=by
  have hz:(binOp .neq 30 (.agg #[.int .i64 a.code,.int .i64 a.pos.line,.int .i64 a.pos.col,.string a.name]) (.agg #[.int .i64 b.code,.int .i64 b.pos.line,.int .i64 b.pos.col,.string b.name])).run Tryz.prog w= .ok (.bool (!decide (a=b))) w:=by
   rw[run_neq_struct,show(10000:Nat)=9997+3 from rfl,ql 9997,←yR];rfl
  have hg:(eqGuard .neq 30 x y (.agg #[.int .i64 a.code,.int .i64 a.pos.line,.int .i64 a.pos.col,.string a.name]) (.agg #[.int .i64 b.code,.int .i64 b.pos.line,.int .i64 b.pos.col,.string b.name])).run Tryz.prog w= .ok () w:=by simp[go_sem]
  rw[Sem.run_bind,hg,Result.andThen_ok,hz]
 unfold execOp
 simp only[h1,h2]
 simp only[Sem.run_bind] at h3 ⊢
 rw[h3]
 simp
end
end Am
namespace Am
set_option maxRecDepth 100000
set_option maxHeartbeats 4000000
theorem Bo (s:Stm):SizeOf.sizeOf s.thn<SizeOf.sizeOf s:=by
 cases s;simp only[Stm.mk.sizeOf_spec];omega
theorem Ai (s:Stm):SizeOf.sizeOf s.els<SizeOf.sizeOf s:=by
 cases s;simp only[Stm.mk.sizeOf_spec];omega
end Am
namespace Am
open Tk Go.RowKit
set_option maxRecDepth 100000
set_option maxHeartbeats 4000000
theorem oQ:∀ (n:Nat) (l:List Stm),SizeOf.sizeOf l<n→Pure Tryz.prog 17 [.c (.lst none 55 (l.map stC)),.c (.lst none 55 (l.map stC))] (.c (sB true))
 |0,_,h=>absurd h (Nat.not_lt_zero _)
 |n+1,l,h=>by
  have ht:∀ x∈l,Pure Tryz.prog 17 [.c (.lst none 55 (x.thn.map stC)),.c (.lst none 55 (x.thn.map stC))] (.c (sB true)):=fun x hx=>oQ n x.thn (by have:=List.sizeOf_lt_of_mem hx;have:=Bo x;omega)
  have he:∀ x∈l,Pure Tryz.prog 17 [.c (.lst none 55 (x.els.map stC)),.c (.lst none 55 (x.els.map stC))] (.c (sB true)):=fun x hx=>oQ n x.els (by have:=List.sizeOf_lt_of_mem hx;have:=Ai x;omega)
  refine fn2 (fn:=Tryz.f17) Tryz.call17 Tryz.func17 rfl Tryz.ntmps17 Tryz.results17 rfl (by rfl) ?_
  refine AW.fact (t:=0) rfl (fun κ w x hr=>mO hr) fun hn=>?_
  repeat'(first|(with_reducible first|apply AW.seq|apply AW.block|apply AW.skip|apply aa|apply y_e|refine ae ?_)|((with_reducible apply ai);refine t_v AS.v ?_)|((with_reducible refine aq ?_);((refine ah (fun hc=>?_) (fun hc=>?_);all_goals(try(exfalso;simp[*] at hc;done)))))|fail)
  refine AW.loop (fun n σ=>∃ j,n=l.length - j∧j≤l.length∧σ=mk [(0,.c (.lst none 55 (l.map stC))),(1,.c (.lst none 55 (l.map stC))),(5,.c (sI (j:Int)))] []) l.length ?_ ?_
  ·exact⟨_,wkA,0,rfl,Nat.zero_le _,rfl⟩
  rintro n σ ⟨j,rfl,hj,rfl⟩
  by_cases hlt:j<l.length
  ·obtain ⟨x,hx⟩:∃ x,l[j]? =some x:=⟨_,List.getElem?_eq_getElem hlt⟩
   have hm:=List.mem_of_getElem? hx
   have ht:=ht x hm
   have he:=he x hm
   repeat'(first|(with_reducible first|apply AW.seq|apply AW.block|apply AW.skip|apply aa|apply aw|apply y_e|refine ae ?_|refine b7 ?_)|((with_reducible apply ai);first|refine t_v AS.v ?_|refine t_v (by exact Bt) ?_)|((with_reducible apply aK);first|refine t_m (hs:=fun hg=>AS.v) (k:=?_)|refine t_m (hs:=fun hg=>(by first|exact aj (hP:=ht)|exact aj (hP:=he))) (k:=?_))|((with_reducible refine aq ?_);((refine ah (fun hc=>?_) (fun hc=>?_);all_goals(try(exfalso;simp[*] at hc;done)))))|(refine⟨by decide +kernel,?_⟩)|fail)
   all_goals((exact⟨_,_,(show l.length - (j+1)<l.length - j by omega),wkA,j+1,rfl,hlt,rfl⟩))
  ·repeat'(first|(with_reducible first|apply AW.seq|apply AW.ret|apply AW.exit|apply aa|apply aE|apply aH|apply y_e|refine ae ?_)|((with_reducible apply ai);refine t_v AS.v ?_)|((with_reducible refine aq ?_);((refine ah (fun hc=>?_) (fun hc=>?_);all_goals(try(exfalso;simp[*] at hc;done)))))|((with_reducible refine aM ?_);refine k_b ?_)|fail)
   rfl
theorem AX (l:List Stm):Pure Tryz.prog 17 [.c (.lst none 55 (l.map stC)),.c (.lst none 55 (l.map stC))] (.c (sB true)):=oQ _ l (Nat.lt_succ_self _)
end Am
namespace Am
open Tk Go.RowKit
set_option maxRecDepth 100000
set_option maxHeartbeats 4000000
def exS:Stm:={Stm.zero with kind:=12,op:=1,pos:=⟨1,13⟩,source:=⟨false,false,false,[⟨#[97]⟩],[]⟩,target:=⟨false,false,true,[⟨#[98]⟩],[]⟩,cls:=⟨false,false,false,[⟨#[102,105,108,101]⟩],[]⟩,perms:=⟨false,false,false,[⟨#[114,101,97,100]⟩,⟨#[119,114,105,116,101]⟩],[]⟩}
theorem FU:iy ⟨#[109,111,100,117,108,101,32,109,32,49,59,32,97,108,108,111,119,32,97,32,123,32,98,32,115,101,108,102,32,125,32,58,32,102,105,108,101,32,123,32,114,101,97,100,32,119,114,105,116,101,32,125,59]⟩= .ok ⟨⟨#[109]⟩,1,[exS]⟩:=by kernel_rfl
theorem Ft:iy ⟨#[109,111,100,117,108,101,32,109,32,49,59,32,97,108,108,111,119,32,115,101,108,102,32,98,32,58,32,102,105,108,101,32,114,101,97,100,59]⟩= .error ⟨9,⟨1,19⟩,⟨#[115,101,108,102]⟩⟩:=by kernel_rfl
theorem FF:iy ⟨#[109,111,100,117,108,101,32,109,32,49,48,48,48,48,59]⟩= .error ⟨3,⟨1,10⟩,⟨#[49,48,48,48,48]⟩⟩:=by kernel_rfl
theorem Fq:pD ⟨#[126,32,123,32,97,32,45,32,98,32,125]⟩= .ok ⟨false,true,false,[⟨#[97]⟩],[⟨#[98]⟩]⟩:=by kernel_rfl
theorem zI:Pure Tryz.prog 13 [] (.c (sB true)):=by
 obtain ⟨m1,s1,e1,hm,hk,ho,hp,hs,hl⟩:∃ m s,iy ⟨#[109,111,100,117,108,101,32,109,32,49,59,32,97,108,108,111,119,32,97,32,123,32,98,32,115,101,108,102,32,125,32,58,32,102,105,108,101,32,123,32,114,101,97,100,32,119,114,105,116,101,32,125,59]⟩= .ok m∧m.stmts=[s]∧s.kind=12∧s.op=1∧s.pos=⟨1,13⟩∧s.target.self=true∧s.perms.names.length=2:=⟨_,_,FU,rfl,rfl,rfl,rfl,rfl,rfl⟩
 obtain ⟨n1,e4,hn,hn1,hn2⟩:∃ n,pD ⟨#[126,32,123,32,97,32,45,32,98,32,125]⟩= .ok n∧n.nt=true∧n.names.length=1∧n.except.length=1:=⟨_,Fq,rfl,rfl,rfl⟩
 have p1:=lN ⟨#[109,111,100,117,108,101,32,109,32,49,59,32,97,108,108,111,119,32,97,32,123,32,98,32,115,101,108,102,32,125,32,58,32,102,105,108,101,32,123,32,114,101,97,100,32,119,114,105,116,101,32,125,59]⟩
 have p2:=lN ⟨#[109,111,100,117,108,101,32,109,32,49,59,32,97,108,108,111,119,32,115,101,108,102,32,98,32,58,32,102,105,108,101,32,114,101,97,100,59]⟩
 have p3:=lN ⟨#[109,111,100,117,108,101,32,109,32,49,48,48,48,48,59]⟩
 have p4:=AA ⟨#[126,32,123,32,97,32,45,32,98,32,125]⟩
 rw[e1] at p1
 rw[Ft] at p2
 rw[FF] at p3
 rw[e4] at p4
 have p1:Pure _ _ _ (.tup [.agg (moC m1),.agg (faC Fa.zero)]):=p1
 have p2:Pure _ _ _ (.tup [.agg (moC Mo.zero),.agg (faC ⟨9,⟨1,19⟩,⟨#[115,101,108,102]⟩⟩)]):=p2
 have p3:Pure _ _ _ (.tup [.agg (moC Mo.zero),.agg (faC ⟨3,⟨1,10⟩,⟨#[49,48,48,48,48]⟩⟩)]):=p3
 have p4:Pure _ _ _ (.tup [.agg (nsC n1),.agg (faC Fa.zero)]):=p4
 clear e1 e4
 have hg:(m1.stmts.map stC)[0]? =some (stC s1):=by rw[hm];rfl
 have hml:m1.stmts.length=1:=by rw[hm];rfl
 refine fn0 (fn:=Tryz.f13) Tryz.call13 Tryz.func13 rfl Tryz.ntmps13 Tryz.results13 rfl (by rfl) ?_
 repeat'(first|(with_reducible first|apply AW.seq|apply AW.skip|apply AW.ret|apply aa|apply ak|apply y_e|refine ae ?_)|((with_reducible apply ai);first|refine t_v AS.v ?_|refine t_v (by first|exact aj (hP:=p1)|exact aj (hP:=p2)|exact aj (hP:=p3)|exact aj (hP:=p4)) ?_|refine t_w AS.w ?_)|((with_reducible apply aK);first|refine t_m (hs:=fun hg=>AS.v) (k:=?_)|refine t_m (hs:=fun hg=>(by first|exact C2|exact C3)) (k:=?_))|((with_reducible apply ay);refine t_s AS.s ?_)|((with_reducible refine aq ?_);((refine ah (fun hc=>?_) (fun hc=>?_))))|((with_reducible refine aM ?_);refine k_b ?_)|fail)
 ·exfalso
  simp[hml,Fa.zero] at hc
 ·simp[hk,ho,hp,hs,hl,hn,hn1,hn2,Fa.zero]
end Am
namespace Am
open Tk Go.RowKit
set_option maxRecDepth 100000
set_option maxHeartbeats 4000000
theorem Fl (x:Except Fa Mo):∃ m f,rtV (.agg (moC Mo.zero)) (fun x=>.agg (moC x)) x= .tup [.agg (moC m),.agg (faC f)]:=by
 cases x with
 |ok y=>exact⟨y,Fa.zero,rfl⟩
 |error f=>exact⟨Mo.zero,f,rfl⟩
theorem law_parse (src:ByteArray):Pure Tryz.prog 3 [.c (sS src)] (.c (sB true)):=by
 have al:=zI
 by_cases hs:src.size≤9000
 ·have p1:=lN src
  have p2:=uJ src
  obtain ⟨m,f,e⟩:=Fl (iy src)
  rw[e] at p1 p2
  clear e
  have p3:=AP m m
  rw[yP rfl] at p3
  have p4:=AX m.stmts
  refine fn1 (fn:=Tryz.f3) Tryz.call3 Tryz.func3 rfl Tryz.ntmps3 Tryz.results3 rfl (by rfl) ?_
  repeat'(first|(with_reducible first|apply AW.seq|apply AW.skip|apply AW.ret|apply aa|apply y_e|refine ae ?_)|((with_reducible apply ai);first|refine t_v AS.v ?_|refine t_v (by first|exact aj (hP:=p1)|exact aj (hP:=p2)|exact B2) ?_|refine t_w AS.w ?_)|((with_reducible apply aK);first|refine t_m (hs:=fun hg=>AS.v) (k:=?_)|refine t_m (hs:=fun hg=>(by first|exact aj (hP:=al)|exact aj (hP:=p3)|exact aj (hP:=p4))) (k:=?_))|((with_reducible apply ay);refine t_s AS.s ?_)|((with_reducible refine aq ?_);((refine ah (fun hc=>?_) (fun hc=>?_);all_goals(try(exfalso;revert hc;simp;omega)))))|((with_reducible refine aM ?_);refine k_b ?_)|fail)
  all_goals simp
 ·refine fn1 (fn:=Tryz.f3) Tryz.call3 Tryz.func3 rfl Tryz.ntmps3 Tryz.results3 rfl (by rfl) ?_
  repeat'(first|(with_reducible first|apply AW.seq|apply AW.ret|apply aa|apply ak|apply y_e|refine ae ?_)|((with_reducible apply ai);first|refine t_v AS.v ?_|refine t_v (by exact aj (hP:=al)) ?_)|((with_reducible refine aq ?_);((refine ah (fun hc=>?_) (fun hc=>?_);all_goals(try(exfalso;revert hc;simp;omega)))))|((with_reducible refine aM ?_);refine k_b ?_)|fail)
  rfl
end Am
end Go.Proofs.YtkpodagbefnebaaGreatDoor
