import Derived.Test.YtkpodagbefnebaaGreatDoorYg18
import Derived.Test.YtkpodagbefnebaaGreatDoorYg20
set_option linter.unusedSimpArgs false
set_option linter.unusedVariables false
set_option linter.unusedSectionVars false
namespace Go.Proofs.YtkpodagbefnebaaGreatDoor
namespace Am
open Tk
theorem jA {c:Int} {ts:List Tok} {i:Nat} {α:Type} {g:Fa} (h:(Except.error (flK c ts i):Except Fa α)= .error g):g.name=⟨#[]⟩:=by
 injection h with h;subst h;rfl
theorem vu (ts:List Tok):∀ f:Nat,(∀ {i d:Nat} {g:Fa},dv ts f i d= .error g→g.name=⟨#[]⟩)∧(∀ {n i d:Nat} {g:Fa},dX ts f n i d= .error g→g.name=⟨#[]⟩)∧(∀ {n i d:Nat} {e:Ex} {g:Fa},eN ts f n e i d= .error g→g.name=⟨#[]⟩)
 |0=>⟨fun h=>(by rw[dv] at h;exact jA h),fun h=>(by rw[dX] at h;exact jA h),fun h=>(by rw[eN] at h;exact jA h)⟩
 |f+1=>by
  obtain ⟨i1,i2,i3⟩:=vu ts f
  refine⟨fun {i d g} h=>?_,fun {n i d g} h=>?_,fun {n i d e g} h=>?_⟩
  ·rw[dv] at h
   split at h
   ·split at h
    ·exact jA h
    ·rcases dr h with h|⟨a,_,h⟩
     ·exact i1 h
     ·cases h
   ·split at h
    ·split at h
     ·exact jA h
     ·rcases dr h with h|⟨a,_,h⟩
      ·exact i2 h
      ·try dsimp only at h
       split at h
       ·cases h
       ·exact jA h
    ·split at h
     ·cases h
     ·exact jA h
  ·rw[dX] at h
   split at h
   ·exact i1 h
   ·rcases dr h with h|⟨a,_,h⟩
    ·exact i2 h
    ·exact i3 h
  ·rw[eN] at h
   split at h
   ·cases h
   ·rcases dr h with h|⟨a,_,h⟩
    ·exact i2 h
    ·exact i3 h
theorem FR {ts:List Tok} {g:Fa} (h:tksK ts= .error g):g.name=⟨#[]⟩:=by
 unfold tksK at h
 rcases dr h with h|⟨a,_,h⟩
 ·exact(vu ts _).2.1 h
 ·try dsimp only at h
  split at h
  ·exact jA h
  ·cases h
def NZ (l:List Tok) {β:Type} (x:Except Fa β):Prop:=∀ g,x= .error g→g.code≠0∧(g.name=⟨#[]⟩∨∃ t∈l,g.name=t.text)
section
variable {l:List Tok}
theorem NZ.ok {β:Type} (b:β):NZ l (.ok b:Except Fa β):=fun g h=>(by cases h)
theorem NZ.fl {β:Type} {c:Int} {k:Ix l} (hc:c≠0):NZ l (.error (flt c (tk k)):Except Fa β):=fun g h=>(by injection h with h;subst h;exact⟨hc,.inr ⟨tk k,List.getElem_mem _,rfl⟩⟩)
theorem NZ.f0 {β:Type} {c:Int} {p:Po} (hc:c≠0):NZ l (.error (fl0 c p):Except Fa β):=fun g h=>(by injection h with h;subst h;exact⟨hc,.inl rfl⟩)
theorem NZ.ite {β:Type} {p:Prop} [Decidable p] {x y:Except Fa β} (h1:NZ l x) (h2:NZ l y):NZ l (if p then x else y):=by
 by_cases hp:p
 ·rw[if_pos hp];exact h1
 ·rw[if_neg hp];exact h2
theorem NZ.bind {α β:Type} {x:Except Fa α} {f:α→Except Fa β} (h:NZ l x) (k:∀ a,NZ l (f a)):NZ l (x>>=f):=fun g e=>by
 rcases dr e with e|⟨a,_,e⟩
 ·exact h g e
 ·exact k a g e
theorem eK (s:ByteArray) (k:Ix l):NZ l (ez s k):=by
 unfold ez
 repeat'(first|exact NZ.ok _|exact NZ.fl (by decide)|(with_reducible refine NZ.ite ?_ ?_))
theorem tY (s:ByteArray) (k:Ix l):NZ l (eO s k):=by
 unfold eO
 repeat'(first|exact NZ.ok _|exact NZ.fl (by decide)|(with_reducible refine NZ.ite ?_ ?_))
theorem eJ (k:Ix l):NZ l (bV k):=by
 unfold bV
 repeat'(first|exact NZ.ok _|exact NZ.fl (by decide)|(with_reducible refine NZ.ite ?_ ?_))
theorem nY:∀ (n:Nat) (acc:List ByteArray) (k:Ix l),NZ l (cu n acc k)
 |0,_,_=>by rw[cu];exact NZ.fl (by decide)
 |n+1,_,_=>by
  rw[cu]
  repeat'(first|exact NZ.ok _|exact eJ _|exact nY n _ _|(with_reducible refine NZ.bind ?_ fun x=>?_)|(with_reducible refine NZ.ite ?_ ?_))
theorem lX (k:Ix l):NZ l (cD k):=by
 unfold cD
 repeat'(first|exact eK _ _|exact eJ _|exact nY _ _ _|(with_reducible refine NZ.bind ?_ fun x=>?_))
theorem kB:∀ (n:Nat) (acc:List ByteArray) (k:Ix l),NZ l (bp n acc k)
 |0,_,_=>by rw[bp];exact NZ.fl (by decide)
 |n+1,_,_=>by
  rw[bp]
  repeat'(first|exact NZ.ok _|exact eJ _|exact kB n _ _|(with_reducible refine NZ.bind ?_ fun x=>?_)|(with_reducible refine NZ.ite ?_ ?_))
theorem qs (k:Ix l):NZ l (dH k):=by
 unfold dH
 repeat'(first|exact eJ _|exact kB _ _ _|(with_reducible refine NZ.bind ?_ fun x=>?_))
theorem xx (a b:Bool) (s:NS) (k:Ix l):NZ l (fw a b s k):=by
 unfold fw
 repeat'(first|exact NZ.ok _|exact eJ _|(with_reducible refine NZ.bind ?_ fun x=>?_)|(with_reducible refine NZ.ite ?_ ?_))
theorem yg (a:Bool):∀ (n:Nat) (s:NS) (k:Ix l),NZ l (ig a n s k)
 |0,_,_=>by rw[ig];exact NZ.fl (by decide)
 |n+1,_,_=>by
  rw[ig]
  repeat'(first|exact NZ.ok _|exact xx _ _ _ _|exact yg a n _ _|(with_reducible refine NZ.bind ?_ fun x=>?_)|(with_reducible refine NZ.ite ?_ ?_))
theorem pA (a:Bool) (k:Ix l):NZ l (eG a k):=by
 unfold eG
 repeat'(first|exact NZ.ok _|exact eJ _|exact xx _ _ _ _|exact yg _ _ _ _|(with_reducible refine NZ.bind ?_ fun x=>?_)|(with_reducible refine NZ.ite ?_ ?_))
theorem zu (k:Ix l):NZ l (fm k):=by
 unfold fm
 repeat'(first|exact NZ.ok _|exact eJ _|(with_reducible refine NZ.bind ?_ fun x=>?_)|(with_reducible refine NZ.ite ?_ ?_))
theorem qq:∀ (n:Nat) (v:Lv) (k:Ix l),NZ l (cP n v k)
 |0,_,_=>by rw[cP];exact NZ.fl (by decide)
 |n+1,_,_=>by
  rw[cP]
  repeat'(first|exact NZ.ok _|exact zu _|exact qq n _ _|(with_reducible refine NZ.bind ?_ fun x=>?_)|(with_reducible refine NZ.ite ?_ ?_))
theorem tJ (k:Ix l):NZ l (eD k):=by
 unfold eD
 repeat'(first|exact NZ.ok _|exact eJ _|exact qq _ _ _|(with_reducible refine NZ.bind ?_ fun x=>?_)|(with_reducible refine NZ.ite ?_ ?_))
theorem pn (k:Ix l):NZ l (fk k):=by
 unfold fk
 repeat'(first|exact NZ.ok _|exact tJ _|(with_reducible refine NZ.bind ?_ fun x=>?_)|(with_reducible refine NZ.ite ?_ ?_))
theorem vA (k:Ix l):NZ l (da k):=by
 unfold da
 repeat'(first|exact NZ.ok _|exact eK _ _|exact eJ _|exact pn _|(with_reducible refine NZ.bind ?_ fun x=>?_))
theorem lY (ws:List ByteArray) (k:Ix l):NZ l (cU ws k):=by
 unfold cU
 repeat'(first|exact NZ.ok _|exact NZ.fl (by decide)|split)
theorem DL (v:Bool) (k:Ix l):NZ l (gC v k):=by
 unfold gC
 repeat'(first|exact NZ.ok _|exact NZ.fl (by decide)|(with_reducible refine NZ.ite ?_ ?_)|split)
theorem Im (k:Ix l):NZ l (js k):=by
 unfold js
 repeat'(first|exact NZ.ok _|exact lY _ _|(with_reducible refine NZ.bind ?_ fun x=>?_)|(with_reducible refine NZ.ite ?_ ?_))
theorem od (v:Bool) (k:Ix l):NZ l (kk v k):=by
 unfold kk
 repeat'(first|exact NZ.ok _|exact eJ _|exact lX _|exact DL _ _|exact Im _|(with_reducible refine NZ.bind ?_ fun x=>?_)|(with_reducible refine NZ.ite ?_ ?_))
theorem xq (v:Bool):∀ n:Nat,(∀ k:Ix l,NZ l (dD v n k))∧(∀ k:Ix l,NZ l (fe v n k))∧(∀ (e:Ex) (k:Ix l),NZ l (cF v n e k))∧(∀ k:Ix l,NZ l (ff v n k))∧(∀ (e:Ex) (k:Ix l),NZ l (cG v n e k))
 |0=>⟨fun k=>(by rw[dD];exact NZ.fl (by decide)),fun k=>(by rw[fe];exact NZ.fl (by decide)),fun e k=>(by rw[cF];exact NZ.fl (by decide)),fun k=>(by rw[ff];exact NZ.fl (by decide)),fun e k=>(by rw[cG];exact NZ.fl (by decide))⟩
 |n+1=>by
  obtain ⟨i1,i2,i3,i4,i5⟩:=xq v n
  refine⟨fun k=>?_,fun k=>?_,fun e k=>?_,fun k=>?_,fun e k=>?_⟩
  ·rw[dD]
   repeat'(first|exact NZ.ok _|exact eK _ _|exact od _ _|exact i1 _|exact i2 _|exact i3 _ _|exact i4 _|exact i5 _ _|(with_reducible refine NZ.bind ?_ fun x=>?_)|(with_reducible refine NZ.ite ?_ ?_))
  ·rw[fe]
   repeat'(first|exact NZ.ok _|exact eK _ _|exact od _ _|exact i1 _|exact i2 _|exact i3 _ _|exact i4 _|exact i5 _ _|(with_reducible refine NZ.bind ?_ fun x=>?_)|(with_reducible refine NZ.ite ?_ ?_))
  ·rw[cF]
   repeat'(first|exact NZ.ok _|exact eK _ _|exact od _ _|exact i1 _|exact i2 _|exact i3 _ _|exact i4 _|exact i5 _ _|(with_reducible refine NZ.bind ?_ fun x=>?_)|(with_reducible refine NZ.ite ?_ ?_))
  ·rw[ff]
   repeat'(first|exact NZ.ok _|exact eK _ _|exact od _ _|exact i1 _|exact i2 _|exact i3 _ _|exact i4 _|exact i5 _ _|(with_reducible refine NZ.bind ?_ fun x=>?_)|(with_reducible refine NZ.ite ?_ ?_))
  ·rw[cG]
   repeat'(first|exact NZ.ok _|exact eK _ _|exact od _ _|exact i1 _|exact i2 _|exact i3 _ _|exact i4 _|exact i5 _ _|(with_reducible refine NZ.bind ?_ fun x=>?_)|(with_reducible refine NZ.ite ?_ ?_))
theorem yC (v:Bool) (k:Ix l):NZ l (dG v k):=by
 unfold dG
 repeat'(first|exact NZ.ok _|exact NZ.fl (by decide)|exact(xq _ _).2.2.2.1 _|(with_reducible refine NZ.bind ?_ fun x=>?_)|(with_reducible refine NZ.ite ?_ ?_))
theorem FM (k:Ix l):NZ l (iI k):=by
 unfold iI
 repeat'(first|exact NZ.ok _|exact NZ.fl (by decide)|(with_reducible refine NZ.ite ?_ ?_))
theorem E7 (w:ByteArray) (s:Stm) (k:Ix l):NZ l (bM w s k):=by
 unfold bM
 repeat'(first|exact NZ.ok _|exact tY _ _|exact eJ _|exact lX _|exact kB _ _ _|exact qs _|exact pA _ _|exact tJ _|exact pn _|exact lY _ _|(with_reducible refine NZ.bind ?_ fun x=>?_)|(with_reducible refine NZ.ite ?_ ?_))
theorem F4 (b:Bool) (s:Stm) (k:Ix l):NZ l (gr b s k):=by
 unfold gr
 repeat'(first|exact NZ.ok _|exact eK _ _|exact pA _ _|(with_reducible refine NZ.bind ?_ fun x=>?_))
theorem Ft (w:ByteArray) (s:Stm) (k:Ix l):NZ l (dh w s k):=by
 unfold dh
 repeat'(first|exact NZ.ok _|exact NZ.fl (by decide)|exact eJ _|exact pA _ _|exact pn _|exact yC _ _|exact F4 _ _ _|(with_reducible refine NZ.bind ?_ fun x=>?_)|(with_reducible refine NZ.ite ?_ ?_))
theorem BQ (w:ByteArray) (s:Stm) (k:Ix l):NZ l (cW w s k):=by
 unfold cW
 repeat'(first|exact NZ.ok _|exact eJ _|exact lX _|exact qs _|exact pA _ _|exact vA _|exact lY _ _|exact FM _|(with_reducible refine NZ.bind ?_ fun x=>?_)|(with_reducible refine NZ.ite ?_ ?_))
theorem lJ (w:ByteArray) (s:Stm) (k:Ix l):NZ l (bn w s k):=by
 unfold bn
 repeat'(first|exact NZ.ok _|exact eK _ _|exact E7 _ _ _|exact Ft _ _ _|exact BQ _ _ _|(with_reducible refine NZ.bind ?_ fun x=>?_)|(with_reducible refine NZ.ite ?_ ?_))
theorem Ew (k:Ix l):NZ l (gm k):=by
 unfold gm
 repeat'(first|exact NZ.ok _|exact NZ.fl (by decide)|exact eK _ _|exact tY _ _|exact eJ _|(with_reducible refine NZ.bind ?_ fun x=>?_)|(with_reducible refine NZ.ite ?_ ?_))
theorem nn (k:Ix l):NZ l (fQ tksK k):=by
 unfold fQ
 exact NZ.bind (fun g h=>⟨v8 h,.inl (FR h)⟩) fun x=>NZ.ok _
theorem uW:∀ n:Nat,(∀ (d:Nat) (k:Ix l) (c:Nat),NZ l (cT tksK n d k c))∧(∀ (d:Nat) (b:Bool) (s:Stm) (k:Ix l) (c:Nat),NZ l (cm tksK n d b s k c))∧(∀ (d:Nat) (k:Ix l) (c:Nat),NZ l (cE tksK n d k c))∧(∀ (d:Nat) (a:List Stm) (k:Ix l) (c:Nat),NZ l (ct tksK n d a k c))
 |0=>⟨fun d k c=>(by rw[cT];exact NZ.fl (by decide)),fun d b s k c=>(by rw[cm];exact NZ.fl (by decide)),fun d k c=>(by rw[cE];exact NZ.fl (by decide)),fun d a k c=>(by rw[ct];exact NZ.fl (by decide))⟩
 |n+1=>by
  obtain ⟨i1,i2,i3,i4⟩:=uW n
  refine⟨fun d k c=>?_,fun d b s k c=>?_,fun d k c=>?_,fun d a k c=>?_⟩
  ·rw[cT]
   repeat'(first|exact NZ.ok _|exact NZ.fl (by decide)|exact eK _ _|exact lJ _ _ _|exact nn _|exact i1 _ _ _|exact i2 _ _ _ _ _|exact i3 _ _ _|exact i4 _ _ _ _|(with_reducible refine NZ.bind ?_ fun x=>?_)|(with_reducible refine NZ.ite ?_ ?_))
  ·rw[cm]
   repeat'(first|exact NZ.ok _|exact NZ.fl (by decide)|exact eK _ _|exact lJ _ _ _|exact nn _|exact i1 _ _ _|exact i2 _ _ _ _ _|exact i3 _ _ _|exact i4 _ _ _ _|(with_reducible refine NZ.bind ?_ fun x=>?_)|(with_reducible refine NZ.ite ?_ ?_))
  ·rw[cE]
   repeat'(first|exact NZ.ok _|exact NZ.fl (by decide)|exact eK _ _|exact lJ _ _ _|exact nn _|exact i1 _ _ _|exact i2 _ _ _ _ _|exact i3 _ _ _|exact i4 _ _ _ _|(with_reducible refine NZ.bind ?_ fun x=>?_)|(with_reducible refine NZ.ite ?_ ?_))
  ·rw[ct]
   repeat'(first|exact NZ.ok _|exact NZ.fl (by decide)|exact eK _ _|exact lJ _ _ _|exact nn _|exact i1 _ _ _|exact i2 _ _ _ _ _|exact i3 _ _ _|exact i4 _ _ _ _|(with_reducible refine NZ.bind ?_ fun x=>?_)|(with_reducible refine NZ.ite ?_ ?_))
def lx (k:Ix l):Except Fa (Mo×(Ix l×Nat)):=gm k>>=fun x=>ct tksK (fuel l) 0 [] x.2 0>>=fun y=>.ok ({x.1 with stmts:=y.1},y.2)
def zQ {α:Type} (x:Except Fa (α×Ix l)):Except Fa (α×(Ix l×Nat)):=x>>=fun y=>.ok (y.1,(y.2,0))
theorem EK (k:Ix l):NZ l (lx k):=by
 unfold lx
 repeat'(first|exact NZ.ok _|exact Ew _|exact(uW _).2.2.2 _ _ _ _|(with_reducible refine NZ.bind ?_ fun x=>?_))
theorem KW {α:Type} {x:Except Fa (α×Ix l)} (h:NZ l x):NZ l (zQ x):=NZ.bind h fun _=>NZ.ok _
end
def sr {α:Type} (src:ByteArray) (sp:∀ l:List Tok,Ix l→Except Fa (α×(Ix l×Nat))):Except Fa α:=
 fS src>>=fun l=>if h:0<l.length then sp l ⟨0,h⟩>>=fun x=>if(tk x.2.1).kind=0 then .ok x.1 else .error (flt 9 (tk x.2.1)) else .error (fl0 9 ⟨0,0⟩)
theorem uM (src:ByteArray):∀ n k:Nat,NZ [] (ku src n k)
 |0,_=>NZ.ok _
 |n+1,k=>by
  rw[ku]
  split
  ·exact NZ.ok _
  ·split
   ·rename_i c off ho
    exact NZ.f0 (qy ho)
   ·exact NZ.bind (uM src n _) fun _=>NZ.ok _
theorem uP (src:ByteArray):NZ [] (fS src):=by
 unfold fS
 split
 ·exact NZ.f0 (by decide)
 ·exact uM _ _ _
def NZs {α:Type} (sp:∀ l:List Tok,Ix l→Except Fa (α×(Ix l×Nat))):Prop:=∀ (l:List Tok) (k:Ix l),NZ l (sp l k)
theorem Fu {α:Type} (src:ByteArray) {sp:∀ l:List Tok,Ix l→Except Fa (α×(Ix l×Nat))} (h:NZs sp) {f:Fa} (hf:sr src sp= .error f):f.code≠0:=by
 unfold sr at hf
 rcases dr hf with hf|⟨l,_,hf⟩
 ·exact(uP _ f hf).1
 ·split at hf
  ·rename_i hl
   refine(NZ.bind (h l ⟨0,hl⟩) (fun x=>?_) f hf).1
   split
   ·exact NZ.ok _
   ·exact NZ.fl (by decide)
  ·injection hf with hf;subst hf;exact(by decide:(9:Int)≠0)
def iM (src:ByteArray):Except Fa Mo:=sr src fun _ k=>lx k
def rL (src:ByteArray):Except Fa NS:=sr src fun _ k=>zQ (eG true k)
end Am
namespace Am
open Tk
set_option maxRecDepth 100000
set_option maxHeartbeats 4000000
def npT (t:Tok):Tok:={t with pos:=⟨0,0⟩}
def npF (f:Fa):Fa:={f with pos:=⟨0,0⟩}
mutual
def npS:Stm→Stm
 |⟨a1,a2,_,a4,a5,a6,a7,a8,a9,a10,a11,a12,a13,a14,a15,a16,a17,t,e⟩=>⟨a1,a2,⟨0,0⟩,a4,a5,a6,a7,a8,a9,a10,a11,a12,a13,a14,a15,a16,a17,tZ t,tZ e⟩
def tZ:List Stm→List Stm
 |[]=>[]
 |x :: l=>npS x :: tZ l
end
theorem jG:∀ l:List Stm,tZ l=l.map npS
 |[]=>rfl
 |x :: l=>by rw[tZ,jG l];rfl
theorem aw (s:Stm):npS s= {s with pos:=⟨0,0⟩,thn:=s.thn.map npS,els:=s.els.map npS}:=by
 cases s;rw[npS,jG,jG]
def npM (m:Mo):Mo:={m with stmts:=m.stmts.map npS}
def npE {α β:Type} (g:α→β):Except Fa α→Except Fa β
 | .ok a=>.ok (g a)
 | .error f=>.error (npF f)
def npB {α β:Type} (x:Except Fa α) (g:α→Except Fa β):Except Fa β:=match x with
 | .ok a=>g a
 | .error f=>.error (npF f)
theorem ba {α β:Type} (g:α→β) (a:α):npE g (.ok a)= .ok (g a):=rfl
theorem aO {α β:Type} (g:α→β) (f:Fa):npE g (.error f)= .error (npF f):=rfl
theorem aP {α β:Type} {c:Prop} [Decidable c] (g:α→β) (x y:Except Fa α):npE g (if c then x else y)=if c then npE g x else npE g y:=by
 by_cases h:c
 ·rw[if_pos h,if_pos h]
 ·rw[if_neg h,if_neg h]
theorem bF {α β γ:Type} (h:α→β) (x:Except Fa α) (g:β→Except Fa γ):(npE h x>>=g)=npB x fun a=>g (h a):=by cases x <;> rfl
theorem bG {α β γ:Type} (h:β→γ) (x:Except Fa α) (g:α→Except Fa β):npE h (x>>=g)=npB x fun a=>npE h (g a):=by cases x <;> rfl
theorem cH {α β:Type} {c:Prop} [Decidable c] (a b:Except Fa α) (g:α→Except Fa β):((if c then a else b)>>=g)=if c then a>>=g else b>>=g:=by
 by_cases h:c
 ·rw[if_pos h,if_pos h]
 ·rw[if_neg h,if_neg h]
theorem aI (t:Tok):(npT t).kind=t.kind:=rfl
theorem aH (t:Tok):(npT t).text=t.text:=rfl
theorem aQ (t:Tok):(npT t).pos=⟨0,0⟩:=rfl
section
variable {l:List Tok}
def npI (k:Ix l):Ix (l.map npT):=⟨k.1,by rw[List.length_map];exact k.2⟩
def npK {α β:Type} (g:α→β) (x:α×Ix l):β×Ix (l.map npT):=(g x.1,npI x.2)
def npN {α β:Type} (g:α→β) (x:α×(Ix l×Nat)):β×(Ix (l.map npT)×Nat):=(g x.1,(npI x.2.1,x.2.2))
theorem bb {α β:Type} (g:α→β) (a:α) (k:Ix l):npK g (a,k)=(g a,npI k):=rfl
theorem bH {α β:Type} (g:α→β) (x:α×Ix l):(npK g x).1=g x.1:=rfl
theorem bI {α β:Type} (g:α→β) (x:α×Ix l):(npK g x).2=npI x.2:=rfl
theorem bJ {α β:Type} (g:α→β) (x:α×(Ix l×Nat)):(npN g x).1=g x.1:=rfl
theorem bK {α β:Type} (g:α→β) (x:α×(Ix l×Nat)):(npN g x).2=(npI x.2.1,x.2.2):=rfl
theorem bq (k:Ix l):tk (npI k)=npT (tk k):=by
 unfold tk npI
 exact List.getElem_map ..
theorem bE (k:Ix l):nx (npI k)=npI (nx k):=by
 unfold nx npI
 simp only[List.length_map]
 split <;> rfl
theorem aR:fuel (l.map npT)=fuel l:=by unfold fuel;rw[List.length_map]
theorem bf (s:ByteArray) (k:Ix l):isM s (npI k)=isM s k:=by unfold isM;rw[bq];rfl
theorem aZ (s:ByteArray) (k:Ix l):isW s (npI k)=isW s k:=by unfold isW;rw[bq];rfl
theorem aS (k:Ix l):dU (npI k)=dU k:=by unfold dU;rw[bq];rfl
theorem bc (b:Bool) (k:Ix l):adv b (npI k)=npI (adv b k):=by
 unfold adv
 split
 ·exact bE k
 ·rfl
theorem bd (c:Int) (t:Tok):flt c (npT t)=npF (flt c t):=rfl
theorem iC (s:ByteArray) (k:Ix l):ez s (npI k)=npE (npK id) (ez s k):=by unfold ez;simp only[ba,aO,aP,bF,bG,cH,aa,aI,aH,aQ,bb,bH,bI,bJ,bK,bq,bE,aR,bf,aZ,aS,bc,bd,id_eq]
theorem u7 (s:ByteArray) (k:Ix l):eO s (npI k)=npE (npK id) (eO s k):=by unfold eO;simp only[ba,aO,aP,bF,bG,cH,aa,aI,aH,aQ,bb,bH,bI,bJ,bK,bq,bE,aR,bf,aZ,aS,bc,bd,id_eq]
theorem eM (k:Ix l):bV (npI k)=npE (npK id) (bV k):=by unfold bV;simp only[ba,aO,aP,bF,bG,cH,aa,aI,aH,aQ,bb,bH,bI,bJ,bK,bq,bE,aR,bf,aZ,aS,bc,bd,id_eq]
theorem oL:∀ (n:Nat) (acc:List ByteArray) (k:Ix l),cu n acc (npI k)=npE (npK id) (cu n acc k)
 |0,_,k=>by rw[cu,cu];simp only[ba,aO,aP,bF,bG,cH,aa,aI,aH,aQ,bb,bH,bI,bJ,bK,bq,bE,aR,bf,aZ,aS,bc,bd,id_eq]
 |n+1,acc,k=>by rw[cu,cu];have ih:=fun acc (k:Ix l)=>oL n acc k;simp only[ba,aO,aP,bF,bG,cH,aa,aI,aH,aQ,bb,bH,bI,bJ,bK,bq,bE,aR,bf,aZ,aS,bc,bd,id_eq,eM,ih]
theorem mn (k:Ix l):cD (npI k)=npE (npK id) (cD k):=by unfold cD;simp only[ba,aO,aP,bF,bG,cH,aa,aI,aH,aQ,bb,bH,bI,bJ,bK,bq,bE,aR,bf,aZ,aS,bc,bd,id_eq,iC,eM,oL]
theorem kG:∀ (n:Nat) (acc:List ByteArray) (k:Ix l),bp n acc (npI k)=npE (npK id) (bp n acc k)
 |0,_,k=>by rw[bp,bp];simp only[ba,aO,aP,bF,bG,cH,aa,aI,aH,aQ,bb,bH,bI,bJ,bK,bq,bE,aR,bf,aZ,aS,bc,bd,id_eq]
 |n+1,acc,k=>by rw[bp,bp];have ih:=fun acc (k:Ix l)=>kG n acc k;simp only[ba,aO,aP,bF,bG,cH,aa,aI,aH,aQ,bb,bH,bI,bJ,bK,bq,bE,aR,bf,aZ,aS,bc,bd,id_eq,eM,ih]
theorem qw (k:Ix l):dH (npI k)=npE (npK id) (dH k):=by unfold dH;simp only[ba,aO,aP,bF,bG,cH,aa,aI,aH,aQ,bb,bH,bI,bJ,bK,bq,bE,aR,bf,aZ,aS,bc,bd,id_eq,eM,kG]
theorem xT (self minus:Bool) (n:NS) (k:Ix l):fw self minus n (npI k)=npE (npK id) (fw self minus n k):=by unfold fw;simp only[ba,aO,aP,bF,bG,cH,aa,aI,aH,aQ,bb,bH,bI,bJ,bK,bq,bE,aR,bf,aZ,aS,bc,bd,id_eq,eM]
theorem xU (self:Bool):∀ (m:Nat) (n:NS) (k:Ix l),ig self m n (npI k)=npE (npK id) (ig self m n k)
 |0,_,k=>by rw[ig,ig];simp only[ba,aO,aP,bF,bG,cH,aa,aI,aH,aQ,bb,bH,bI,bJ,bK,bq,bE,aR,bf,aZ,aS,bc,bd,id_eq]
 |m+1,n,k=>by rw[ig,ig];have ih:=fun n (k:Ix l)=>xU self m n k;simp only[ba,aO,aP,bF,bG,cH,aa,aI,aH,aQ,bb,bH,bI,bJ,bK,bq,bE,aR,bf,aZ,aS,bc,bd,id_eq,xT,ih]
theorem rP (self:Bool) (k:Ix l):eG self (npI k)=npE (npK id) (eG self k):=by unfold eG;simp only[ba,aO,aP,bF,bG,cH,aa,aI,aH,aQ,bb,bH,bI,bJ,bK,bq,bE,aR,bf,aZ,aS,bc,bd,id_eq,eM,xT,xU]
theorem BD (k:Ix l):fm (npI k)=npE (npK id) (fm k):=by unfold fm;simp only[ba,aO,aP,bF,bG,cH,aa,aI,aH,aQ,bb,bH,bI,bJ,bK,bq,bE,aR,bf,aZ,aS,bc,bd,id_eq,eM]
theorem qv:∀ (m:Nat) (n:Lv) (k:Ix l),cP m n (npI k)=npE (npK id) (cP m n k)
 |0,_,k=>by rw[cP,cP];simp only[ba,aO,aP,bF,bG,cH,aa,aI,aH,aQ,bb,bH,bI,bJ,bK,bq,bE,aR,bf,aZ,aS,bc,bd,id_eq]
 |m+1,n,k=>by rw[cP,cP];have ih:=fun n (k:Ix l)=>qv m n k;simp only[ba,aO,aP,bF,bG,cH,aa,aI,aH,aQ,bb,bH,bI,bJ,bK,bq,bE,aR,bf,aZ,aS,bc,bd,id_eq,BD,ih]
theorem u6 (k:Ix l):eD (npI k)=npE (npK id) (eD k):=by unfold eD;simp only[ba,aO,aP,bF,bG,cH,aa,aI,aH,aQ,bb,bH,bI,bJ,bK,bq,bE,aR,bf,aZ,aS,bc,bd,id_eq,eM,qv]
theorem oM (k:Ix l):fk (npI k)=npE (npK id) (fk k):=by unfold fk;simp only[ba,aO,aP,bF,bG,cH,aa,aI,aH,aQ,bb,bH,bI,bJ,bK,bq,bE,aR,bf,aZ,aS,bc,bd,id_eq,u6]
theorem w5 (k:Ix l):da (npI k)=npE (npK id) (da k):=by unfold da;simp only[ba,aO,aP,bF,bG,cH,aa,aI,aH,aQ,bb,bH,bI,bJ,bK,bq,bE,aR,bf,aZ,aS,bc,bd,id_eq,eM,iC,oM]
theorem mo (ws:List ByteArray) (k:Ix l):cU ws (npI k)=npE (npK id) (cU ws k):=by
 unfold cU
 simp only[aZ]
 cases ws.findIdx? (fun s=>isW s k) <;> simp only[ba,aO,aP,bF,bG,cH,aa,aI,aH,aQ,bb,bH,bI,bJ,bK,bq,bE,aR,bf,aZ,aS,bc,bd,id_eq]
theorem ER (v:Bool) (k:Ix l):gC v (npI k)=npE (npK id) (gC v k):=by
 unfold gC
 simp only[bq,aH]
 cases mK v (tk k).text <;> simp only[ba,aO,aP,bF,bG,cH,aa,aI,aH,aQ,bb,bH,bI,bJ,bK,bq,bE,aR,bf,aZ,aS,bc,bd,id_eq]
theorem I6 (k:Ix l):js (npI k)=npE (npK id) (js k):=by unfold js;simp only[ba,aO,aP,bF,bG,cH,aa,aI,aH,aQ,bb,bH,bI,bJ,bK,bq,bE,aR,bf,aZ,aS,bc,bd,id_eq,mo]
theorem I1 (v:Bool) (k:Ix l):kk v (npI k)=npE (npK id) (kk v k):=by unfold kk;simp only[ba,aO,aP,bF,bG,cH,aa,aI,aH,aQ,bb,bH,bI,bJ,bK,bq,bE,aR,bf,aZ,aS,bc,bd,id_eq,ER,mn,eM,I6]
theorem xS (v:Bool):∀ n:Nat,(∀ k:Ix l,dD v n (npI k)=npE (npK id) (dD v n k))∧(∀ k:Ix l,fe v n (npI k)=npE (npK id) (fe v n k))∧(∀ (e:Ex) (k:Ix l),cF v n e (npI k)=npE (npK id) (cF v n e k))∧(∀ k:Ix l,ff v n (npI k)=npE (npK id) (ff v n k))∧(∀ (e:Ex) (k:Ix l),cG v n e (npI k)=npE (npK id) (cG v n e k))
 |0=>⟨fun k=>(by rw[dD,dD];simp only[ba,aO,aP,bF,bG,cH,aa,aI,aH,aQ,bb,bH,bI,bJ,bK,bq,bE,aR,bf,aZ,aS,bc,bd,id_eq]),fun k=>(by rw[fe,fe];simp only[ba,aO,aP,bF,bG,cH,aa,aI,aH,aQ,bb,bH,bI,bJ,bK,bq,bE,aR,bf,aZ,aS,bc,bd,id_eq]),fun e k=>(by rw[cF,cF];simp only[ba,aO,aP,bF,bG,cH,aa,aI,aH,aQ,bb,bH,bI,bJ,bK,bq,bE,aR,bf,aZ,aS,bc,bd,id_eq]),fun k=>(by rw[ff,ff];simp only[ba,aO,aP,bF,bG,cH,aa,aI,aH,aQ,bb,bH,bI,bJ,bK,bq,bE,aR,bf,aZ,aS,bc,bd,id_eq]),fun e k=>(by rw[cG,cG];simp only[ba,aO,aP,bF,bG,cH,aa,aI,aH,aQ,bb,bH,bI,bJ,bK,bq,bE,aR,bf,aZ,aS,bc,bd,id_eq])⟩
 |n+1=>by
  obtain ⟨i1,i2,i3,i4,i5⟩:=xS v n
  refine⟨fun k=>?_,fun k=>?_,fun e k=>?_,fun k=>?_,fun e k=>?_⟩
  ·rw[dD,dD];simp only[ba,aO,aP,bF,bG,cH,aa,aI,aH,aQ,bb,bH,bI,bJ,bK,bq,bE,aR,bf,aZ,aS,bc,bd,id_eq,iC,I1,i1,i4]
  ·rw[fe,fe];simp only[ba,aO,aP,bF,bG,cH,aa,aI,aH,aQ,bb,bH,bI,bJ,bK,bq,bE,aR,bf,aZ,aS,bc,bd,id_eq,i1,i3]
  ·rw[cF,cF];simp only[ba,aO,aP,bF,bG,cH,aa,aI,aH,aQ,bb,bH,bI,bJ,bK,bq,bE,aR,bf,aZ,aS,bc,bd,id_eq,i1,i3]
  ·rw[ff,ff];simp only[ba,aO,aP,bF,bG,cH,aa,aI,aH,aQ,bb,bH,bI,bJ,bK,bq,bE,aR,bf,aZ,aS,bc,bd,id_eq,i2,i5]
  ·rw[cG,cG];simp only[ba,aO,aP,bF,bG,cH,aa,aI,aH,aQ,bb,bH,bI,bJ,bK,bq,bE,aR,bf,aZ,aS,bc,bd,id_eq,i2,i5]
theorem yV (v:Bool) (k:Ix l):dG v (npI k)=npE (npK id) (dG v k):=by unfold dG;simp only[ba,aO,aP,bF,bG,cH,aa,aI,aH,aQ,bb,bH,bI,bJ,bK,bq,bE,aR,bf,aZ,aS,bc,bd,id_eq,(xS v _).2.2.2.1];rfl
theorem EX (k:Ix l):iI (npI k)=npE (npK id) (iI k):=by unfold iI;simp only[ba,aO,aP,bF,bG,cH,aa,aI,aH,aQ,bb,bH,bI,bJ,bK,bq,bE,aR,bf,aZ,aS,bc,bd,id_eq]
end
theorem BA (ts:List Tok) (i:Nat) (m:ByteArray):isK (ts.map npT) i m=isK ts i m:=by
 unfold isK
 rw[List.getElem?_map]
 cases ts[i]? <;> rfl
theorem I4 (ts:List Tok) (i:Nat):nmK (ts.map npT) i=nmK ts i:=by
 unfold nmK
 rw[List.getElem?_map]
 cases ts[i]? <;> rfl
theorem mq (c:Int) (ts:List Tok) (i:Nat):flK c (ts.map npT) i=npF (flK c ts i):=by
 unfold flK
 rw[List.getElem?_map]
 cases ts[i]? <;> rfl
theorem I5 (ts:List Tok) (i n:Nat):opK (ts.map npT) i n=opK ts i n:=by unfold opK;simp only[BA]
theorem Bz (ts:List Tok):∀ f:Nat,(∀ i d:Nat,dv (ts.map npT) f i d=npE id (dv ts f i d))∧(∀ n i d:Nat,dX (ts.map npT) f n i d=npE id (dX ts f n i d))∧(∀ (n:Nat) (e:Ex) (i d:Nat),eN (ts.map npT) f n e i d=npE id (eN ts f n e i d))
 |0=>⟨fun i d=>(by rw[dv,dv,mq];rfl),fun n i d=>(by rw[dX,dX,mq];rfl),fun n e i d=>(by rw[eN,eN,mq];rfl)⟩
 |f+1=>by
  obtain ⟨i1,i2,i3⟩:=Bz ts f
  refine⟨fun i d=>?_,fun n i d=>?_,fun n e i d=>?_⟩
  ·rw[dv,dv]
   simp only[I4]
   cases nmK ts i <;> simp only[ba,aO,aP,bF,bG,cH,aa,aI,aH,aQ,bb,bH,bI,bJ,bK,bq,bE,aR,bf,aZ,aS,bc,bd,id_eq,BA,mq,i1,i2]
  ·rw[dX,dX];simp only[ba,aO,aP,bF,bG,cH,aa,aI,aH,aQ,bb,bH,bI,bJ,bK,bq,bE,aR,bf,aZ,aS,bc,bd,id_eq,mq,i1,i2,i3]
  ·rw[eN,eN];simp only[ba,aO,aP,bF,bG,cH,aa,aI,aH,aQ,bb,bH,bI,bJ,bK,bq,bE,aR,bf,aZ,aS,bc,bd,id_eq,I5,i2,i3]
theorem EY (ts:List Tok):tksK (ts.map npT)=npE id (tksK ts):=by unfold tksK;simp only[ba,aO,aP,bF,bG,cH,aa,aI,aH,aQ,bb,bH,bI,bJ,bK,bq,bE,aR,bf,aZ,aS,bc,bd,id_eq,(Bz ts _).2.1,mq,List.length_map]
section
variable {l:List Tok}
theorem ES (k:Ix l):fQ tksK (npI k)=npE (npK id) (fQ tksK k):=by
 have e:∀ m:Nat,tF (npI k) m=npI (tF k m):=fun m=>by
  unfold tF npI
  simp only[List.length_map]
  split <;> rfl
 have e2:(l.map npT).drop (npI k).1=(l.drop k.1).map npT:=List.map_drop.symm
 have e3:(npI k).1=k.1:=rfl
 unfold fQ
 rw[e2,EY]
 simp only[ba,aO,aP,bF,bG,cH,aa,aI,aH,aQ,bb,bH,bI,bJ,bK,bq,bE,aR,bf,aZ,aS,bc,bd,id_eq,e,e3]
end
end Am
namespace Am
open Tk
set_option maxRecDepth 100000
set_option maxHeartbeats 4000000
section
variable {l:List Tok}
def npL {α:Type} (x:α×(Stm×Ix l)):α×(Stm×Ix (l.map npT)):=(x.1,(npS x.2.1,npI x.2.2))
theorem GD {α:Type} (x:α×(Stm×Ix l)):(npL x).1=x.1:=rfl
theorem GE {α:Type} (x:α×(Stm×Ix l)):(npL x).2=(npS x.2.1,npI x.2.2):=rfl
theorem rN {α:Type} (a:α) (s:Stm) (k:Ix l):npL (a,(s,k))=(a,(npS s,npI k)):=rfl
theorem iX {α β γ:Type} (x:Except Fa α) (f:α→Except Fa β) (g:β→Except Fa γ):(npB x f>>=g)=npB x fun a=>f a>>=g:=by cases x <;> rfl
theorem me {α β γ:Type} (x:Except Fa α) (g:α→Except Fa β) (h:β→Except Fa γ):((x>>=g)>>=h)=x>>=fun a=>g a>>=h:=by cases x <;> rfl
theorem ET (w:ByteArray) (s:Stm) (k:Ix l):bM w (npS s) (npI k)=npE npL (bM w s k):=by
 unfold bM
 simp only[ba,aO,aP,bF,bG,cH,aa,aI,aH,aQ,bb,bH,bI,bJ,bK,bq,bE,aR,bf,aZ,aS,bc,bd,id_eq,iX,me,aw,rN,eM,mn,kG,qw,rP,u7,u6,oM,mo]
 try rfl
theorem EV (b:Bool) (s:Stm) (k:Ix l):gr b (npS s) (npI k)=npE npL (gr b s k):=by
 unfold gr
 simp only[ba,aO,aP,bF,bG,cH,aa,aI,aH,aQ,bb,bH,bI,bJ,bK,bq,bE,aR,bf,aZ,aS,bc,bd,id_eq,iX,me,aw,rN,rP,iC]
 try rfl
theorem EW (w:ByteArray) (s:Stm) (k:Ix l):dh w (npS s) (npI k)=npE npL (dh w s k):=by
 have e12:({npS s with kind:=12,op:=jH w mV}:Stm)=npS {s with kind:=12,op:=jH w mV}:=by rw[aw,aw]
 have e13:({npS s with kind:=13,op:=jH w jl}:Stm)=npS {s with kind:=13,op:=jH w jl}:=by rw[aw,aw]
 have e14:({npS s with kind:=14}:Stm)=npS {s with kind:=14}:=by rw[aw,aw]
 have e7:({npS s with kind:=7}:Stm)=npS {s with kind:=7}:=by rw[aw,aw]
 unfold dh
 rw[e12,e13,e14,e7]
 simp only[EV]
 simp only[ba,aO,aP,bF,bG,cH,aa,aI,aH,aQ,bb,bH,bI,bJ,bK,bq,bE,aR,bf,aZ,aS,bc,bd,id_eq,iX,me,aw,rN,GD,GE,eM,oM,yV,rP,iC]
 try rfl
theorem BB (w:ByteArray) (s:Stm) (k:Ix l):cW w (npS s) (npI k)=npE npL (cW w s k):=by
 unfold cW
 simp only[ba,aO,aP,bF,bG,cH,aa,aI,aH,aQ,bb,bH,bI,bJ,bK,bq,bE,aR,bf,aZ,aS,bc,bd,id_eq,iX,me,aw,rN,eM,mn,qw,rP,w5,EX,mo]
 try rfl
theorem BC (w:ByteArray) (s:Stm) (k:Ix l):bn w (npS s) (npI k)=npE (npK npS) (bn w s k):=by
 unfold bn
 simp only[ba,aO,aP,bF,bG,cH,aa,aI,aH,aQ,bb,bH,bI,bJ,bK,bq,bE,aR,bf,aZ,aS,bc,bd,id_eq,iX,me,ET,GD,GE,EW,BB,iC]
 try rfl
theorem EZ (p:Po):({Stm.zero with pos:=⟨0,0⟩}:Stm)=npS {Stm.zero with pos:=p}:=by rw[aw];rfl
theorem ub:∀ n:Nat,(∀ (d:Nat) (k:Ix l) (c:Nat),cT tksK n d (npI k) c=npE (npN npS) (cT tksK n d k c))∧
 (∀ (d:Nat) (i:Bool) (s:Stm) (k:Ix l) (c:Nat),cm tksK n d i (npS s) (npI k) c=npE (fun x=>((),npN npS x.2)) (cm tksK n d i s k c))∧
 (∀ (d:Nat) (k:Ix l) (c:Nat),cE tksK n d (npI k) c=npE (npN (List.map npS)) (cE tksK n d k c))∧
 (∀ (d:Nat) (acc:List Stm) (k:Ix l) (c:Nat),ct tksK n d (acc.map npS) (npI k) c=npE (npN (List.map npS)) (ct tksK n d acc k c))
 |0=>⟨fun d k c=>(by rw[cT,cT,bq];rfl),fun d i s k c=>(by rw[cm,cm,bq];rfl),fun d k c=>(by rw[cE,cE,bq];rfl),fun d acc k c=>(by rw[ct,ct,bq];rfl)⟩
 |n+1=>by
  obtain ⟨i1,i2,i3,i4⟩:=ub n
  refine⟨fun d k c=>?_,fun d i s k c=>?_,fun d k c=>?_,fun d acc k c=>?_⟩
  ·have h1:=fun i=>i2 d i {Stm.zero with pos:=(tk k).pos} (nx k) (c+1)
   have h2:=BC (tk k).text {Stm.zero with pos:=(tk k).pos} (nx k)
   rw[← EZ] at h1 h2
   rw[cT,cT]
   simp only[ba,aO,aP,bF,bG,cH,aa,aI,aH,aQ,bb,bH,bI,bJ,bK,bq,bE,aR,bf,aZ,aS,bc,bd,id_eq,iX,me,h1,h2,npN]
   try rfl
  ·have h17:∀ e:Ex,({npS s with kind:=17,cond:=e}:Stm)=npS {s with kind:=17,cond:=e}:=fun e=>by rw[aw,aw]
   have h18:({npS s with kind:=18}:Stm)=npS {s with kind:=18}:=by rw[aw,aw]
   rw[cm,cm]
   cases i with
   |true=>(simp only[ba,aO,aP,bF,bG,cH,aa,aI,aH,aQ,bb,bH,bI,bJ,bK,bq,bE,aR,bf,aZ,aS,bc,bd,id_eq,iX,me,if_true,ES,i3,npN,aw];try rfl)
   |false=>(simp only[ba,aO,aP,bF,bG,cH,aa,aI,aH,aQ,bb,bH,bI,bJ,bK,bq,bE,aR,bf,aZ,aS,bc,bd,id_eq,iX,me,if_false,Bool.false_eq_true,i3,npN,aw];try rfl)
  ·have h:=fun k c=>i4 (d+1) [] k c
   simp only[List.map_nil] at h
   rw[cE,cE]
   simp only[ba,aO,aP,bF,bG,cH,aa,aI,aH,aQ,bb,bH,bI,bJ,bK,bq,bE,aR,bf,aZ,aS,bc,bd,id_eq,iX,me,iC,h,List.map_nil,npN]
   try rfl
  ·have h:=fun(acc:List Stm) (s:Stm) k c=>i4 d (acc++[s]) k c
   simp only[List.map_append,List.map_cons,List.map_nil] at h
   rw[ct,ct]
   simp only[ba,aO,aP,bF,bG,cH,aa,aI,aH,aQ,bb,bH,bI,bJ,bK,bq,bE,aR,bf,aZ,aS,bc,bd,id_eq,iX,me,i1,h,npN]
   try rfl
theorem EU (k:Ix l):gm (npI k)=npE (npK id) (gm k):=by
 unfold gm
 simp only[ba,aO,aP,bF,bG,cH,aa,aI,aH,aQ,bb,bH,bI,bJ,bK,bq,bE,aR,bf,aZ,aS,bc,bd,id_eq,iX,me,eM,iC,u7]
 try rfl
theorem I3 (k:Ix l):lx (npI k)=npE (npN npM) (lx k):=by
 have h:=fun n k c=>(ub (l:=l) n).2.2.2 0 [] k c
 simp only[List.map_nil] at h
 unfold lx
 simp only[ba,aO,aP,bF,bG,cH,aa,aI,aH,aQ,bb,bH,bI,bJ,bK,bq,bE,aR,bf,aZ,aS,bc,bd,id_eq,iX,me,EU,h,List.map_nil,npN,npM]
 try rfl
end
def kL (l:List Tok):Except Fa Mo:=if h:0<l.length then lx (⟨0,h⟩:Ix l)>>=fun x=>if(tk x.2.1).kind=0 then .ok x.1 else .error (flt 9 (tk x.2.1)) else .error (fl0 9 ⟨0,0⟩)
theorem F6 {src:ByteArray} {l:List Tok} (h:fS src= .ok l):iM src=kL l:=by
 unfold iM sr
 rw[h,aa];rfl
theorem ua (l:List Tok):kL (l.map npT)=npE npM (kL l):=by
 unfold kL
 by_cases h:0<l.length
 ·have h':0<(l.map npT).length:=by rw[List.length_map];exact h
  rw[dif_pos h,dif_pos h']
  have e:lx (⟨0,h'⟩:Ix (l.map npT))=npE (npN npM) (lx (⟨0,h⟩:Ix l)):=I3 (⟨0,h⟩:Ix l)
  rw[e]
  simp only[ba,aO,aP,bF,bG,cH,aa,aI,aH,aQ,bb,bH,bI,bJ,bK,bq,bE,aR,bf,aZ,aS,bc,bd,id_eq,iX,me,npN]
  try rfl
 ·have h':¬ 0<(l.map npT).length:=by rw[List.length_map];exact h
  rw[dif_neg h,dif_neg h'];rfl
end Am
end Go.Proofs.YtkpodagbefnebaaGreatDoor
