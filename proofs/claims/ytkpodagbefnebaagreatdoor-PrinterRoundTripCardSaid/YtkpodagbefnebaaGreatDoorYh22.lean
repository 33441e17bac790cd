import Derived.Test.YtkpodagbefnebaaGreatDoorYh19
import Derived.Test.YtkpodagbefnebaaGreatDoorYh21
set_option linter.unusedSimpArgs false
set_option linter.unusedVariables false
set_option linter.unusedSectionVars false
namespace Go.Proofs.YtkpodagbefnebaaGreatDoor
namespace Am
open Tk
theorem ka {c:Int} {ts:List Tok} {i:Nat} {α:Type} {g:Fa} (h:(Except.error (flK c ts i):Except Fa α)= .error g):g.name=⟨#[]⟩:=by
 injection h with h;subst h;rfl
theorem wq (ts:List Tok):∀ f:Nat,(∀ {i d:Nat} {g:Fa},dy ts f i d= .error g→g.name=⟨#[]⟩)∧(∀ {n i d:Nat} {g:Fa},ek ts f n i d= .error g→g.name=⟨#[]⟩)∧(∀ {n i d:Nat} {e:Ex} {g:Fa},eP ts f n e i d= .error g→g.name=⟨#[]⟩)
 |0=>⟨fun h=>(by rw[dy] at h;exact ka h),fun h=>(by rw[ek] at h;exact ka h),fun h=>(by rw[eP] at h;exact ka h)⟩
 |f+1=>by
  obtain ⟨i1,i2,i3⟩:=wq ts f
  refine⟨fun {i d g} h=>?_,fun {n i d g} h=>?_,fun {n i d e g} h=>?_⟩
  ·rw[dy] at h
   split at h
   ·split at h
    ·exact ka h
    ·rcases dw h with h|⟨a,_,h⟩
     ·exact i1 h
     ·cases h
   ·split at h
    ·split at h
     ·exact ka h
     ·rcases dw h with h|⟨a,_,h⟩
      ·exact i2 h
      ·try dsimp only at h
       split at h
       ·cases h
       ·exact ka h
    ·split at h
     ·cases h
     ·exact ka h
  ·rw[ek] at h
   split at h
   ·exact i1 h
   ·rcases dw h with h|⟨a,_,h⟩
    ·exact i2 h
    ·exact i3 h
  ·rw[eP] at h
   split at h
   ·cases h
   ·rcases dw h with h|⟨a,_,h⟩
    ·exact i2 h
    ·exact i3 h
theorem He {ts:List Tok} {g:Fa} (h:tksK ts= .error g):g.name=⟨#[]⟩:=by
 unfold tksK at h
 rcases dw h with h|⟨a,_,h⟩
 ·exact(wq ts _).2.1 h
 ·try dsimp only at h
  split at h
  ·exact ka h
  ·cases h
def NZ (l:List Tok) {β:Type} (x:Except Fa β):Prop:=∀ g,x= .error g→g.code≠0∧(g.name=⟨#[]⟩∨∃ t∈l,g.name=t.text)
section
variable {l:List Tok}
theorem NZ.ok {β:Type} (b:β):NZ l (.ok b:Except Fa β):=fun g h=>(by cases h)
theorem NZ.fl {β:Type} {c:Int} {k:Ix l} (hc:c≠0):NZ l (.error (flt c (tk k)):Except Fa β):=fun g h=>(by injection h with h;subst h;exact⟨hc,.inr ⟨tk k,List.getElem_mem _,rfl⟩⟩)
theorem NZ.f0 {β:Type} {c:Int} {p:Po} (hc:c≠0):NZ l (.error (fl0 c p):Except Fa β):=fun g h=>(by injection h with h;subst h;exact⟨hc,.inl rfl⟩)
theorem NZ.ite {β:Type} {p:Prop} [Decidable p] {x y:Except Fa β} (h1:NZ l x) (h2:NZ l y):NZ l (if p then x else y):=by
 by_cases hp:p
 ·rw[if_pos hp];exact h1
 ·rw[if_neg hp];exact h2
theorem NZ.bind {α β:Type} {x:Except Fa α} {f:α→Except Fa β} (h:NZ l x) (k:∀ a,NZ l (f a)):NZ l (x>>=f):=fun g e=>by
 rcases dw e with e|⟨a,_,e⟩
 ·exact h g e
 ·exact k a g e
theorem eN (s:ByteArray) (k:Ix l):NZ l (eD s k):=by
 unfold eD
 repeat'(first|exact NZ.ok _|exact NZ.fl (by decide)|(with_reducible refine NZ.ite ?_ ?_))
theorem va (s:ByteArray) (k:Ix l):NZ l (eS s k):=by
 unfold eS
 repeat'(first|exact NZ.ok _|exact NZ.fl (by decide)|(with_reducible refine NZ.ite ?_ ?_))
theorem eM (k:Ix l):NZ l (bY k):=by
 unfold bY
 repeat'(first|exact NZ.ok _|exact NZ.fl (by decide)|(with_reducible refine NZ.ite ?_ ?_))
theorem oQ:∀ (n:Nat) (acc:List ByteArray) (k:Ix l),NZ l (cA n acc k)
 |0,_,_=>by rw[cA];exact NZ.fl (by decide)
 |n+1,_,_=>by
  rw[cA]
  repeat'(first|exact NZ.ok _|exact eM _|exact oQ n _ _|(with_reducible refine NZ.bind ?_ fun x=>?_)|(with_reducible refine NZ.ite ?_ ?_))
theorem mK (k:Ix l):NZ l (cH k):=by
 unfold cH
 repeat'(first|exact eN _ _|exact eM _|exact oQ _ _ _|(with_reducible refine NZ.bind ?_ fun x=>?_))
theorem lh:∀ (n:Nat) (acc:List ByteArray) (k:Ix l),NZ l (br n acc k)
 |0,_,_=>by rw[br];exact NZ.fl (by decide)
 |n+1,_,_=>by
  rw[br]
  repeat'(first|exact NZ.ok _|exact eM _|exact lh n _ _|(with_reducible refine NZ.bind ?_ fun x=>?_)|(with_reducible refine NZ.ite ?_ ?_))
theorem r9 (k:Ix l):NZ l (dN k):=by
 unfold dN
 repeat'(first|exact eM _|exact lh _ _ _|(with_reducible refine NZ.bind ?_ fun x=>?_))
theorem yE (a b:Bool) (s:NS) (k:Ix l):NZ l (fH a b s k):=by
 unfold fH
 repeat'(first|exact NZ.ok _|exact eM _|(with_reducible refine NZ.bind ?_ fun x=>?_)|(with_reducible refine NZ.ite ?_ ?_))
theorem zk (a:Bool):∀ (n:Nat) (s:NS) (k:Ix l),NZ l (ir a n s k)
 |0,_,_=>by rw[ir];exact NZ.fl (by decide)
 |n+1,_,_=>by
  rw[ir]
  repeat'(first|exact NZ.ok _|exact yE _ _ _ _|exact zk a n _ _|(with_reducible refine NZ.bind ?_ fun x=>?_)|(with_reducible refine NZ.ite ?_ ?_))
theorem tt (a:Bool) (k:Ix l):NZ l (ff a k):=by
 unfold ff
 repeat'(first|exact NZ.ok _|exact eM _|exact yE _ _ _ _|exact zk _ _ _ _|(with_reducible refine NZ.bind ?_ fun x=>?_)|(with_reducible refine NZ.ite ?_ ?_))
theorem Ax (k:Ix l):NZ l (fu k):=by
 unfold fu
 repeat'(first|exact NZ.ok _|exact eM _|(with_reducible refine NZ.bind ?_ fun x=>?_)|(with_reducible refine NZ.ite ?_ ?_))
theorem r8:∀ (n:Nat) (v:Lv) (k:Ix l),NZ l (cU n v k)
 |0,_,_=>by rw[cU];exact NZ.fl (by decide)
 |n+1,_,_=>by
  rw[cU]
  repeat'(first|exact NZ.ok _|exact Ax _|exact r8 n _ _|(with_reducible refine NZ.bind ?_ fun x=>?_)|(with_reducible refine NZ.ite ?_ ?_))
theorem uN (k:Ix l):NZ l (eI k):=by
 unfold eI
 repeat'(first|exact NZ.ok _|exact eM _|exact r8 _ _ _|(with_reducible refine NZ.bind ?_ fun x=>?_)|(with_reducible refine NZ.ite ?_ ?_))
theorem pU (k:Ix l):NZ l (fr k):=by
 unfold fr
 repeat'(first|exact NZ.ok _|exact uN _|(with_reducible refine NZ.bind ?_ fun x=>?_)|(with_reducible refine NZ.ite ?_ ?_))
theorem wz (k:Ix l):NZ l (db k):=by
 unfold db
 repeat'(first|exact NZ.ok _|exact eN _ _|exact eM _|exact pU _|(with_reducible refine NZ.bind ?_ fun x=>?_))
theorem mL (ws:List ByteArray) (k:Ix l):NZ l (cY ws k):=by
 unfold cY
 repeat'(first|exact NZ.ok _|exact NZ.fl (by decide)|split)
theorem Fb (v:Bool) (k:Ix l):NZ l (gG v k):=by
 unfold gG
 repeat'(first|exact NZ.ok _|exact NZ.fl (by decide)|(with_reducible refine NZ.ite ?_ ?_)|split)
theorem JH (k:Ix l):NZ l (jO k):=by
 unfold jO
 repeat'(first|exact NZ.ok _|exact mL _ _|(with_reducible refine NZ.bind ?_ fun x=>?_)|(with_reducible refine NZ.ite ?_ ?_))
theorem oU (v:Bool) (k:Ix l):NZ l (kL v k):=by
 unfold kL
 repeat'(first|exact NZ.ok _|exact eM _|exact mK _|exact Fb _ _|exact JH _|(with_reducible refine NZ.bind ?_ fun x=>?_)|(with_reducible refine NZ.ite ?_ ?_))
theorem yz (v:Bool):∀ n:Nat,(∀ k:Ix l,NZ l (dH v n k))∧(∀ k:Ix l,NZ l (fi v n k))∧(∀ (e:Ex) (k:Ix l),NZ l (cL v n e k))∧(∀ k:Ix l,NZ l (fj v n k))∧(∀ (e:Ex) (k:Ix l),NZ l (cM v n e k))
 |0=>⟨fun k=>(by rw[dH];exact NZ.fl (by decide)),fun k=>(by rw[fi];exact NZ.fl (by decide)),fun e k=>(by rw[cL];exact NZ.fl (by decide)),fun k=>(by rw[fj];exact NZ.fl (by decide)),fun e k=>(by rw[cM];exact NZ.fl (by decide))⟩
 |n+1=>by
  obtain ⟨i1,i2,i3,i4,i5⟩:=yz v n
  refine⟨fun k=>?_,fun k=>?_,fun e k=>?_,fun k=>?_,fun e k=>?_⟩
  ·rw[dH]
   repeat'(first|exact NZ.ok _|exact eN _ _|exact oU _ _|exact i1 _|exact i2 _|exact i3 _ _|exact i4 _|exact i5 _ _|(with_reducible refine NZ.bind ?_ fun x=>?_)|(with_reducible refine NZ.ite ?_ ?_))
  ·rw[fi]
   repeat'(first|exact NZ.ok _|exact eN _ _|exact oU _ _|exact i1 _|exact i2 _|exact i3 _ _|exact i4 _|exact i5 _ _|(with_reducible refine NZ.bind ?_ fun x=>?_)|(with_reducible refine NZ.ite ?_ ?_))
  ·rw[cL]
   repeat'(first|exact NZ.ok _|exact eN _ _|exact oU _ _|exact i1 _|exact i2 _|exact i3 _ _|exact i4 _|exact i5 _ _|(with_reducible refine NZ.bind ?_ fun x=>?_)|(with_reducible refine NZ.ite ?_ ?_))
  ·rw[fj]
   repeat'(first|exact NZ.ok _|exact eN _ _|exact oU _ _|exact i1 _|exact i2 _|exact i3 _ _|exact i4 _|exact i5 _ _|(with_reducible refine NZ.bind ?_ fun x=>?_)|(with_reducible refine NZ.ite ?_ ?_))
  ·rw[cM]
   repeat'(first|exact NZ.ok _|exact eN _ _|exact oU _ _|exact i1 _|exact i2 _|exact i3 _ _|exact i4 _|exact i5 _ _|(with_reducible refine NZ.bind ?_ fun x=>?_)|(with_reducible refine NZ.ite ?_ ?_))
theorem zL (v:Bool) (k:Ix l):NZ l (dL v k):=by
 unfold dL
 repeat'(first|exact NZ.ok _|exact NZ.fl (by decide)|exact(yz _ _).2.2.2.1 _|(with_reducible refine NZ.bind ?_ fun x=>?_)|(with_reducible refine NZ.ite ?_ ?_))
theorem Ha (k:Ix l):NZ l (iJ k):=by
 unfold iJ
 repeat'(first|exact NZ.ok _|exact NZ.fl (by decide)|(with_reducible refine NZ.ite ?_ ?_))
theorem FD (w:ByteArray) (s:Stm) (k:Ix l):NZ l (bR w s k):=by
 unfold bR
 repeat'(first|exact NZ.ok _|exact va _ _|exact eM _|exact mK _|exact lh _ _ _|exact r9 _|exact tt _ _|exact uN _|exact pU _|exact mL _ _|(with_reducible refine NZ.bind ?_ fun x=>?_)|(with_reducible refine NZ.ite ?_ ?_))
theorem GB (b:Bool) (s:Stm) (k:Ix l):NZ l (gB b s k):=by
 unfold gB
 repeat'(first|exact NZ.ok _|exact eN _ _|exact tt _ _|(with_reducible refine NZ.bind ?_ fun x=>?_))
theorem GO (w:ByteArray) (s:Stm) (k:Ix l):NZ l (dj w s k):=by
 unfold dj
 repeat'(first|exact NZ.ok _|exact NZ.fl (by decide)|exact eM _|exact tt _ _|exact pU _|exact zL _ _|exact GB _ _ _|(with_reducible refine NZ.bind ?_ fun x=>?_)|(with_reducible refine NZ.ite ?_ ?_))
theorem Dc (w:ByteArray) (s:Stm) (k:Ix l):NZ l (cZ w s k):=by
 unfold cZ
 repeat'(first|exact NZ.ok _|exact eM _|exact mK _|exact r9 _|exact tt _ _|exact wz _|exact mL _ _|exact Ha _|(with_reducible refine NZ.bind ?_ fun x=>?_)|(with_reducible refine NZ.ite ?_ ?_))
theorem mv (w:ByteArray) (s:Stm) (k:Ix l):NZ l (bp w s k):=by
 unfold bp
 repeat'(first|exact NZ.ok _|exact eN _ _|exact FD _ _ _|exact GO _ _ _|exact Dc _ _ _|(with_reducible refine NZ.bind ?_ fun x=>?_)|(with_reducible refine NZ.ite ?_ ?_))
theorem FZ (k:Ix l):NZ l (gx k):=by
 unfold gx
 repeat'(first|exact NZ.ok _|exact NZ.fl (by decide)|exact eN _ _|exact va _ _|exact eM _|(with_reducible refine NZ.bind ?_ fun x=>?_)|(with_reducible refine NZ.ite ?_ ?_))
theorem od (k:Ix l):NZ l (ga tksK k):=by
 unfold ga
 exact NZ.bind (fun g h=>⟨vO h,.inl (He h)⟩) fun x=>NZ.ok _
theorem vK:∀ n:Nat,(∀ (d:Nat) (k:Ix l) (c:Nat),NZ l (cX tksK n d k c))∧(∀ (d:Nat) (b:Bool) (s:Stm) (k:Ix l) (c:Nat),NZ l (cq tksK n d b s k c))∧(∀ (d:Nat) (k:Ix l) (c:Nat),NZ l (cK tksK n d k c))∧(∀ (d:Nat) (a:List Stm) (k:Ix l) (c:Nat),NZ l (cy tksK n d a k c))
 |0=>⟨fun d k c=>(by rw[cX];exact NZ.fl (by decide)),fun d b s k c=>(by rw[cq];exact NZ.fl (by decide)),fun d k c=>(by rw[cK];exact NZ.fl (by decide)),fun d a k c=>(by rw[cy];exact NZ.fl (by decide))⟩
 |n+1=>by
  obtain ⟨i1,i2,i3,i4⟩:=vK n
  refine⟨fun d k c=>?_,fun d b s k c=>?_,fun d k c=>?_,fun d a k c=>?_⟩
  ·rw[cX]
   repeat'(first|exact NZ.ok _|exact NZ.fl (by decide)|exact eN _ _|exact mv _ _ _|exact od _|exact i1 _ _ _|exact i2 _ _ _ _ _|exact i3 _ _ _|exact i4 _ _ _ _|(with_reducible refine NZ.bind ?_ fun x=>?_)|(with_reducible refine NZ.ite ?_ ?_))
  ·rw[cq]
   repeat'(first|exact NZ.ok _|exact NZ.fl (by decide)|exact eN _ _|exact mv _ _ _|exact od _|exact i1 _ _ _|exact i2 _ _ _ _ _|exact i3 _ _ _|exact i4 _ _ _ _|(with_reducible refine NZ.bind ?_ fun x=>?_)|(with_reducible refine NZ.ite ?_ ?_))
  ·rw[cK]
   repeat'(first|exact NZ.ok _|exact NZ.fl (by decide)|exact eN _ _|exact mv _ _ _|exact od _|exact i1 _ _ _|exact i2 _ _ _ _ _|exact i3 _ _ _|exact i4 _ _ _ _|(with_reducible refine NZ.bind ?_ fun x=>?_)|(with_reducible refine NZ.ite ?_ ?_))
  ·rw[cy]
   repeat'(first|exact NZ.ok _|exact NZ.fl (by decide)|exact eN _ _|exact mv _ _ _|exact od _|exact i1 _ _ _|exact i2 _ _ _ _ _|exact i3 _ _ _|exact i4 _ _ _ _|(with_reducible refine NZ.bind ?_ fun x=>?_)|(with_reducible refine NZ.ite ?_ ?_))
def mg (k:Ix l):Except Fa (Mo×(Ix l×Nat)):=gx k>>=fun x=>cy tksK (fuel l) 0 [] x.2 0>>=fun y=>.ok ({x.1 with stmts:=y.1},y.2)
theorem Ge (k:Ix l):NZ l (mg k):=by
 unfold mg
 repeat'(first|exact NZ.ok _|exact FZ _|exact(vK _).2.2.2 _ _ _ _|(with_reducible refine NZ.bind ?_ fun x=>?_))
end
def vr {α:Type} (src:ByteArray) (sp:∀ l:List Tok,Ix l→Except Fa (α×(Ix l×Nat))):Except Fa α:=
 gf src>>=fun l=>if h:0<l.length then sp l ⟨0,h⟩>>=fun x=>if(tk x.2.1).kind=0 then .ok x.1 else .error (flt 9 (tk x.2.1)) else .error (fl0 9 ⟨0,0⟩)
theorem vB (src:ByteArray):∀ n k:Nat,NZ [] (kV src n k)
 |0,_=>NZ.ok _
 |n+1,k=>by
  rw[kV]
  split
  ·exact NZ.ok _
  ·split
   ·rename_i c off ho
    exact NZ.f0 (ri ho)
   ·exact NZ.bind (vB src n _) fun _=>NZ.ok _
theorem vE (src:ByteArray):NZ [] (gf src):=by
 unfold gf
 split
 ·exact NZ.f0 (by decide)
 ·exact vB _ _ _
def NZs {α:Type} (sp:∀ l:List Tok,Ix l→Except Fa (α×(Ix l×Nat))):Prop:=∀ (l:List Tok) (k:Ix l),NZ l (sp l k)
theorem GQ {α:Type} (src:ByteArray) {sp:∀ l:List Tok,Ix l→Except Fa (α×(Ix l×Nat))} (h:NZs sp) {f:Fa} (hf:vr src sp= .error f):f.code≠0:=by
 unfold vr at hf
 rcases dw hf with hf|⟨l,_,hf⟩
 ·exact(vE _ f hf).1
 ·split at hf
  ·rename_i hl
   refine(NZ.bind (h l ⟨0,hl⟩) (fun x=>?_) f hf).1
   split
   ·exact NZ.ok _
   ·exact NZ.fl (by decide)
  ·injection hf with hf;subst hf;exact(by decide:(9:Int)≠0)
def n8 (src:ByteArray):Except Fa Mo:=vr src fun _ k=>mg k
end Am
namespace Am
open Tk
set_option maxRecDepth 100000
set_option maxHeartbeats 4000000
def npT (t:Tok):Tok:={t with pos:=⟨0,0⟩}
def npF (f:Fa):Fa:={f with pos:=⟨0,0⟩}
mutual
def npS:Stm→Stm
 |⟨a1,a2,_,a4,a5,a6,a7,a8,a9,a10,a11,a12,a13,a14,a15,a16,a17,t,e⟩=>⟨a1,a2,⟨0,0⟩,a4,a5,a6,a7,a8,a9,a10,a11,a12,a13,a14,a15,a16,a17,gL t,gL e⟩
def gL:List Stm→List Stm
 |[]=>[]
 |x :: l=>npS x :: gL l
end
theorem jb:∀ l:List Stm,gL l=l.map npS
 |[]=>rfl
 |x :: l=>by rw[gL,jb l];rfl
theorem ay (s:Stm):npS s= {s with pos:=⟨0,0⟩,thn:=s.thn.map npS,els:=s.els.map npS}:=by
 cases s;rw[npS,jb,jb]
def npM (m:Mo):Mo:={m with stmts:=m.stmts.map npS}
def npE {α β:Type} (g:α→β):Except Fa α→Except Fa β
 | .ok a=>.ok (g a)
 | .error f=>.error (npF f)
def npB {α β:Type} (x:Except Fa α) (g:α→Except Fa β):Except Fa β:=match x with
 | .ok a=>g a
 | .error f=>.error (npF f)
theorem bf {α β:Type} (g:α→β) (a:α):npE g (.ok a)= .ok (g a):=rfl
theorem aP {α β:Type} (g:α→β) (f:Fa):npE g (.error f)= .error (npF f):=rfl
theorem aQ {α β:Type} {c:Prop} [Decidable c] (g:α→β) (x y:Except Fa α):npE g (if c then x else y)=if c then npE g x else npE g y:=by
 by_cases h:c
 ·rw[if_pos h,if_pos h]
 ·rw[if_neg h,if_neg h]
theorem bK {α β γ:Type} (h:α→β) (x:Except Fa α) (g:β→Except Fa γ):(npE h x>>=g)=npB x fun a=>g (h a):=by cases x <;> rfl
theorem bL {α β γ:Type} (h:β→γ) (x:Except Fa α) (g:α→Except Fa β):npE h (x>>=g)=npB x fun a=>npE h (g a):=by cases x <;> rfl
theorem cN {α β:Type} {c:Prop} [Decidable c] (a b:Except Fa α) (g:α→Except Fa β):((if c then a else b)>>=g)=if c then a>>=g else b>>=g:=by
 by_cases h:c
 ·rw[if_pos h,if_pos h]
 ·rw[if_neg h,if_neg h]
theorem aI (t:Tok):(npT t).kind=t.kind:=rfl
theorem aH (t:Tok):(npT t).text=t.text:=rfl
theorem aR (t:Tok):(npT t).pos=⟨0,0⟩:=rfl
section
variable {l:List Tok}
def npI (k:Ix l):Ix (l.map npT):=⟨k.1,by rw[List.length_map];exact k.2⟩
def npK {α β:Type} (g:α→β) (x:α×Ix l):β×Ix (l.map npT):=(g x.1,npI x.2)
def npN {α β:Type} (g:α→β) (x:α×(Ix l×Nat)):β×(Ix (l.map npT)×Nat):=(g x.1,(npI x.2.1,x.2.2))
theorem bh {α β:Type} (g:α→β) (a:α) (k:Ix l):npK g (a,k)=(g a,npI k):=rfl
theorem bM {α β:Type} (g:α→β) (x:α×Ix l):(npK g x).1=g x.1:=rfl
theorem bN {α β:Type} (g:α→β) (x:α×Ix l):(npK g x).2=npI x.2:=rfl
theorem bO {α β:Type} (g:α→β) (x:α×(Ix l×Nat)):(npN g x).1=g x.1:=rfl
theorem bP {α β:Type} (g:α→β) (x:α×(Ix l×Nat)):(npN g x).2=(npI x.2.1,x.2.2):=rfl
theorem bu (k:Ix l):tk (npI k)=npT (tk k):=by
 unfold tk npI
 exact List.getElem_map ..
theorem bI (k:Ix l):nx (npI k)=npI (nx k):=by
 unfold nx npI
 simp only[List.length_map]
 split <;> rfl
theorem aS:fuel (l.map npT)=fuel l:=by unfold fuel;rw[List.length_map]
theorem bm (s:ByteArray) (k:Ix l):isM s (npI k)=isM s k:=by unfold isM;rw[bu];rfl
theorem bd (s:ByteArray) (k:Ix l):isW s (npI k)=isW s k:=by unfold isW;rw[bu];rfl
theorem aT (k:Ix l):eg (npI k)=eg k:=by unfold eg;rw[bu];rfl
theorem bj (b:Bool) (k:Ix l):adv b (npI k)=npI (adv b k):=by
 unfold adv
 split
 ·exact bI k
 ·rfl
theorem bk (c:Int) (t:Tok):flt c (npT t)=npF (flt c t):=rfl
theorem iE (s:ByteArray) (k:Ix l):eD s (npI k)=npE (npK id) (eD s k):=by unfold eD;simp only[bf,aP,aQ,bK,bL,cN,aa,aI,aH,aR,bh,bM,bN,bO,bP,bu,bI,aS,bm,bd,aT,bj,bk,id_eq]
theorem vc (s:ByteArray) (k:Ix l):eS s (npI k)=npE (npK id) (eS s k):=by unfold eS;simp only[bf,aP,aQ,bK,bL,cN,aa,aI,aH,aR,bh,bM,bN,bO,bP,bu,bI,aS,bm,bd,aT,bj,bk,id_eq]
theorem eO (k:Ix l):bY (npI k)=npE (npK id) (bY k):=by unfold bY;simp only[bf,aP,aQ,bK,bL,cN,aa,aI,aH,aR,bh,bM,bN,bO,bP,bu,bI,aS,bm,bd,aT,bj,bk,id_eq]
theorem pB:∀ (n:Nat) (acc:List ByteArray) (k:Ix l),cA n acc (npI k)=npE (npK id) (cA n acc k)
 |0,_,k=>by rw[cA,cA];simp only[bf,aP,aQ,bK,bL,cN,aa,aI,aH,aR,bh,bM,bN,bO,bP,bu,bI,aS,bm,bd,aT,bj,bk,id_eq]
 |n+1,acc,k=>by rw[cA,cA];have ih:=fun acc (k:Ix l)=>pB n acc k;simp only[bf,aP,aQ,bK,bL,cN,aa,aI,aH,aR,bh,bM,bN,bO,bP,bu,bI,aS,bm,bd,aT,bj,bk,id_eq,eO,ih]
theorem mZ (k:Ix l):cH (npI k)=npE (npK id) (cH k):=by unfold cH;simp only[bf,aP,aQ,bK,bL,cN,aa,aI,aH,aR,bh,bM,bN,bO,bP,bu,bI,aS,bm,bd,aT,bj,bk,id_eq,iE,eO,pB]
theorem lp:∀ (n:Nat) (acc:List ByteArray) (k:Ix l),br n acc (npI k)=npE (npK id) (br n acc k)
 |0,_,k=>by rw[br,br];simp only[bf,aP,aQ,bK,bL,cN,aa,aI,aH,aR,bh,bM,bN,bO,bP,bu,bI,aS,bm,bd,aT,bj,bk,id_eq]
 |n+1,acc,k=>by rw[br,br];have ih:=fun acc (k:Ix l)=>lp n acc k;simp only[bf,aP,aQ,bK,bL,cN,aa,aI,aH,aR,bh,bM,bN,bO,bP,bu,bI,aS,bm,bd,aT,bj,bk,id_eq,eO,ih]
theorem rf (k:Ix l):dN (npI k)=npE (npK id) (dN k):=by unfold dN;simp only[bf,aP,aQ,bK,bL,cN,aa,aI,aH,aR,bh,bM,bN,bO,bP,bu,bI,aS,bm,bd,aT,bj,bk,id_eq,eO,lp]
theorem yV (self minus:Bool) (n:NS) (k:Ix l):fH self minus n (npI k)=npE (npK id) (fH self minus n k):=by unfold fH;simp only[bf,aP,aQ,bK,bL,cN,aa,aI,aH,aR,bh,bM,bN,bO,bP,bu,bI,aS,bm,bd,aT,bj,bk,id_eq,eO]
theorem yW (self:Bool):∀ (m:Nat) (n:NS) (k:Ix l),ir self m n (npI k)=npE (npK id) (ir self m n k)
 |0,_,k=>by rw[ir,ir];simp only[bf,aP,aQ,bK,bL,cN,aa,aI,aH,aR,bh,bM,bN,bO,bP,bu,bI,aS,bm,bd,aT,bj,bk,id_eq]
 |m+1,n,k=>by rw[ir,ir];have ih:=fun n (k:Ix l)=>yW self m n k;simp only[bf,aP,aQ,bK,bL,cN,aa,aI,aH,aR,bh,bM,bN,bO,bP,bu,bI,aS,bm,bd,aT,bj,bk,id_eq,yV,ih]
theorem sO (self:Bool) (k:Ix l):ff self (npI k)=npE (npK id) (ff self k):=by unfold ff;simp only[bf,aP,aQ,bK,bL,cN,aa,aI,aH,aR,bh,bM,bN,bO,bP,bu,bI,aS,bm,bd,aT,bj,bk,id_eq,eO,yV,yW]
theorem CZ (k:Ix l):fu (npI k)=npE (npK id) (fu k):=by unfold fu;simp only[bf,aP,aQ,bK,bL,cN,aa,aI,aH,aR,bh,bM,bN,bO,bP,bu,bI,aS,bm,bd,aT,bj,bk,id_eq,eO]
theorem rb:∀ (m:Nat) (n:Lv) (k:Ix l),cU m n (npI k)=npE (npK id) (cU m n k)
 |0,_,k=>by rw[cU,cU];simp only[bf,aP,aQ,bK,bL,cN,aa,aI,aH,aR,bh,bM,bN,bO,bP,bu,bI,aS,bm,bd,aT,bj,bk,id_eq]
 |m+1,n,k=>by rw[cU,cU];have ih:=fun n (k:Ix l)=>rb m n k;simp only[bf,aP,aQ,bK,bL,cN,aa,aI,aH,aR,bh,bM,bN,bO,bP,bu,bI,aS,bm,bd,aT,bj,bk,id_eq,CZ,ih]
theorem vb (k:Ix l):eI (npI k)=npE (npK id) (eI k):=by unfold eI;simp only[bf,aP,aQ,bK,bL,cN,aa,aI,aH,aR,bh,bM,bN,bO,bP,bu,bI,aS,bm,bd,aT,bj,bk,id_eq,eO,rb]
theorem pC (k:Ix l):fr (npI k)=npE (npK id) (fr k):=by unfold fr;simp only[bf,aP,aQ,bK,bL,cN,aa,aI,aH,aR,bh,bM,bN,bO,bP,bu,bI,aS,bm,bd,aT,bj,bk,id_eq,vb]
theorem xk (k:Ix l):db (npI k)=npE (npK id) (db k):=by unfold db;simp only[bf,aP,aQ,bK,bL,cN,aa,aI,aH,aR,bh,bM,bN,bO,bP,bu,bI,aS,bm,bd,aT,bj,bk,id_eq,eO,iE,pC]
theorem n5 (ws:List ByteArray) (k:Ix l):cY ws (npI k)=npE (npK id) (cY ws k):=by
 unfold cY
 simp only[bd]
 cases ws.findIdx? (fun s=>isW s k) <;> simp only[bf,aP,aQ,bK,bL,cN,aa,aI,aH,aR,bh,bM,bN,bO,bP,bu,bI,aS,bm,bd,aT,bj,bk,id_eq]
theorem Gn (v:Bool) (k:Ix l):gG v (npI k)=npE (npK id) (gG v k):=by
 unfold gG
 simp only[bu,aH]
 cases nr v (tk k).text <;> simp only[bf,aP,aQ,bK,bL,cN,aa,aI,aH,aR,bh,bM,bN,bO,bP,bu,bI,aS,bm,bd,aT,bj,bk,id_eq]
theorem Jq (k:Ix l):jO (npI k)=npE (npK id) (jO k):=by unfold jO;simp only[bf,aP,aQ,bK,bL,cN,aa,aI,aH,aR,bh,bM,bN,bO,bP,bu,bI,aS,bm,bd,aT,bj,bk,id_eq,n5]
theorem Jl (v:Bool) (k:Ix l):kL v (npI k)=npE (npK id) (kL v k):=by unfold kL;simp only[bf,aP,aQ,bK,bL,cN,aa,aI,aH,aR,bh,bM,bN,bO,bP,bu,bI,aS,bm,bd,aT,bj,bk,id_eq,Gn,mZ,eO,Jq]
theorem yU (v:Bool):∀ n:Nat,(∀ k:Ix l,dH v n (npI k)=npE (npK id) (dH v n k))∧(∀ k:Ix l,fi v n (npI k)=npE (npK id) (fi v n k))∧(∀ (e:Ex) (k:Ix l),cL v n e (npI k)=npE (npK id) (cL v n e k))∧(∀ k:Ix l,fj v n (npI k)=npE (npK id) (fj v n k))∧(∀ (e:Ex) (k:Ix l),cM v n e (npI k)=npE (npK id) (cM v n e k))
 |0=>⟨fun k=>(by rw[dH,dH];simp only[bf,aP,aQ,bK,bL,cN,aa,aI,aH,aR,bh,bM,bN,bO,bP,bu,bI,aS,bm,bd,aT,bj,bk,id_eq]),fun k=>(by rw[fi,fi];simp only[bf,aP,aQ,bK,bL,cN,aa,aI,aH,aR,bh,bM,bN,bO,bP,bu,bI,aS,bm,bd,aT,bj,bk,id_eq]),fun e k=>(by rw[cL,cL];simp only[bf,aP,aQ,bK,bL,cN,aa,aI,aH,aR,bh,bM,bN,bO,bP,bu,bI,aS,bm,bd,aT,bj,bk,id_eq]),fun k=>(by rw[fj,fj];simp only[bf,aP,aQ,bK,bL,cN,aa,aI,aH,aR,bh,bM,bN,bO,bP,bu,bI,aS,bm,bd,aT,bj,bk,id_eq]),fun e k=>(by rw[cM,cM];simp only[bf,aP,aQ,bK,bL,cN,aa,aI,aH,aR,bh,bM,bN,bO,bP,bu,bI,aS,bm,bd,aT,bj,bk,id_eq])⟩
 |n+1=>by
  obtain ⟨i1,i2,i3,i4,i5⟩:=yU v n
  refine⟨fun k=>?_,fun k=>?_,fun e k=>?_,fun k=>?_,fun e k=>?_⟩
  ·rw[dH,dH];simp only[bf,aP,aQ,bK,bL,cN,aa,aI,aH,aR,bh,bM,bN,bO,bP,bu,bI,aS,bm,bd,aT,bj,bk,id_eq,iE,Jl,i1,i4]
  ·rw[fi,fi];simp only[bf,aP,aQ,bK,bL,cN,aa,aI,aH,aR,bh,bM,bN,bO,bP,bu,bI,aS,bm,bd,aT,bj,bk,id_eq,i1,i3]
  ·rw[cL,cL];simp only[bf,aP,aQ,bK,bL,cN,aa,aI,aH,aR,bh,bM,bN,bO,bP,bu,bI,aS,bm,bd,aT,bj,bk,id_eq,i1,i3]
  ·rw[fj,fj];simp only[bf,aP,aQ,bK,bL,cN,aa,aI,aH,aR,bh,bM,bN,bO,bP,bu,bI,aS,bm,bd,aT,bj,bk,id_eq,i2,i5]
  ·rw[cM,cM];simp only[bf,aP,aQ,bK,bL,cN,aa,aI,aH,aR,bh,bM,bN,bO,bP,bu,bI,aS,bm,bd,aT,bj,bk,id_eq,i2,i5]
theorem A7 (v:Bool) (k:Ix l):dL v (npI k)=npE (npK id) (dL v k):=by unfold dL;simp only[bf,aP,aQ,bK,bL,cN,aa,aI,aH,aR,bh,bM,bN,bO,bP,bu,bI,aS,bm,bd,aT,bj,bk,id_eq,(yU v _).2.2.2.1];rfl
theorem Gu (k:Ix l):iJ (npI k)=npE (npK id) (iJ k):=by unfold iJ;simp only[bf,aP,aQ,bK,bL,cN,aa,aI,aH,aR,bh,bM,bN,bO,bP,bu,bI,aS,bm,bd,aT,bj,bk,id_eq]
end
theorem CW (ts:List Tok) (i:Nat) (m:ByteArray):isK (ts.map npT) i m=isK ts i m:=by
 unfold isK
 rw[List.getElem?_map]
 cases ts[i]? <;> rfl
theorem Jo (ts:List Tok) (i:Nat):nmK (ts.map npT) i=nmK ts i:=by
 unfold nmK
 rw[List.getElem?_map]
 cases ts[i]? <;> rfl
theorem n6 (c:Int) (ts:List Tok) (i:Nat):flK c (ts.map npT) i=npF (flK c ts i):=by
 unfold flK
 rw[List.getElem?_map]
 cases ts[i]? <;> rfl
theorem Jp (ts:List Tok) (i n:Nat):opK (ts.map npT) i n=opK ts i n:=by unfold opK;simp only[CW]
theorem CV (ts:List Tok):∀ f:Nat,(∀ i d:Nat,dy (ts.map npT) f i d=npE id (dy ts f i d))∧(∀ n i d:Nat,ek (ts.map npT) f n i d=npE id (ek ts f n i d))∧(∀ (n:Nat) (e:Ex) (i d:Nat),eP (ts.map npT) f n e i d=npE id (eP ts f n e i d))
 |0=>⟨fun i d=>(by rw[dy,dy,n6];rfl),fun n i d=>(by rw[ek,ek,n6];rfl),fun n e i d=>(by rw[eP,eP,n6];rfl)⟩
 |f+1=>by
  obtain ⟨i1,i2,i3⟩:=CV ts f
  refine⟨fun i d=>?_,fun n i d=>?_,fun n e i d=>?_⟩
  ·rw[dy,dy]
   simp only[Jo]
   cases nmK ts i <;> simp only[bf,aP,aQ,bK,bL,cN,aa,aI,aH,aR,bh,bM,bN,bO,bP,bu,bI,aS,bm,bd,aT,bj,bk,id_eq,CW,n6,i1,i2]
  ·rw[ek,ek];simp only[bf,aP,aQ,bK,bL,cN,aa,aI,aH,aR,bh,bM,bN,bO,bP,bu,bI,aS,bm,bd,aT,bj,bk,id_eq,n6,i1,i2,i3]
  ·rw[eP,eP];simp only[bf,aP,aQ,bK,bL,cN,aa,aI,aH,aR,bh,bM,bN,bO,bP,bu,bI,aS,bm,bd,aT,bj,bk,id_eq,Jp,i2,i3]
theorem Gv (ts:List Tok):tksK (ts.map npT)=npE id (tksK ts):=by unfold tksK;simp only[bf,aP,aQ,bK,bL,cN,aa,aI,aH,aR,bh,bM,bN,bO,bP,bu,bI,aS,bm,bd,aT,bj,bk,id_eq,(CV ts _).2.1,n6,List.length_map]
section
variable {l:List Tok}
theorem Gp (k:Ix l):ga tksK (npI k)=npE (npK id) (ga tksK k):=by
 have e:∀ m:Nat,uJ (npI k) m=npI (uJ k m):=fun m=>by
  unfold uJ npI
  simp only[List.length_map]
  split <;> rfl
 have e2:(l.map npT).drop (npI k).1=(l.drop k.1).map npT:=List.map_drop.symm
 have e3:(npI k).1=k.1:=rfl
 unfold ga
 rw[e2,Gv]
 simp only[bf,aP,aQ,bK,bL,cN,aa,aI,aH,aR,bh,bM,bN,bO,bP,bu,bI,aS,bm,bd,aT,bj,bk,id_eq,e,e3]
end
end Am
namespace Am
open Tk
set_option maxRecDepth 100000
set_option maxHeartbeats 4000000
section
variable {l:List Tok}
def npL {α:Type} (x:α×(Stm×Ix l)):α×(Stm×Ix (l.map npT)):=(x.1,(npS x.2.1,npI x.2.2))
theorem HW {α:Type} (x:α×(Stm×Ix l)):(npL x).1=x.1:=rfl
theorem HX {α:Type} (x:α×(Stm×Ix l)):(npL x).2=(npS x.2.1,npI x.2.2):=rfl
theorem sM {α:Type} (a:α) (s:Stm) (k:Ix l):npL (a,(s,k))=(a,(npS s,npI k)):=rfl
theorem ja {α β γ:Type} (x:Except Fa α) (f:α→Except Fa β) (g:β→Except Fa γ):(npB x f>>=g)=npB x fun a=>f a>>=g:=by cases x <;> rfl
theorem mP {α β γ:Type} (x:Except Fa α) (g:α→Except Fa β) (h:β→Except Fa γ):((x>>=g)>>=h)=x>>=fun a=>g a>>=h:=by cases x <;> rfl
theorem Gq (w:ByteArray) (s:Stm) (k:Ix l):bR w (npS s) (npI k)=npE npL (bR w s k):=by
 unfold bR
 simp only[bf,aP,aQ,bK,bL,cN,aa,aI,aH,aR,bh,bM,bN,bO,bP,bu,bI,aS,bm,bd,aT,bj,bk,id_eq,ja,mP,ay,sM,eO,mZ,lp,rf,sO,vc,vb,pC,n5]
 try rfl
theorem Gs (b:Bool) (s:Stm) (k:Ix l):gB b (npS s) (npI k)=npE npL (gB b s k):=by
 unfold gB
 simp only[bf,aP,aQ,bK,bL,cN,aa,aI,aH,aR,bh,bM,bN,bO,bP,bu,bI,aS,bm,bd,aT,bj,bk,id_eq,ja,mP,ay,sM,sO,iE]
 try rfl
theorem Gt (w:ByteArray) (s:Stm) (k:Ix l):dj w (npS s) (npI k)=npE npL (dj w s k):=by
 have e12:({npS s with kind:=12,op:=kg w nL}:Stm)=npS {s with kind:=12,op:=kg w nL}:=by rw[ay,ay]
 have e13:({npS s with kind:=13,op:=kg w jH}:Stm)=npS {s with kind:=13,op:=kg w jH}:=by rw[ay,ay]
 have e14:({npS s with kind:=14}:Stm)=npS {s with kind:=14}:=by rw[ay,ay]
 have e7:({npS s with kind:=7}:Stm)=npS {s with kind:=7}:=by rw[ay,ay]
 unfold dj
 rw[e12,e13,e14,e7]
 simp only[Gs]
 simp only[bf,aP,aQ,bK,bL,cN,aa,aI,aH,aR,bh,bM,bN,bO,bP,bu,bI,aS,bm,bd,aT,bj,bk,id_eq,ja,mP,ay,sM,HW,HX,eO,pC,A7,sO,iE]
 try rfl
theorem CX (w:ByteArray) (s:Stm) (k:Ix l):cZ w (npS s) (npI k)=npE npL (cZ w s k):=by
 unfold cZ
 simp only[bf,aP,aQ,bK,bL,cN,aa,aI,aH,aR,bh,bM,bN,bO,bP,bu,bI,aS,bm,bd,aT,bj,bk,id_eq,ja,mP,ay,sM,eO,mZ,rf,sO,xk,Gu,n5]
 try rfl
theorem CY (w:ByteArray) (s:Stm) (k:Ix l):bp w (npS s) (npI k)=npE (npK npS) (bp w s k):=by
 unfold bp
 simp only[bf,aP,aQ,bK,bL,cN,aa,aI,aH,aR,bh,bM,bN,bO,bP,bu,bI,aS,bm,bd,aT,bj,bk,id_eq,ja,mP,Gq,HW,HX,Gt,CX,iE]
 try rfl
theorem Gw (p:Po):({Stm.zero with pos:=⟨0,0⟩}:Stm)=npS {Stm.zero with pos:=p}:=by rw[ay];rfl
theorem ve:∀ n:Nat,(∀ (d:Nat) (k:Ix l) (c:Nat),cX tksK n d (npI k) c=npE (npN npS) (cX tksK n d k c))∧
 (∀ (d:Nat) (i:Bool) (s:Stm) (k:Ix l) (c:Nat),cq tksK n d i (npS s) (npI k) c=npE (fun x=>((),npN npS x.2)) (cq tksK n d i s k c))∧
 (∀ (d:Nat) (k:Ix l) (c:Nat),cK tksK n d (npI k) c=npE (npN (List.map npS)) (cK tksK n d k c))∧
 (∀ (d:Nat) (acc:List Stm) (k:Ix l) (c:Nat),cy tksK n d (acc.map npS) (npI k) c=npE (npN (List.map npS)) (cy tksK n d acc k c))
 |0=>⟨fun d k c=>(by rw[cX,cX,bu];rfl),fun d i s k c=>(by rw[cq,cq,bu];rfl),fun d k c=>(by rw[cK,cK,bu];rfl),fun d acc k c=>(by rw[cy,cy,bu];rfl)⟩
 |n+1=>by
  obtain ⟨i1,i2,i3,i4⟩:=ve n
  refine⟨fun d k c=>?_,fun d i s k c=>?_,fun d k c=>?_,fun d acc k c=>?_⟩
  ·have h1:=fun i=>i2 d i {Stm.zero with pos:=(tk k).pos} (nx k) (c+1)
   have h2:=CY (tk k).text {Stm.zero with pos:=(tk k).pos} (nx k)
   rw[← Gw] at h1 h2
   rw[cX,cX]
   simp only[bf,aP,aQ,bK,bL,cN,aa,aI,aH,aR,bh,bM,bN,bO,bP,bu,bI,aS,bm,bd,aT,bj,bk,id_eq,ja,mP,h1,h2,npN]
   try rfl
  ·have h17:∀ e:Ex,({npS s with kind:=17,cond:=e}:Stm)=npS {s with kind:=17,cond:=e}:=fun e=>by rw[ay,ay]
   have h18:({npS s with kind:=18}:Stm)=npS {s with kind:=18}:=by rw[ay,ay]
   rw[cq,cq]
   cases i with
   |true=>(simp only[bf,aP,aQ,bK,bL,cN,aa,aI,aH,aR,bh,bM,bN,bO,bP,bu,bI,aS,bm,bd,aT,bj,bk,id_eq,ja,mP,if_true,Gp,i3,npN,ay];try rfl)
   |false=>(simp only[bf,aP,aQ,bK,bL,cN,aa,aI,aH,aR,bh,bM,bN,bO,bP,bu,bI,aS,bm,bd,aT,bj,bk,id_eq,ja,mP,if_false,Bool.false_eq_true,i3,npN,ay];try rfl)
  ·have h:=fun k c=>i4 (d+1) [] k c
   simp only[List.map_nil] at h
   rw[cK,cK]
   simp only[bf,aP,aQ,bK,bL,cN,aa,aI,aH,aR,bh,bM,bN,bO,bP,bu,bI,aS,bm,bd,aT,bj,bk,id_eq,ja,mP,iE,h,List.map_nil,npN]
   try rfl
  ·have h:=fun(acc:List Stm) (s:Stm) k c=>i4 d (acc++[s]) k c
   simp only[List.map_append,List.map_cons,List.map_nil] at h
   rw[cy,cy]
   simp only[bf,aP,aQ,bK,bL,cN,aa,aI,aH,aR,bh,bM,bN,bO,bP,bu,bI,aS,bm,bd,aT,bj,bk,id_eq,ja,mP,i1,h,npN]
   try rfl
theorem Gr (k:Ix l):gx (npI k)=npE (npK id) (gx k):=by
 unfold gx
 simp only[bf,aP,aQ,bK,bL,cN,aa,aI,aH,aR,bh,bM,bN,bO,bP,bu,bI,aS,bm,bd,aT,bj,bk,id_eq,ja,mP,eO,iE,vc]
 try rfl
theorem Jn (k:Ix l):mg (npI k)=npE (npN npM) (mg k):=by
 have h:=fun n k c=>(ve (l:=l) n).2.2.2 0 [] k c
 simp only[List.map_nil] at h
 unfold mg
 simp only[bf,aP,aQ,bK,bL,cN,aa,aI,aH,aR,bh,bM,bN,bO,bP,bu,bI,aS,bm,bd,aT,bj,bk,id_eq,ja,mP,Gr,h,List.map_nil,npN,npM]
 try rfl
end
def ly (l:List Tok):Except Fa Mo:=if h:0<l.length then mg (⟨0,h⟩:Ix l)>>=fun x=>if(tk x.2.1).kind=0 then .ok x.1 else .error (flt 9 (tk x.2.1)) else .error (fl0 9 ⟨0,0⟩)
theorem GD {src:ByteArray} {l:List Tok} (h:gf src= .ok l):n8 src=ly l:=by
 unfold n8 vr
 rw[h,aa];rfl
theorem vd (l:List Tok):ly (l.map npT)=npE npM (ly l):=by
 unfold ly
 by_cases h:0<l.length
 ·have h':0<(l.map npT).length:=by rw[List.length_map];exact h
  rw[dif_pos h,dif_pos h']
  have e:mg (⟨0,h'⟩:Ix (l.map npT))=npE (npN npM) (mg (⟨0,h⟩:Ix l)):=Jn (⟨0,h⟩:Ix l)
  rw[e]
  simp only[bf,aP,aQ,bK,bL,cN,aa,aI,aH,aR,bh,bM,bN,bO,bP,bu,bI,aS,bm,bd,aT,bj,bk,id_eq,ja,mP,npN]
  try rfl
 ·have h':¬ 0<(l.map npT).length:=by rw[List.length_map];exact h
  rw[dif_neg h,dif_neg h'];rfl
end Am
end Go.Proofs.YtkpodagbefnebaaGreatDoor
