import Derived.Test.YtkpodagbefnebaaGreatDoorYf17
import Derived.Test.YtkpodagbefnebaaGreatDoorYf20
import Derived.Test.YtkpodagbefnebaaGreatDoorYf19
set_option linter.unusedSimpArgs false
set_option linter.unusedVariables false
set_option linter.unusedSectionVars false
namespace Go.Proofs.YtkpodagbefnebaaGreatDoor
namespace Am
open Tk
theorem iX {c:Int} {ts:List Tok} {i:Nat} {α:Type} {g:Fa} (h:(Except.error (flK c ts i):Except Fa α)= .error g):g.name=⟨#[]⟩:=by
 injection h with h;subst h;rfl
theorem sE (ts:List Tok):∀ f:Nat,(∀ {i d:Nat} {g:Fa},bO ts f i d= .error g→g.name=⟨#[]⟩)∧(∀ {n i d:Nat} {g:Fa},cr ts f n i d= .error g→g.name=⟨#[]⟩)∧(∀ {n i d:Nat} {e:Ex} {g:Fa},dr ts f n e i d= .error g→g.name=⟨#[]⟩)
 |0=>⟨fun h=>(by rw[bO] at h;exact iX h),fun h=>(by rw[cr] at h;exact iX h),fun h=>(by rw[dr] at h;exact iX h)⟩
 |f+1=>by
  obtain ⟨i1,i2,i3⟩:=sE ts f
  refine⟨fun {i d g} h=>?_,fun {n i d g} h=>?_,fun {n i d e g} h=>?_⟩
  ·rw[bO] at h
   split at h
   ·split at h
    ·exact iX h
    ·rcases bW h with h|⟨a,_,h⟩
     ·exact i1 h
     ·cases h
   ·split at h
    ·split at h
     ·exact iX h
     ·rcases bW h with h|⟨a,_,h⟩
      ·exact i2 h
      ·try dsimp only at h
       split at h
       ·cases h
       ·exact iX h
    ·split at h
     ·cases h
     ·exact iX h
  ·rw[cr] at h
   split at h
   ·exact i1 h
   ·rcases bW h with h|⟨a,_,h⟩
    ·exact i2 h
    ·exact i3 h
  ·rw[dr] at h
   split at h
   ·cases h
   ·rcases bW h with h|⟨a,_,h⟩
    ·exact i2 h
    ·exact i3 h
theorem BS {ts:List Tok} {g:Fa} (h:tksK ts= .error g):g.name=⟨#[]⟩:=by
 unfold tksK at h
 rcases bW h with h|⟨a,_,h⟩
 ·exact(sE ts _).2.1 h
 ·try dsimp only at h
  split at h
  ·exact iX h
  ·cases h
def NZ (l:List Tok) {β:Type} (x:Except Fa β):Prop:=∀ g,x= .error g→g.code≠0∧(g.name=⟨#[]⟩∨∃ t∈l,g.name=t.text)
section
variable {l:List Tok}
theorem NZ.ok {β:Type} (b:β):NZ l (.ok b:Except Fa β):=fun g h=>(by cases h)
theorem NZ.fl {β:Type} {c:Int} {k:Ix l} (hc:c≠0):NZ l (.error (flt c (tk k)):Except Fa β):=fun g h=>(by injection h with h;subst h;exact⟨hc,.inr ⟨tk k,List.getElem_mem _,rfl⟩⟩)
theorem NZ.f0 {β:Type} {c:Int} {p:Po} (hc:c≠0):NZ l (.error (fl0 c p):Except Fa β):=fun g h=>(by injection h with h;subst h;exact⟨hc,.inl rfl⟩)
theorem NZ.ite {β:Type} {p:Prop} [Decidable p] {x y:Except Fa β} (h1:NZ l x) (h2:NZ l y):NZ l (if p then x else y):=by
 by_cases hp:p
 ·rw[if_pos hp];exact h1
 ·rw[if_neg hp];exact h2
theorem NZ.bind {α β:Type} {x:Except Fa α} {f:α→Except Fa β} (h:NZ l x) (k:∀ a,NZ l (f a)):NZ l (x>>=f):=fun g e=>by
 rcases bW e with e|⟨a,_,e⟩
 ·exact h g e
 ·exact k a g e
theorem bo (s:ByteArray) (k:Ix l):NZ l (aT s k):=by
 unfold aT
 repeat'(first|exact NZ.ok _|exact NZ.fl (by decide)|(with_reducible refine NZ.ite ?_ ?_))
theorem eJ (s:ByteArray) (k:Ix l):NZ l (cX s k):=by
 unfold cX
 repeat'(first|exact NZ.ok _|exact NZ.fl (by decide)|(with_reducible refine NZ.ite ?_ ?_))
theorem aP (k:Ix l):NZ l (aQ k):=by
 unfold aQ
 repeat'(first|exact NZ.ok _|exact NZ.fl (by decide)|(with_reducible refine NZ.ite ?_ ?_))
theorem mg:∀ (n:Nat) (acc:List ByteArray) (k:Ix l),NZ l (cW n acc k)
 |0,_,_=>by rw[cW];exact NZ.fl (by decide)
 |n+1,_,_=>by
  rw[cW]
  repeat'(first|exact NZ.ok _|exact aP _|exact mg n _ _|(with_reducible refine NZ.bind ?_ fun x=>?_)|(with_reducible refine NZ.ite ?_ ?_))
theorem dz (k:Ix l):NZ l (bq k):=by
 unfold bq
 repeat'(first|exact bo _ _|exact aP _|exact mg _ _ _|(with_reducible refine NZ.bind ?_ fun x=>?_))
theorem gf:∀ (n:Nat) (acc:List ByteArray) (k:Ix l),NZ l (b5 n acc k)
 |0,_,_=>by rw[b5];exact NZ.fl (by decide)
 |n+1,_,_=>by
  rw[b5]
  repeat'(first|exact NZ.ok _|exact aP _|exact gf n _ _|(with_reducible refine NZ.bind ?_ fun x=>?_)|(with_reducible refine NZ.ite ?_ ?_))
theorem ju (k:Ix l):NZ l (cn k):=by
 unfold cn
 repeat'(first|exact aP _|exact gf _ _ _|(with_reducible refine NZ.bind ?_ fun x=>?_))
theorem lJ (a b:Bool) (s:NS) (k:Ix l):NZ l (dM a b s k):=by
 unfold dM
 repeat'(first|exact NZ.ok _|exact aP _|(with_reducible refine NZ.bind ?_ fun x=>?_)|(with_reducible refine NZ.ite ?_ ?_))
theorem tD (a:Bool):∀ (n:Nat) (s:NS) (k:Ix l),NZ l (jG a n s k)
 |0,_,_=>by rw[jG];exact NZ.fl (by decide)
 |n+1,_,_=>by
  rw[jG]
  repeat'(first|exact NZ.ok _|exact lJ _ _ _ _|exact tD a n _ _|(with_reducible refine NZ.bind ?_ fun x=>?_)|(with_reducible refine NZ.ite ?_ ?_))
theorem aX (a:Bool) (k:Ix l):NZ l (b6 a k):=by
 unfold b6
 repeat'(first|exact NZ.ok _|exact aP _|exact lJ _ _ _ _|exact tD _ _ _ _|(with_reducible refine NZ.bind ?_ fun x=>?_)|(with_reducible refine NZ.ite ?_ ?_))
theorem o5 (k:Ix l):NZ l (er k):=by
 unfold er
 repeat'(first|exact NZ.ok _|exact aP _|(with_reducible refine NZ.bind ?_ fun x=>?_)|(with_reducible refine NZ.ite ?_ ?_))
theorem o4:∀ (n:Nat) (v:Lv) (k:Ix l),NZ l (dA n v k)
 |0,_,_=>by rw[dA];exact NZ.fl (by decide)
 |n+1,_,_=>by
  rw[dA]
  repeat'(first|exact NZ.ok _|exact o5 _|exact o4 n _ _|(with_reducible refine NZ.bind ?_ fun x=>?_)|(with_reducible refine NZ.ite ?_ ?_))
theorem gT (k:Ix l):NZ l (dH k):=by
 unfold dH
 repeat'(first|exact NZ.ok _|exact aP _|exact o4 _ _ _|(with_reducible refine NZ.bind ?_ fun x=>?_)|(with_reducible refine NZ.ite ?_ ?_))
theorem il (k:Ix l):NZ l (cG k):=by
 unfold cG
 repeat'(first|exact NZ.ok _|exact gT _|(with_reducible refine NZ.bind ?_ fun x=>?_)|(with_reducible refine NZ.ite ?_ ?_))
theorem jU (k:Ix l):NZ l (bR k):=by
 unfold bR
 repeat'(first|exact NZ.ok _|exact bo _ _|exact aP _|exact il _|(with_reducible refine NZ.bind ?_ fun x=>?_))
theorem dy (ws:List ByteArray) (k:Ix l):NZ l (bb ws k):=by
 unfold bb
 repeat'(first|exact NZ.ok _|exact NZ.fl (by decide)|split)
theorem pc (v:Bool) (k:Ix l):NZ l (gy v k):=by
 unfold gy
 repeat'(first|exact NZ.ok _|exact NZ.fl (by decide)|(with_reducible refine NZ.ite ?_ ?_)|split)
theorem wz (k:Ix l):NZ l (jF k):=by
 unfold jF
 repeat'(first|exact NZ.ok _|exact dy _ _|(with_reducible refine NZ.bind ?_ fun x=>?_)|(with_reducible refine NZ.ite ?_ ?_))
theorem nB (v:Bool) (k:Ix l):NZ l (mA v k):=by
 unfold mA
 repeat'(first|exact NZ.ok _|exact aP _|exact dz _|exact pc _ _|exact wz _|(with_reducible refine NZ.bind ?_ fun x=>?_)|(with_reducible refine NZ.ite ?_ ?_))
theorem lY (v:Bool):∀ n:Nat,(∀ k:Ix l,NZ l (ew v n k))∧(∀ k:Ix l,NZ l (fI v n k))∧(∀ (e:Ex) (k:Ix l),NZ l (cT v n e k))∧(∀ k:Ix l,NZ l (fy v n k))∧(∀ (e:Ex) (k:Ix l),NZ l (cU v n e k))
 |0=>⟨fun k=>(by rw[ew];exact NZ.fl (by decide)),fun k=>(by rw[fI];exact NZ.fl (by decide)),fun e k=>(by rw[cT];exact NZ.fl (by decide)),fun k=>(by rw[fy];exact NZ.fl (by decide)),fun e k=>(by rw[cU];exact NZ.fl (by decide))⟩
 |n+1=>by
  obtain ⟨i1,i2,i3,i4,i5⟩:=lY v n
  refine⟨fun k=>?_,fun k=>?_,fun e k=>?_,fun k=>?_,fun e k=>?_⟩
  ·rw[ew]
   repeat'(first|exact NZ.ok _|exact bo _ _|exact nB _ _|exact i1 _|exact i2 _|exact i3 _ _|exact i4 _|exact i5 _ _|(with_reducible refine NZ.bind ?_ fun x=>?_)|(with_reducible refine NZ.ite ?_ ?_))
  ·rw[fI]
   repeat'(first|exact NZ.ok _|exact bo _ _|exact nB _ _|exact i1 _|exact i2 _|exact i3 _ _|exact i4 _|exact i5 _ _|(with_reducible refine NZ.bind ?_ fun x=>?_)|(with_reducible refine NZ.ite ?_ ?_))
  ·rw[cT]
   repeat'(first|exact NZ.ok _|exact bo _ _|exact nB _ _|exact i1 _|exact i2 _|exact i3 _ _|exact i4 _|exact i5 _ _|(with_reducible refine NZ.bind ?_ fun x=>?_)|(with_reducible refine NZ.ite ?_ ?_))
  ·rw[fy]
   repeat'(first|exact NZ.ok _|exact bo _ _|exact nB _ _|exact i1 _|exact i2 _|exact i3 _ _|exact i4 _|exact i5 _ _|(with_reducible refine NZ.bind ?_ fun x=>?_)|(with_reducible refine NZ.ite ?_ ?_))
  ·rw[cU]
   repeat'(first|exact NZ.ok _|exact bo _ _|exact nB _ _|exact i1 _|exact i2 _|exact i3 _ _|exact i4 _|exact i5 _ _|(with_reducible refine NZ.bind ?_ fun x=>?_)|(with_reducible refine NZ.ite ?_ ?_))
theorem kO (v:Bool) (k:Ix l):NZ l (cI v k):=by
 unfold cI
 repeat'(first|exact NZ.ok _|exact NZ.fl (by decide)|exact(lY _ _).2.2.2.1 _|(with_reducible refine NZ.bind ?_ fun x=>?_)|(with_reducible refine NZ.ite ?_ ?_))
theorem oW (k:Ix l):NZ l (gQ k):=by
 unfold gQ
 repeat'(first|exact NZ.ok _|exact NZ.fl (by decide)|(with_reducible refine NZ.ite ?_ ?_))
theorem B3 (w:ByteArray) (s:Stm) (k:Ix l):NZ l (bJ w s k):=by
 unfold bJ
 repeat'(first|exact NZ.ok _|exact eJ _ _|exact aP _|exact dz _|exact gf _ _ _|exact ju _|exact aX _ _|exact gT _|exact il _|exact dy _ _|(with_reducible refine NZ.bind ?_ fun x=>?_)|(with_reducible refine NZ.ite ?_ ?_))
theorem zJ (b:Bool) (s:Stm) (k:Ix l):NZ l (cJ b s k):=by
 unfold cJ
 repeat'(first|exact NZ.ok _|exact bo _ _|exact aX _ _|(with_reducible refine NZ.bind ?_ fun x=>?_))
theorem BA (w:ByteArray) (s:Stm) (k:Ix l):NZ l (dE w s k):=by
 unfold dE
 repeat'(first|exact NZ.ok _|exact NZ.fl (by decide)|exact aP _|exact aX _ _|exact il _|exact kO _ _|exact zJ _ _ _|(with_reducible refine NZ.bind ?_ fun x=>?_)|(with_reducible refine NZ.ite ?_ ?_))
theorem xw (w:ByteArray) (s:Stm) (k:Ix l):NZ l (dw w s k):=by
 unfold dw
 repeat'(first|exact NZ.ok _|exact aP _|exact dz _|exact ju _|exact aX _ _|exact jU _|exact dy _ _|exact oW _|(with_reducible refine NZ.bind ?_ fun x=>?_)|(with_reducible refine NZ.ite ?_ ?_))
theorem ki (w:ByteArray) (s:Stm) (k:Ix l):NZ l (aG w s k):=by
 unfold aG
 repeat'(first|exact NZ.ok _|exact bo _ _|exact B3 _ _ _|exact BA _ _ _|exact xw _ _ _|(with_reducible refine NZ.bind ?_ fun x=>?_)|(with_reducible refine NZ.ite ?_ ?_))
theorem tM (k:Ix l):NZ l (gG k):=by
 unfold gG
 repeat'(first|exact NZ.ok _|exact NZ.fl (by decide)|exact bo _ _|exact eJ _ _|exact aP _|(with_reducible refine NZ.bind ?_ fun x=>?_)|(with_reducible refine NZ.ite ?_ ?_))
theorem jB (k:Ix l):NZ l (ig tksK k):=by
 unfold ig
 exact NZ.bind (fun g h=>⟨mV h,.inl (BS h)⟩) fun x=>NZ.ok _
theorem fC:∀ n:Nat,(∀ (d:Nat) (k:Ix l) (c:Nat),NZ l (cq tksK n d k c))∧(∀ (d:Nat) (b:Bool) (s:Stm) (k:Ix l) (c:Nat),NZ l (bU tksK n d b s k c))∧(∀ (d:Nat) (k:Ix l) (c:Nat),NZ l (bF tksK n d k c))∧(∀ (d:Nat) (a:List Stm) (k:Ix l) (c:Nat),NZ l (bH tksK n d a k c))
 |0=>⟨fun d k c=>(by rw[cq];exact NZ.fl (by decide)),fun d b s k c=>(by rw[bU];exact NZ.fl (by decide)),fun d k c=>(by rw[bF];exact NZ.fl (by decide)),fun d a k c=>(by rw[bH];exact NZ.fl (by decide))⟩
 |n+1=>by
  obtain ⟨i1,i2,i3,i4⟩:=fC n
  refine⟨fun d k c=>?_,fun d b s k c=>?_,fun d k c=>?_,fun d a k c=>?_⟩
  ·rw[cq]
   repeat'(first|exact NZ.ok _|exact NZ.fl (by decide)|exact bo _ _|exact ki _ _ _|exact jB _|exact i1 _ _ _|exact i2 _ _ _ _ _|exact i3 _ _ _|exact i4 _ _ _ _|(with_reducible refine NZ.bind ?_ fun x=>?_)|(with_reducible refine NZ.ite ?_ ?_))
  ·rw[bU]
   repeat'(first|exact NZ.ok _|exact NZ.fl (by decide)|exact bo _ _|exact ki _ _ _|exact jB _|exact i1 _ _ _|exact i2 _ _ _ _ _|exact i3 _ _ _|exact i4 _ _ _ _|(with_reducible refine NZ.bind ?_ fun x=>?_)|(with_reducible refine NZ.ite ?_ ?_))
  ·rw[bF]
   repeat'(first|exact NZ.ok _|exact NZ.fl (by decide)|exact bo _ _|exact ki _ _ _|exact jB _|exact i1 _ _ _|exact i2 _ _ _ _ _|exact i3 _ _ _|exact i4 _ _ _ _|(with_reducible refine NZ.bind ?_ fun x=>?_)|(with_reducible refine NZ.ite ?_ ?_))
  ·rw[bH]
   repeat'(first|exact NZ.ok _|exact NZ.fl (by decide)|exact bo _ _|exact ki _ _ _|exact jB _|exact i1 _ _ _|exact i2 _ _ _ _ _|exact i3 _ _ _|exact i4 _ _ _ _|(with_reducible refine NZ.bind ?_ fun x=>?_)|(with_reducible refine NZ.ite ?_ ?_))
def lD (k:Ix l):Except Fa (Mo×(Ix l×Nat)):=gG k>>=fun x=>bH tksK (fuel l) 0 [] x.2 0>>=fun y=>.ok ({x.1 with stmts:=y.1},y.2)
def zQ {α:Type} (x:Except Fa (α×Ix l)):Except Fa (α×(Ix l×Nat)):=x>>=fun y=>.ok (y.1,(y.2,0))
theorem tz (k:Ix l):NZ l (lD k):=by
 unfold lD
 repeat'(first|exact NZ.ok _|exact tM _|exact(fC _).2.2.2 _ _ _ _|(with_reducible refine NZ.bind ?_ fun x=>?_))
theorem Ej {α:Type} {x:Except Fa (α×Ix l)} (h:NZ l x):NZ l (zQ x):=NZ.bind h fun _=>NZ.ok _
end
def l5 {α:Type} (src:ByteArray) (sp:∀ l:List Tok,Ix l→Except Fa (α×(Ix l×Nat))):Except Fa α:=
 dL src>>=fun l=>if h:0<l.length then sp l ⟨0,h⟩>>=fun x=>if(tk x.2.1).kind=0 then .ok x.1 else .error (flt 9 (tk x.2.1)) else .error (fl0 9 ⟨0,0⟩)
theorem qq (src:ByteArray):∀ n k:Nat,NZ [] (gw src n k)
 |0,_=>NZ.ok _
 |n+1,k=>by
  rw[gw]
  split
  ·exact NZ.ok _
  ·split
   ·rename_i c off ho
    exact NZ.f0 (l8 ho)
   ·exact NZ.bind (qq src n _) fun _=>NZ.ok _
theorem kr (src:ByteArray):NZ [] (dL src):=by
 unfold dL
 split
 ·exact NZ.f0 (by decide)
 ·exact qq _ _ _
def NZs {α:Type} (sp:∀ l:List Tok,Ix l→Except Fa (α×(Ix l×Nat))):Prop:=∀ (l:List Tok) (k:Ix l),NZ l (sp l k)
theorem zM {α:Type} (src:ByteArray) {sp:∀ l:List Tok,Ix l→Except Fa (α×(Ix l×Nat))} (h:NZs sp) {f:Fa} (hf:l5 src sp= .error f):f.code≠0:=by
 unfold l5 at hf
 rcases bW hf with hf|⟨l,_,hf⟩
 ·exact(kr _ f hf).1
 ·split at hf
  ·rename_i hl
   refine(NZ.bind (h l ⟨0,hl⟩) (fun x=>?_) f hf).1
   split
   ·exact NZ.ok _
   ·exact NZ.fl (by decide)
  ·injection hf with hf;subst hf;exact(by decide:(9:Int)≠0)
def iy (src:ByteArray):Except Fa Mo:=l5 src fun _ k=>lD k
def pD (src:ByteArray):Except Fa NS:=l5 src fun _ k=>zQ (b6 true k)
end Am
namespace Am
open Tk
section
variable {l:List Tok}
def okM (f:Fa) (s:ByteArray) (k:Ix l):Bool:=decide (f.code=0)&&isM s k
def okW (f:Fa) (s:ByteArray) (k:Ix l):Bool:=decide (f.code=0)&&isW s k
def okN (f:Fa) (k:Ix l):Bool:=decide (f.code=0)&&cb k
def aO (s:ByteArray) (k:Ix l) (f:Fa):Ix l×Fa:=(adv (okM f s k) k,if okM f s k=true then f else bZ f 9 (tk k))
def iu (s:ByteArray) (k:Ix l) (f:Fa):Ix l×Fa:=(adv (okW f s k) k,if okW f s k=true then f else bZ f 9 (tk k))
def dV:Nat→List ByteArray→Ix l→Fa→List ByteArray×(Ix l×Fa)
 |0,acc,k,f=>(acc,(k,f))
 |n+1,acc,k,f=>if(decide (f.code=0)&& !okM f ⟨#[125]⟩ k)=true then dV n (acc++[(aB k f).1]) (aB k f).2.1 (aB k f).2.2 else(acc,(k,f))
def km (k:Ix l) (f:Fa):List ByteArray×(Ix l×Fa):=dV (fuel l) [(aB k f).1] (aB k f).2.1 (aB k f).2.2
def k8 (k:Ix l) (f:Fa):List ByteArray×(Ix l×Fa):=((km k f).1,aO ⟨#[125]⟩ (km k f).2.1 (km k f).2.2)
def bN (k:Ix l) (f:Fa):List ByteArray×(Ix l×Fa):=k8 (aO ⟨#[123]⟩ k f).1 (aO ⟨#[123]⟩ k f).2
def b9 (ws:List ByteArray) (k:Ix l) (f:Fa):Int×(Ix l×Fa):=match ws.findIdx? (fun s=>okW f s k) with|some i=>((i:Int)+1,(nx k,f))|none=>(0,(k,bZ f 9 (tk k)))
def cy (self:Bool) (n:NS) (k:Ix l) (f:Fa):NS×(Ix l×Fa):=
 if okM f ⟨#[42]⟩ k=true then({n with all:=true},(nx k,f))
 else if okM f ⟨#[45]⟩ k=true then({n with except:=n.except++[(aB (nx k) f).1]},(aB (nx k) f).2)
 else if(self&&okW f ⟨#[115,101,108,102]⟩ k)=true then({n with self:=true},(nx k,f))
 else({n with names:=n.names++[(aB k f).1]},(aB k f).2)
def fv (self:Bool):Nat→NS→Ix l→Fa→NS×(Ix l×Fa)
 |0,n,k,f=>(n,(k,f))
 |m+1,n,k,f=>if(decide (f.code=0)&& !okM f ⟨#[125]⟩ k)=true then fv self m (cy self n k f).1 (cy self n k f).2.1 (cy self n k f).2.2 else(n,(k,f))
def jC (self:Bool) (n:NS) (k:Ix l) (f:Fa):NS×(Ix l×Fa):=fv self (fuel l) (cy self n k f).1 (cy self n k f).2.1 (cy self n k f).2.2
def kJ (self:Bool) (n:NS) (k:Ix l) (f:Fa):NS×(Ix l×Fa):=((jC self n k f).1,aO ⟨#[125]⟩ (jC self n k f).2.1 (jC self n k f).2.2)
def bz (self:Bool) (k:Ix l) (f:Fa):NS×(Ix l×Fa):=
 if okM f ⟨#[126]⟩ k=true then
  if okN f (nx k)=true then(⟨false,true,false,[(aB (nx k) f).1],[]⟩,(aB (nx k) f).2)
  else if okM f ⟨#[123]⟩ (nx k)=true then kJ self (ns0 true) (nx (nx k)) f
  else(ns0 true,(nx k,bZ f 9 (tk (nx k))))
 else if okM f ⟨#[123]⟩ k=true then kJ self (ns0 false) (nx k) f
 else if okM f ⟨#[45]⟩ k=true then(ns0 false,(k,bZ f 9 (tk k)))
 else cy self (ns0 false) k f
def fb (k:Ix l) (f:Fa):Sp×(Ix l×Fa):=
 if okM (aB k f).2.2 ⟨#[46]⟩ (aB k f).2.1=true then(⟨(aB k f).1,(aB (nx (aB k f).2.1) (aB k f).2.2).1⟩,(aB (nx (aB k f).2.1) (aB k f).2.2).2) else(⟨(aB k f).1,⟨#[]⟩⟩,(aB k f).2)
def fN:Nat→Lv→Ix l→Fa→Lv×(Ix l×Fa)
 |0,v,k,f=>(v,(k,f))
 |n+1,v,k,f=>if okM (fb k f).2.2 ⟨#[44]⟩ (fb k f).2.1=true then fN n {v with cats:=v.cats++[(fb k f).1]} (nx (fb k f).2.1) (fb k f).2.2 else({v with cats:=v.cats++[(fb k f).1]},(fb k f).2)
def cA (k:Ix l) (f:Fa):Lv×(Ix l×Fa):=if okM (aB k f).2.2 ⟨#[58]⟩ (aB k f).2.1=true then fN (fuel l) ⟨(aB k f).1,[]⟩ (nx (aB k f).2.1) (aB k f).2.2 else(⟨(aB k f).1,[]⟩,(aB k f).2)
def lH (a:Lv) (k:Ix l) (f:Fa):Rg×(Ix l×Fa):=if okM f ⟨#[45]⟩ k=true then(⟨a,(cA (nx k) f).1⟩,(cA (nx k) f).2) else(⟨a,Lv.zero⟩,(k,f))
def du (k:Ix l) (f:Fa):Rg×(Ix l×Fa):=lH (cA k f).1 (cA k f).2.1 (cA k f).2.2
def qe (u r t:ByteArray) (k:Ix l) (f:Fa):Ct×(Ix l×Fa):=(⟨u,r,t,(du k f).1⟩,(du k f).2)
def o6 (u r t:ByteArray) (k:Ix l) (f:Fa):Ct×(Ix l×Fa):=qe u r t (aO ⟨#[58]⟩ k f).1 (aO ⟨#[58]⟩ k f).2
def nY (u r:ByteArray) (k:Ix l) (f:Fa):Ct×(Ix l×Fa):=o6 u r (aB (aO ⟨#[58]⟩ k f).1 (aO ⟨#[58]⟩ k f).2).1 (aB (aO ⟨#[58]⟩ k f).1 (aO ⟨#[58]⟩ k f).2).2.1 (aB (aO ⟨#[58]⟩ k f).1 (aO ⟨#[58]⟩ k f).2).2.2
def qy (u:ByteArray) (k:Ix l) (f:Fa):Ct×(Ix l×Fa):=nY u (aB (aO ⟨#[58]⟩ k f).1 (aO ⟨#[58]⟩ k f).2).1 (aB (aO ⟨#[58]⟩ k f).1 (aO ⟨#[58]⟩ k f).2).2.1 (aB (aO ⟨#[58]⟩ k f).1 (aO ⟨#[58]⟩ k f).2).2.2
def cY (k:Ix l) (f:Fa):Ct×(Ix l×Fa):=qy (aB k f).1 (aB k f).2.1 (aB k f).2.2
def RQ {α:Type} (f:Fa) (sp:Except Fa (α×Ix l)) (t:α×(Ix l×Fa)):Prop:=(f.code≠0→t.2.2=f)∧(f.code=0→match sp with| .ok x=>t=(x.1,(x.2,f))| .error g=>t.2.2=g)
section
variable {α β:Type} {f:Fa} {k:Ix l}
theorem ff:¬ (false=true):=by decide
theorem gY {e:Int} {t:Tok} (h:f.code=0):bZ f e t=flt e t:=if_pos h
theorem dJ {e:Int} {t:Tok} (h:f.code≠0):bZ f e t=f:=if_neg h
theorem DK {e:Int} {t:Tok} (h:e≠0):(bZ f e t).code≠0:=by
 unfold bZ
 split
 ·exact h
 ·assumption
theorem jn (h:f.code=0) (s:ByteArray) (k:Ix l):okM f s k=isM s k:=by simp[okM,h]
theorem om (h:f.code≠0) (s:ByteArray) (k:Ix l):okM f s k=false:=by simp[okM,h]
theorem oI (h:f.code=0) (s:ByteArray) (k:Ix l):okW f s k=isW s k:=by simp[okW,h]
theorem kD (h:f.code≠0) (s:ByteArray) (k:Ix l):okW f s k=false:=by simp[okW,h]
theorem EX (h:f.code=0) (k:Ix l):okN f k=cb k:=by simp[okN,h]
theorem RQ.ok (v:α) (k:Ix l):RQ f (.ok (v,k)) (v,(k,f)):=⟨fun _=>rfl,fun _=>rfl⟩
theorem RQ.err (v:α) (k k':Ix l) {e:Int} {t:Tok}:RQ f (.error (flt e t)) (v,(k',bZ f e t)):=⟨fun h=>dJ h,fun h=>gY h⟩
theorem RQ.bind {sp:Except Fa (α×Ix l)} {t:α×(Ix l×Fa)} {g:α×Ix l→Except Fa (β×Ix l)} {u:α→Ix l→Fa→β×(Ix l×Fa)} (h:RQ f sp t) (hz:NZ l sp) (hk:∀ v k f,RQ f (g (v,k)) (u v k f)):RQ f (sp>>=g) (u t.1 t.2.1 t.2.2):=by
 refine⟨fun hf=>?_,fun hf=>?_⟩
 ·rw[h.1 hf]
  exact(hk _ _ f).1 hf
 ·have h2:=h.2 hf
  cases sp with
  |ok x=>
   have h2:t=(x.1,(x.2,f)):=h2
   rw[h2]
   exact(hk x.1 x.2 f).2 hf
  |error e=>
   have h2:t.2.2=e:=h2
   show(u t.1 t.2.1 t.2.2).2.2=e
   rw[h2]
   exact(hk _ _ e).1 (hz e rfl).1
theorem RQ.iteM {s:ByteArray} {A B:Except Fa (α×Ix l)} {A' B':α×(Ix l×Fa)} (hA:RQ f A A') (hB:RQ f B B'):RQ f (if isM s k then A else B) (if okM f s k=true then A' else B'):=by
 by_cases hf:f.code=0
 ·rw[jn hf]
  by_cases h:isM s k=true
  ·rw[if_pos h,if_pos h];exact hA
  ·rw[if_neg h,if_neg h];exact hB
 ·rw[om hf,if_neg ff]
  exact⟨hB.1,fun h=>absurd h hf⟩
theorem RQ.iteW {s:ByteArray} {A B:Except Fa (α×Ix l)} {A' B':α×(Ix l×Fa)} (hA:RQ f A A') (hB:RQ f B B'):RQ f (if isW s k then A else B) (if okW f s k=true then A' else B'):=by
 by_cases hf:f.code=0
 ·rw[oI hf]
  by_cases h:isW s k=true
  ·rw[if_pos h,if_pos h];exact hA
  ·rw[if_neg h,if_neg h];exact hB
 ·rw[kD hf,if_neg ff]
  exact⟨hB.1,fun h=>absurd h hf⟩
theorem bT (k:Ix l) (f:Fa):RQ f (aQ k) (aB k f):=by
 unfold aQ aB
 by_cases hf:f.code=0
 ·by_cases h:cb k=true
  ·have e:(decide (f.code=0)&&cb k)=true:=by simp[hf,h]
   rw[if_pos h,if_pos e];exact .ok _ _
  ·have e:¬ (decide (f.code=0)&&cb k)=true:=by simp[h]
   rw[if_neg h,if_neg e];exact .err _ k _
 ·have e:¬ (decide (f.code=0)&&cb k)=true:=by simp[hf]
  rw[if_neg e];exact⟨fun h=>dJ h,fun h=>absurd h hf⟩
theorem fm (s:ByteArray) (k:Ix l) (f:Fa):RQ f (aT s k) ((),aO s k f):=by
 unfold aT aO
 by_cases hf:f.code=0
 ·rw[jn hf]
  by_cases h:isM s k=true
  ·rw[if_pos h,if_pos h,h];exact .ok _ _
  ·rw[if_neg h,if_neg h];exact .err _ k _
 ·rw[om hf,if_neg ff];exact⟨fun h=>dJ h,fun h=>absurd h hf⟩
theorem oV (s:ByteArray) (k:Ix l) (f:Fa):RQ f (cX s k) ((),iu s k f):=by
 unfold cX iu
 by_cases hf:f.code=0
 ·rw[oI hf]
  by_cases h:isW s k=true
  ·rw[if_pos h,if_pos h,h];exact .ok _ _
  ·rw[if_neg h,if_neg h];exact .err _ k _
 ·rw[kD hf,if_neg ff];exact⟨fun h=>dJ h,fun h=>absurd h hf⟩
theorem eX (hl:Fine l) (k:Ix l) (f:Fa):(f.code=0∧(aB k f).2.2=f∧(aB k f).2.1.1=k.1+1)∨((aB k f).2.1=k∧(aB k f).2.2.code≠0):=by
 unfold aB
 by_cases h:(decide (f.code=0)&&cb k)=true
 ·rw[if_pos h]
  rw[Bool.and_eq_true] at h
  refine .inl ⟨of_decide_eq_true h.1,rfl,eG hl ?_⟩
  have:=h.2
  simp[cb] at this
  rw[this.1];decide
 ·rw[if_neg h]
  exact .inr ⟨rfl,DK (by decide)⟩
theorem jP {n:Nat} {acc:List ByteArray} (h:f.code≠0):dV n acc k f=(acc,(k,f)):=by
 cases n with
 |zero=>rfl
 |succ n=>rw[dV,if_neg (by simp[h])]
theorem dm (s:ByteArray) (h:f.code≠0):(aO s k f).2=f:=by
 unfold aO
 rw[om h,if_neg ff];exact dJ h
theorem nS (hl:Fine l):∀ (n:Nat) (acc:List ByteArray) (k:Ix l) (f:Fa),l.length<n+k.1→RQ f (cW n acc k) ((dV n acc k f).1,aO ⟨#[125]⟩ (dV n acc k f).2.1 (dV n acc k f).2.2)
 |0,_,k,_,h=>absurd k.2 (by omega)
 |n+1,acc,k,f,h=>by
  by_cases hf:f.code=0
  ·rw[cW,dV,jn hf]
   by_cases hm:isM ⟨#[125]⟩ k=true
   ·rw[if_pos hm,if_neg (by simp[hm])]
    have e:aO ⟨#[125]⟩ k f=(nx k,f):=by unfold aO;rw[jn hf,hm,if_pos rfl];rfl
    show RQ f _ (acc,aO _ k f)
    rw[e];exact .ok _ _
   ·rw[if_neg hm,if_pos (by simp[hf,hm])]
    have hn:=bT k f
    rcases eX hl k f with⟨_,h1,h2⟩|⟨h1,h2⟩
    ·have hn2:=hn.2 hf
     cases hp:aQ k with
     |ok x=>
      rw[hp] at hn2
      have hn2:aB k f=(x.1,(x.2,f)):=hn2
      rw[hn2] at h2 ⊢
      exact nS hl n _ x.2 f (by have h2:x.2.1=k.1+1:=h2;omega)
     |error e=>
      rw[hp] at hn2
      have hn2:(aB k f).2.2=e:=hn2
      exact absurd ((aP k e hp).1) (by rw[← hn2,h1,hf];decide)
    ·have hn2:=hn.2 hf
     cases hp:aQ k with
     |ok x=>
      rw[hp] at hn2
      have hn2:aB k f=(x.1,(x.2,f)):=hn2
      rw[hn2] at h2
      exact absurd hf h2
     |error e=>
      rw[hp] at hn2
      have hn2:(aB k f).2.2=e:=hn2
      rw[jP h2]
      refine⟨fun h=>absurd hf h,fun _=>?_⟩
      show(aO _ _ _).2=e
      rw[dm _ h2,hn2]
  ·rw[jP hf]
   exact⟨fun _=>dm _ hf,fun h=>absurd h hf⟩
theorem RQ.bindK {sp:Except Fa (α×Ix l)} {t:α×(Ix l×Fa)} {g:α×Ix l→Except Fa (β×Ix l)} {u:α→Ix l→Fa→β×(Ix l×Fa)} (h:RQ f sp t) (hz:NZ l sp) (hk:∀ v k,sp= .ok (v,k)→RQ f (g (v,k)) (u v k f)) (hb:∀ v k f,f.code≠0→(u v k f).2.2=f):RQ f (sp>>=g) (u t.1 t.2.1 t.2.2):=by
 refine⟨fun hf=>?_,fun hf=>?_⟩
 ·rw[h.1 hf]
  exact hb _ _ f hf
 ·have h2:=h.2 hf
  cases sp with
  |ok x=>
   have h2:t=(x.1,(x.2,f)):=h2
   rw[h2]
   exact(hk x.1 x.2 rfl).2 hf
  |error e=>
   have h2:t.2.2=e:=h2
   show(u t.1 t.2.1 t.2.2).2.2=e
   rw[h2]
   exact hb _ _ e (hz e rfl).1
theorem uw (hl:Fine l) (k:Ix l) (f:Fa):RQ f (aQ k>>=fun y=>cW (fuel l) [y.1] y.2) (k8 k f):=by
 have hn:l.length<fuel l:=by unfold fuel;omega
 unfold k8 km
 generalize fuel l=n at *
 refine RQ.bindK (t:=aB k f) (u:=fun v k f=>((dV n [v] k f).1,aO ⟨#[125]⟩ (dV n [v] k f).2.1 (dV n [v] k f).2.2)) (bT k f) (aP k) (fun v k' _=>?_) fun v k' f' h=>?_
 ·exact nS hl _ _ _ _ (by omega)
 ·show(aO _ _ _).2=f'
  rw[jP h];exact dm _ h
theorem j9 (hl:Fine l) (k:Ix l) (f:Fa):RQ f (bq k) (bN k f):=by
 unfold bq bN
 refine RQ.bind (t:=((),aO ⟨#[123]⟩ k f)) (u:=fun _ k f=>k8 k f) (fm _ k f) (bo _ k) fun _ k' f'=>?_
 exact uw hl k' f'
theorem uv {n:Nat} {acc:List ByteArray} (h:f.code≠0):fG n acc k f=(acc,(k,f)):=by
 cases n with
 |zero=>rfl
 |succ n=>rw[fG,if_neg (by simp[h])]
theorem ie (ws:List ByteArray) (k:Ix l) (f:Fa):RQ f (bb ws k>>=fun x=>.ok (x.1+1,x.2)) (b9 ws k f):=by
 unfold bb b9
 by_cases hf:f.code=0
 ·have e:(fun s=>okW f s k)=fun s=>isW s k:=funext fun s=>oI hf s k
  rw[e]
  cases ws.findIdx? fun s=>isW s k with
  |some i=>exact .ok _ _
  |none=>exact .err _ k _
 ·have e:(fun s=>okW f s k)=fun _=>false:=funext fun s=>kD hf s k
  rw[e]
  have e2:ws.findIdx? (fun _=>false)=none:=by rw[List.findIdx?_eq_none_iff];simp
  rw[e2]
  exact⟨fun h=>dJ h,fun h=>absurd h hf⟩
theorem Cz {s t:ByteArray} (h:isM s k=true):isW t k=false:=by
 simp only[isM,isW,Bool.and_eq_true,decide_eq_true_eq] at h ⊢
 rw[h.1];rfl
theorem Cy {s:ByteArray} (h:isM s k=true):cb k=false:=by
 simp only[isM,cb,Bool.and_eq_true,decide_eq_true_eq] at h ⊢
 rw[h.1];rfl
theorem Du {s t:ByteArray} (h:isM s k=true) (hn:s≠t):isM t k=false:=by
 simp only[isM,Bool.and_eq_true,decide_eq_true_eq] at h ⊢
 rw[h.1,h.2,decide_eq_false hn];rfl
theorem lI (self:Bool) (n:NS) (k:Ix l) (f:Fa):RQ f (dM self true n k) (cy self n k f):=by
 unfold dM cy
 refine RQ.iteM (.ok _ _) ?_
 by_cases hm:isM ⟨#[45]⟩ k=true
 ·rw[Cz hm,Bool.and_false,if_neg ff]
  simp only[Bool.true_and]
  by_cases hf:f.code=0
  ·rw[jn hf,if_pos hm,if_pos hm]
   refine RQ.bind (t:=aB (nx k) f) (u:=fun v k f=>({n with except:=n.except++[v]},(k,f))) (bT _ f) (aP _) fun v k f=>?_
   exact .ok _ _
  ·rw[om hf,kD hf,Bool.and_false]
   exact⟨fun h=>(bT k f).1 h,fun h=>absurd h hf⟩
 ·have hm2:okM f ⟨#[45]⟩ k=false:=by unfold okM;rw[Bool.eq_false_iff.2 hm];simp
  simp only[Bool.true_and]
  rw[hm2,if_neg (show ¬ (false=true) by decide),if_neg hm]
  have hk:RQ f (aQ k>>=fun x=>.ok ({n with names:=n.names++[x.1]},x.2)) ({n with names:=n.names++[(aB k f).1]},(aB k f).2):=by
   refine RQ.bind (t:=aB k f) (u:=fun v k f=>({n with names:=n.names++[v]},(k,f))) (bT k f) (aP k) fun v k f=>?_
   exact .ok _ _
  cases self with
  |true=>simp only[Bool.true_and];exact RQ.iteW (.ok _ _) hk
  |false=>simp only[Bool.false_and];rw[if_neg ff,if_neg ff];exact hk
theorem jq (hl:Fine l) (self:Bool) (n:NS) (k:Ix l) (f:Fa):((f.code=0∧(cy self n k f).2.2=f∧k.1<(cy self n k f).2.1.1)∨(k.1≤(cy self n k f).2.1.1∧(cy self n k f).2.2.code≠0))∧(cy self n k f).1.names.length≤n.names.length+1∧(cy self n k f).1.except.length≤n.except.length+1:=by
 unfold cy
 have hM:∀ {s:ByteArray},okM f s k=true→f.code=0∧(nx k).1=k.1+1:=fun {s} h=>by
  unfold okM at h
  rw[Bool.and_eq_true] at h
  exact⟨of_decide_eq_true h.1,aW hl h.2⟩
 split
 ·rename_i h
  obtain ⟨h1,h2⟩:=hM h
  exact⟨.inl ⟨h1,rfl,by dsimp only;omega⟩,by simp,by simp⟩
 ·split
  ·rename_i h
   obtain ⟨h1,h2⟩:=hM h
   refine⟨?_,by simp,by simp⟩
   rcases eX hl (nx k) f with⟨a,b,c⟩|⟨a,b⟩
   ·exact .inl ⟨h1,b,by dsimp only;omega⟩
   ·exact .inr ⟨by dsimp only;rw[a];omega,b⟩
  ·split
   ·rename_i h
    rw[Bool.and_eq_true] at h
    have h:=h.2
    unfold okW at h
    rw[Bool.and_eq_true] at h
    have h2:=fi hl h.2
    exact⟨.inl ⟨of_decide_eq_true h.1,rfl,by dsimp only;omega⟩,by simp,by simp⟩
   ·refine⟨?_,by simp,by simp⟩
    rcases eX hl k f with⟨a,b,c⟩|⟨a,b⟩
    ·exact .inl ⟨a,b,by dsimp only;omega⟩
    ·exact .inr ⟨by dsimp only;rw[a];exact Nat.le_refl _,b⟩
theorem l4 {self:Bool} {n:Nat} {s:NS} (h:f.code≠0):fv self n s k f=(s,(k,f)):=by
 cases n with
 |zero=>rfl
 |succ n=>rw[fv,if_neg (by simp[h])]
theorem qw (hl:Fine l) (self:Bool):∀ (n:Nat) (s:NS) (k:Ix l) (f:Fa),l.length<n+k.1→RQ f (jG self n s k) ((fv self n s k f).1,aO ⟨#[125]⟩ (fv self n s k f).2.1 (fv self n s k f).2.2)
 |0,_,k,_,h=>absurd k.2 (by omega)
 |n+1,s,k,f,h=>by
  by_cases hf:f.code=0
  ·rw[jG,fv,jn hf]
   by_cases hm:isM ⟨#[125]⟩ k=true
   ·rw[if_pos hm,if_neg (by simp[hm])]
    have e:aO ⟨#[125]⟩ k f=(nx k,f):=by unfold aO;rw[jn hf,hm,if_pos rfl];rfl
    show RQ f _ (s,aO _ k f)
    rw[e];exact .ok _ _
   ·rw[if_neg hm,if_pos (by simp[hf,hm])]
    have hn2:=(lI self s k f).2 hf
    cases hp:dM self true s k with
    |ok x=>
     rw[hp] at hn2
     have hn2:cy self s k f=(x.1,(x.2,f)):=hn2
     rw[hn2]
     exact qw hl self n _ x.2 f (by have:=(fg hl hp).1;omega)
    |error e=>
     rw[hp] at hn2
     have hn2:(cy self s k f).2.2=e:=hn2
     have hz:=(lJ self true s k e hp).1
     rw[hn2,l4 hz]
     refine⟨fun h=>absurd hf h,fun _=>?_⟩
     exact dm _ hz
  ·rw[l4 hf]
   exact⟨fun _=>dm _ hf,fun h=>absurd h hf⟩
theorem pV (hl:Fine l) (self:Bool) (n:NS) (k:Ix l) (f:Fa):RQ f (dM self true n k>>=fun x=>jG self (fuel l) x.1 x.2) (kJ self n k f):=by
 have hn:l.length<fuel l:=by unfold fuel;omega
 unfold kJ jC
 generalize fuel l=m at *
 refine RQ.bindK (t:=cy self n k f) (u:=fun v k f=>((fv self m v k f).1,aO ⟨#[125]⟩ (fv self m v k f).2.1 (fv self m v k f).2.2)) (lI self n k f) (lJ self true n k) (fun v k' _=>?_) fun v k' f' h=>?_
 ·exact qw hl self _ _ _ _ (by omega)
 ·show(aO _ _ _).2=f'
  rw[l4 h];exact dm _ h
theorem vO {self:Bool} {n:NS} (h:f.code≠0):(cy self n k f).2.2=f:=(lI self n k f).1 h
theorem fe (hl:Fine l) (self:Bool) (k:Ix l) (f:Fa):RQ f (b6 self k) (bz self k f):=by
 by_cases hf:f.code=0
 ·unfold b6 bz
  simp only[jn hf,EX hf]
  by_cases h1:isM ⟨#[126]⟩ k=true
  ·simp only[h1,adv,if_true]
   by_cases h2:cb (nx k)=true
   ·have h3:isM ⟨#[123]⟩ (nx k)=false:=by
     cases h:isM ⟨#[123]⟩ (nx k) with
     |false=>rfl
     |true=>rw[Cy h] at h2;cases h2
    simp only[h2,h3,if_true,Bool.false_eq_true,if_false]
    refine RQ.bind (t:=aB (nx k) f) (u:=fun v k f=>((⟨false,true,false,[v],[]⟩:NS),(k,f))) (bT (nx k) f) (aP _) fun v k f=>?_
    exact .ok _ _
   ·rw[if_neg h2]
    by_cases h3:isM ⟨#[123]⟩ (nx k)=true
    ·simp only[h3,if_true]
     exact pV hl self _ _ f
    ·rw[if_neg h3,if_neg h3]
     have e:aQ (nx k)= .error (flt 9 (tk (nx k))):=by unfold aQ;rw[if_neg h2]
     rw[e]
     exact .err _ k _
  ·have h1':isM ⟨#[126]⟩ k=false:=Bool.eq_false_iff.2 h1
   simp only[h1',adv,Bool.false_eq_true,if_false]
   by_cases h3:isM ⟨#[123]⟩ k=true
   ·simp only[h3,if_true]
    exact pV hl self _ _ f
   ·rw[if_neg h3,if_neg h3]
    by_cases h4:isM ⟨#[45]⟩ k=true
    ·rw[if_pos h4]
     have e:dM self false (ns0 false) k= .error (flt 9 (tk k)):=by
      unfold dM
      rw[Du h4 (by decide),if_neg ff,Cz h4,Bool.and_false,if_neg ff,Bool.false_and,if_neg ff]
      unfold aQ
      rw[Cy h4,if_neg ff];rfl
     rw[e]
     exact .err _ k _
    ·rw[if_neg h4]
     have e:dM self false (ns0 false) k=dM self true (ns0 false) k:=by
      unfold dM
      rw[Bool.eq_false_iff.2 h4];rfl
     rw[e]
     exact lI self _ k f
 ·refine⟨fun _=>?_,fun h=>absurd h hf⟩
  unfold bz
  simp only[om hf,Bool.false_eq_true,if_false]
  exact vO hf
theorem yI (k:Ix l) (f:Fa):RQ f (er k) (fb k f):=by
 unfold er fb
 refine RQ.bind (t:=aB k f) (u:=fun v k f=>if okM f ⟨#[46]⟩ k=true then((⟨v,(aB (nx k) f).1⟩:Sp),(aB (nx k) f).2) else(⟨v,⟨#[]⟩⟩,(k,f))) (bT k f) (aP k) fun v k f=>?_
 refine RQ.iteM ?_ ?_
 ·refine RQ.bind (t:=aB (nx k) f) (u:=fun w k f=>((⟨v,w⟩:Sp),(k,f))) (bT (nx k) f) (aP _) fun w k f=>?_
  exact .ok _ _
 ·exact .ok _ _
theorem um (hl:Fine l) {k:Ix l} {x:Sp} {k':Ix l} (h:er k= .ok (x,k')):k.1<k'.1:=by
 unfold er at h
 rcases hn:aQ k with e|⟨s,k1⟩
 ·rw[hn] at h;cases h
 ·rw[hn] at h
  have h1:=(bh hl hn).2
  simp only[ag] at h
  split at h
  ·rename_i hd
   have h2:=aW hl hd
   rcases hn2:aQ (nx k1) with e|⟨s2,k2⟩
   ·rw[hn2] at h;cases h
   ·rw[hn2] at h
    have h3:=(bh hl hn2).2
    injection h with h;injection h with _ h;subst h
    show k.1<k2.1
    omega
  ·injection h with h;injection h with _ h;subst h
   show k.1<k1.1
   omega
theorem sX (hl:Fine l) (k:Ix l) (f:Fa):k.1≤(fb k f).2.1.1:=by
 have hn:∀ (k:Ix l) (f:Fa),k.1≤(aB k f).2.1.1:=fun k f=>by
  rcases eX hl k f with⟨_,_,c⟩|⟨a,_⟩
  ·omega
  ·rw[a];exact Nat.le_refl _
 unfold fb
 split
 ·exact Nat.le_trans (hn k f) (Nat.le_trans (gv _) (hn _ _))
 ·exact hn k f
theorem nq (hl:Fine l):∀ (n:Nat) (v:Lv) (k:Ix l) (f:Fa),l.length<n+k.1→RQ f (dA n v k) (fN n v k f)
 |0,_,k,_,h=>absurd k.2 (by omega)
 |n+1,v,k,f,h=>by
  rw[dA,fN]
  refine RQ.bindK (u:=fun x k f=>if okM f ⟨#[44]⟩ k=true then fN n {v with cats:=v.cats++[x]} (nx k) f else({v with cats:=v.cats++[x]},(k,f))) (yI k f) (o5 k) (fun x k' hk=>?_) fun x k' f' h=>?_
  ·have h1:=um hl hk
   refine RQ.iteM (nq hl n _ (nx k') f (by have:=gv k';omega)) (.ok _ _)
  ·simp only[om h,Bool.false_eq_true,if_false]
theorem my (hl:Fine l) (k:Ix l) (f:Fa):RQ f (dH k) (cA k f):=by
 have hn:l.length<fuel l:=by unfold fuel;omega
 unfold dH cA
 generalize fuel l=n at *
 refine RQ.bind (t:=aB k f) (u:=fun x k f=>if okM f ⟨#[58]⟩ k=true then fN n ⟨x,[]⟩ (nx k) f else(⟨x,[]⟩,(k,f))) (bT k f) (aP k) fun x k f=>?_
 exact RQ.iteM (nq hl _ _ _ _ (by omega)) (.ok _ _)
theorem mS (hl:Fine l) (k:Ix l) (f:Fa):RQ f (cG k) (du k f):=by
 unfold cG du
 refine RQ.bind (t:=cA k f) (u:=fun x k f=>lH x k f) (my hl k f) (gT k) fun x k f=>?_
 unfold lH
 refine RQ.iteM ?_ (.ok _ _)
 refine RQ.bind (t:=cA (nx k) f) (u:=fun y k f=>((⟨x,y⟩:Rg),(k,f))) (my hl (nx k) f) (gT _) fun y k f=>?_
 exact .ok _ _
theorem zz (hl:Fine l) (u r t:ByteArray) (k:Ix l) (f:Fa):RQ f (cG k>>=fun g=>.ok (⟨u,r,t,g.1⟩,g.2)) (qe u r t k f):=by
 unfold qe
 refine RQ.bind (t:=du k f) (u:=fun g k f=>((⟨u,r,t,g⟩:Ct),(k,f))) (mS hl k f) (il k) fun g k f=>?_
 exact .ok _ _
theorem An (hl:Fine l) (u r t:ByteArray) (k:Ix l) (f:Fa):RQ f (aT ⟨#[58]⟩ k>>=fun c=>cG c.2>>=fun g=>.ok (⟨u,r,t,g.1⟩,g.2)) (o6 u r t k f):=by
 unfold o6
 refine RQ.bind (t:=((),aO ⟨#[58]⟩ k f)) (u:=fun _ k f=>qe u r t k f) (fm _ k f) (bo _ k) fun _ k f=>?_
 exact zz hl u r t k f
theorem BZ (hl:Fine l) (u r:ByteArray) (k:Ix l) (f:Fa):RQ f (aT ⟨#[58]⟩ k>>=fun b=>aQ b.2>>=fun t=>aT ⟨#[58]⟩ t.2>>=fun c=>cG c.2>>=fun g=>.ok (⟨u,r,t.1,g.1⟩,g.2)) (nY u r k f):=by
 unfold nY
 refine RQ.bind (t:=((),aO ⟨#[58]⟩ k f)) (u:=fun _ k f=>o6 u r (aB k f).1 (aB k f).2.1 (aB k f).2.2) (fm _ k f) (bo _ k) fun _ k f=>?_
 refine RQ.bind (t:=aB k f) (u:=fun t k f=>o6 u r t k f) (bT k f) (aP k) fun t k f=>?_
 exact An hl u r t k f
theorem BM (hl:Fine l) (u:ByteArray) (k:Ix l) (f:Fa):RQ f (aT ⟨#[58]⟩ k>>=fun a=>aQ a.2>>=fun r=>aT ⟨#[58]⟩ r.2>>=fun b=>aQ b.2>>=fun t=>aT ⟨#[58]⟩ t.2>>=fun c=>cG c.2>>=fun g=>.ok (⟨u,r.1,t.1,g.1⟩,g.2)) (qy u k f):=by
 unfold qy
 refine RQ.bind (t:=((),aO ⟨#[58]⟩ k f)) (u:=fun _ k f=>nY u (aB k f).1 (aB k f).2.1 (aB k f).2.2) (fm _ k f) (bo _ k) fun _ k f=>?_
 refine RQ.bind (t:=aB k f) (u:=fun r k f=>nY u r k f) (bT k f) (aP k) fun r k f=>?_
 exact BZ hl u r k f
theorem mq (hl:Fine l) (k:Ix l) (f:Fa):RQ f (bR k) (cY k f):=by
 unfold bR cY
 refine RQ.bind (t:=aB k f) (u:=fun u k f=>qy u k f) (bT k f) (aP k) fun u k f=>?_
 exact BM hl u k f
end
end
end Am
end Go.Proofs.YtkpodagbefnebaaGreatDoor
