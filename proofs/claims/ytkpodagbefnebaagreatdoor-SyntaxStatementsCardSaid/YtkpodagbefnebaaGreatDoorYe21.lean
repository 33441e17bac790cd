import Derived.Test.YtkpodagbefnebaaGreatDoorYe17
import Derived.Test.YtkpodagbefnebaaGreatDoorYe20
import Derived.Test.YtkpodagbefnebaaGreatDoorYe19
set_option linter.unusedSimpArgs false
set_option linter.unusedVariables false
set_option linter.unusedSectionVars false
namespace Go.Proofs.YtkpodagbefnebaaGreatDoor
namespace Am
open Tk
theorem j6 {c:Int} {ts:List Tok} {i:Nat} {α:Type} {g:Fa} (h:(Except.error (flK c ts i):Except Fa α)= .error g):g.name=⟨#[]⟩:=by
 injection h with h;subst h;rfl
theorem sX (ts:List Tok):∀ f:Nat,(∀ {i d:Nat} {g:Fa},bO ts f i d= .error g→g.name=⟨#[]⟩)∧(∀ {n i d:Nat} {g:Fa},cn ts f n i d= .error g→g.name=⟨#[]⟩)∧(∀ {n i d:Nat} {e:Ex} {g:Fa},dr ts f n e i d= .error g→g.name=⟨#[]⟩)
 |0=>⟨fun h=>(by rw[bO] at h;exact j6 h),fun h=>(by rw[cn] at h;exact j6 h),fun h=>(by rw[dr] at h;exact j6 h)⟩
 |f+1=>by
  obtain ⟨i1,i2,i3⟩:=sX ts f
  refine⟨fun {i d g} h=>?_,fun {n i d g} h=>?_,fun {n i d e g} h=>?_⟩
  ·rw[bO] at h
   split at h
   ·split at h
    ·exact j6 h
    ·rcases bU h with h|⟨a,_,h⟩
     ·exact i1 h
     ·cases h
   ·split at h
    ·split at h
     ·exact j6 h
     ·rcases bU h with h|⟨a,_,h⟩
      ·exact i2 h
      ·try dsimp only at h
       split at h
       ·cases h
       ·exact j6 h
    ·split at h
     ·cases h
     ·exact j6 h
  ·rw[cn] at h
   split at h
   ·exact i1 h
   ·rcases bU h with h|⟨a,_,h⟩
    ·exact i2 h
    ·exact i3 h
  ·rw[dr] at h
   split at h
   ·cases h
   ·rcases bU h with h|⟨a,_,h⟩
    ·exact i2 h
    ·exact i3 h
theorem Ai {ts:List Tok} {g:Fa} (h:tksK ts= .error g):g.name=⟨#[]⟩:=by
 unfold tksK at h
 rcases bU h with h|⟨a,_,h⟩
 ·exact(sX ts _).2.1 h
 ·try dsimp only at h
  split at h
  ·exact j6 h
  ·cases h
def NZ (l:List Tok) {β:Type} (x:Except Fa β):Prop:=∀ g,x= .error g→g.code≠0∧(g.name=⟨#[]⟩∨∃ t∈l,g.name=t.text)
section
variable {l:List Tok}
theorem NZ.ok {β:Type} (b:β):NZ l (.ok b:Except Fa β):=fun g h=>(by cases h)
theorem NZ.fl {β:Type} {c:Int} {k:Ix l} (hc:c≠0):NZ l (.error (flt c (tk k)):Except Fa β):=fun g h=>(by injection h with h;subst h;exact⟨hc,.inr ⟨tk k,List.getElem_mem _,rfl⟩⟩)
theorem NZ.f0 {β:Type} {c:Int} {p:Po} (hc:c≠0):NZ l (.error (fl0 c p):Except Fa β):=fun g h=>(by injection h with h;subst h;exact⟨hc,.inl rfl⟩)
theorem NZ.ite {β:Type} {p:Prop} [Decidable p] {x y:Except Fa β} (h1:NZ l x) (h2:NZ l y):NZ l (if p then x else y):=by
 by_cases hp:p
 ·rw[if_pos hp];exact h1
 ·rw[if_neg hp];exact h2
theorem NZ.bind {α β:Type} {x:Except Fa α} {f:α→Except Fa β} (h:NZ l x) (k:∀ a,NZ l (f a)):NZ l (x>>=f):=fun g e=>by
 rcases bU e with e|⟨a,_,e⟩
 ·exact h g e
 ·exact k a g e
theorem bo (s:ByteArray) (k:Ix l):NZ l (aT s k):=by
 unfold aT
 repeat'(first|exact NZ.ok _|exact NZ.fl (by decide)|(with_reducible refine NZ.ite ?_ ?_))
theorem fo (s:ByteArray) (k:Ix l):NZ l (cX s k):=by
 unfold cX
 repeat'(first|exact NZ.ok _|exact NZ.fl (by decide)|(with_reducible refine NZ.ite ?_ ?_))
theorem aQ (k:Ix l):NZ l (aP k):=by
 unfold aP
 repeat'(first|exact NZ.ok _|exact NZ.fl (by decide)|(with_reducible refine NZ.ite ?_ ?_))
theorem mb:∀ (n:Nat) (acc:List ByteArray) (k:Ix l),NZ l (cT n acc k)
 |0,_,_=>by rw[cT];exact NZ.fl (by decide)
 |n+1,_,_=>by
  rw[cT]
  repeat'(first|exact NZ.ok _|exact aQ _|exact mb n _ _|(with_reducible refine NZ.bind ?_ fun x=>?_)|(with_reducible refine NZ.ite ?_ ?_))
theorem dx (k:Ix l):NZ l (bq k):=by
 unfold bq
 repeat'(first|exact bo _ _|exact aQ _|exact mb _ _ _|(with_reducible refine NZ.bind ?_ fun x=>?_))
theorem fY:∀ (n:Nat) (acc:List ByteArray) (k:Ix l),NZ l (b5 n acc k)
 |0,_,_=>by rw[b5];exact NZ.fl (by decide)
 |n+1,_,_=>by
  rw[b5]
  repeat'(first|exact NZ.ok _|exact aQ _|exact fY n _ _|(with_reducible refine NZ.bind ?_ fun x=>?_)|(with_reducible refine NZ.ite ?_ ?_))
theorem jw (k:Ix l):NZ l (ch k):=by
 unfold ch
 repeat'(first|exact aQ _|exact fY _ _ _|(with_reducible refine NZ.bind ?_ fun x=>?_))
theorem lX (a b:Bool) (s:NS) (k:Ix l):NZ l (dL a b s k):=by
 unfold dL
 repeat'(first|exact NZ.ok _|exact aQ _|(with_reducible refine NZ.bind ?_ fun x=>?_)|(with_reducible refine NZ.ite ?_ ?_))
theorem tz (a:Bool):∀ (n:Nat) (s:NS) (k:Ix l),NZ l (jB a n s k)
 |0,_,_=>by rw[jB];exact NZ.fl (by decide)
 |n+1,_,_=>by
  rw[jB]
  repeat'(first|exact NZ.ok _|exact lX _ _ _ _|exact tz a n _ _|(with_reducible refine NZ.bind ?_ fun x=>?_)|(with_reducible refine NZ.ite ?_ ?_))
theorem aX (a:Bool) (k:Ix l):NZ l (b7 a k):=by
 unfold b7
 repeat'(first|exact NZ.ok _|exact aQ _|exact lX _ _ _ _|exact tz _ _ _ _|(with_reducible refine NZ.bind ?_ fun x=>?_)|(with_reducible refine NZ.ite ?_ ?_))
theorem o3 (k:Ix l):NZ l (eo k):=by
 unfold eo
 repeat'(first|exact NZ.ok _|exact aQ _|(with_reducible refine NZ.bind ?_ fun x=>?_)|(with_reducible refine NZ.ite ?_ ?_))
theorem nM:∀ (n:Nat) (v:Lv) (k:Ix l),NZ l (dB n v k)
 |0,_,_=>by rw[dB];exact NZ.fl (by decide)
 |n+1,_,_=>by
  rw[dB]
  repeat'(first|exact NZ.ok _|exact o3 _|exact nM n _ _|(with_reducible refine NZ.bind ?_ fun x=>?_)|(with_reducible refine NZ.ite ?_ ?_))
theorem hZ (k:Ix l):NZ l (dJ k):=by
 unfold dJ
 repeat'(first|exact NZ.ok _|exact aQ _|exact nM _ _ _|(with_reducible refine NZ.bind ?_ fun x=>?_)|(with_reducible refine NZ.ite ?_ ?_))
theorem gN (k:Ix l):NZ l (cG k):=by
 unfold cG
 repeat'(first|exact NZ.ok _|exact hZ _|(with_reducible refine NZ.bind ?_ fun x=>?_)|(with_reducible refine NZ.ite ?_ ?_))
theorem jU (k:Ix l):NZ l (bP k):=by
 unfold bP
 repeat'(first|exact NZ.ok _|exact bo _ _|exact aQ _|exact gN _|(with_reducible refine NZ.bind ?_ fun x=>?_))
theorem dz (ws:List ByteArray) (k:Ix l):NZ l (bb ws k):=by
 unfold bb
 repeat'(first|exact NZ.ok _|exact NZ.fl (by decide)|split)
theorem pe (v:Bool) (k:Ix l):NZ l (gw v k):=by
 unfold gw
 repeat'(first|exact NZ.ok _|exact NZ.fl (by decide)|(with_reducible refine NZ.ite ?_ ?_)|split)
theorem vY (k:Ix l):NZ l (jA k):=by
 unfold jA
 repeat'(first|exact NZ.ok _|exact dz _ _|(with_reducible refine NZ.bind ?_ fun x=>?_)|(with_reducible refine NZ.ite ?_ ?_))
theorem mm (v:Bool) (k:Ix l):NZ l (nB v k):=by
 unfold nB
 repeat'(first|exact NZ.ok _|exact aQ _|exact dx _|exact pe _ _|exact vY _|(with_reducible refine NZ.bind ?_ fun x=>?_)|(with_reducible refine NZ.ite ?_ ?_))
theorem lJ (v:Bool):∀ n:Nat,(∀ k:Ix l,NZ l (eu v n k))∧(∀ k:Ix l,NZ l (fD v n k))∧(∀ (e:Ex) (k:Ix l),NZ l (cS v n e k))∧(∀ k:Ix l,NZ l (fu v n k))∧(∀ (e:Ex) (k:Ix l),NZ l (cR v n e k))
 |0=>⟨fun k=>(by rw[eu];exact NZ.fl (by decide)),fun k=>(by rw[fD];exact NZ.fl (by decide)),fun e k=>(by rw[cS];exact NZ.fl (by decide)),fun k=>(by rw[fu];exact NZ.fl (by decide)),fun e k=>(by rw[cR];exact NZ.fl (by decide))⟩
 |n+1=>by
  obtain ⟨i1,i2,i3,i4,i5⟩:=lJ v n
  refine⟨fun k=>?_,fun k=>?_,fun e k=>?_,fun k=>?_,fun e k=>?_⟩
  ·rw[eu]
   repeat'(first|exact NZ.ok _|exact bo _ _|exact mm _ _|exact i1 _|exact i2 _|exact i3 _ _|exact i4 _|exact i5 _ _|(with_reducible refine NZ.bind ?_ fun x=>?_)|(with_reducible refine NZ.ite ?_ ?_))
  ·rw[fD]
   repeat'(first|exact NZ.ok _|exact bo _ _|exact mm _ _|exact i1 _|exact i2 _|exact i3 _ _|exact i4 _|exact i5 _ _|(with_reducible refine NZ.bind ?_ fun x=>?_)|(with_reducible refine NZ.ite ?_ ?_))
  ·rw[cS]
   repeat'(first|exact NZ.ok _|exact bo _ _|exact mm _ _|exact i1 _|exact i2 _|exact i3 _ _|exact i4 _|exact i5 _ _|(with_reducible refine NZ.bind ?_ fun x=>?_)|(with_reducible refine NZ.ite ?_ ?_))
  ·rw[fu]
   repeat'(first|exact NZ.ok _|exact bo _ _|exact mm _ _|exact i1 _|exact i2 _|exact i3 _ _|exact i4 _|exact i5 _ _|(with_reducible refine NZ.bind ?_ fun x=>?_)|(with_reducible refine NZ.ite ?_ ?_))
  ·rw[cR]
   repeat'(first|exact NZ.ok _|exact bo _ _|exact mm _ _|exact i1 _|exact i2 _|exact i3 _ _|exact i4 _|exact i5 _ _|(with_reducible refine NZ.bind ?_ fun x=>?_)|(with_reducible refine NZ.ite ?_ ?_))
theorem kG (v:Bool) (k:Ix l):NZ l (cI v k):=by
 unfold cI
 repeat'(first|exact NZ.ok _|exact NZ.fl (by decide)|exact(lJ _ _).2.2.2.1 _|(with_reducible refine NZ.bind ?_ fun x=>?_)|(with_reducible refine NZ.ite ?_ ?_))
theorem pA (k:Ix l):NZ l (hY k):=by
 unfold hY
 repeat'(first|exact NZ.ok _|exact NZ.fl (by decide)|(with_reducible refine NZ.ite ?_ ?_))
theorem BO (w:ByteArray) (s:Stm) (k:Ix l):NZ l (bJ w s k):=by
 unfold bJ
 repeat'(first|exact NZ.ok _|exact fo _ _|exact aQ _|exact dx _|exact fY _ _ _|exact jw _|exact aX _ _|exact hZ _|exact gN _|exact dz _ _|(with_reducible refine NZ.bind ?_ fun x=>?_)|(with_reducible refine NZ.ite ?_ ?_))
theorem BC (b:Bool) (s:Stm) (k:Ix l):NZ l (cJ b s k):=by
 unfold cJ
 repeat'(first|exact NZ.ok _|exact bo _ _|exact aX _ _|(with_reducible refine NZ.bind ?_ fun x=>?_))
theorem Bw (w:ByteArray) (s:Stm) (k:Ix l):NZ l (dF w s k):=by
 unfold dF
 repeat'(first|exact NZ.ok _|exact NZ.fl (by decide)|exact aQ _|exact aX _ _|exact gN _|exact kG _ _|exact BC _ _ _|(with_reducible refine NZ.bind ?_ fun x=>?_)|(with_reducible refine NZ.ite ?_ ?_))
theorem w9 (w:ByteArray) (s:Stm) (k:Ix l):NZ l (dp w s k):=by
 unfold dp
 repeat'(first|exact NZ.ok _|exact aQ _|exact dx _|exact jw _|exact aX _ _|exact jU _|exact dz _ _|exact pA _|(with_reducible refine NZ.bind ?_ fun x=>?_)|(with_reducible refine NZ.ite ?_ ?_))
theorem kg (w:ByteArray) (s:Stm) (k:Ix l):NZ l (aG w s k):=by
 unfold aG
 repeat'(first|exact NZ.ok _|exact bo _ _|exact BO _ _ _|exact Bw _ _ _|exact w9 _ _ _|(with_reducible refine NZ.bind ?_ fun x=>?_)|(with_reducible refine NZ.ite ?_ ?_))
theorem BN (k:Ix l):NZ l (iJ k):=by
 unfold iJ
 repeat'(first|exact NZ.ok _|exact NZ.fl (by decide)|exact bo _ _|exact fo _ _|exact aQ _|(with_reducible refine NZ.bind ?_ fun x=>?_)|(with_reducible refine NZ.ite ?_ ?_))
theorem jq (k:Ix l):NZ l (gM tksK k):=by
 unfold gM
 exact NZ.bind (fun g h=>⟨mL h,.inl (Ai h)⟩) fun x=>NZ.ok _
theorem eF:∀ n:Nat,(∀ (d:Nat) (k:Ix l) (c:Nat),NZ l (cm tksK n d k c))∧(∀ (d:Nat) (b:Bool) (s:Stm) (k:Ix l) (c:Nat),NZ l (bT tksK n d b s k c))∧(∀ (d:Nat) (k:Ix l) (c:Nat),NZ l (bF tksK n d k c))∧(∀ (d:Nat) (a:List Stm) (k:Ix l) (c:Nat),NZ l (bC tksK n d a k c))
 |0=>⟨fun d k c=>(by rw[cm];exact NZ.fl (by decide)),fun d b s k c=>(by rw[bT];exact NZ.fl (by decide)),fun d k c=>(by rw[bF];exact NZ.fl (by decide)),fun d a k c=>(by rw[bC];exact NZ.fl (by decide))⟩
 |n+1=>by
  obtain ⟨i1,i2,i3,i4⟩:=eF n
  refine⟨fun d k c=>?_,fun d b s k c=>?_,fun d k c=>?_,fun d a k c=>?_⟩
  ·rw[cm]
   repeat'(first|exact NZ.ok _|exact NZ.fl (by decide)|exact bo _ _|exact kg _ _ _|exact jq _|exact i1 _ _ _|exact i2 _ _ _ _ _|exact i3 _ _ _|exact i4 _ _ _ _|(with_reducible refine NZ.bind ?_ fun x=>?_)|(with_reducible refine NZ.ite ?_ ?_))
  ·rw[bT]
   repeat'(first|exact NZ.ok _|exact NZ.fl (by decide)|exact bo _ _|exact kg _ _ _|exact jq _|exact i1 _ _ _|exact i2 _ _ _ _ _|exact i3 _ _ _|exact i4 _ _ _ _|(with_reducible refine NZ.bind ?_ fun x=>?_)|(with_reducible refine NZ.ite ?_ ?_))
  ·rw[bF]
   repeat'(first|exact NZ.ok _|exact NZ.fl (by decide)|exact bo _ _|exact kg _ _ _|exact jq _|exact i1 _ _ _|exact i2 _ _ _ _ _|exact i3 _ _ _|exact i4 _ _ _ _|(with_reducible refine NZ.bind ?_ fun x=>?_)|(with_reducible refine NZ.ite ?_ ?_))
  ·rw[bC]
   repeat'(first|exact NZ.ok _|exact NZ.fl (by decide)|exact bo _ _|exact kg _ _ _|exact jq _|exact i1 _ _ _|exact i2 _ _ _ _ _|exact i3 _ _ _|exact i4 _ _ _ _|(with_reducible refine NZ.bind ?_ fun x=>?_)|(with_reducible refine NZ.ite ?_ ?_))
def rO (k:Ix l):Except Fa (Mo×(Ix l×Nat)):=iJ k>>=fun x=>bC tksK (fuel l) 0 [] x.2 0>>=fun y=>.ok ({x.1 with stmts:=y.1},y.2)
def mU (k:Ix l):Except Fa (List Stm×(Ix l×Nat)):=bC tksK (fuel l) 0 [] k 0
def zQ {α:Type} (x:Except Fa (α×Ix l)):Except Fa (α×(Ix l×Nat)):=x>>=fun y=>.ok (y.1,(y.2,0))
theorem zx (k:Ix l):NZ l (rO k):=by
 unfold rO
 repeat'(first|exact NZ.ok _|exact BN _|exact(eF _).2.2.2 _ _ _ _|(with_reducible refine NZ.bind ?_ fun x=>?_))
theorem ua (k:Ix l):NZ l (mU k):=(eF _).2.2.2 _ _ _ _
theorem F1 {α:Type} {x:Except Fa (α×Ix l)} (h:NZ l x):NZ l (zQ x):=NZ.bind h fun _=>NZ.ok _
end
def ko {α:Type} (src:ByteArray) (sp:∀ l:List Tok,Ix l→Except Fa (α×(Ix l×Nat))):Except Fa α:=
 dI src>>=fun l=>if h:0<l.length then sp l ⟨0,h⟩>>=fun x=>if(tk x.2.1).kind=0 then .ok x.1 else .error (flt 9 (tk x.2.1)) else .error (fl0 9 ⟨0,0⟩)
theorem qE (src:ByteArray):∀ n k:Nat,NZ [] (gv src n k)
 |0,_=>NZ.ok _
 |n+1,k=>by
  rw[gv]
  split
  ·exact NZ.ok _
  ·split
   ·rename_i c off ho
    exact NZ.f0 (kO ho)
   ·exact NZ.bind (qE src n _) fun _=>NZ.ok _
theorem kB (src:ByteArray):NZ [] (dI src):=by
 unfold dI
 split
 ·exact NZ.f0 (by decide)
 ·exact qE _ _ _
def NZs {α:Type} (sp:∀ l:List Tok,Ix l→Except Fa (α×(Ix l×Nat))):Prop:=∀ (l:List Tok) (k:Ix l),NZ l (sp l k)
theorem B4 {α:Type} (src:ByteArray) {sp:∀ l:List Tok,Ix l→Except Fa (α×(Ix l×Nat))} (h:NZs sp) {f:Fa} (hf:ko src sp= .error f):f.code≠0:=by
 unfold ko at hf
 rcases bU hf with hf|⟨l,_,hf⟩
 ·exact(kB _ f hf).1
 ·split at hf
  ·rename_i hl
   refine(NZ.bind (h l ⟨0,hl⟩) (fun x=>?_) f hf).1
   split
   ·exact NZ.ok _
   ·exact NZ.fl (by decide)
  ·injection hf with hf;subst hf;exact(by decide:(9:Int)≠0)
def kS (src:ByteArray):Except Fa Mo:=ko src fun _ k=>rO k
def mf (src:ByteArray):Except Fa (List Stm):=ko src fun _ k=>mU k
def pn (src:ByteArray):Except Fa NS:=ko src fun _ k=>zQ (b7 true k)
end Am
namespace Am
open Tk
section
variable {l:List Tok}
def okM (f:Fa) (s:ByteArray) (k:Ix l):Bool:=decide (f.code=0)&&isM s k
def okW (f:Fa) (s:ByteArray) (k:Ix l):Bool:=decide (f.code=0)&&isW s k
def okN (f:Fa) (k:Ix l):Bool:=decide (f.code=0)&&c9 k
def aO (s:ByteArray) (k:Ix l) (f:Fa):Ix l×Fa:=(adv (okM f s k) k,if okM f s k=true then f else cA f 9 (tk k))
def jC (s:ByteArray) (k:Ix l) (f:Fa):Ix l×Fa:=(adv (okW f s k) k,if okW f s k=true then f else cA f 9 (tk k))
def dU:Nat→List ByteArray→Ix l→Fa→List ByteArray×(Ix l×Fa)
 |0,acc,k,f=>(acc,(k,f))
 |n+1,acc,k,f=>if(decide (f.code=0)&& !okM f ⟨#[125]⟩ k)=true then dU n (acc++[(aB k f).1]) (aB k f).2.1 (aB k f).2.2 else(acc,(k,f))
def kk (k:Ix l) (f:Fa):List ByteArray×(Ix l×Fa):=dU (fuel l) [(aB k f).1] (aB k f).2.1 (aB k f).2.2
def ke (k:Ix l) (f:Fa):List ByteArray×(Ix l×Fa):=((kk k f).1,aO ⟨#[125]⟩ (kk k f).2.1 (kk k f).2.2)
def bN (k:Ix l) (f:Fa):List ByteArray×(Ix l×Fa):=ke (aO ⟨#[123]⟩ k f).1 (aO ⟨#[123]⟩ k f).2
def b9 (ws:List ByteArray) (k:Ix l) (f:Fa):Int×(Ix l×Fa):=match ws.findIdx? (fun s=>okW f s k) with|some i=>((i:Int)+1,(nx k,f))|none=>(0,(k,cA f 9 (tk k)))
def cy (self:Bool) (n:NS) (k:Ix l) (f:Fa):NS×(Ix l×Fa):=
 if okM f ⟨#[42]⟩ k=true then({n with all:=true},(nx k,f))
 else if okM f ⟨#[45]⟩ k=true then({n with except:=n.except++[(aB (nx k) f).1]},(aB (nx k) f).2)
 else if(self&&okW f ⟨#[115,101,108,102]⟩ k)=true then({n with self:=true},(nx k,f))
 else({n with names:=n.names++[(aB k f).1]},(aB k f).2)
def fz (self:Bool):Nat→NS→Ix l→Fa→NS×(Ix l×Fa)
 |0,n,k,f=>(n,(k,f))
 |m+1,n,k,f=>if(decide (f.code=0)&& !okM f ⟨#[125]⟩ k)=true then fz self m (cy self n k f).1 (cy self n k f).2.1 (cy self n k f).2.2 else(n,(k,f))
def jl (self:Bool) (n:NS) (k:Ix l) (f:Fa):NS×(Ix l×Fa):=fz self (fuel l) (cy self n k f).1 (cy self n k f).2.1 (cy self n k f).2.2
def kJ (self:Bool) (n:NS) (k:Ix l) (f:Fa):NS×(Ix l×Fa):=((jl self n k f).1,aO ⟨#[125]⟩ (jl self n k f).2.1 (jl self n k f).2.2)
def bz (self:Bool) (k:Ix l) (f:Fa):NS×(Ix l×Fa):=
 if okM f ⟨#[126]⟩ k=true then
  if okN f (nx k)=true then(⟨false,true,false,[(aB (nx k) f).1],[]⟩,(aB (nx k) f).2)
  else if okM f ⟨#[123]⟩ (nx k)=true then kJ self (ns0 true) (nx (nx k)) f
  else(ns0 true,(nx k,cA f 9 (tk (nx k))))
 else if okM f ⟨#[123]⟩ k=true then kJ self (ns0 false) (nx k) f
 else if okM f ⟨#[45]⟩ k=true then(ns0 false,(k,cA f 9 (tk k)))
 else cy self (ns0 false) k f
def eX (k:Ix l) (f:Fa):Sp×(Ix l×Fa):=
 if okM (aB k f).2.2 ⟨#[46]⟩ (aB k f).2.1=true then(⟨(aB k f).1,(aB (nx (aB k f).2.1) (aB k f).2.2).1⟩,(aB (nx (aB k f).2.1) (aB k f).2.2).2) else(⟨(aB k f).1,⟨#[]⟩⟩,(aB k f).2)
def fM:Nat→Lv→Ix l→Fa→Lv×(Ix l×Fa)
 |0,v,k,f=>(v,(k,f))
 |n+1,v,k,f=>if okM (eX k f).2.2 ⟨#[44]⟩ (eX k f).2.1=true then fM n {v with cats:=v.cats++[(eX k f).1]} (nx (eX k f).2.1) (eX k f).2.2 else({v with cats:=v.cats++[(eX k f).1]},(eX k f).2)
def cu (k:Ix l) (f:Fa):Lv×(Ix l×Fa):=if okM (aB k f).2.2 ⟨#[58]⟩ (aB k f).2.1=true then fM (fuel l) ⟨(aB k f).1,[]⟩ (nx (aB k f).2.1) (aB k f).2.2 else(⟨(aB k f).1,[]⟩,(aB k f).2)
def lR (a:Lv) (k:Ix l) (f:Fa):Rg×(Ix l×Fa):=if okM f ⟨#[45]⟩ k=true then(⟨a,(cu (nx k) f).1⟩,(cu (nx k) f).2) else(⟨a,Lv.zero⟩,(k,f))
def dm (k:Ix l) (f:Fa):Rg×(Ix l×Fa):=lR (cu k f).1 (cu k f).2.1 (cu k f).2.2
def qZ (u r t:ByteArray) (k:Ix l) (f:Fa):Ct×(Ix l×Fa):=(⟨u,r,t,(dm k f).1⟩,(dm k f).2)
def nO (u r t:ByteArray) (k:Ix l) (f:Fa):Ct×(Ix l×Fa):=qZ u r t (aO ⟨#[58]⟩ k f).1 (aO ⟨#[58]⟩ k f).2
def o5 (u r:ByteArray) (k:Ix l) (f:Fa):Ct×(Ix l×Fa):=nO u r (aB (aO ⟨#[58]⟩ k f).1 (aO ⟨#[58]⟩ k f).2).1 (aB (aO ⟨#[58]⟩ k f).1 (aO ⟨#[58]⟩ k f).2).2.1 (aB (aO ⟨#[58]⟩ k f).1 (aO ⟨#[58]⟩ k f).2).2.2
def qn (u:ByteArray) (k:Ix l) (f:Fa):Ct×(Ix l×Fa):=o5 u (aB (aO ⟨#[58]⟩ k f).1 (aO ⟨#[58]⟩ k f).2).1 (aB (aO ⟨#[58]⟩ k f).1 (aO ⟨#[58]⟩ k f).2).2.1 (aB (aO ⟨#[58]⟩ k f).1 (aO ⟨#[58]⟩ k f).2).2.2
def db (k:Ix l) (f:Fa):Ct×(Ix l×Fa):=qn (aB k f).1 (aB k f).2.1 (aB k f).2.2
def RQ {α:Type} (f:Fa) (sp:Except Fa (α×Ix l)) (t:α×(Ix l×Fa)):Prop:=(f.code≠0→t.2.2=f)∧(f.code=0→match sp with| .ok x=>t=(x.1,(x.2,f))| .error g=>t.2.2=g)
section
variable {α β:Type} {f:Fa} {k:Ix l}
theorem ff:¬ (false=true):=by decide
theorem iR {e:Int} {t:Tok} (h:f.code=0):cA f e t=flt e t:=if_pos h
theorem dT {e:Int} {t:Tok} (h:f.code≠0):cA f e t=f:=if_neg h
theorem CM {e:Int} {t:Tok} (h:e≠0):(cA f e t).code≠0:=by
 unfold cA
 split
 ·exact h
 ·assumption
theorem jf (h:f.code=0) (s:ByteArray) (k:Ix l):okM f s k=isM s k:=by simp[okM,h]
theorem ou (h:f.code≠0) (s:ByteArray) (k:Ix l):okM f s k=false:=by simp[okM,h]
theorem nR (h:f.code=0) (s:ByteArray) (k:Ix l):okW f s k=isW s k:=by simp[okW,h]
theorem kq (h:f.code≠0) (s:ByteArray) (k:Ix l):okW f s k=false:=by simp[okW,h]
theorem E5 (h:f.code=0) (k:Ix l):okN f k=c9 k:=by simp[okN,h]
theorem RQ.ok (v:α) (k:Ix l):RQ f (.ok (v,k)) (v,(k,f)):=⟨fun _=>rfl,fun _=>rfl⟩
theorem RQ.err (v:α) (k k':Ix l) {e:Int} {t:Tok}:RQ f (.error (flt e t)) (v,(k',cA f e t)):=⟨fun h=>dT h,fun h=>iR h⟩
theorem RQ.bind {sp:Except Fa (α×Ix l)} {t:α×(Ix l×Fa)} {g:α×Ix l→Except Fa (β×Ix l)} {u:α→Ix l→Fa→β×(Ix l×Fa)} (h:RQ f sp t) (hz:NZ l sp) (hk:∀ v k f,RQ f (g (v,k)) (u v k f)):RQ f (sp>>=g) (u t.1 t.2.1 t.2.2):=by
 refine⟨fun hf=>?_,fun hf=>?_⟩
 ·rw[h.1 hf]
  exact(hk _ _ f).1 hf
 ·have h2:=h.2 hf
  cases sp with
  |ok x=>
   have h2:t=(x.1,(x.2,f)):=h2
   rw[h2]
   exact(hk x.1 x.2 f).2 hf
  |error e=>
   have h2:t.2.2=e:=h2
   show(u t.1 t.2.1 t.2.2).2.2=e
   rw[h2]
   exact(hk _ _ e).1 (hz e rfl).1
theorem RQ.iteM {s:ByteArray} {A B:Except Fa (α×Ix l)} {A' B':α×(Ix l×Fa)} (hA:RQ f A A') (hB:RQ f B B'):RQ f (if isM s k then A else B) (if okM f s k=true then A' else B'):=by
 by_cases hf:f.code=0
 ·rw[jf hf]
  by_cases h:isM s k=true
  ·rw[if_pos h,if_pos h];exact hA
  ·rw[if_neg h,if_neg h];exact hB
 ·rw[ou hf,if_neg ff]
  exact⟨hB.1,fun h=>absurd h hf⟩
theorem RQ.iteW {s:ByteArray} {A B:Except Fa (α×Ix l)} {A' B':α×(Ix l×Fa)} (hA:RQ f A A') (hB:RQ f B B'):RQ f (if isW s k then A else B) (if okW f s k=true then A' else B'):=by
 by_cases hf:f.code=0
 ·rw[nR hf]
  by_cases h:isW s k=true
  ·rw[if_pos h,if_pos h];exact hA
  ·rw[if_neg h,if_neg h];exact hB
 ·rw[kq hf,if_neg ff]
  exact⟨hB.1,fun h=>absurd h hf⟩
theorem bW (k:Ix l) (f:Fa):RQ f (aP k) (aB k f):=by
 unfold aP aB
 by_cases hf:f.code=0
 ·by_cases h:c9 k=true
  ·have e:(decide (f.code=0)&&c9 k)=true:=by simp[hf,h]
   rw[if_pos h,if_pos e];exact .ok _ _
  ·have e:¬ (decide (f.code=0)&&c9 k)=true:=by simp[h]
   rw[if_neg h,if_neg e];exact .err _ k _
 ·have e:¬ (decide (f.code=0)&&c9 k)=true:=by simp[hf]
  rw[if_neg e];exact⟨fun h=>dT h,fun h=>absurd h hf⟩
theorem fP (s:ByteArray) (k:Ix l) (f:Fa):RQ f (aT s k) ((),aO s k f):=by
 unfold aT aO
 by_cases hf:f.code=0
 ·rw[jf hf]
  by_cases h:isM s k=true
  ·rw[if_pos h,if_pos h,h];exact .ok _ _
  ·rw[if_neg h,if_neg h];exact .err _ k _
 ·rw[ou hf,if_neg ff];exact⟨fun h=>dT h,fun h=>absurd h hf⟩
theorem rN (s:ByteArray) (k:Ix l) (f:Fa):RQ f (cX s k) ((),jC s k f):=by
 unfold cX jC
 by_cases hf:f.code=0
 ·rw[nR hf]
  by_cases h:isW s k=true
  ·rw[if_pos h,if_pos h,h];exact .ok _ _
  ·rw[if_neg h,if_neg h];exact .err _ k _
 ·rw[kq hf,if_neg ff];exact⟨fun h=>dT h,fun h=>absurd h hf⟩
theorem eU (hl:Fine l) (k:Ix l) (f:Fa):(f.code=0∧(aB k f).2.2=f∧(aB k f).2.1.1=k.1+1)∨((aB k f).2.1=k∧(aB k f).2.2.code≠0):=by
 unfold aB
 by_cases h:(decide (f.code=0)&&c9 k)=true
 ·rw[if_pos h]
  rw[Bool.and_eq_true] at h
  refine .inl ⟨of_decide_eq_true h.1,rfl,eJ hl ?_⟩
  have:=h.2
  simp[c9] at this
  rw[this.1];decide
 ·rw[if_neg h]
  exact .inr ⟨rfl,CM (by decide)⟩
theorem jP {n:Nat} {acc:List ByteArray} (h:f.code≠0):dU n acc k f=(acc,(k,f)):=by
 cases n with
 |zero=>rfl
 |succ n=>rw[dU,if_neg (by simp[h])]
theorem dy (s:ByteArray) (h:f.code≠0):(aO s k f).2=f:=by
 unfold aO
 rw[ou h,if_neg ff];exact dT h
theorem nS (hl:Fine l):∀ (n:Nat) (acc:List ByteArray) (k:Ix l) (f:Fa),l.length<n+k.1→RQ f (cT n acc k) ((dU n acc k f).1,aO ⟨#[125]⟩ (dU n acc k f).2.1 (dU n acc k f).2.2)
 |0,_,k,_,h=>absurd k.2 (by omega)
 |n+1,acc,k,f,h=>by
  by_cases hf:f.code=0
  ·rw[cT,dU,jf hf]
   by_cases hm:isM ⟨#[125]⟩ k=true
   ·rw[if_pos hm,if_neg (by simp[hm])]
    have e:aO ⟨#[125]⟩ k f=(nx k,f):=by unfold aO;rw[jf hf,hm,if_pos rfl];rfl
    show RQ f _ (acc,aO _ k f)
    rw[e];exact .ok _ _
   ·rw[if_neg hm,if_pos (by simp[hf,hm])]
    have hn:=bW k f
    rcases eU hl k f with⟨_,h1,h2⟩|⟨h1,h2⟩
    ·have hn2:=hn.2 hf
     cases hp:aP k with
     |ok x=>
      rw[hp] at hn2
      have hn2:aB k f=(x.1,(x.2,f)):=hn2
      rw[hn2] at h2 ⊢
      exact nS hl n _ x.2 f (by have h2:x.2.1=k.1+1:=h2;omega)
     |error e=>
      rw[hp] at hn2
      have hn2:(aB k f).2.2=e:=hn2
      exact absurd ((aQ k e hp).1) (by rw[← hn2,h1,hf];decide)
    ·have hn2:=hn.2 hf
     cases hp:aP k with
     |ok x=>
      rw[hp] at hn2
      have hn2:aB k f=(x.1,(x.2,f)):=hn2
      rw[hn2] at h2
      exact absurd hf h2
     |error e=>
      rw[hp] at hn2
      have hn2:(aB k f).2.2=e:=hn2
      rw[jP h2]
      refine⟨fun h=>absurd hf h,fun _=>?_⟩
      show(aO _ _ _).2=e
      rw[dy _ h2,hn2]
  ·rw[jP hf]
   exact⟨fun _=>dy _ hf,fun h=>absurd h hf⟩
theorem RQ.bindK {sp:Except Fa (α×Ix l)} {t:α×(Ix l×Fa)} {g:α×Ix l→Except Fa (β×Ix l)} {u:α→Ix l→Fa→β×(Ix l×Fa)} (h:RQ f sp t) (hz:NZ l sp) (hk:∀ v k,sp= .ok (v,k)→RQ f (g (v,k)) (u v k f)) (hb:∀ v k f,f.code≠0→(u v k f).2.2=f):RQ f (sp>>=g) (u t.1 t.2.1 t.2.2):=by
 refine⟨fun hf=>?_,fun hf=>?_⟩
 ·rw[h.1 hf]
  exact hb _ _ f hf
 ·have h2:=h.2 hf
  cases sp with
  |ok x=>
   have h2:t=(x.1,(x.2,f)):=h2
   rw[h2]
   exact(hk x.1 x.2 rfl).2 hf
  |error e=>
   have h2:t.2.2=e:=h2
   show(u t.1 t.2.1 t.2.2).2.2=e
   rw[h2]
   exact hb _ _ e (hz e rfl).1
theorem uD (hl:Fine l) (k:Ix l) (f:Fa):RQ f (aP k>>=fun y=>cT (fuel l) [y.1] y.2) (ke k f):=by
 have hn:l.length<fuel l:=by unfold fuel;omega
 unfold ke kk
 generalize fuel l=n at *
 refine RQ.bindK (t:=aB k f) (u:=fun v k f=>((dU n [v] k f).1,aO ⟨#[125]⟩ (dU n [v] k f).2.1 (dU n [v] k f).2.2)) (bW k f) (aQ k) (fun v k' _=>?_) fun v k' f' h=>?_
 ·exact nS hl _ _ _ _ (by omega)
 ·show(aO _ _ _).2=f'
  rw[jP h];exact dy _ h
theorem iZ (hl:Fine l) (k:Ix l) (f:Fa):RQ f (bq k) (bN k f):=by
 unfold bq bN
 refine RQ.bind (t:=((),aO ⟨#[123]⟩ k f)) (u:=fun _ k f=>ke k f) (fP _ k f) (bo _ k) fun _ k' f'=>?_
 exact uD hl k' f'
theorem vh {n:Nat} {acc:List ByteArray} (h:f.code≠0):fA n acc k f=(acc,(k,f)):=by
 cases n with
 |zero=>rfl
 |succ n=>rw[fA,if_neg (by simp[h])]
theorem ie (ws:List ByteArray) (k:Ix l) (f:Fa):RQ f (bb ws k>>=fun x=>.ok (x.1+1,x.2)) (b9 ws k f):=by
 unfold bb b9
 by_cases hf:f.code=0
 ·have e:(fun s=>okW f s k)=fun s=>isW s k:=funext fun s=>nR hf s k
  rw[e]
  cases ws.findIdx? fun s=>isW s k with
  |some i=>exact .ok _ _
  |none=>exact .err _ k _
 ·have e:(fun s=>okW f s k)=fun _=>false:=funext fun s=>kq hf s k
  rw[e]
  have e2:ws.findIdx? (fun _=>false)=none:=by rw[List.findIdx?_eq_none_iff];simp
  rw[e2]
  exact⟨fun h=>dT h,fun h=>absurd h hf⟩
theorem C6 {s t:ByteArray} (h:isM s k=true):isW t k=false:=by
 simp only[isM,isW,Bool.and_eq_true,decide_eq_true_eq] at h ⊢
 rw[h.1];rfl
theorem Cm {s:ByteArray} (h:isM s k=true):c9 k=false:=by
 simp only[isM,c9,Bool.and_eq_true,decide_eq_true_eq] at h ⊢
 rw[h.1];rfl
theorem Dd {s t:ByteArray} (h:isM s k=true) (hn:s≠t):isM t k=false:=by
 simp only[isM,Bool.and_eq_true,decide_eq_true_eq] at h ⊢
 rw[h.1,h.2,decide_eq_false hn];rfl
theorem lH (self:Bool) (n:NS) (k:Ix l) (f:Fa):RQ f (dL self true n k) (cy self n k f):=by
 unfold dL cy
 refine RQ.iteM (.ok _ _) ?_
 by_cases hm:isM ⟨#[45]⟩ k=true
 ·rw[C6 hm,Bool.and_false,if_neg ff]
  simp only[Bool.true_and]
  by_cases hf:f.code=0
  ·rw[jf hf,if_pos hm,if_pos hm]
   refine RQ.bind (t:=aB (nx k) f) (u:=fun v k f=>({n with except:=n.except++[v]},(k,f))) (bW _ f) (aQ _) fun v k f=>?_
   exact .ok _ _
  ·rw[ou hf,kq hf,Bool.and_false]
   exact⟨fun h=>(bW k f).1 h,fun h=>absurd h hf⟩
 ·have hm2:okM f ⟨#[45]⟩ k=false:=by unfold okM;rw[Bool.eq_false_iff.2 hm];simp
  simp only[Bool.true_and]
  rw[hm2,if_neg (show ¬ (false=true) by decide),if_neg hm]
  have hk:RQ f (aP k>>=fun x=>.ok ({n with names:=n.names++[x.1]},x.2)) ({n with names:=n.names++[(aB k f).1]},(aB k f).2):=by
   refine RQ.bind (t:=aB k f) (u:=fun v k f=>({n with names:=n.names++[v]},(k,f))) (bW k f) (aQ k) fun v k f=>?_
   exact .ok _ _
  cases self with
  |true=>simp only[Bool.true_and];exact RQ.iteW (.ok _ _) hk
  |false=>simp only[Bool.false_and];rw[if_neg ff,if_neg ff];exact hk
theorem jm (hl:Fine l) (self:Bool) (n:NS) (k:Ix l) (f:Fa):((f.code=0∧(cy self n k f).2.2=f∧k.1<(cy self n k f).2.1.1)∨(k.1≤(cy self n k f).2.1.1∧(cy self n k f).2.2.code≠0))∧(cy self n k f).1.names.length≤n.names.length+1∧(cy self n k f).1.except.length≤n.except.length+1:=by
 unfold cy
 have hM:∀ {s:ByteArray},okM f s k=true→f.code=0∧(nx k).1=k.1+1:=fun {s} h=>by
  unfold okM at h
  rw[Bool.and_eq_true] at h
  exact⟨of_decide_eq_true h.1,aW hl h.2⟩
 split
 ·rename_i h
  obtain ⟨h1,h2⟩:=hM h
  exact⟨.inl ⟨h1,rfl,by dsimp only;omega⟩,by simp,by simp⟩
 ·split
  ·rename_i h
   obtain ⟨h1,h2⟩:=hM h
   refine⟨?_,by simp,by simp⟩
   rcases eU hl (nx k) f with⟨a,b,c⟩|⟨a,b⟩
   ·exact .inl ⟨h1,b,by dsimp only;omega⟩
   ·exact .inr ⟨by dsimp only;rw[a];omega,b⟩
  ·split
   ·rename_i h
    rw[Bool.and_eq_true] at h
    have h:=h.2
    unfold okW at h
    rw[Bool.and_eq_true] at h
    have h2:=fe hl h.2
    exact⟨.inl ⟨of_decide_eq_true h.1,rfl,by dsimp only;omega⟩,by simp,by simp⟩
   ·refine⟨?_,by simp,by simp⟩
    rcases eU hl k f with⟨a,b,c⟩|⟨a,b⟩
    ·exact .inl ⟨a,b,by dsimp only;omega⟩
    ·exact .inr ⟨by dsimp only;rw[a];exact Nat.le_refl _,b⟩
theorem kF {self:Bool} {n:Nat} {s:NS} (h:f.code≠0):fz self n s k f=(s,(k,f)):=by
 cases n with
 |zero=>rfl
 |succ n=>rw[fz,if_neg (by simp[h])]
theorem qU (hl:Fine l) (self:Bool):∀ (n:Nat) (s:NS) (k:Ix l) (f:Fa),l.length<n+k.1→RQ f (jB self n s k) ((fz self n s k f).1,aO ⟨#[125]⟩ (fz self n s k f).2.1 (fz self n s k f).2.2)
 |0,_,k,_,h=>absurd k.2 (by omega)
 |n+1,s,k,f,h=>by
  by_cases hf:f.code=0
  ·rw[jB,fz,jf hf]
   by_cases hm:isM ⟨#[125]⟩ k=true
   ·rw[if_pos hm,if_neg (by simp[hm])]
    have e:aO ⟨#[125]⟩ k f=(nx k,f):=by unfold aO;rw[jf hf,hm,if_pos rfl];rfl
    show RQ f _ (s,aO _ k f)
    rw[e];exact .ok _ _
   ·rw[if_neg hm,if_pos (by simp[hf,hm])]
    have hn2:=(lH self s k f).2 hf
    cases hp:dL self true s k with
    |ok x=>
     rw[hp] at hn2
     have hn2:cy self s k f=(x.1,(x.2,f)):=hn2
     rw[hn2]
     exact qU hl self n _ x.2 f (by have:=(eV hl hp).1;omega)
    |error e=>
     rw[hp] at hn2
     have hn2:(cy self s k f).2.2=e:=hn2
     have hz:=(lX self true s k e hp).1
     rw[hn2,kF hz]
     refine⟨fun h=>absurd hf h,fun _=>?_⟩
     exact dy _ hz
  ·rw[kF hf]
   exact⟨fun _=>dy _ hf,fun h=>absurd h hf⟩
theorem r4 (hl:Fine l) (self:Bool) (n:NS) (k:Ix l) (f:Fa):RQ f (dL self true n k>>=fun x=>jB self (fuel l) x.1 x.2) (kJ self n k f):=by
 have hn:l.length<fuel l:=by unfold fuel;omega
 unfold kJ jl
 generalize fuel l=m at *
 refine RQ.bindK (t:=cy self n k f) (u:=fun v k f=>((fz self m v k f).1,aO ⟨#[125]⟩ (fz self m v k f).2.1 (fz self m v k f).2.2)) (lH self n k f) (lX self true n k) (fun v k' _=>?_) fun v k' f' h=>?_
 ·exact qU hl self _ _ _ _ (by omega)
 ·show(aO _ _ _).2=f'
  rw[kF h];exact dy _ h
theorem vo {self:Bool} {n:NS} (h:f.code≠0):(cy self n k f).2.2=f:=(lH self n k f).1 h
theorem eW (hl:Fine l) (self:Bool) (k:Ix l) (f:Fa):RQ f (b7 self k) (bz self k f):=by
 by_cases hf:f.code=0
 ·unfold b7 bz
  simp only[jf hf,E5 hf]
  by_cases h1:isM ⟨#[126]⟩ k=true
  ·simp only[h1,adv,if_true]
   by_cases h2:c9 (nx k)=true
   ·have h3:isM ⟨#[123]⟩ (nx k)=false:=by
     cases h:isM ⟨#[123]⟩ (nx k) with
     |false=>rfl
     |true=>rw[Cm h] at h2;cases h2
    simp only[h2,h3,if_true,Bool.false_eq_true,if_false]
    refine RQ.bind (t:=aB (nx k) f) (u:=fun v k f=>((⟨false,true,false,[v],[]⟩:NS),(k,f))) (bW (nx k) f) (aQ _) fun v k f=>?_
    exact .ok _ _
   ·rw[if_neg h2]
    by_cases h3:isM ⟨#[123]⟩ (nx k)=true
    ·simp only[h3,if_true]
     exact r4 hl self _ _ f
    ·rw[if_neg h3,if_neg h3]
     have e:aP (nx k)= .error (flt 9 (tk (nx k))):=by unfold aP;rw[if_neg h2]
     rw[e]
     exact .err _ k _
  ·have h1':isM ⟨#[126]⟩ k=false:=Bool.eq_false_iff.2 h1
   simp only[h1',adv,Bool.false_eq_true,if_false]
   by_cases h3:isM ⟨#[123]⟩ k=true
   ·simp only[h3,if_true]
    exact r4 hl self _ _ f
   ·rw[if_neg h3,if_neg h3]
    by_cases h4:isM ⟨#[45]⟩ k=true
    ·rw[if_pos h4]
     have e:dL self false (ns0 false) k= .error (flt 9 (tk k)):=by
      unfold dL
      rw[Dd h4 (by decide),if_neg ff,C6 h4,Bool.and_false,if_neg ff,Bool.false_and,if_neg ff]
      unfold aP
      rw[Cm h4,if_neg ff];rfl
     rw[e]
     exact .err _ k _
    ·rw[if_neg h4]
     have e:dL self false (ns0 false) k=dL self true (ns0 false) k:=by
      unfold dL
      rw[Bool.eq_false_iff.2 h4];rfl
     rw[e]
     exact lH self _ k f
 ·refine⟨fun _=>?_,fun h=>absurd h hf⟩
  unfold bz
  simp only[ou hf,Bool.false_eq_true,if_false]
  exact vo hf
theorem wK (k:Ix l) (f:Fa):RQ f (eo k) (eX k f):=by
 unfold eo eX
 refine RQ.bind (t:=aB k f) (u:=fun v k f=>if okM f ⟨#[46]⟩ k=true then((⟨v,(aB (nx k) f).1⟩:Sp),(aB (nx k) f).2) else(⟨v,⟨#[]⟩⟩,(k,f))) (bW k f) (aQ k) fun v k f=>?_
 refine RQ.iteM ?_ ?_
 ·refine RQ.bind (t:=aB (nx k) f) (u:=fun w k f=>((⟨v,w⟩:Sp),(k,f))) (bW (nx k) f) (aQ _) fun w k f=>?_
  exact .ok _ _
 ·exact .ok _ _
theorem v7 (hl:Fine l) {k:Ix l} {x:Sp} {k':Ix l} (h:eo k= .ok (x,k')):k.1<k'.1:=by
 unfold eo at h
 rcases hn:aP k with e|⟨s,k1⟩
 ·rw[hn] at h;cases h
 ·rw[hn] at h
  have h1:=(bh hl hn).2
  simp only[ag] at h
  split at h
  ·rename_i hd
   have h2:=aW hl hd
   rcases hn2:aP (nx k1) with e|⟨s2,k2⟩
   ·rw[hn2] at h;cases h
   ·rw[hn2] at h
    have h3:=(bh hl hn2).2
    injection h with h;injection h with _ h;subst h
    show k.1<k2.1
    omega
  ·injection h with h;injection h with _ h;subst h
   show k.1<k1.1
   omega
theorem ri (hl:Fine l) (k:Ix l) (f:Fa):k.1≤(eX k f).2.1.1:=by
 have hn:∀ (k:Ix l) (f:Fa),k.1≤(aB k f).2.1.1:=fun k f=>by
  rcases eU hl k f with⟨_,_,c⟩|⟨a,_⟩
  ·omega
  ·rw[a];exact Nat.le_refl _
 unfold eX
 split
 ·exact Nat.le_trans (hn k f) (Nat.le_trans (gq _) (hn _ _))
 ·exact hn k f
theorem nA (hl:Fine l):∀ (n:Nat) (v:Lv) (k:Ix l) (f:Fa),l.length<n+k.1→RQ f (dB n v k) (fM n v k f)
 |0,_,k,_,h=>absurd k.2 (by omega)
 |n+1,v,k,f,h=>by
  rw[dB,fM]
  refine RQ.bindK (u:=fun x k f=>if okM f ⟨#[44]⟩ k=true then fM n {v with cats:=v.cats++[x]} (nx k) f else({v with cats:=v.cats++[x]},(k,f))) (wK k f) (o3 k) (fun x k' hk=>?_) fun x k' f' h=>?_
  ·have h1:=v7 hl hk
   refine RQ.iteM (nA hl n _ (nx k') f (by have:=gq k';omega)) (.ok _ _)
  ·simp only[ou h,Bool.false_eq_true,if_false]
theorem mQ (hl:Fine l) (k:Ix l) (f:Fa):RQ f (dJ k) (cu k f):=by
 have hn:l.length<fuel l:=by unfold fuel;omega
 unfold dJ cu
 generalize fuel l=n at *
 refine RQ.bind (t:=aB k f) (u:=fun x k f=>if okM f ⟨#[58]⟩ k=true then fM n ⟨x,[]⟩ (nx k) f else(⟨x,[]⟩,(k,f))) (bW k f) (aQ k) fun x k f=>?_
 exact RQ.iteM (nA hl _ _ _ _ (by omega)) (.ok _ _)
theorem nv (hl:Fine l) (k:Ix l) (f:Fa):RQ f (cG k) (dm k f):=by
 unfold cG dm
 refine RQ.bind (t:=cu k f) (u:=fun x k f=>lR x k f) (mQ hl k f) (hZ k) fun x k f=>?_
 unfold lR
 refine RQ.iteM ?_ (.ok _ _)
 refine RQ.bind (t:=cu (nx k) f) (u:=fun y k f=>((⟨x,y⟩:Rg),(k,f))) (mQ hl (nx k) f) (hZ _) fun y k f=>?_
 exact .ok _ _
theorem AA (hl:Fine l) (u r t:ByteArray) (k:Ix l) (f:Fa):RQ f (cG k>>=fun g=>.ok (⟨u,r,t,g.1⟩,g.2)) (qZ u r t k f):=by
 unfold qZ
 refine RQ.bind (t:=dm k f) (u:=fun g k f=>((⟨u,r,t,g⟩:Ct),(k,f))) (nv hl k f) (gN k) fun g k f=>?_
 exact .ok _ _
theorem BP (hl:Fine l) (u r t:ByteArray) (k:Ix l) (f:Fa):RQ f (aT ⟨#[58]⟩ k>>=fun c=>cG c.2>>=fun g=>.ok (⟨u,r,t,g.1⟩,g.2)) (nO u r t k f):=by
 unfold nO
 refine RQ.bind (t:=((),aO ⟨#[58]⟩ k f)) (u:=fun _ k f=>qZ u r t k f) (fP _ k f) (bo _ k) fun _ k f=>?_
 exact AA hl u r t k f
theorem As (hl:Fine l) (u r:ByteArray) (k:Ix l) (f:Fa):RQ f (aT ⟨#[58]⟩ k>>=fun b=>aP b.2>>=fun t=>aT ⟨#[58]⟩ t.2>>=fun c=>cG c.2>>=fun g=>.ok (⟨u,r,t.1,g.1⟩,g.2)) (o5 u r k f):=by
 unfold o5
 refine RQ.bind (t:=((),aO ⟨#[58]⟩ k f)) (u:=fun _ k f=>nO u r (aB k f).1 (aB k f).2.1 (aB k f).2.2) (fP _ k f) (bo _ k) fun _ k f=>?_
 refine RQ.bind (t:=aB k f) (u:=fun t k f=>nO u r t k f) (bW k f) (aQ k) fun t k f=>?_
 exact BP hl u r t k f
theorem B8 (hl:Fine l) (u:ByteArray) (k:Ix l) (f:Fa):RQ f (aT ⟨#[58]⟩ k>>=fun a=>aP a.2>>=fun r=>aT ⟨#[58]⟩ r.2>>=fun b=>aP b.2>>=fun t=>aT ⟨#[58]⟩ t.2>>=fun c=>cG c.2>>=fun g=>.ok (⟨u,r.1,t.1,g.1⟩,g.2)) (qn u k f):=by
 unfold qn
 refine RQ.bind (t:=((),aO ⟨#[58]⟩ k f)) (u:=fun _ k f=>o5 u (aB k f).1 (aB k f).2.1 (aB k f).2.2) (fP _ k f) (bo _ k) fun _ k f=>?_
 refine RQ.bind (t:=aB k f) (u:=fun r k f=>o5 u r k f) (bW k f) (aQ k) fun r k f=>?_
 exact As hl u r k f
theorem mD (hl:Fine l) (k:Ix l) (f:Fa):RQ f (bP k) (db k f):=by
 unfold bP db
 refine RQ.bind (t:=aB k f) (u:=fun u k f=>qn u k f) (bW k f) (aQ k) fun u k f=>?_
 exact B8 hl u k f
end
end
end Am
end Go.Proofs.YtkpodagbefnebaaGreatDoor
