import Derived.Test.YtkpodagbefnebaaGreatDoorYg8
import Derived.Lib.ItoaLen
set_option linter.unusedSimpArgs false
set_option linter.unusedVariables false
set_option linter.unusedSectionVars false
namespace Go.Proofs.YtkpodagbefnebaaGreatDoor
namespace Am
set_option maxRecDepth 100000
set_option maxHeartbeats 1000000
def fN {α β:Type} (p:α→β→Bool):List α→List β→Bool
 |[],[]=>true
 |x :: l,y :: m=>p x y&&fN p l m
 |[],_ :: _=>false
 |_ :: _,[]=>false
section
variable {α β:Type} {p:α→β→Bool}
theorem nN:∀ {l:List α} {m:List β},l.length≠m.length→fN p l m=false
 |[],[],h=>absurd rfl h
 |x :: l,y :: m,h=>by rw[fN,nN (l:=l) (m:=m) (by simpa using h),Bool.and_false]
 |[],_ :: _,_=>rfl
 |_ :: _,[],_=>rfl
def qB (p:α→β→Bool) (l:List α) (m:List β) (j:Nat):Prop:=∀ i x y,i<j→l[i]? =some x→m[i]? =some y→p x y=true
theorem qA {l:List α} {m:List β}:qB p l m 0:=fun i x y h=>absurd h (Nat.not_lt_zero _)
theorem qz {l:List α} {m:List β} {j:Nat} {x:α} {y:β} (h:qB p l m j) (hx:l[j]? =some x) (hy:m[j]? =some y) (e:p x y=true):qB p l m (j+1):=by
 intro i u v hi hu hv
 rcases Nat.lt_or_ge i j with h1|h1
 ·exact h i u v h1 hu hv
 ·obtain rfl:i=j:=by omega
  rw[hx] at hu;rw[hy] at hv;cases hu;cases hv;exact e
theorem qO:∀ {l:List α} {m:List β} {j:Nat} {x:α} {y:β},l[j]? =some x→m[j]? =some y→p x y=false→fN p l m=false
 |[],_,_,_,_,h,_,_=>by simp at h
 |_ :: _,[],_,_,_,_,h,_=>by simp at h
 |a :: l,b :: m,0,x,y,hx,hy,e=>by
  obtain rfl:a=x:=by simpa using hx
  obtain rfl:b=y:=by simpa using hy
  rw[fN,e,Bool.false_and]
 |a :: l,b :: m,j+1,x,y,hx,hy,e=>by
  rw[fN,qO (j:=j) (by simpa using hx) (by simpa using hy) e,Bool.and_false]
theorem nM:∀ {l:List α} {m:List β} {j:Nat},qB p l m j→l.length≤j→l.length=m.length→fN p l m=true
 |[],[],_,_,_,_=>rfl
 |x :: l,y :: m,0,_,h,_=>by simp at h
 |x :: l,y :: m,j+1,h,h1,h2=>by
  rw[fN,h 0 x y (Nat.succ_pos _) rfl rfl,nM (l:=l) (m:=m) (j:=j) (fun i u v hi hu hv=>h (i+1) u v (by omega) (by simpa using hu) (by simpa using hv)) (by simpa using h1) (by simpa using h2)]
  rfl
 |[],_ :: _,_,_,_,h=>by simp at h
 |_ :: _,[],_,_,_,h=>by simp at h
end
def lL (a b:Ex):Bool:=decide (a.op=b.op)&&decide (a.a=b.a)&&decide (a.rel=b.rel)&&decide (a.b=b.b)&&Se.eqB a.set b.set&&decide (a.names=b.names)
mutual
def fq:Ex→Ex→Bool
 |⟨op,a,rel,b,names,set,kids⟩,⟨op',a',rel',b',names',set',kids'⟩=>lL ⟨op,a,rel,b,names,set,kids⟩ ⟨op',a',rel',b',names',set',kids'⟩&&iN kids kids'
def iN:List Ex→List Ex→Bool
 |[],[]=>true
 |x :: l,y :: m=>fq x y&&iN l m
 |[],_ :: _=>false
 |_ :: _,[]=>false
end
theorem pt:∀ l m:List Ex,iN l m=fN fq l m
 |[],[]=>by rw[iN];rfl
 |x :: l,y :: m=>by rw[iN,pt l m];rfl
 |[],_ :: _=>by rw[iN];rfl
 |_ :: _,[]=>by rw[iN];rfl
theorem jQ (a b:Ex):fq a b=(lL a b&&fN fq a.kids b.kids):=by
 cases a;cases b;rw[fq,pt]
end Am
namespace Am
set_option maxRecDepth 100000
set_option maxHeartbeats 1000000
theorem mH {s x:Stm} (h:x∈s.thn):SizeOf.sizeOf x<SizeOf.sizeOf s:=by
 cases s
 have:=List.sizeOf_lt_of_mem h
 simp only[Stm.mk.sizeOf_spec] at this ⊢
 omega
theorem ma {s x:Stm} (h:x∈s.els):SizeOf.sizeOf x<SizeOf.sizeOf s:=by
 cases s
 have:=List.sizeOf_lt_of_mem h
 simp only[Stm.mk.sizeOf_spec] at this ⊢
 omega
def iH (a b:Stm):Bool:=decide (a.kind=b.kind)&&decide (a.op=b.op)&&decide (a.name=b.name)&&decide (a.result=b.result)&&decide (a.text=b.text)&&(a.value == b.value)&&decide (a.list=b.list)&&decide (a.aliases=b.aliases)&&cA a.source b.source&&cA a.target b.target&&cA a.cls b.cls&&cA a.perms b.perms&&fq a.cond b.cond&&eg a.level b.level&&eF a.range b.range&&decide (a.ctx.user=b.ctx.user)&&decide (a.ctx.role=b.ctx.role)&&decide (a.ctx.type=b.ctx.type)&&eF a.ctx.rng b.ctx.rng
mutual
def du:Stm→Stm→Bool
 |⟨a1,a2,a3,a4,a5,a6,a7,a8,a9,a10,a11,a12,a13,a14,a15,a16,a17,t,e⟩,b=>iH ⟨a1,a2,a3,a4,a5,a6,a7,a8,a9,a10,a11,a12,a13,a14,a15,a16,a17,t,e⟩ b&&ic t b.thn&&ic e b.els
def ic:List Stm→List Stm→Bool
 |[],[]=>true
 |x :: l,y :: m=>du x y&&ic l m
 |[],_ :: _=>false
 |_ :: _,[]=>false
end
theorem jk:∀ l m:List Stm,ic l m=fN du l m
 |[],[]=>by rw[ic];rfl
 |x :: l,y :: m=>by rw[ic,jk l m];rfl
 |[],_ :: _=>by rw[ic];rfl
 |_ :: _,[]=>by rw[ic];rfl
theorem jP (a b:Stm):du a b=(iH a b&&fN du a.thn b.thn&&fN du a.els b.els):=by
 cases a;rw[du,jk,jk]
end Am
namespace Am
set_option maxRecDepth 100000
set_option maxHeartbeats 4000000
theorem w4 (s:ByteArray):(⟨#[]⟩:ByteArray)++s=s:=ByteArray.empty_append
theorem jv (s:ByteArray):s++(⟨#[]⟩:ByteArray)=s:=ByteArray.append_empty
theorem yj {sep y:ByteArray}:∀ {m:List ByteArray} {j:Nat},m[j]? =some y→tlB sep (m.take (j+1))=tlB sep (m.take j)++sep++y
 |x :: m,0,h=>by
  obtain rfl:x=y:=by simpa using h
  simp only[List.take_succ_cons,List.take_zero,tlB,jv,w4]
 |x :: m,j+1,h=>by
  simp only[List.take_succ_cons,tlB]
  rw[yj (m:=m) (j:=j) (by simpa using h)]
  simp only[ByteArray.append_assoc]
theorem uR {sep y:ByteArray} {l:List ByteArray} (h:l[0]? =some y):cq sep (l.take 1)=y:=by
 match l,h with
 |x :: l,h=>
  obtain rfl:x=y:=by simpa using h
  simp[cq,tlB,jv]
theorem uQ {sep y:ByteArray} {l:List ByteArray} {j:Nat} (h:l[j]? =some y) (hj:0<j):cq sep (l.take (j+1))=cq sep (l.take j)++sep++y:=by
 match l,j,h,hj with
 |x :: l,j+1,h,_=>
  simp only[List.take_succ_cons,cq]
  rw[yj (m:=l) (j:=j) (by simpa using h)]
  simp only[ByteArray.append_assoc]
theorem GP {sep:ByteArray}:∀ (l:List ByteArray) (j:Nat),(tlB sep (l.take j)).size≤(tlB sep l).size
 |[],j=>by simp
 |x :: l,0=>Nat.zero_le _
 |x :: l,j+1=>by
  have:=GP (sep:=sep) l j
  simp only[List.take_succ_cons,tlB,ByteArray.size_append]
  omega
theorem Iy {sep:ByteArray} (l:List ByteArray) (j:Nat):(cq sep (l.take j)).size≤(cq sep l).size:=by
 match l,j with
 |[],j=>simp
 |x :: l,0=>exact Nat.zero_le _
 |x :: l,j+1=>
  have:=GP (sep:=sep) l j
  simp only[List.take_succ_cons,cq,ByteArray.size_append]
  omega
theorem CG {sep x:ByteArray}:∀ {l:List ByteArray},x∈l→x.size≤(tlB sep l).size
 |y :: l,h=>by
  simp only[tlB,ByteArray.size_append]
  rcases List.mem_cons.1 h with rfl|h
  ·omega
  ·have:=CG (sep:=sep) h;omega
theorem sv {sep x:ByteArray} {l:List ByteArray} (h:x∈l):x.size≤(cq sep l).size:=by
 match l,h with
 |y :: l,h=>
  simp only[cq,ByteArray.size_append]
  rcases List.mem_cons.1 h with rfl|h
  ·omega
  ·have:=CG (sep:=sep) h;omega
theorem map_take {α β:Type} {f:α→β} {l:List α} {j:Nat} {x:α} (h:l[j]? =some x):(l.take (j+1)).map f=(l.take j).map f++[f x]:=by
 rw[List.take_add_one,h,List.map_append];rfl
def exL (n:NS) (j:Nat):List ByteArray:=ko n++(n.except.take j).map (⟨#[45,32]⟩++ ·)
theorem AK (n:NS):exL n 0=ko n:=by simp[exL]
theorem AJ {n:NS} {j:Nat} {x:ByteArray} (h:n.except[j]? =some x):exL n j++[⟨#[45,32]⟩++x]=exL n (j+1):=by
 rw[exL,exL,List.take_add_one,h];simp
theorem xC {n:NS} {j:Nat} (h:n.except.length≤j):exL n j=pR n:=by rw[exL,List.take_of_length_le h];rfl
theorem Ec {n:NS} {j:Nat} (h:j≤n.except.length):(exL n j).length=(ko n).length+j:=by simp[exL];omega
def xv (s:Stm):Bool×Stm:=
 if s.kind=1∨s.kind=4 then(idB s.name&&lO s.list,{s with name:=⟨#[]⟩,list:=[]})
 else if s.kind=2 then(idB s.name&&s.list.all idB&&s.aliases.all idB,{s with name:=⟨#[]⟩,list:=[],aliases:=[]})
 else if s.kind=3∨s.kind=10∨s.kind=11 then(idB s.name,{s with name:=⟨#[]⟩})
 else if s.kind=5 then(idB s.name&&(cA s.source NS.zero || au s.source false),{s with name:=⟨#[]⟩,source:=NS.zero})
 else if s.kind=8 then(idB s.name&&lO s.list&&lvB s.level&&rgB s.range,{s with name:=⟨#[]⟩,list:=[],level:=Lv.zero,range:=Rg.zero})
 else if s.kind=9 then(idB s.name,{s with name:=⟨#[]⟩,value:=false})
 else(false,{s with name:=⟨#[]⟩})
def nb (s:Stm):Stm:={s with source:=NS.zero,target:=NS.zero,cls:=NS.zero}
def gZ (s:Stm):Bool:=au s.source false&&au s.target (decide (s.kind=12))
def Fm (s:Stm):Bool×Stm:=
 if s.kind=6 then(gZ s,{nb s with cls:=s.cls})
 else if s.kind=7 then(gZ s&&au s.cls false&&idB s.result,{nb s with result:=⟨#[]⟩})
 else if s.kind=12 then(gZ s&&au s.cls false&&au s.perms false&&opB s.op 4,{nb s with op:=0,perms:=NS.zero})
 else if s.kind=13 then(gZ s&&au s.cls false&&idB s.result&&(decide (s.text=⟨#[]⟩) || (decide (s.op=1)&&oN s.text))&&opB s.op 3,{nb s with op:=0,result:=⟨#[]⟩,text:=⟨#[]⟩})
 else if s.kind=14 then(gZ s&&au s.cls false&&rgB s.range,{nb s with range:=Rg.zero})
 else if s.kind=23 then(gZ s&&idB s.name&&opB s.op 3,{nb s with cls:=s.cls,op:=0,name:=⟨#[]⟩})
 else(false,nb s)
def wb (c:UInt8):Bool:=decide (32≤c.toNat)&&decide (c.toNat≤126)&&decide (c.toNat≠34)
def quoB (s:ByteArray):Bool:=decide (s.size≤256)&&s.data.toList.all wb
def FI (tb eb:Bool) (s:Stm):Bool×Stm:=
 if s.kind=15 then(au s.cls false&&au s.perms false&&gE s.cond false,{s with cls:=NS.zero,perms:=NS.zero,cond:=Ex.zero})
 else if s.kind=16 then(au s.cls false&&gE s.cond true,{s with cls:=NS.zero,cond:=Ex.zero})
 else if s.kind=17 then(decide (cB 1 s.cond=0)&&decide (0<s.thn.length)&&tb&&eb,{s with cond:=Ex.zero,thn:=[],els:=[]})
 else if s.kind=18 then(decide (0<s.thn.length)&&tb&&eb,{s with thn:=[],els:=[]})
 else if s.kind=19 then(if s.op=1 then(idB s.name&&lO s.list,{s with op:=0,list:=[],name:=⟨#[]⟩}) else(lO s.list&&opB s.op 8,{s with op:=0,list:=[]}))
 else if s.kind=20 then(idB s.name&&cxB s.ctx,{s with name:=⟨#[]⟩,ctx:=Ct.zero})
 else if s.kind=21 then(decide (s.text≠⟨#[]⟩)&&quoB s.text&&decide (0≤s.op)&&decide (s.op≤4)&&cxB s.ctx,{s with text:=⟨#[]⟩,op:=0,ctx:=Ct.zero})
 else if s.kind=22 then(au s.source false,{s with source:=NS.zero})
 else(false,s)
def uE (r:Stm):Bool:=du {r with kind:=0,pos:=Po.zero} Stm.zero
def fmH (tb eb:Bool) (s:Stm):Bool:=
 if(xv s).1 then uE (xv s).2 else if(Fm s).1 then uE (Fm s).2 else if(FI tb eb s).1 then uE (FI tb eb s).2 else false
mutual
def fmB:Stm→Bool
 |⟨a1,a2,a3,a4,a5,a6,a7,a8,a9,a10,a11,a12,a13,a14,a15,a16,a17,t,e⟩=>fmH (yE t) (yE e) ⟨a1,a2,a3,a4,a5,a6,a7,a8,a9,a10,a11,a12,a13,a14,a15,a16,a17,t,e⟩
def yE:List Stm→Bool
 |[]=>true
 |x :: l=>fmB x&&yE l
end
theorem oo:∀ l:List Stm,yE l=l.all fmB
 |[]=>by rw[yE];rfl
 |x :: l=>by rw[yE,oo l];rfl
theorem HC (s:Stm):fmB s=fmH (s.thn.all fmB) (s.els.all fmB) s:=by
 cases s;rw[fmB,oo,oo]
def fU (m:Mo):Int:=
 if idB m.name=false then 10
 else if m.version<0∨9999<m.version then 3
 else if 1024<gV m.stmts∨12<dpL m.stmts then 4
 else if m.stmts.all fmB=false then 2 else 0
theorem zi (s:ByteArray) (c:Nat):(Fp s c).size=c*s.size:=by
 show(Lib.repeatL s.data.toList c).toArray.size=_
 rw[List.size_toArray,Lib.repeatL_length,bX]
theorem mf (n:Nat):(jb n).size=n*2:=zi _ n
theorem JC (n:Nat):(n:Int)+1=((n+1:Nat):Int):=rfl
abbrev vZ:Nat:=4398046511104
theorem va {sep:ByteArray}:∀ (l:List ByteArray),l.length*sep.size≤(tlB sep l).size
 |[]=>by simp
 |x :: l=>by
  have:=va (sep:=sep) l
  simp only[tlB,ByteArray.size_append,List.length_cons,Nat.add_mul]
  omega
theorem qH {sep:ByteArray}:∀ (l:List ByteArray),l.length*sep.size≤(cq sep l).size+sep.size
 |[]=>by simp
 |x :: l=>by
  have:=va (sep:=sep) l
  simp only[cq,ByteArray.size_append,List.length_cons,Nat.add_mul]
  omega
theorem w7 (n:NS):(brT (nsL n)).size≤(nsT n).size+4∧(nsL n).length≤(nsT n).size+1:=by
 have hs:ByteArray.size ⟨#[32]⟩=1:=rfl
 have hc:=qH (sep:=⟨#[32]⟩) (nsL n)
 rw[hs,Nat.mul_one] at hc
 have hb:(brT (nsL n)).size=(cq ⟨#[32]⟩ (nsL n)).size+4:=by
  simp only[brT,ByteArray.size_append,bC,List.size_toArray,List.length_cons,List.length_nil];omega
 have h2:ByteArray.size ⟨#[126,32]⟩=2:=rfl
 have h1:(nsL n).length=1→(brT (nsL n)).size=((nsL n).getD 0 ⟨#[]⟩).size+4:=fun h=>by
  match hl:nsL n,h with
  |[x],_=>
   simp only[brT,cq,tlB,ByteArray.size_append,bC,List.size_toArray,List.length_cons,List.length_nil,List.getD_cons_zero];omega
 unfold nsT
 split
 ·rename_i h
  have:=h1 h.2.1
  rw[ByteArray.size_append,h2]
  omega
 ·split
  ·rw[ByteArray.size_append,h2];omega
  ·split
   ·rename_i h
    have:=h1 h.1
    omega
   ·omega
theorem lH (p:Bool) (s:ByteArray):s.size≤(fi p s).size:=by
 unfold fi;split
 ·simp only[ByteArray.size_append];omega
 ·omega
theorem tu:∀ l:List Ex,tt l=l.map exT
 |[]=>by rw[tt];rfl
 |x :: l=>by rw[tt,tu l];rfl
theorem Hz (e:Ex):exT e=exH e.op e.a e.rel e.b e.names (e.kids.map exT) (e.kids.map (·.op)):=by
 cases e;rw[exT,tu]
theorem wO {α:Type} {l:List α} (h:(l.length:Int)=2):∃ a b,l=[a,b]:=by
 match l,h with
 |[a,b],_=>exact⟨a,b,rfl⟩
 |[],h=>simp at h
 |[_],h=>simp at h
 |_ :: _ :: _ :: _,h=>simp only[List.length_cons] at h;omega
theorem oV {α:Type} {l:List α} (h:(l.length:Int)=1):∃ a,l=[a]:=by
 match l,h with
 |[a],_=>exact⟨a,rfl⟩
 |[],h=>simp at h
 |_ :: _ :: _,h=>simp only[List.length_cons] at h;omega
theorem F5 (st least:Int) (s:ByteArray):s.size≤(ir st least s).size:=by
 unfold ir;split
 ·simp only[ByteArray.size_append];omega
 ·omega
theorem td:∀ l:List Ex,tc l=l.map btI
 |[]=>by rw[tc];rfl
 |x :: l=>by rw[tc,td l];rfl
theorem vw (e:Ex):btI e=btH e.op e.names (e.kids.map btI) (e.kids.map (·.op)):=by
 cases e;rw[btI,td]
theorem mN:∀ {l:List Int},gA l=0→∀ x∈l,x=0
 |[],_,x,hx=>by cases hx
 |y :: l,h,x,hx=>by
  unfold gA at h
  split at h
  ·rename_i h0
   rcases List.mem_cons.1 hx with rfl|hx
   ·exact h0
   ·exact mN h x hx
  ·rename_i h0;exact absurd h h0
theorem qa {e:Ex} {level:Int} (h:cB level e=0):0≤cV e.op∧(e.kids.length:Int)=cV e.op∧(cV e.op=0→e.names.length=1)∧∀ x∈e.kids,cB (level+1) x=0:=by
 rw[nQ] at h
 split at h
 ·rename_i h0
  unfold cZ at h0
  by_cases p:12<level
  ·rw[if_pos p] at h0;exact absurd h0 (by decide)
  rw[if_neg p] at h0
  by_cases q:cV e.op<0∨e.a≠0∨e.b≠0∨e.rel≠0∨Se.eqB e.set Se.zero=false∨(e.kids.length:Int)≠cV e.op∨(e.names.length:Int)≠(if cV e.op=0 then 1 else 0)
  ·rw[if_pos q] at h0;exact absurd h0 (by decide)
  simp only[not_or] at q
  obtain ⟨q1,-,-,-,-,q2,q3⟩:=q
  refine⟨by omega,by omega,fun e0=>?_,fun x hx=>mN h _ (List.mem_map_of_mem hx)⟩
  rw[if_pos e0] at q3
  omega
 ·rename_i h0;exact absurd h h0
structure Bd (s:Stm):Prop where
 name:s.name.size≤268435456
 result:s.result.size≤268435456
 text:s.text.size≤268435456
 list:(brT s.list).size≤268435456
 comm:(cq ⟨#[44,32]⟩ s.list).size≤268435456
 aliases:(brT s.aliases).size≤268435456
 source:(nsT s.source).size≤268435456
 target:(nsT s.target).size≤268435456
 cls:(nsT s.cls).size≤268435456
 perms:(nsT s.perms).size≤268435456
 cond:gE s.cond false=true∨gE s.cond true=true→(exT s.cond).size≤268435456
 cond2:cB 1 s.cond=0→(btT s.cond 0).size≤268435456
 level:(lvT s.level).size≤268435456
 range:(rgT s.range).size≤268435456
 ctx:(cxT s.ctx).size≤268435456
structure Rok (s:Stm):Prop where
 r12:s.kind=12→1≤s.op∧s.op≤4
 r13:s.kind=13→1≤s.op∧s.op≤3
 r15:s.kind=15→gE s.cond false=true
 r16:s.kind=16→gE s.cond true=true
 r19:s.kind=19→1≤s.op∧s.op≤8
 r21:s.kind=21→0≤s.op∧s.op≤4
 r23:s.kind=23→1≤s.op∧s.op≤3
 rk:1≤s.kind∧s.kind≤23
theorem kr {l:List ByteArray} (h:∀ x∈l,x.size≤100) (n:Int):(kwT l n).size≤100:=by
 unfold kwT
 rw[List.getD_eq_getElem?_getD]
 cases hx:l[(n - 1).toNat]? with
 |none=>exact Nat.zero_le _
 |some x=>exact h x (List.mem_of_getElem? hx)
theorem sX (b:Bool):(nX b).size≤5:=by cases b <;> decide
theorem Cs (lv:Nat) (s:Stm):stT lv s=stH lv s (dj (lv+1) s.thn) (dj (lv+1) s.els):=by cases s;rw[stT]
theorem xf (a:ByteArray):a++(⟨#[]⟩:ByteArray)=a:=jv a
theorem sW {lv:Nat}:∀ {l:List Stm} {j:Nat} {x:Stm},l[j]? =some x→dj lv (l.take (j+1))=dj lv (l.take j)++stT lv x++⟨#[10]⟩
 |[],j,x,h=>by simp at h
 |y :: l,0,x,h=>by
  obtain rfl:y=x:=by simpa using h
  simp only[List.take_succ_cons,List.take_zero,dj,w4,jv]
 |y :: l,j+1,x,h=>by
  simp only[List.take_succ_cons,dj]
  rw[sW (l:=l) (j:=j) (x:=x) (by simpa using h)]
  simp only[ByteArray.append_assoc]
theorem Ai {lv:Nat}:∀ (l:List Stm) (j:Nat),(dj lv (l.take j)).size≤(dj lv l).size
 |[],j=>by simp
 |x :: l,0=>by simp only[List.take_zero,dj,ByteArray.size_append];exact Nat.zero_le _
 |x :: l,j+1=>by
  have:=Ai (lv:=lv) l j
  simp only[List.take_succ_cons,dj,ByteArray.size_append]
  omega
structure WH (s:Stm):Prop where
 r:s.kind≠17→s.kind≠18→Rok s
 b:Bd s
 c:s.kind=17→cB 1 s.cond=0
mutual
def stW:Stm→Prop
 |⟨a1,a2,a3,a4,a5,a6,a7,a8,a9,a10,a11,a12,a13,a14,a15,a16,a17,t,e⟩=>WH ⟨a1,a2,a3,a4,a5,a6,a7,a8,a9,a10,a11,a12,a13,a14,a15,a16,a17,t,e⟩∧zv t∧zv e
def zv:List Stm→Prop
 |[]=>True
 |x :: l=>stW x∧zv l
end
theorem pD:∀ {l:List Stm},zv l↔∀ x∈l,stW x
 |[]=>by rw[zv];simp
 |x :: l=>by rw[zv,pD (l:=l)];simp
theorem wA (s:Stm):stW s↔WH s∧(∀ x∈s.thn,stW x)∧(∀ x∈s.els,stW x):=by cases s;rw[stW,pD,pD]
def kU (m:Mo):ByteArray×Int:=if fU m≠0 then(⟨#[]⟩,fU m) else if 65536<(jE m).size then(⟨#[]⟩,4) else(jE m,0)
theorem JO (n:Int) (h0:0≤n) (h1:n≤9999):(itT n).size≤100:=by
 have:=Lib.itoa_length_le n (by omega) (by omega)
 show(Lib.itoa n).toArray.size≤_
 rw[List.size_toArray];omega
def bw (s:Stm):Stm:=
 if s.kind=1∨s.kind=4 then {Stm.zero with kind:=s.kind,name:=s.name,list:=s.list}
 else if s.kind=2 then {Stm.zero with kind:=s.kind,name:=s.name,aliases:=s.aliases,list:=s.list}
 else if s.kind=3∨s.kind=10∨s.kind=11 then {Stm.zero with kind:=s.kind,name:=s.name}
 else if s.kind=5 then {Stm.zero with kind:=s.kind,name:=s.name,source:=s.source}
 else if s.kind=6 then {Stm.zero with kind:=s.kind,source:=s.source,target:=s.target}
 else if s.kind=7 then {Stm.zero with kind:=s.kind,source:=s.source,target:=s.target,cls:=s.cls,result:=s.result}
 else if s.kind=8 then {Stm.zero with kind:=s.kind,name:=s.name,list:=s.list,level:=s.level,range:=s.range}
 else if s.kind=9 then {Stm.zero with kind:=s.kind,name:=s.name,value:=s.value}
 else if s.kind=12 then {Stm.zero with kind:=s.kind,op:=s.op,source:=s.source,target:=s.target,cls:=s.cls,perms:=s.perms}
 else if s.kind=13 then {Stm.zero with kind:=s.kind,op:=s.op,source:=s.source,target:=s.target,cls:=s.cls,result:=s.result,text:=s.text}
 else if s.kind=14 then {Stm.zero with kind:=s.kind,source:=s.source,target:=s.target,cls:=s.cls,range:=s.range}
 else if s.kind=15 then {Stm.zero with kind:=s.kind,cls:=s.cls,perms:=s.perms,cond:=s.cond}
 else if s.kind=16 then {Stm.zero with kind:=s.kind,cls:=s.cls,cond:=s.cond}
 else if s.kind=17 then {Stm.zero with kind:=s.kind,cond:=s.cond,thn:=s.thn,els:=s.els}
 else if s.kind=18 then {Stm.zero with kind:=s.kind,thn:=s.thn,els:=s.els}
 else if s.kind=19 then {Stm.zero with kind:=s.kind,op:=s.op,name:=s.name,list:=s.list}
 else if s.kind=20 then {Stm.zero with kind:=s.kind,name:=s.name,ctx:=s.ctx}
 else if s.kind=21 then {Stm.zero with kind:=s.kind,text:=s.text,op:=s.op,ctx:=s.ctx}
 else if s.kind=22 then {Stm.zero with kind:=s.kind,source:=s.source}
 else if s.kind=23 then {Stm.zero with kind:=s.kind,name:=s.name,op:=s.op,source:=s.source,target:=s.target}
 else {Stm.zero with kind:=s.kind}
def ja (l:List ByteArray) (least:Int):Bool:=l.all idB&&decide (least≤l.length)
def fV (n:NS):Bool:=!n.all&& !n.nt&& !n.self&&decide (n.names.length=0)&&decide (n.except.length=0)
def cY (s:Stm):Bool:=
 if s.kind=1∨s.kind=4 then idB s.name&&ja s.list 1
 else if s.kind=2 then idB s.name&&ja s.list 0&&ja s.aliases 0
 else if s.kind=5 then idB s.name&&(fV s.source || au s.source false)
 else if s.kind=8 then idB s.name&&ja s.list 1&&lvB s.level&&rgB s.range
 else if s.kind=19 then(if s.op=1 then idB s.name&&ja s.list 1 else decide (s.name=⟨#[]⟩)&&decide (2≤s.op)&&decide (s.op≤8)&&ja s.list 1)
 else if s.kind=20 then idB s.name&&cxB s.ctx
 else if s.kind=23 then idB s.name&&decide (1≤s.op)&&decide (s.op≤3)&&au s.source false&&au s.target false
 else idB s.name
def jT (s:Stm):Bool:=s.text.data.toList.all lC&&(decide (s.text=⟨#[]⟩) || (decide (s.op=1)&&decide (s.text.size≤32)))
def dE (s:Stm):Bool:=
 if s.kind=6 then gZ s
 else if s.kind=7 then gZ s&&au s.cls false&&idB s.result
 else if s.kind=12 then gZ s&&au s.cls false&&au s.perms false&&decide (1≤s.op)&&decide (s.op≤4)
 else if s.kind=13 then gZ s&&au s.cls false&&idB s.result&&decide (1≤s.op)&&decide (s.op≤3)&&jT s
 else if s.kind=14 then gZ s&&au s.cls false&&rgB s.range
 else if s.kind=15 then au s.cls false&&au s.perms false&&gE s.cond false
 else if s.kind=16 then au s.cls false&&gE s.cond true
 else if s.kind=22 then au s.source false
 else decide (s.text≠⟨#[]⟩)&&quoB s.text&&decide (0≤s.op)&&decide (s.op≤4)&&cxB s.ctx
def bz (tb eb:Bool) (s:Stm):Bool:=
 (if s.kind=1∨s.kind=2∨s.kind=3∨s.kind=4∨s.kind=5∨s.kind=8∨s.kind=9∨s.kind=10∨s.kind=11∨s.kind=19∨s.kind=20∨s.kind=23 then cY s
  else if s.kind=6∨s.kind=7∨s.kind=12∨s.kind=13∨s.kind=14∨s.kind=15∨s.kind=16∨s.kind=21∨s.kind=22 then dE s
  else if s.kind=17 then decide (cB 1 s.cond=0)&&decide (0<s.thn.length)&&tb&&eb
  else if s.kind=18 then decide (0<s.thn.length)&&tb&&eb else false)&&du (bw s) s
theorem Ea (l:List ByteArray):decide ([]=l)=decide (l=[]):=by simp only[eq_comm]
theorem KY (x:ByteArray):decide ((⟨#[]⟩:ByteArray)=x)=decide (x=⟨#[]⟩):=by simp only[eq_comm]
theorem KX (x:Int):decide (0=x)=decide (x=0):=by simp only[eq_comm]
theorem Jc (x:Bool):(false == x)=(x == false):=by cases x <;> rfl
theorem zq (a:Se):Se.eqB a a=true:=by simp[Se.eqB]
theorem zp (a b:Se):Se.eqB a b=Se.eqB b a:=by simp only[Se.eqB,eq_comm]
mutual
theorem kQ:∀ a:Ex,fq a a=true
 |⟨op,a,rel,b,names,set,kids⟩=>by rw[fq,mZ kids];simp[lL,zq]
theorem mZ:∀ l:List Ex,iN l l=true
 |[]=>by rw[iN]
 |x :: l=>by rw[iN,kQ x,mZ l];rfl
end
theorem nO {α β:Type} {p:α→β→Bool} (l:List α):fN p l []=decide (l.length=0):=by cases l <;> rfl
theorem oJ {α β:Type} {p:α→β→Bool} (l:List β):fN p [] l=decide (l.length=0):=by cases l <;> rfl
theorem wo (x:Ex):fq Ex.zero x=fq x Ex.zero:=by
 rw[jQ,jQ]
 simp only[lL,Ex.zero,nO,oJ,zp ⟨0,0,0,0⟩ x.set]
 rw[Bool.eq_iff_iff]
 simp only[Bool.and_eq_true,decide_eq_true_eq]
 grind
theorem mX (a:NS):cA a a=true:=by simp[cA]
theorem uG (a b:NS):cA a b=cA b a:=by
 unfold cA
 have h:∀ p q:Bool,(p == q)=(q == p):=by decide
 rw[h a.all,h a.nt,h a.self]
 simp only[eq_comm]
theorem jO (a:Lv):eg a a=true:=by simp[eg]
theorem jN (a b:Lv):eg a b=eg b a:=by simp only[eg,eq_comm]
theorem mY (a:Rg):eF a a=true:=by simp[eF,jO]
theorem uH (a b:Rg):eF a b=eF b a:=by unfold eF;rw[jN a.lo,jN a.hi]
mutual
theorem wm:∀ a:Stm,du a a=true
 |⟨a1,a2,a3,a4,a5,a6,a7,a8,a9,a10,a11,a12,a13,a14,a15,a16,a17,t,e⟩=>by rw[du,iG t,iG e];simp[iH,kQ,mX,jO,mY]
theorem iG:∀ l:List Stm,ic l l=true
 |[]=>by rw[ic]
 |x :: l=>by rw[ic,wm x,iG l];rfl
end
theorem yz (l:List Stm):fN du l l=true:=by rw[← jk];exact iG l
def Z (s:Stm):Nat→Bool
 |0=>decide (s.op=0)
 |1=>decide (s.name=⟨#[]⟩)
 |2=>decide (s.result=⟨#[]⟩)
 |3=>decide (s.text=⟨#[]⟩)
 |4=>s.value == false
 |5=>decide (s.list=[])
 |6=>decide (s.aliases=[])
 |7=>cA s.source NS.zero
 |8=>cA s.target NS.zero
 |9=>cA s.cls NS.zero
 |10=>cA s.perms NS.zero
 |11=>fq s.cond Ex.zero
 |12=>eg s.level Lv.zero
 |13=>eF s.range Rg.zero
 |14=>decide (s.ctx.user=⟨#[]⟩)&&decide (s.ctx.role=⟨#[]⟩)&&decide (s.ctx.type=⟨#[]⟩)&&eF s.ctx.rng Rg.zero
 |15=>decide (s.thn.length=0)
 |_=>decide (s.els.length=0)
theorem Fq (r:Stm):uE r=(Z r 0&&Z r 1&&Z r 2&&Z r 3&&Z r 4&&Z r 5&&Z r 6&&Z r 7&&Z r 8&&Z r 9&&Z r 10&&Z r 11&&Z r 12&&Z r 13&&Z r 14&&Z r 15&&Z r 16):=by
 unfold uE
 rw[jP]
 simp only[iH,Stm.zero,Z,nO,Ct.zero]
 simp only[Bool.and_assoc,decide_true,Bool.true_and]
 rfl
theorem yb (k s:Stm) (hk:k.kind=s.kind):du k s=((decide (k.op=s.op)&&decide (k.name=s.name)&&decide (k.result=s.result)&&decide (k.text=s.text)&&(k.value == s.value)&&decide (k.list=s.list)&&decide (k.aliases=s.aliases)&&cA k.source s.source&&cA k.target s.target&&cA k.cls s.cls&&cA k.perms s.perms&&fq k.cond s.cond&&eg k.level s.level&&eF k.range s.range &&
 (decide (k.ctx.user=s.ctx.user)&&decide (k.ctx.role=s.ctx.role)&&decide (k.ctx.type=s.ctx.type)&&eF k.ctx.rng s.ctx.rng)&&fN du k.thn s.thn&&fN du k.els s.els)):=by
 rw[jP]
 simp only[iH,hk,decide_true,Bool.true_and,Bool.and_assoc]
theorem B4 (l:List ByteArray):ja l 0=l.all idB:=by simp[ja]
theorem xK (l:List ByteArray):ja l 1=lO l:=by
 simp only[ja,lO]
 rw[Bool.and_comm]
 congr 1
 exact decide_eq_decide.2 (by omega)
theorem vC (n:NS):fV n=cA n NS.zero:=by
 obtain ⟨a,b,c,d,e⟩:=n
 cases a <;> cases b <;> cases c <;> cases d <;> cases e <;> simp[fV,cA,NS.zero]
theorem CE (s:Stm):(decide (s.text=⟨#[]⟩) || (decide (s.op=1)&&oN s.text))=jT s:=by
 unfold jT oN
 by_cases h:s.text=⟨#[]⟩
 ·rw[h];simp
 ·rw[decide_eq_false h]
  simp only[Bool.false_or,h,decide_true,ne_eq,not_false_eq_true,Bool.true_and]
  cases decide (s.op=1) <;> simp
theorem nz (x:NS):cA ⟨false,false,false,[],[]⟩ x=cA x NS.zero:=uG _ _
theorem xz (x:Ex):fq ⟨0,0,0,0,[],⟨0,0,0,0⟩,[]⟩ x=fq x Ex.zero:=wo x
theorem lz (x:Lv):eg ⟨⟨#[]⟩,[]⟩ x=eg x Lv.zero:=jN _ _
theorem rz (x:Rg):eF ⟨⟨⟨#[]⟩,[]⟩,⟨⟨#[]⟩,[]⟩⟩ x=eF x Rg.zero:=uH _ _
theorem qn (s:Stm):(bw s).kind=s.kind:=by
 unfold bw
 simp only[apply_ite Stm.kind,ite_self]
theorem Gg (tb eb:Bool) (s:Stm):bz tb eb s=fmH tb eb s:=by
 have hx:(s.kind=1∨s.kind=2∨s.kind=3∨s.kind=4∨s.kind=5∨s.kind=6∨s.kind=7∨s.kind=8∨s.kind=9∨s.kind=10∨s.kind=11∨s.kind=12∨s.kind=13∨s.kind=14∨s.kind=15∨s.kind=16∨s.kind=17∨s.kind=18∨s.kind=19∨s.kind=20∨s.kind=21∨s.kind=22∨s.kind=23)∨¬(s.kind=1∨s.kind=2∨s.kind=3∨s.kind=4∨s.kind=5∨s.kind=6∨s.kind=7∨s.kind=8∨s.kind=9∨s.kind=10∨s.kind=11∨s.kind=12∨s.kind=13∨s.kind=14∨s.kind=15∨s.kind=16∨s.kind=17∨s.kind=18∨s.kind=19∨s.kind=20∨s.kind=21∨s.kind=22∨s.kind=23):=Decidable.em _
 rcases hx with hx|hx
 ·unfold bz
  rw[yb _ _ (qn s)]
  unfold fmH
  simp only[Fq]
  rcases hx with k|k|k|k|k|k|k|k|k|k|k|k|k|k|k|k|k|k|k|k|k|k|k
  all_goals
   simp only[bw,cY,dE,xv,Fm,FI,nb,gZ,opB,k,Int.reduceEq,or_true,true_or,or_self,or_false,false_or,if_true,if_false,↓reduceIte,Z,Stm.zero,Ct.zero,mX,kQ,jO,mY,yz,nO,oJ,nz,xz,lz,rz,Ea,KY,KX,Jc,B4,xK,vC,decide_true,beq_self_eq_true,Bool.and_true,Bool.true_and,Bool.false_and,Bool.false_eq_true,List.length_nil]
  all_goals
   rw[Bool.eq_iff_iff]
   simp only[Bool.and_eq_true,Bool.or_eq_true,decide_eq_true_eq,beq_iff_eq,←CE]
   grind
 ·simp only[not_or] at hx
  obtain ⟨h1,h2,h3,h4,h5,h6,h7,h8,h9,h10,h11,h12,h13,h14,h15,h16,h17,h18,h19,h20,h21,h22,h23⟩:=hx
  simp[bz,fmH,xv,Fm,FI, *]
theorem ll (s:Stm):fmB s=bz (s.thn.all fmB) (s.els.all fmB) s:=by rw[HC,Gg]
theorem Iu {tb eb:Bool} {s:Stm} (h:bz tb eb s=true):Rok s:=by
 unfold bz at h
 rw[Bool.and_eq_true] at h
 obtain ⟨h,-⟩:=h
 refine⟨fun k=>?_,fun k=>?_,fun k=>?_,fun k=>?_,fun k=>?_,fun k=>?_,fun k=>?_,?_⟩
 ·simp[k,dE] at h;omega
 ·simp[k,dE] at h;omega
 ·simp[k,dE] at h;exact h.2
 ·simp[k,dE] at h;exact h.2
 ·simp[k,cY] at h
  split at h
  ·omega
  ·first|omega|(simp at h;omega)|(simp only[Bool.and_eq_true,decide_eq_true_eq] at h;omega)
 ·simp[k,dE] at h;omega
 ·simp[k,cY] at h;omega
 ·split at h
  ·omega
  ·split at h
   ·omega
   ·split at h
    ·omega
    ·split at h
     ·omega
     ·cases h
theorem B7 {s:Stm} (h1:s.kind≠17) (h2:s.kind≠18):(bw s).thn=[]∧(bw s).els=[]:=by
 unfold bw
 simp only[apply_ite Stm.thn,apply_ite Stm.els,h1,h2,if_false,ite_self,Stm.zero,and_self]
theorem xm {tb eb:Bool} {s:Stm} (h:bz tb eb s=true) (h1:s.kind≠17) (h2:s.kind≠18):s.thn=[]∧s.els=[]:=by
 unfold bz at h
 rw[Bool.and_eq_true] at h
 obtain ⟨-,h⟩:=h
 rw[yb _ _ (qn s)] at h
 obtain ⟨k1,k2⟩:=B7 h1 h2
 simp only[Bool.and_eq_true,k1,k2,oJ] at h
 exact⟨List.length_eq_zero_iff.1 (of_decide_eq_true h.1.2),List.length_eq_zero_iff.1 (of_decide_eq_true h.2)⟩
theorem zj {s:Stm} (hr:Rok s) (hb:Bd s):(ef s).size≤2000000000:=by
 obtain ⟨r12,r13,r15,r16,r19,r21,r23,r1,r2⟩:=hr
 obtain ⟨b1,b2,b3,b4,b5,b6,b7,b8,b9,b10,b11,b12,b13,b14,b15⟩:=hb
 have u4:=kr (l:=kwR) (by decide) s.op
 have u3:=kr (l:=kwX) (by decide) s.op
 have u8:=kr (l:=kwQ) (by decide) s.op
 have u5:=kr (l:=kwF) (by decide) (s.op+1)
 have u9:=kr (l:=kwA) (by decide) s.op
 by_cases k15:s.kind=15
 ·have:=b11 (.inl (r15 k15))
  simp only[ef,k15,Int.reduceEq,if_false,if_true,ByteArray.size_append,bC,List.size_toArray,List.length_cons,List.length_nil]
  omega
 by_cases k16:s.kind=16
 ·have:=b11 (.inr (r16 k16))
  simp only[ef,k16,Int.reduceEq,if_false,if_true,ByteArray.size_append,bC,List.size_toArray,List.length_cons,List.length_nil]
  omega
 unfold ef
 rw[if_neg k15,if_neg k16]
 clear r12 r13 r15 r16 r19 r21 r23 b11 b12
 repeat' split
 all_goals
  simp only[fR,ByteArray.size_append,bC,List.size_toArray,List.length_cons,List.length_nil]
  omega
theorem Bf {s:Stm} (hr:Rok s) (hb:Bd s):(bk s).size≤2000000000:=by
 have hl:=zj hr hb
 obtain ⟨b1,b2,b3,b4,b5,b6,b7,b8,b9,b10,b11,b12,b13,b14,b15⟩:=hb
 have f2:=sX s.value
 clear hr b11 b12
 unfold bk
 repeat' split
 all_goals
  try simp only[ByteArray.size_append,bC,List.size_toArray,List.length_cons,List.length_nil]
  omega
theorem B1 {s:Stm} (hb:Bd s) (hc:s.kind=17→cB 1 s.cond=0):(jC s).size≤300000000:=by
 unfold jC
 split
 ·rename_i k
  have:=hb.cond2 (hc k)
  simp only[cq,tlB,ByteArray.size_append,bC,List.size_toArray,List.length_cons,List.length_nil]
  omega
 ·simp only[cq,tlB,ByteArray.size_append,bC,List.size_toArray,List.length_cons,List.length_nil]
  omega
theorem nW {lv:Nat} {l:List Stm} (h:∀ x∈l,(stT lv x).size+1≤(1+gk x)*4294967296):(dj lv l).size≤eo l*4294967296:=by
 induction l with
 |nil=>rw[dj];exact Nat.zero_le _
 |cons x l ih=>
  have h1:=ih fun y hy=>h y (.tail _ hy)
  have h2:=h x (.head _)
  have h3:ByteArray.size ⟨#[10]⟩=1:=rfl
  rw[dj,ByteArray.size_append,ByteArray.size_append,h3,eo]
  omega
end Am
end Go.Proofs.YtkpodagbefnebaaGreatDoor
