import Derived.Test.YtkpodagbefnebaaGreatDoorYf21
import Derived.Test.YtkpodagbefnebaaGreatDoorYf8
import Derived.Test.YtkpodagbefnebaaGreatDoorYf22
set_option linter.unusedSimpArgs false
set_option linter.unusedVariables false
set_option linter.unusedSectionVars false
namespace Go.Proofs.YtkpodagbefnebaaGreatDoor
namespace Am
open Tk
section
variable {l:List Tok}
def atW (v:Bool):List ByteArray:=if v then[⟨#[117,49]⟩,⟨#[114,49]⟩,⟨#[116,49]⟩,⟨#[108,49]⟩,⟨#[104,49]⟩,⟨#[117,50]⟩,⟨#[114,50]⟩,⟨#[116,50]⟩,⟨#[108,50]⟩,⟨#[104,50]⟩,⟨#[117,51]⟩,⟨#[114,51]⟩,⟨#[116,51]⟩,⟨#[108,51]⟩,⟨#[104,51]⟩] else[⟨#[117,49]⟩,⟨#[114,49]⟩,⟨#[116,49]⟩,⟨#[108,49]⟩,⟨#[104,49]⟩,⟨#[117,50]⟩,⟨#[114,50]⟩,⟨#[116,50]⟩,⟨#[108,50]⟩,⟨#[104,50]⟩]
def dK (v:Bool) (k:Ix l) (f:Fa):Int×(Ix l×Fa):=match (atW v).findIdx? (fun s=>okW f s k) with|some i=>((i:Int),(nx k,f))|none=>(0,(k,bZ f 9 (tk k)))
def pH (k:Ix l) (f:Fa):Int×(Ix l×Fa):=if okM f ⟨#[61,61]⟩ k=true then(0,(nx k,f)) else if okM f ⟨#[33,61]⟩ k=true then(1,(nx k,f)) else(1+(b9 [⟨#[100,111,109]⟩,⟨#[100,111,109,98,121]⟩,⟨#[105,110,99,111,109,112]⟩] k f).1,(b9 [⟨#[100,111,109]⟩,⟨#[100,111,109,98,121]⟩,⟨#[105,110,99,111,109,112]⟩] k f).2)
def oB (v:Bool) (a r:Int) (k:Ix l) (f:Fa):Ex×(Ix l×Fa):=({Ex.zero with op:=8,a:=a,rel:=r,b:=(dK v k f).1},(dK v k f).2)
def mN (v:Bool) (a:Int) (k:Ix l) (f:Fa):Ex×(Ix l×Fa):=
 if okW f ⟨#[105,110]⟩ k=true then(if okM f ⟨#[123]⟩ (nx k)=true then({Ex.zero with op:=9,a:=a,names:=(bN (nx k) f).1},(bN (nx k) f).2) else({Ex.zero with op:=9,a:=a,names:=[(aB (nx k) f).1]},(aB (nx k) f).2))
 else oB v a (pH k f).1 (pH k f).2.1 (pH k f).2.2
def jX (v:Bool) (k:Ix l) (f:Fa):Ex×(Ix l×Fa):=mN v (dK v k f).1 (dK v k f).2.1 (dK v k f).2.2
mutual
def dx (v:Bool):Nat→Ix l→Fa→Ex×(Ix l×Fa)
 |0,k,f=>(Ex.zero,(k,bZ f 9 (tk k)))
 |n+1,k,f=>if okM f ⟨#[33]⟩ k=true then({Ex.zero with op:=2,kids:=[(dx v n (nx k) f).1]},(dx v n (nx k) f).2)
  else if okM f ⟨#[40]⟩ k=true then((orQ v n (nx k) f).1,aO ⟨#[41]⟩ (orQ v n (nx k) f).2.1 (orQ v n (nx k) f).2.2)
  else jX v k f
def ek (v:Bool):Nat→Ix l→Fa→Ex×(Ix l×Fa)
 |0,k,f=>(Ex.zero,(k,bZ f 9 (tk k)))
 |n+1,k,f=>fA v n (dx v n k f).1 (dx v n k f).2.1 (dx v n k f).2.2
def fA (v:Bool):Nat→Ex→Ix l→Fa→Ex×(Ix l×Fa)
 |0,e,k,f=>(e,(k,bZ f 9 (tk k)))
 |n+1,e,k,f=>if okM f ⟨#[38,38]⟩ k=true then fA v n {Ex.zero with op:=3,kids:=[e,(dx v n (nx k) f).1]} (dx v n (nx k) f).2.1 (dx v n (nx k) f).2.2 else(e,(k,f))
def orQ (v:Bool):Nat→Ix l→Fa→Ex×(Ix l×Fa)
 |0,k,f=>(Ex.zero,(k,bZ f 9 (tk k)))
 |n+1,k,f=>jj v n (ek v n k f).1 (ek v n k f).2.1 (ek v n k f).2.2
def jj (v:Bool):Nat→Ex→Ix l→Fa→Ex×(Ix l×Fa)
 |0,e,k,f=>(e,(k,bZ f 9 (tk k)))
 |n+1,e,k,f=>if okM f ⟨#[124,124]⟩ k=true then jj v n {Ex.zero with op:=4,kids:=[e,(ek v n (nx k) f).1]} (ek v n (nx k) f).2.1 (ek v n (nx k) f).2.2 else(e,(k,f))
end
def gZ (v:Bool) (k:Ix l) (f:Fa):Ex×(Ix l×Fa):=((orQ v (fuel l) k f).1,((orQ v (fuel l) k f).2.1,if 12<br (orQ v (fuel l) k f).1 then bZ (orQ v (fuel l) k f).2.2 4 (tk k) else(orQ v (fuel l) k f).2.2))
theorem vK {a b:ByteArray}:a=b↔a.data.toList=b.data.toList:=⟨fun h=>by rw[h],fun h=>by cases a;cases b;congr 1;exact Array.ext' h⟩
theorem yU (v:Bool) (s:ByteArray):ke v s=((atW v).findIdx? fun w=>decide (s=w)).map fun(i:Nat)=>(i:Int):=by
 match h:s.data.toList with
 |[]=>cases v <;> simp[ke,h,atW,List.findIdx?_cons,vK]
 |[_]=>cases v <;> simp[ke,h,atW,List.findIdx?_cons,vK]
 |a :: b :: c :: t=>cases v <;> simp[ke,h,atW,List.findIdx?_cons,vK]
 |[a,b]=>
  have hb:∀ {x y:UInt8},(x == y)=decide (y=x):=fun {x y}=>by
   by_cases e:y=x
   ·subst e;simp
   ·rw[decide_eq_false e];exact beq_eq_false_iff_ne.2 fun h=>e h.symm
  simp only[ke,h,inB,hb,List.findIdx?_cons,List.findIdx?_nil]
  have n1:∀ {p q:UInt8} {t:List UInt8},decide ([a,b]=[p,q])=(decide (a=p)&&decide (b=q)):=fun {p q t}=>by simp
  cases v
  ·simp only[atW,vK,h,List.findIdx?_cons,List.findIdx?_nil,Bool.false_eq_true,if_false]
   by_cases a1:a=117
   ·subst a1;by_cases b1:b=49
    ·subst b1;rfl
    ·by_cases b2:b=50
     ·subst b2;rfl
     ·simp[b1,b2,fF]
   ·by_cases a2:a=114
    ·subst a2;by_cases b1:b=49
     ·subst b1;rfl
     ·by_cases b2:b=50
      ·subst b2;rfl
      ·simp[b1,b2,fF]
    ·by_cases a3:a=116
     ·subst a3;by_cases b1:b=49
      ·subst b1;rfl
      ·by_cases b2:b=50
       ·subst b2;rfl
       ·simp[b1,b2,fF]
     ·by_cases a4:a=108
      ·subst a4;by_cases b1:b=49
       ·subst b1;rfl
       ·by_cases b2:b=50
        ·subst b2;rfl
        ·simp[b1,b2,fF]
      ·by_cases a5:a=104
       ·subst a5;by_cases b1:b=49
        ·subst b1;rfl
        ·by_cases b2:b=50
         ·subst b2;rfl
         ·simp[b1,b2,fF]
       ·simp[a1,a2,a3,a4,a5,fF]
  ·simp only[atW,vK,h,List.findIdx?_cons,List.findIdx?_nil,if_true]
   by_cases b1:b=49
   ·subst b1
    by_cases a1:a=117
    ·subst a1;rfl
    ·by_cases a2:a=114
     ·subst a2;rfl
     ·by_cases a3:a=116
      ·subst a3;rfl
      ·by_cases a4:a=108
       ·subst a4;rfl
       ·by_cases a5:a=104
        ·subst a5;rfl
        ·simp[a1,a2,a3,a4,a5,fF]
   ·by_cases b2:b=50
    ·subst b2
     by_cases a1:a=117
     ·subst a1;rfl
     ·by_cases a2:a=114
      ·subst a2;rfl
      ·by_cases a3:a=116
       ·subst a3;rfl
       ·by_cases a4:a=108
        ·subst a4;rfl
        ·by_cases a5:a=104
         ·subst a5;rfl
         ·simp[a1,a2,a3,a4,a5,fF]
    ·by_cases b3:b=51
     ·subst b3
      by_cases a1:a=117
      ·subst a1;rfl
      ·by_cases a2:a=114
       ·subst a2;rfl
       ·by_cases a3:a=116
        ·subst a3;rfl
        ·by_cases a4:a=108
         ·subst a4;rfl
         ·by_cases a5:a=104
          ·subst a5;rfl
          ·simp[a1,a2,a3,a4,a5,fF]
     ·simp only[b1,b2,b3,decide_false,if_false,Bool.false_eq_true,Option.map_none,and_false,Bool.and_false,List.cons.injEq]
      cases (if decide (a=117)=true then some 0 else _:Option Nat) <;> simp[fF,b1,b2,b3]
theorem ub (v:Bool) (k:Ix l) (f:Fa):RQ f (gy v k) (dK v k f):=by
 unfold gy dK
 by_cases hf:f.code=0
 ·have e:(fun s=>okW f s k)=fun s=>isW s k:=funext fun s=>oI hf s k
  rw[e,yU]
  by_cases hk:(tk k).kind=1
  ·have e2:(fun s=>isW s k)=fun w=>decide ((tk k).text=w):=funext fun s=>by simp[isW,hk]
   rw[e2]
   cases (atW v).findIdx? fun w=>decide ((tk k).text=w) with
   |some i=>simp only[Option.map_some];rw[if_pos hk];exact .ok _ _
   |none=>exact .err _ k _
  ·have e2:(fun s=>isW s k)=fun _=>false:=funext fun s=>by simp[isW,hk]
   have e3:(atW v).findIdx? (fun _=>false)=none:=by rw[List.findIdx?_eq_none_iff];simp
   rw[e2,e3]
   cases (atW v).findIdx? fun w=>decide ((tk k).text=w) with
   |some i=>simp only[Option.map_some];rw[if_neg hk];exact .err _ k _
   |none=>exact .err _ k _
 ·have e:(fun s=>okW f s k)=fun _=>false:=funext fun s=>kD hf s k
  have e3:(atW v).findIdx? (fun _=>false)=none:=by rw[List.findIdx?_eq_none_iff];simp
  rw[e,e3]
  exact⟨fun h=>dJ h,fun h=>absurd h hf⟩
theorem E7 (k:Ix l) (f:Fa):RQ f (jF k) (pH k f):=by
 unfold jF pH
 refine RQ.iteM (.ok _ _) (RQ.iteM (.ok _ _) ?_)
 have h:=ie [⟨#[100,111,109]⟩,⟨#[100,111,109,98,121]⟩,⟨#[105,110,99,111,109,112]⟩] k f
 generalize b9 [⟨#[100,111,109]⟩,⟨#[100,111,109,98,121]⟩,⟨#[105,110,99,111,109,112]⟩] k f=q at *
 refine⟨fun hf=>h.1 hf,fun hf=>?_⟩
 have h2:=h.2 hf
 cases hp:bb [⟨#[100,111,109]⟩,⟨#[100,111,109,98,121]⟩,⟨#[105,110,99,111,109,112]⟩] k with
 |error g=>rw[hp] at h2;exact h2
 |ok x=>
  rw[hp] at h2
  have h2:q=(x.1+1,(x.2,f)):=h2
  subst h2
  show((1+(x.1+1),(x.2,f)):Int×(Ix l×Fa))=(2+x.1,(x.2,f))
  congr 1;omega
theorem zB (hl:Fine l) (v:Bool) (a:Int) (k:Ix l) (f:Fa):RQ f (if isW ⟨#[105,110]⟩ k then(if isM ⟨#[123]⟩ (nx k) then bq (nx k)>>=fun x=>.ok ({Ex.zero with op:=9,a:=a,names:=x.1},x.2) else aQ (nx k)>>=fun x=>.ok ({Ex.zero with op:=9,a:=a,names:=[x.1]},x.2))
 else jF k>>=fun r=>gy v r.2>>=fun b=>.ok ({Ex.zero with op:=8,a:=a,rel:=r.1,b:=b.1},b.2)) (mN v a k f):=by
 unfold mN
 refine RQ.iteW (RQ.iteM ?_ ?_) ?_
 ·refine RQ.bind (t:=bN (nx k) f) (u:=fun x k f=>({Ex.zero with op:=9,a:=a,names:=x},(k,f))) (j9 hl (nx k) f) (dz _) fun x k f=>?_
  exact .ok _ _
 ·refine RQ.bind (t:=aB (nx k) f) (u:=fun x k f=>({Ex.zero with op:=9,a:=a,names:=[x]},(k,f))) (bT (nx k) f) (aP _) fun x k f=>?_
  exact .ok _ _
 ·refine RQ.bind (t:=pH k f) (u:=fun r k f=>oB v a r k f) (E7 k f) (wz k) fun r k f=>?_
  unfold oB
  refine RQ.bind (t:=dK v k f) (u:=fun b k f=>({Ex.zero with op:=8,a:=a,rel:=r,b:=b},(k,f))) (ub v k f) (pc v k) fun b k f=>?_
  exact .ok _ _
theorem CP (hl:Fine l) (v:Bool) (k:Ix l) (f:Fa):RQ f (mA v k) (jX v k f):=by
 unfold mA jX
 refine RQ.bind (t:=dK v k f) (u:=fun a k f=>mN v a k f) (ub v k f) (pc v k) fun a k f=>?_
 exact zB hl v a k f
theorem zn (hl:Fine l) (v:Bool):∀ n:Nat,(∀ (k:Ix l) (f:Fa),RQ f (ew v n k) (dx v n k f))∧(∀ (k:Ix l) (f:Fa),RQ f (fI v n k) (ek v n k f))∧(∀ (e:Ex) (k:Ix l) (f:Fa),RQ f (cT v n e k) (fA v n e k f))∧
 (∀ (k:Ix l) (f:Fa),RQ f (fy v n k) (orQ v n k f))∧(∀ (e:Ex) (k:Ix l) (f:Fa),RQ f (cU v n e k) (jj v n e k f))
 |0=>⟨fun k f=>(by rw[ew,dx];exact .err _ k _),fun k f=>(by rw[fI,ek];exact .err _ k _),fun e k f=>(by rw[cT,fA];exact .err _ k _),fun k f=>(by rw[fy,orQ];exact .err _ k _),fun e k f=>(by rw[cU,jj];exact .err _ k _)⟩
 |n+1=>by
  obtain ⟨i1,i2,i3,i4,i5⟩:=zn hl v n
  obtain ⟨z1,z2,z3,z4,z5⟩:=lY (l:=l) v n
  refine⟨fun k f=>?_,fun k f=>?_,fun e k f=>?_,fun k f=>?_,fun e k f=>?_⟩
  ·rw[ew,dx]
   refine RQ.iteM ?_ (RQ.iteM ?_ (CP hl v k f))
   ·refine RQ.bind (t:=dx v n (nx k) f) (u:=fun x k f=>({Ex.zero with op:=2,kids:=[x]},(k,f))) (i1 _ f) (z1 _) fun x k f=>?_
    exact .ok _ _
   ·refine RQ.bind (t:=orQ v n (nx k) f) (u:=fun x k f=>(x,aO ⟨#[41]⟩ k f)) (i4 _ f) (z4 _) fun x k f=>?_
    refine RQ.bind (t:=((),aO ⟨#[41]⟩ k f)) (u:=fun _ k f=>(x,(k,f))) (fm _ k f) (bo _ k) fun _ k f=>?_
    exact .ok _ _
  ·rw[fI,ek]
   refine RQ.bind (t:=dx v n k f) (u:=fun x k f=>fA v n x k f) (i1 k f) (z1 k) fun x k f=>?_
   exact i3 x k f
  ·rw[cT,fA]
   refine RQ.iteM ?_ (.ok _ _)
   refine RQ.bind (t:=dx v n (nx k) f) (u:=fun x k f=>fA v n {Ex.zero with op:=3,kids:=[e,x]} k f) (i1 _ f) (z1 _) fun x k f=>?_
   exact i3 _ k f
  ·rw[fy,orQ]
   refine RQ.bind (t:=ek v n k f) (u:=fun x k f=>jj v n x k f) (i2 k f) (z2 k) fun x k f=>?_
   exact i5 x k f
  ·rw[cU,jj]
   refine RQ.iteM ?_ (.ok _ _)
   refine RQ.bind (t:=ek v n (nx k) f) (u:=fun x k f=>jj v n {Ex.zero with op:=4,kids:=[e,x]} k f) (i2 _ f) (z2 _) fun x k f=>?_
   exact i5 _ k f
theorem tn (hl:Fine l) (v:Bool) (k:Ix l) (f:Fa):RQ f (cI v k) (gZ v k f):=by
 unfold cI gZ
 generalize fuel l=n
 refine RQ.bind (t:=orQ v n k f) (u:=fun x k' f=>(x,(k',if 12<br x then bZ f 4 (tk k) else f))) ((zn hl v n).2.2.2.1 k f) ((lY v n).2.2.2.1 k) fun x k' f=>?_
 dsimp only
 by_cases h:12<br x
 ·rw[if_pos h,if_pos h];exact .err _ k' _
 ·rw[if_neg h,if_neg h];exact .ok _ _
end
end Am
namespace Am
set_option maxRecDepth 100000
set_option maxHeartbeats 4000000
theorem DI {κ:K} {w:World} {t:Option Nat} {k:Nat} {xs:List (List C)} {v:Value} (h:Rep κ w (.lst t k xs) v):xs.length≤9223372036854775807:=by
 cases h with
 |lst cv hn _ hc hm _ _ _=>unfold maxLen at hm;omega
theorem sd {κ:K} {w:World} {x:Value} {cs:List C} {t:Option Nat} {k:Nat} {α:Type} {f:α→List C} {l:List α} (hr:RepV κ w (.agg cs) x) (hm:(.lst t k (l.map f):C)∈cs):l.length≤9223372036854775807:=by
 obtain ⟨i,hi,e⟩:=List.mem_iff_getElem.1 hm
 cases hr with
 |agg h=>
  rename_i vs
  have hv:i<vs.toList.length:=by rw[← h.1];exact hi
  have:=DI (h.2 i _ _ (List.getElem?_eq_some_iff.2 ⟨hi,e⟩) (List.getElem?_eq_getElem hv))
  rwa [List.length_map] at this
end Am
namespace Am
open Tk Go.RowKit
set_option maxRecDepth 100000
set_option maxHeartbeats 4000000
section
variable {ρ:Operand→Option V} {H:Nat→Option HO} {d:Option Nat} {ty:TypeId} {pos:String} {af:Array Edge} {gu:Option (Nat×Bool)} {x:Operand}
theorem Cf {x0 x1:Operand} {c0 c1:UInt8} {p:Int} (h0:Ev ρ x0 (.c (.sc (.int .u8 c0.toNat))):=by exact .pl rfl) (h1:Ev ρ x1 (.c (.sc (.int .u8 p))):=by exact .pl rfl) (he:p=((c1.toNat:Nat):Int):=by assumption):AS Tryz.prog ρ H ⟨d,.buildSlice 117 2 #[(0,x0),(1,x1)],ty,pos,af,gu⟩ ⟨.c (.lst none 1 (u8L [c0,c1])),[],[]⟩:=by
 subst he
 exact dF (e:=5) (zs:=[.sc (.int .u8 0)]) (by kernel_rfl) (Zw.of (by decide +kernel)) rfl (by decide) (by decide) (show EvP ρ _ _ from .cons h0 rfl (.cons h1 rfl .nil)) rfl rfl
end
theorem DL (v:Bool) (j:Nat) (h:j<(atW v).length):∃ b1 b2:UInt8,(⟨#[117,114,116,108,104]⟩:ByteArray).data.toList[j % 5]? =some b1∧49+(((j / 5:Nat)):Int)=((b2.toNat:Nat):Int)∧(atW v)[j]? =some ⟨#[b1,b2]⟩:=by
 cases v with
 |false=>
  have h:j<10:=h
  match j,h with
  |0,_=>exact⟨117,49,rfl,rfl,rfl⟩
  |1,_=>exact⟨114,49,rfl,rfl,rfl⟩
  |2,_=>exact⟨116,49,rfl,rfl,rfl⟩
  |3,_=>exact⟨108,49,rfl,rfl,rfl⟩
  |4,_=>exact⟨104,49,rfl,rfl,rfl⟩
  |5,_=>exact⟨117,50,rfl,rfl,rfl⟩
  |6,_=>exact⟨114,50,rfl,rfl,rfl⟩
  |7,_=>exact⟨116,50,rfl,rfl,rfl⟩
  |8,_=>exact⟨108,50,rfl,rfl,rfl⟩
  |9,_=>exact⟨104,50,rfl,rfl,rfl⟩
  |j+10,h=>omega
 |true=>
  have h:j<15:=h
  match j,h with
  |0,_=>exact⟨117,49,rfl,rfl,rfl⟩
  |1,_=>exact⟨114,49,rfl,rfl,rfl⟩
  |2,_=>exact⟨116,49,rfl,rfl,rfl⟩
  |3,_=>exact⟨108,49,rfl,rfl,rfl⟩
  |4,_=>exact⟨104,49,rfl,rfl,rfl⟩
  |5,_=>exact⟨117,50,rfl,rfl,rfl⟩
  |6,_=>exact⟨114,50,rfl,rfl,rfl⟩
  |7,_=>exact⟨116,50,rfl,rfl,rfl⟩
  |8,_=>exact⟨108,50,rfl,rfl,rfl⟩
  |9,_=>exact⟨104,50,rfl,rfl,rfl⟩
  |10,_=>exact⟨117,51,rfl,rfl,rfl⟩
  |11,_=>exact⟨114,51,rfl,rfl,rfl⟩
  |12,_=>exact⟨116,51,rfl,rfl,rfl⟩
  |13,_=>exact⟨108,51,rfl,rfl,rfl⟩
  |14,_=>exact⟨104,51,rfl,rfl,rfl⟩
  |j+15,h=>omega
theorem nC:∀ (n:Nat) (e:Ex),SizeOf.sizeOf e<n→br e≤1152921504606846976→Pure Tryz.prog 135 [.agg (exC e)] (.c (sI (br e)))
 |0,_,h,_=>absurd h (Nat.not_lt_zero _)
 |n+1,e,h,hb=>by
  have ih:∀ x∈e.kids,Pure Tryz.prog 135 [.agg (exC x)] (.c (sI (br x))):=fun x hx=>
   nC n x (by have:=r6 hx;omega) (by have:=js hx;have:=fL e;omega)
  have he:=fL e
  refine fn1 (fn:=Tryz.f135) Tryz.call135 Tryz.func135 rfl Tryz.ntmps135 Tryz.results135 rfl (by rfl) ?_
  refine AW.fact (t:=0) rfl (fun κ w x hr=>sd hr (l:=e.kids) (t:=none) (k:=10) (f:=exC) (by rw[exC,eF];simp)) fun hn=>?_
  repeat'(first|(with_reducible first|apply AW.seq|apply AW.block|apply AW.ret|apply AW.exit|apply aa|apply aE|apply aH|apply y_e|refine ae ?_)|((with_reducible apply ai);first|refine t_v AS.v ?_|refine t_w AS.w ?_)|((with_reducible refine aq ?_);((refine ah (fun hc=>?_) (fun hc=>?_);all_goals(try(exfalso;simp[*] at hc;done)))))|((with_reducible refine aM ?_);refine k_i ?_)|fail)
  refine AW.loop (fun m σ=>∃ j,m=e.kids.length - j∧j≤e.kids.length∧σ=mk [(1,.c (.ptr 1 0)),(3,.c (sI (cF (e.kids.take j)))),(4,.c (sI (j:Int)))] [(1,.obj 49 (exC e))]) e.kids.length ?_ ?_
  ·exact⟨_,wkA,0,rfl,Nat.zero_le _,rfl⟩
  rintro m σ ⟨j,rfl,hj,rfl⟩
  by_cases hlt:j<e.kids.length
  ·obtain ⟨x,hx⟩:∃ x,e.kids[j]? =some x:=⟨_,List.getElem?_eq_getElem hlt⟩
   have ihx:=ih x (List.mem_of_getElem? hx)
   have et:cF (e.kids.take (j+1))=max (cF (e.kids.take j)) (br x):=by
    rw[List.take_add_one,hx];exact jA _ _
   have ei:(max ((cF (e.kids.take j):Nat):Int) (br x:Nat))=((cF (e.kids.take (j+1)):Nat):Int):=by rw[et];omega
   repeat'(first|(with_reducible first|apply AW.seq|apply AW.block|apply AW.skip|apply aa|apply aw|apply y_e|refine ae ?_)|((with_reducible apply ai);first|refine t_v AS.v ?_|refine t_v (by exact aj (hP:=ihx)) ?_)|((with_reducible refine aq ?_);((refine ah (fun hc=>?_) (fun hc=>?_);all_goals(try(exfalso;simp[*] at hc;done)))))|fail)
   exact⟨_,_,(show e.kids.length - (j+1)<e.kids.length - j by omega),by rw[ei];exact wkA,j+1,rfl,hlt,rfl⟩
  ·have e1:e.kids.take j=e.kids:=List.take_of_length_le (by omega)
   rw[e1]
   repeat'(first|(with_reducible first|apply AW.seq|apply AW.block|apply AW.ret|apply AW.exit|apply aa|apply aE|apply aH|apply y_e|refine ae ?_)|((with_reducible apply ai);first|refine t_v AS.v ?_|refine t_w AS.w ?_)|((with_reducible refine aq ?_);((refine ah (fun hc=>?_) (fun hc=>?_);all_goals(try(exfalso;simp[*] at hc;done)))))|((with_reducible refine aM ?_);refine k_i ?_)|fail)
   rw[he]
   omega
theorem sj (e:Ex) (hb:br e≤1152921504606846976):Pure Tryz.prog 135 [.agg (exC e)] (.c (sI (br e))):=nC _ e (Nat.lt_succ_self _) hb
section
variable {l:List Tok} {c:Int}
theorem nE (ws:List ByteArray) (k:Ix l) (f:Fa):0≤(b9 ws k f).1∧(b9 ws k f).1≤ws.length:=by
 unfold b9
 cases h:ws.findIdx? fun s=>okW f s k with
 |none=>exact⟨Int.le_refl _,by simp⟩
 |some i=>
  have:=(List.findIdx?_eq_some_iff_getElem.1 h).1
  dsimp only
  omega
theorem rR (hf:Fine l) (ws:List ByteArray) (hw:ws.length≤100) (k:Ix l) (f:Fa):MX Tryz.prog 261 [(0,qsO k f c)] [.c (.ptr 0 0),.c (bC ws)] (.ok (b9 ws k f):Except Fa (Int×(Ix l×Fa))) (fun n=>.c (sI n)) (fun b=>[(0,qsO b.1 b.2 c)]) pvS:=by
 have hl:=hf.le
 have a1:=fun s=>fZ (c:=c) hf k f s
 refine MXA (fn:=Tryz.f261) Tryz.call261 Tryz.func261 rfl Tryz.ntmps261 Tryz.results261 rfl rfl ?_
 repeat'(first|(with_reducible first|apply AW.seq|apply AW.block|apply aa|apply y_e|refine ae ?_)|((with_reducible apply ai);refine t_v AS.v ?_)|fail)
 refine AW.loop (fun m σ=>∃ j,m=ws.length - j∧j≤ws.length∧(∀ s∈ws.take j,okW f s k=false)∧σ=mk [(0,.c (.ptr 0 0)),(1,.c (bC ws)),(5,.c (sI (j:Int)))] [(0,qsO k f c)]) ws.length ?_ ?_
 ·exact⟨_,wkA,0,rfl,Nat.zero_le _,by simp,rfl⟩
 rintro m σ ⟨j,rfl,hj,ha,rfl⟩
 by_cases hlt:j<ws.length
 ·obtain ⟨w,hw⟩:∃ w,ws[j]? =some w:=⟨_,List.getElem?_eq_getElem hlt⟩
  have a1:=a1 w
  cases hb:okW f w k with
  |true=>
   rw[hb] at a1
   have a1:MNL _ _ _ _ _ [(0,qsO (nx k) f c)]:=a1
   repeat'(first|(with_reducible first|apply AW.seq|apply AW.block|apply AW.skip|apply AW.ret|apply aa|apply ak|apply aw|apply aL|apply y_e|refine ae ?_)|((with_reducible apply ai);first|refine t_v AS.v ?_|refine t_w (by exact av (hP:=a1)) ?_)|((with_reducible refine aq ?_);first|refine aI ?_|refine aJ ?_|(refine ah (fun hc=>?_) (fun hc=>?_);all_goals(try(exfalso;simp[*] at hc;done))))|((with_reducible refine aD ?_);refine l_1 (k:=?_))|fail)
   exact⟨(j:Int)+1,(nx k,f),by rw[b9,ma hw ha hb],rfl,ar rfl⟩
  |false=>
   rw[hb] at a1
   have a1:MNL _ _ _ _ _ [(0,qsO k f c)]:=a1
   repeat'(first|(with_reducible first|apply AW.seq|apply AW.block|apply AW.skip|apply AW.ret|apply aa|apply ak|apply aw|apply aL|apply y_e|refine ae ?_)|((with_reducible apply ai);first|refine t_v AS.v ?_|refine t_w (by exact av (hP:=a1)) ?_)|((with_reducible refine aq ?_);first|refine aI ?_|refine aJ ?_|(refine ah (fun hc=>?_) (fun hc=>?_);all_goals(try(exfalso;simp[*] at hc;done))))|((with_reducible refine aD ?_);refine l_1 (k:=?_))|fail)
   exact⟨_,_,(show ws.length - (j+1)<ws.length - j by omega),wkA,j+1,rfl,hlt,jz hw ha hb,rfl⟩
 ·have nw:=cj (l:=l) (k:=k) (f:=f) (c:=c)
  have fl:=cw (c:=c) k f 9 (tk k)
  repeat'(first|(with_reducible first|apply AW.seq|apply AW.ret|apply AW.exit|apply aa|apply aE|apply aH|apply y_e|refine ae ?_)|((with_reducible apply ai);first|refine t_v AS.v ?_|refine t_v (by exact az (hP:=nw)) ?_|refine t_w (by exact av (hP:=fl)) ?_)|((with_reducible refine aq ?_);((refine ah (fun hc=>?_) (fun hc=>?_);all_goals(try(exfalso;simp[*] at hc;done)))))|((with_reducible refine aD ?_);refine l_1 (k:=?_))|fail)
  exact⟨0,(k,bZ f 9 (tk k)),by rw[b9,lR (by omega) ha],rfl,ar rfl⟩
theorem gm (hf:Fine l) (ws:List ByteArray) (hw:ws.length≤100) (k:Ix l) (f:Fa):MNL Tryz.prog 261 [(0,qsO k f c)] [.c (.ptr 0 0),.c (bC ws)] (.c (sI (b9 ws k f).1)) [(0,qsO (b9 ws k f).2.1 (b9 ws k f).2.2 c)]:=(rR hf ws hw k f).ok (b9 ws k f).1 (b9 ws k f).2 rfl
theorem xS (hf:Fine l) (v:Bool) (k:Ix l) (f:Fa):MX Tryz.prog 346 [(0,qsO k f c)] [.c (.ptr 0 0),.c (sI (if v then 3 else 2))] (.ok (dK v k f):Except Fa (Int×(Ix l×Fa))) (fun n=>.c (sI n)) (fun b=>[(0,qsO b.1 b.2 c)]) pvS:=by
 have hl:=hf.le
 have a1:=fun s=>fZ (c:=c) hf k f s
 have hlen:((atW v).length:Int)=(if v then 3 else 2)*5:=by cases v <;> rfl
 have h23:(2:Int)≤(if v then 3 else 2)∧(if v then 3 else 2)≤(3:Int):=by cases v <;> decide
 generalize (if v then 3 else 2:Int)=vn at *
 have hw64:IntKind.i64.wrap (vn*5)=vn*5:=wrap64 (by omega) (by omega)
 refine MXA (fn:=Tryz.f346) Tryz.call346 Tryz.func346 rfl Tryz.ntmps346 Tryz.results346 rfl rfl ?_
 repeat'(first|(with_reducible first|apply AW.seq|apply AW.block|apply aa|apply y_e|refine ae ?_)|((with_reducible apply ai);refine t_v AS.v ?_)|fail)
 refine AW.loop (fun m σ=>∃ j,m=(atW v).length - j∧j≤(atW v).length∧(∀ s∈(atW v).take j,okW f s k=false)∧σ=mk [(0,.c (.ptr 0 0)),(1,.c (sI vn)),(5,.c (sI (j:Int)))] [(0,qsO k f c)]) (atW v).length ?_ ?_
 ·exact⟨_,wkA,0,rfl,Nat.zero_le _,by simp,rfl⟩
 rintro m σ ⟨j,rfl,hj,ha,rfl⟩
 by_cases hlt:j<(atW v).length
 ·obtain ⟨b1,b2,g1,g2,hw⟩:=DL v j hlt
  have a1:=a1 ⟨#[b1,b2]⟩
  have hj15:j<15:=by omega
  have hr:Int.tmod (j:Int) 5=((j % 5:Nat):Int):=by
   have:∀ i:Fin 15,Int.tmod (i.val:Int) 5=((i.val % 5:Nat):Int):=by decide +kernel
   exact this ⟨j,hj15⟩
  have hd:Int.tdiv (j:Int) 5=((j / 5:Nat):Int):=by
   have:∀ i:Fin 15,Int.tdiv (i.val:Int) 5=((i.val / 5:Nat):Int):=by decide +kernel
   exact this ⟨j,hj15⟩
  cases hb:okW f ⟨#[b1,b2]⟩ k with
  |true=>
   rw[hb] at a1
   have a1:MNL _ _ _ _ _ [(0,qsO (nx k) f c)]:=a1
   repeat'(first|(with_reducible first|apply AW.seq|apply AW.block|apply AW.skip|apply AW.ret|apply aa|apply ak|apply aw|apply aL|apply y_e|refine ae ?_)|((with_reducible apply ai);first|refine t_v AS.v ?_|refine t_v (by exact Cf) ?_|refine t_w (by exact av (hP:=a1)) ?_)|((with_reducible refine aq ?_);first|refine aI ?_|refine aJ ?_|(refine ah (fun hc=>?_) (fun hc=>?_);all_goals(try(exfalso;revert hc;simp;omega))))|((with_reducible refine aD ?_);refine l_1 (k:=?_))|fail)
   all_goals first|(exfalso;rw[hw64] at hc;simp at hc;omega)|exact⟨(j:Int),(nx k,f),by rw[dK,ma hw ha hb],rfl,ar rfl⟩|trace_state
  |false=>
   rw[hb] at a1
   have a1:MNL _ _ _ _ _ [(0,qsO k f c)]:=a1
   repeat'(first|(with_reducible first|apply AW.seq|apply AW.block|apply AW.skip|apply AW.ret|apply aa|apply ak|apply aw|apply aL|apply y_e|refine ae ?_)|((with_reducible apply ai);first|refine t_v AS.v ?_|refine t_v (by exact Cf) ?_|refine t_w (by exact av (hP:=a1)) ?_)|((with_reducible refine aq ?_);first|refine aI ?_|refine aJ ?_|(refine ah (fun hc=>?_) (fun hc=>?_);all_goals(try(exfalso;revert hc;simp;omega))))|((with_reducible refine aD ?_);refine l_1 (k:=?_))|fail)
   all_goals(exact⟨_,_,(show(atW v).length - (j+1)<(atW v).length - j by omega),wkA,j+1,rfl,hlt,jz hw ha hb,rfl⟩)
 ·have nw:=cj (l:=l) (k:=k) (f:=f) (c:=c)
  have fl:=cw (c:=c) k f 9 (tk k)
  repeat'(first|(with_reducible first|apply AW.seq|apply AW.ret|apply AW.exit|apply aa|apply aE|apply aH|apply y_e|refine ae ?_)|((with_reducible apply ai);first|refine t_v AS.v ?_|refine t_v (by exact az (hP:=nw)) ?_|refine t_w (by exact av (hP:=fl)) ?_)|((with_reducible refine aq ?_);((refine ah (fun hc=>?_) (fun hc=>?_);all_goals(try(exfalso;revert hc;simp;omega)))))|((with_reducible refine aD ?_);refine l_1 (k:=?_))|fail)
  all_goals(exact⟨0,(k,bZ f 9 (tk k)),by rw[dK,lR (by omega) ha],rfl,ar rfl⟩)
theorem ku (hf:Fine l) (v:Bool) (k:Ix l) (f:Fa):MNL Tryz.prog 346 [(0,qsO k f c)] [.c (.ptr 0 0),.c (sI (if v then 3 else 2))] (.c (sI (dK v k f).1)) [(0,qsO (dK v k f).2.1 (dK v k f).2.2 c)]:=(xS hf v k f).ok (dK v k f).1 (dK v k f).2 rfl
end
end Am
end Go.Proofs.YtkpodagbefnebaaGreatDoor
