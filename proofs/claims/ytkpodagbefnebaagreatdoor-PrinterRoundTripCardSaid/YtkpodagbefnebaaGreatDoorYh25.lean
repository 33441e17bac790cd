import Derived.Test.YtkpodagbefnebaaGreatDoorYh24
import Derived.Test.YtkpodagbefnebaaGreatDoorYh22
set_option linter.unusedSimpArgs false
set_option linter.unusedVariables false
set_option linter.unusedSectionVars false
namespace Go.Proofs.YtkpodagbefnebaaGreatDoor
namespace Am
open Tk
set_option maxRecDepth 100000
set_option maxHeartbeats 4000000
section
variable {l:List Tok} {k:Ix l} {r:List Tok} {w:ByteArray} {s s':Stm} {k1:Ix l}
theorem pN (h:bR w s k= .ok (true,(s',k1))) (h1:l.drop k1.1=kM ⟨#[59]⟩ :: r) (hr:r≠[]):∃ k',bp w s k= .ok (s',k')∧l.drop k'.1=r:=by
 refine⟨nx k1,?_,aO h1 hr⟩
 unfold bp
 rw[h,aa]
 dsimp only
 rw[if_pos rfl,aa]
 dsimp only
 rw[fE h1];rfl
theorem nb (hd:bR w s k= .ok (false,(s,k))) (h:dj w s k= .ok (true,(s',k1))) (h1:l.drop k1.1=kM ⟨#[59]⟩ :: r) (hr:r≠[]):∃ k',bp w s k= .ok (s',k')∧l.drop k'.1=r:=by
 refine⟨nx k1,?_,aO h1 hr⟩
 unfold bp
 rw[hd,aa]
 dsimp only
 rw[if_neg (by decide),h,aa]
 dsimp only
 rw[if_pos rfl,aa]
 dsimp only
 rw[fE h1];rfl
theorem Ad (hd:bR w s k= .ok (false,(s,k))) (hq:dj w s k= .ok (false,(s,k))) (h:cZ w s k= .ok ((),(s',k1))) (h1:l.drop k1.1=kM ⟨#[59]⟩ :: r) (hr:r≠[]):∃ k',bp w s k= .ok (s',k')∧l.drop k'.1=r:=by
 refine⟨nx k1,?_,aO h1 hr⟩
 unfold bp
 rw[hd,aa]
 dsimp only
 rw[if_neg (by decide),hq,aa]
 dsimp only
 rw[if_neg (by decide),h,aa]
 dsimp only
 rw[aa]
 dsimp only
 rw[fE h1];rfl
theorem ff_:¬ (false=true):=by decide
theorem gq {self:Bool} {a b c:NS} (ha:av a false=true) (hb:av b self=true) (hc:av c false=true) (hr:r≠[]) (h:l.drop k.1=nsK a++(nsK b++kM ⟨#[58]⟩ :: (nsK c++r))):∃ k',gB self s k= .ok ((),({s with source:=a,target:=b,cls:=c},k'))∧l.drop k'.1=r:=by
 obtain ⟨k1,e1,h1⟩:=fm ha (by simp) h
 obtain ⟨k2,e2,h2⟩:=fm hb (by simp) h1
 have h3:=aO h2 (by simp[hr])
 obtain ⟨k4,e4,h4⟩:=fm hc hr h3
 refine⟨k4,?_,h4⟩
 unfold gB
 rw[e1,aa]
 dsimp only
 rw[e2,aa]
 dsimp only
 rw[fE h2,aa]
 dsimp only
 rw[e4,aa]
theorem Fj {t:ByteArray} (ht:t≠⟨#[]⟩) (h:l.drop k.1=kS t :: r):iJ k= .ok (t,nx k):=by
 unfold iJ
 rw[gH h]
 dsimp only
 rw[if_pos rfl,if_neg ht]
theorem iZ {ws:List ByteArray} {i:Nat} {x:ByteArray} (hi:ws.findIdx? (fun s=>decide (x=s))=some i) (h:l.drop k.1=kN x :: r):cY ws k= .ok ((i:Int),nx k):=by
 unfold cY
 have e:(fun s=>isW s k)=fun s=>decide (x=s):=by funext s;rw[kK h,nU]
 rw[e,hi]
theorem Dg {p:Po} {n:ByteArray} (hn:idB n=true) {xs:List ByteArray} (h0:xs≠[]) (hi:xs.all idB=true) (hr:r≠[]) (h:l.drop k.1=kN n :: (brK xs++kM ⟨#[59]⟩ :: r)):∃ k',bp ⟨#[99,108,97,115,115]⟩ {Stm.zero with pos:=p} k= .ok ({Stm.zero with kind:=1,name:=n,list:=xs,pos:=p},k')∧l.drop k'.1=r:=by
 have h1:=aO h (by simp[hr])
 obtain ⟨k2,e2,h2⟩:=iY h0 (by simp[hr]) hi h1
 refine pN (k1:=k2) ?_ h2 hr
 unfold bR
 rw[if_pos rfl]
 rw[bw h hn,aa]
 try dsimp only
 rw[e2,aa]
 try dsimp only
theorem tc {p:Po} {n:ByteArray} (hn:idB n=true) (hr:r≠[]) (h:l.drop k.1=kN n :: kM ⟨#[59]⟩ :: r):∃ k',bp ⟨#[97,116,116,114,105,98,117,116,101]⟩ {Stm.zero with pos:=p} k= .ok ({Stm.zero with kind:=3,name:=n,pos:=p},k')∧l.drop k'.1=r:=by
 have h1:=aO h (by simp[hr])
 refine pN (k1:=(nx k)) ?_ h1 hr
 unfold bR
 rw[if_neg (by decide),if_neg (by decide),if_pos rfl]
 rw[bw h hn,aa]
 try dsimp only
theorem pO {p:Po} {n:ByteArray} (hn:idB n=true) (hr:r≠[]) (h:l.drop k.1=kN n :: kM ⟨#[59]⟩ :: r):∃ k',bp ⟨#[115,101,110,115,105,116,105,118,105,116,121]⟩ {Stm.zero with pos:=p} k= .ok ({Stm.zero with kind:=10,name:=n,pos:=p},k')∧l.drop k'.1=r:=by
 have h1:=aO h (by simp[hr])
 refine pN (k1:=(nx k)) ?_ h1 hr
 unfold bR
 rw[if_neg (by decide),if_neg (by decide),if_neg (by decide),if_neg (by decide),if_neg (by decide),if_neg (by decide),if_neg (by decide),if_pos rfl]
 rw[bw h hn,aa]
 try dsimp only
theorem vj {p:Po} {n:ByteArray} (hn:idB n=true) (hr:r≠[]) (h:l.drop k.1=kN n :: kM ⟨#[59]⟩ :: r):∃ k',bp ⟨#[99,97,116,101,103,111,114,121]⟩ {Stm.zero with pos:=p} k= .ok ({Stm.zero with kind:=11,name:=n,pos:=p},k')∧l.drop k'.1=r:=by
 have h1:=aO h (by simp[hr])
 refine pN (k1:=(nx k)) ?_ h1 hr
 unfold bR
 rw[if_neg (by decide),if_neg (by decide),if_neg (by decide),if_neg (by decide),if_neg (by decide),if_neg (by decide),if_neg (by decide),if_neg (by decide),if_pos rfl]
 rw[bw h hn,aa]
 try dsimp only
theorem nc {p:Po} {n:ByteArray} (hn:idB n=true) {xs:List ByteArray} (h0:xs≠[]) (hi:xs.all idB=true) (hr:r≠[]) (h:l.drop k.1=kN n :: (liK xs++kM ⟨#[59]⟩ :: r)):∃ k',bp ⟨#[116,121,112,101,97,116,116,114,105,98,117,116,101]⟩ {Stm.zero with pos:=p} k= .ok ({Stm.zero with kind:=4,name:=n,list:=xs,pos:=p},k')∧l.drop k'.1=r:=by
 have h1:=aO h (by simp[hr])
 obtain ⟨k2,e2,h2⟩:=qN h0 (by simp) (bX (by decide) _) hi h1
 refine pN (k1:=k2) ?_ h2 hr
 unfold bR
 rw[if_neg (by decide),if_neg (by decide),if_neg (by decide),if_pos rfl]
 rw[bw h hn,aa]
 try dsimp only
 rw[e2,aa]
 try dsimp only
theorem vl {p:Po} {n:ByteArray} (hn:idB n=true) {xs:List ByteArray} (hi:xs.all idB=true) (hr:r≠[]) (h:l.drop k.1=kN n :: (coK xs++kM ⟨#[59]⟩ :: r)):∃ k',bp ⟨#[116,121,112,101]⟩ {Stm.zero with pos:=p} k= .ok ({Stm.zero with kind:=2,name:=n,list:=xs,pos:=p},k')∧l.drop k'.1=r:=by
 have h1:=aO h (by simp[hr])
 obtain ⟨k3,e3,h3⟩:=jW (acc:=Stm.zero.list) (by simp) (bX (by decide) _) hi h1
 refine pN (k1:=k3) ?_ h3 hr
 unfold bR
 rw[if_neg (by decide),if_pos rfl]
 rw[bw h hn,aa]
 try dsimp only
 rw[kK h1,show hW ⟨#[97,108,105,97,115]⟩ (coK xs++kM ⟨#[59]⟩ :: r)=false from(by cases xs <;> rfl),if_neg ff_]
 rw[e3,aa]
 try dsimp only
 rfl
theorem vm {p:Po} {n:ByteArray} (hn:idB n=true) {al:List ByteArray} (a0:al≠[]) (ai:al.all idB=true) {xs:List ByteArray} (hi:xs.all idB=true) (hr:r≠[]) (h:l.drop k.1=kN n :: kN ⟨#[97,108,105,97,115]⟩ :: (brK al++(coK xs++kM ⟨#[59]⟩ :: r))):∃ k',bp ⟨#[116,121,112,101]⟩ {Stm.zero with pos:=p} k= .ok ({Stm.zero with kind:=2,name:=n,aliases:=al,list:=xs,pos:=p},k')∧l.drop k'.1=r:=by
 have h1:=aO h (by simp[hr])
 have h3:=aO h1 (by simp[hr])
 obtain ⟨k4,e4,h4⟩:=iY a0 (by simp) ai h3
 obtain ⟨k5,e5,h5⟩:=jW (acc:=Stm.zero.list) (by simp) (bX (by decide) _) hi h4
 refine pN (k1:=k5) ?_ h5 hr
 unfold bR
 rw[if_neg (by decide),if_pos rfl]
 rw[bw h hn,aa]
 try dsimp only
 rw[kK h1,nU,if_pos (by simp)]
 rw[e4,aa]
 try dsimp only
 rw[e5,aa]
 try dsimp only
 rfl
theorem Dh {p:Po} {n:ByteArray} (hn:idB n=true) (hr:r≠[]) (h:l.drop k.1=kN n :: kM ⟨#[59]⟩ :: r):∃ k',bp ⟨#[114,111,108,101]⟩ {Stm.zero with pos:=p} k= .ok ({Stm.zero with kind:=5,name:=n,pos:=p},k')∧l.drop k'.1=r:=by
 have h1:=aO h (by simp[hr])
 refine pN (k1:=(nx k)) ?_ h1 hr
 unfold bR
 rw[if_neg (by decide),if_neg (by decide),if_neg (by decide),if_neg (by decide),if_pos rfl]
 rw[bw h hn,aa]
 try dsimp only
 rw[kK h1,L7,if_neg ff_]
theorem Di {p:Po} {n:ByteArray} (hn:idB n=true) {a:NS} (ha:av a false=true) (hr:r≠[]) (h:l.drop k.1=kN n :: kN ⟨#[116,121,112,101,115]⟩ :: (nsK a++kM ⟨#[59]⟩ :: r)):∃ k',bp ⟨#[114,111,108,101]⟩ {Stm.zero with pos:=p} k= .ok ({Stm.zero with kind:=5,name:=n,source:=a,pos:=p},k')∧l.drop k'.1=r:=by
 have h1:=aO h (by simp[hr])
 have h3:=aO h1 (by simp[hr])
 obtain ⟨k4,e4,h4⟩:=fm ha (by simp[hr]) h3
 refine pN (k1:=k4) ?_ h4 hr
 unfold bR
 rw[if_neg (by decide),if_neg (by decide),if_neg (by decide),if_neg (by decide),if_pos rfl]
 rw[bw h hn,aa]
 try dsimp only
 rw[kK h1,nU,if_pos (by simp)]
 rw[e4,aa]
 try dsimp only
theorem GF {p:Po} {n:ByteArray} (hn:idB n=true) {xs:List ByteArray} (h0:xs≠[]) (hi:xs.all idB=true) {v:Lv} (hv:lvB v=true) {g:Rg} (hg:rgB g=true) (hr:r≠[]) (h:l.drop k.1=kN n :: kN ⟨#[114,111,108,101,115]⟩ :: (brK xs++kN ⟨#[108,101,118,101,108]⟩ :: (lvK v++kN ⟨#[114,97,110,103,101]⟩ :: (rgK g++kM ⟨#[59]⟩ :: r)))):∃ k',bp ⟨#[117,115,101,114]⟩ {Stm.zero with pos:=p} k= .ok ({Stm.zero with kind:=8,name:=n,list:=xs,level:=v,range:=g,pos:=p},k')∧l.drop k'.1=r:=by
 have h1:=aO h (by simp[hr])
 have h2:=aO h1 (by simp[hr])
 obtain ⟨k3,e3,h3⟩:=iY h0 (by simp) hi h2
 have h4:=aO h3 (by simp[hr])
 obtain ⟨k5,e5,h5⟩:=lN hv (by simp) (jK _ _ _) (jK _ _ _) (jK _ _ _) h4
 have h6:=aO h5 (by simp[hr])
 obtain ⟨k7,e7,h7⟩:=oP hg (by simp) (bX (by decide) _) (bX (by decide) _) (bX (by decide) _) (bX (by decide) _) h6
 refine pN (k1:=k7) ?_ h7 hr
 unfold bR
 rw[if_neg (by decide),if_neg (by decide),if_neg (by decide),if_neg (by decide),if_neg (by decide),if_pos rfl]
 rw[bw h hn,aa]
 try dsimp only
 rw[lO h1,aa]
 try dsimp only
 rw[e3,aa]
 try dsimp only
 rw[lO h3,aa]
 try dsimp only
 rw[e5,aa]
 try dsimp only
 rw[lO h5,aa]
 try dsimp only
 rw[e7,aa]
 try dsimp only
theorem pl_bool {p:Po} {n:ByteArray} (hn:idB n=true) (b:Bool) (hr:r≠[]) (h:l.drop k.1=kN n :: kN (if b then⟨#[116,114,117,101]⟩ else⟨#[102,97,108,115,101]⟩) :: kM ⟨#[59]⟩ :: r):∃ k',bp ⟨#[98,111,111,108]⟩ {Stm.zero with pos:=p} k= .ok ({Stm.zero with kind:=9,name:=n,value:=b,pos:=p},k')∧l.drop k'.1=r:=by
 have h1:=aO h (by simp[hr])
 have h2:=aO h1 (by simp[hr])
 refine pN (k1:=(nx (nx k))) ?_ h2 hr
 unfold bR
 rw[if_neg (by decide),if_neg (by decide),if_neg (by decide),if_neg (by decide),if_neg (by decide),if_neg (by decide),if_pos rfl]
 rw[bw h hn,aa]
 try dsimp only
 rw[iZ (i:=if b then 1 else 0) (by cases b <;> decide) h1,aa]
 try dsimp only
 cases b <;> rfl
theorem Df {p:Po} {a b c:NS} (ha:av a false=true) (hb:av b true=true) (hc:av c false=true) {q:NS} (hq:av q false=true) (hr:r≠[]) (h:l.drop k.1=nsK a++(nsK b++kM ⟨#[58]⟩ :: (nsK c++(nsK q++kM ⟨#[59]⟩ :: r)))):∃ k',bp ⟨#[97,108,108,111,119]⟩ {Stm.zero with pos:=p} k= .ok ({Stm.zero with kind:=12,op:=1,source:=a,target:=b,cls:=c,perms:=q,pos:=p},k')∧l.drop k'.1=r:=by
 obtain ⟨k1,e1,h1⟩:=gq ha hb hc (by simp[hr]) h
 obtain ⟨k2,e2,h2⟩:=fm hq (by simp[hr]) h1
 refine nb (k1:=k2) (by unfold bR;rw[if_neg (by decide),if_neg (by decide),if_neg (by decide),if_neg (by decide),if_neg (by decide),if_neg (by decide),if_neg (by decide),if_neg (by decide),if_neg (by decide)]) ?_ h2 hr
 unfold dj
 rw[if_pos (by decide)]
 rw[e1,aa]
 try dsimp only
 rw[e2,aa]
 try dsimp only
 rfl
theorem qC {p:Po} {a b c:NS} (ha:av a false=true) (hb:av b true=true) (hc:av c false=true) {q:NS} (hq:av q false=true) (hr:r≠[]) (h:l.drop k.1=nsK a++(nsK b++kM ⟨#[58]⟩ :: (nsK c++(nsK q++kM ⟨#[59]⟩ :: r)))):∃ k',bp ⟨#[97,117,100,105,116,97,108,108,111,119]⟩ {Stm.zero with pos:=p} k= .ok ({Stm.zero with kind:=12,op:=2,source:=a,target:=b,cls:=c,perms:=q,pos:=p},k')∧l.drop k'.1=r:=by
 obtain ⟨k1,e1,h1⟩:=gq ha hb hc (by simp[hr]) h
 obtain ⟨k2,e2,h2⟩:=fm hq (by simp[hr]) h1
 refine nb (k1:=k2) (by unfold bR;rw[if_neg (by decide),if_neg (by decide),if_neg (by decide),if_neg (by decide),if_neg (by decide),if_neg (by decide),if_neg (by decide),if_neg (by decide),if_neg (by decide)]) ?_ h2 hr
 unfold dj
 rw[if_pos (by decide)]
 rw[e1,aa]
 try dsimp only
 rw[e2,aa]
 try dsimp only
 rfl
theorem te {p:Po} {a b c:NS} (ha:av a false=true) (hb:av b true=true) (hc:av c false=true) {q:NS} (hq:av q false=true) (hr:r≠[]) (h:l.drop k.1=nsK a++(nsK b++kM ⟨#[58]⟩ :: (nsK c++(nsK q++kM ⟨#[59]⟩ :: r)))):∃ k',bp ⟨#[100,111,110,116,97,117,100,105,116]⟩ {Stm.zero with pos:=p} k= .ok ({Stm.zero with kind:=12,op:=3,source:=a,target:=b,cls:=c,perms:=q,pos:=p},k')∧l.drop k'.1=r:=by
 obtain ⟨k1,e1,h1⟩:=gq ha hb hc (by simp[hr]) h
 obtain ⟨k2,e2,h2⟩:=fm hq (by simp[hr]) h1
 refine nb (k1:=k2) (by unfold bR;rw[if_neg (by decide),if_neg (by decide),if_neg (by decide),if_neg (by decide),if_neg (by decide),if_neg (by decide),if_neg (by decide),if_neg (by decide),if_neg (by decide)]) ?_ h2 hr
 unfold dj
 rw[if_pos (by decide)]
 rw[e1,aa]
 try dsimp only
 rw[e2,aa]
 try dsimp only
 rfl
theorem qD {p:Po} {a b c:NS} (ha:av a false=true) (hb:av b true=true) (hc:av c false=true) {q:NS} (hq:av q false=true) (hr:r≠[]) (h:l.drop k.1=nsK a++(nsK b++kM ⟨#[58]⟩ :: (nsK c++(nsK q++kM ⟨#[59]⟩ :: r)))):∃ k',bp ⟨#[110,101,118,101,114,97,108,108,111,119]⟩ {Stm.zero with pos:=p} k= .ok ({Stm.zero with kind:=12,op:=4,source:=a,target:=b,cls:=c,perms:=q,pos:=p},k')∧l.drop k'.1=r:=by
 obtain ⟨k1,e1,h1⟩:=gq ha hb hc (by simp[hr]) h
 obtain ⟨k2,e2,h2⟩:=fm hq (by simp[hr]) h1
 refine nb (k1:=k2) (by unfold bR;rw[if_neg (by decide),if_neg (by decide),if_neg (by decide),if_neg (by decide),if_neg (by decide),if_neg (by decide),if_neg (by decide),if_neg (by decide),if_neg (by decide)]) ?_ h2 hr
 unfold dj
 rw[if_pos (by decide)]
 rw[e1,aa]
 try dsimp only
 rw[e2,aa]
 try dsimp only
 rfl
theorem lC {p:Po} {a b c:NS} (ha:av a false=true) (hb:av b false=true) (hc:av c false=true) {n:ByteArray} (hn:idB n=true) (hr:r≠[]) (h:l.drop k.1=nsK a++(nsK b++kM ⟨#[58]⟩ :: (nsK c++kN n :: kM ⟨#[59]⟩ :: r))):∃ k',bp ⟨#[116,121,112,101,95,116,114,97,110,115,105,116,105,111,110]⟩ {Stm.zero with pos:=p} k= .ok ({Stm.zero with kind:=13,op:=1,source:=a,target:=b,cls:=c,result:=n,pos:=p},k')∧l.drop k'.1=r:=by
 obtain ⟨k1,e1,h1⟩:=gq ha hb hc (by simp[hr]) h
 have h2:=aO h1 (by simp[hr])
 refine nb (k1:=(nx k1)) (by unfold bR;rw[if_neg (by decide),if_neg (by decide),if_neg (by decide),if_neg (by decide),if_neg (by decide),if_neg (by decide),if_neg (by decide),if_neg (by decide),if_neg (by decide)]) ?_ h2 hr
 unfold dj
 rw[if_neg (by decide),if_pos (by decide)]
 rw[e1,aa]
 try dsimp only
 rw[bw h1 hn,aa]
 try dsimp only
 rw[if_neg (by rw[gH h2];decide)]
 rfl
theorem pP {p:Po} {a b c:NS} (ha:av a false=true) (hb:av b false=true) (hc:av c false=true) {n:ByteArray} (hn:idB n=true) (hr:r≠[]) (h:l.drop k.1=nsK a++(nsK b++kM ⟨#[58]⟩ :: (nsK c++kN n :: kM ⟨#[59]⟩ :: r))):∃ k',bp ⟨#[116,121,112,101,95,99,104,97,110,103,101]⟩ {Stm.zero with pos:=p} k= .ok ({Stm.zero with kind:=13,op:=2,source:=a,target:=b,cls:=c,result:=n,pos:=p},k')∧l.drop k'.1=r:=by
 obtain ⟨k1,e1,h1⟩:=gq ha hb hc (by simp[hr]) h
 have h2:=aO h1 (by simp[hr])
 refine nb (k1:=(nx k1)) (by unfold bR;rw[if_neg (by decide),if_neg (by decide),if_neg (by decide),if_neg (by decide),if_neg (by decide),if_neg (by decide),if_neg (by decide),if_neg (by decide),if_neg (by decide)]) ?_ h2 hr
 unfold dj
 rw[if_neg (by decide),if_pos (by decide)]
 rw[e1,aa]
 try dsimp only
 rw[bw h1 hn,aa]
 try dsimp only
 rw[if_neg (by rw[gH h2];decide)]
 rfl
theorem pQ {p:Po} {a b c:NS} (ha:av a false=true) (hb:av b false=true) (hc:av c false=true) {n:ByteArray} (hn:idB n=true) (hr:r≠[]) (h:l.drop k.1=nsK a++(nsK b++kM ⟨#[58]⟩ :: (nsK c++kN n :: kM ⟨#[59]⟩ :: r))):∃ k',bp ⟨#[116,121,112,101,95,109,101,109,98,101,114]⟩ {Stm.zero with pos:=p} k= .ok ({Stm.zero with kind:=13,op:=3,source:=a,target:=b,cls:=c,result:=n,pos:=p},k')∧l.drop k'.1=r:=by
 obtain ⟨k1,e1,h1⟩:=gq ha hb hc (by simp[hr]) h
 have h2:=aO h1 (by simp[hr])
 refine nb (k1:=(nx k1)) (by unfold bR;rw[if_neg (by decide),if_neg (by decide),if_neg (by decide),if_neg (by decide),if_neg (by decide),if_neg (by decide),if_neg (by decide),if_neg (by decide),if_neg (by decide)]) ?_ h2 hr
 unfold dj
 rw[if_neg (by decide),if_pos (by decide)]
 rw[e1,aa]
 try dsimp only
 rw[bw h1 hn,aa]
 try dsimp only
 rw[if_neg (by rw[gH h2];decide)]
 rfl
theorem kk {p:Po} {a b c:NS} (ha:av a false=true) (hb:av b false=true) (hc:av c false=true) {n:ByteArray} (hn:idB n=true) {t:ByteArray} (ht:mj t=true) (hr:r≠[]) (h:l.drop k.1=nsK a++(nsK b++kM ⟨#[58]⟩ :: (nsK c++kN n :: kS t :: kM ⟨#[59]⟩ :: r))):∃ k',bp ⟨#[116,121,112,101,95,116,114,97,110,115,105,116,105,111,110]⟩ {Stm.zero with pos:=p} k= .ok ({Stm.zero with kind:=13,op:=1,source:=a,target:=b,cls:=c,result:=n,text:=t,pos:=p},k')∧l.drop k'.1=r:=by
 obtain ⟨k1,e1,h1⟩:=gq ha hb hc (by simp[hr]) h
 have h2:=aO h1 (by simp[hr])
 have h3:=aO h2 (by simp[hr])
 refine nb (k1:=(nx (nx k1))) (by unfold bR;rw[if_neg (by decide),if_neg (by decide),if_neg (by decide),if_neg (by decide),if_neg (by decide),if_neg (by decide),if_neg (by decide),if_neg (by decide),if_neg (by decide)]) ?_ h3 hr
 unfold dj
 rw[if_neg (by decide),if_pos (by decide)]
 rw[e1,aa]
 try dsimp only
 rw[bw h1 hn,aa]
 try dsimp only
 rw[gH h2,if_pos ⟨by decide,rfl⟩,if_pos ht]
 rfl
theorem kQ {p:Po} {a b c:NS} (ha:av a false=true) (hb:av b false=true) (hc:av c false=true) {g:Rg} (hg:rgB g=true) (hr:r≠[]) (h:l.drop k.1=nsK a++(nsK b++kM ⟨#[58]⟩ :: (nsK c++(rgK g++kM ⟨#[59]⟩ :: r)))):∃ k',bp ⟨#[114,97,110,103,101,95,116,114,97,110,115,105,116,105,111,110]⟩ {Stm.zero with pos:=p} k= .ok ({Stm.zero with kind:=14,source:=a,target:=b,cls:=c,range:=g,pos:=p},k')∧l.drop k'.1=r:=by
 obtain ⟨k1,e1,h1⟩:=gq ha hb hc (by simp[hr]) h
 obtain ⟨k2,e2,h2⟩:=oP hg (by simp) (bX (by decide) _) (bX (by decide) _) (bX (by decide) _) (bX (by decide) _) h1
 refine nb (k1:=k2) (by unfold bR;rw[if_neg (by decide),if_neg (by decide),if_neg (by decide),if_neg (by decide),if_neg (by decide),if_neg (by decide),if_neg (by decide),if_neg (by decide),if_neg (by decide)]) ?_ h2 hr
 unfold dj
 rw[if_neg (by decide),if_neg (by decide),if_pos rfl]
 rw[e1,aa]
 try dsimp only
 rw[e2,aa]
 try dsimp only
theorem lB {p:Po} {a b c:NS} (ha:av a false=true) (hb:av b false=true) (hc:av c false=true) {n:ByteArray} (hn:idB n=true) (hr:r≠[]) (h:l.drop k.1=nsK a++(nsK b++kM ⟨#[58]⟩ :: (nsK c++kN n :: kM ⟨#[59]⟩ :: r))):∃ k',bp ⟨#[114,111,108,101,95,116,114,97,110,115,105,116,105,111,110]⟩ {Stm.zero with pos:=p} k= .ok ({Stm.zero with kind:=7,source:=a,target:=b,cls:=c,result:=n,pos:=p},k')∧l.drop k'.1=r:=by
 obtain ⟨k1,e1,h1⟩:=gq ha hb hc (by simp[hr]) h
 have h2:=aO h1 (by simp[hr])
 refine nb (k1:=(nx k1)) (by unfold bR;rw[if_neg (by decide),if_neg (by decide),if_neg (by decide),if_neg (by decide),if_neg (by decide),if_neg (by decide),if_neg (by decide),if_neg (by decide),if_neg (by decide)]) ?_ h2 hr
 unfold dj
 rw[if_neg (by decide),if_neg (by decide),if_neg (by decide),if_pos rfl]
 rw[e1,aa]
 try dsimp only
 rw[bw h1 hn,aa]
 try dsimp only
theorem tf {p:Po} {a b:NS} (ha:av a false=true) (hb:av b false=true) (hr:r≠[]) (h:l.drop k.1=nsK a++(nsK b++kM ⟨#[59]⟩ :: r)):∃ k',bp ⟨#[114,111,108,101,97,108,108,111,119]⟩ {Stm.zero with pos:=p} k= .ok ({Stm.zero with kind:=6,source:=a,target:=b,pos:=p},k')∧l.drop k'.1=r:=by
 obtain ⟨k1,e1,h1⟩:=fm ha (by simp[hr]) h
 obtain ⟨k2,e2,h2⟩:=fm hb (by simp[hr]) h1
 refine nb (k1:=k2) (by unfold bR;rw[if_neg (by decide),if_neg (by decide),if_neg (by decide),if_neg (by decide),if_neg (by decide),if_neg (by decide),if_neg (by decide),if_neg (by decide),if_neg (by decide)]) ?_ h2 hr
 unfold dj
 rw[if_neg (by decide),if_neg (by decide),if_neg (by decide),if_neg (by decide),if_pos rfl]
 rw[e1,aa]
 try dsimp only
 rw[e2,aa]
 try dsimp only
theorem td {p:Po} {a b:NS} (ha:av a false=true) (hb:av b false=true) {e:Ex} (he:fy e false=true) (hr:r≠[]) (h:l.drop k.1=nsK a++(nsK b++(exK e++kM ⟨#[59]⟩ :: r))):∃ k',bp ⟨#[99,111,110,115,116,114,97,105,110]⟩ {Stm.zero with pos:=p} k= .ok ({Stm.zero with kind:=15,cls:=a,perms:=b,cond:=e,pos:=p},k')∧l.drop k'.1=r:=by
 obtain ⟨k1,e1,h1⟩:=fm ha (by simp[hr]) h
 obtain ⟨k2,e2,h2⟩:=fm hb (by simp[hr]) h1
 obtain ⟨k3,e3,h3⟩:=qL he (by simp) (bX (by decide) _) (bX (by decide) _) h2
 refine nb (k1:=k3) (by unfold bR;rw[if_neg (by decide),if_neg (by decide),if_neg (by decide),if_neg (by decide),if_neg (by decide),if_neg (by decide),if_neg (by decide),if_neg (by decide),if_neg (by decide)]) ?_ h3 hr
 unfold dj
 rw[if_neg (by decide),if_neg (by decide),if_neg (by decide),if_neg (by decide),if_neg (by decide),if_pos rfl]
 rw[e1,aa]
 try dsimp only
 rw[e2,aa]
 try dsimp only
 rw[e3,aa]
 try dsimp only
theorem nd {p:Po} {a:NS} (ha:av a false=true) {e:Ex} (he:fy e true=true) (hr:r≠[]) (h:l.drop k.1=nsK a++(exK e++kM ⟨#[59]⟩ :: r)):∃ k',bp ⟨#[118,97,108,105,100,97,116,101,116,114,97,110,115]⟩ {Stm.zero with pos:=p} k= .ok ({Stm.zero with kind:=16,cls:=a,cond:=e,pos:=p},k')∧l.drop k'.1=r:=by
 obtain ⟨k1,e1,h1⟩:=fm ha (by simp[hr]) h
 obtain ⟨k2,e2,h2⟩:=qL he (by simp) (bX (by decide) _) (bX (by decide) _) h1
 refine nb (k1:=k2) (by unfold bR;rw[if_neg (by decide),if_neg (by decide),if_neg (by decide),if_neg (by decide),if_neg (by decide),if_neg (by decide),if_neg (by decide),if_neg (by decide),if_neg (by decide)]) ?_ h2 hr
 unfold dj
 rw[if_neg (by decide),if_neg (by decide),if_neg (by decide),if_neg (by decide),if_neg (by decide),if_neg (by decide),if_pos rfl]
 rw[e1,aa]
 try dsimp only
 rw[e2,aa]
 try dsimp only
theorem vk {p:Po} {n:ByteArray} (hn:idB n=true) {xs:List ByteArray} (h0:xs≠[]) (hi:xs.all idB=true) (hr:r≠[]) (h:l.drop k.1=kN ⟨#[99,108,97,115,115]⟩ :: kN n :: (brK xs++kM ⟨#[59]⟩ :: r)):∃ k',bp ⟨#[114,101,113,117,105,114,101]⟩ {Stm.zero with pos:=p} k= .ok ({Stm.zero with kind:=19,op:=1,name:=n,list:=xs,pos:=p},k')∧l.drop k'.1=r:=by
 have h1:=aO h (by simp[hr])
 have h2:=aO h1 (by simp[hr])
 obtain ⟨k3,e3,h3⟩:=iY h0 (by simp[hr]) hi h2
 refine Ad (k1:=k3) (by unfold bR;rw[if_neg (by decide),if_neg (by decide),if_neg (by decide),if_neg (by decide),if_neg (by decide),if_neg (by decide),if_neg (by decide),if_neg (by decide),if_neg (by decide)]) (by unfold dj;rw[if_neg (by decide),if_neg (by decide),if_neg (by decide),if_neg (by decide),if_neg (by decide),if_neg (by decide),if_neg (by decide)]) ?_ h3 hr
 unfold cZ
 rw[if_pos rfl]
 rw[iZ (i:=0) (by decide) h,aa]
 try dsimp only
 rw[if_pos (show((0:Nat):Int)=0 from rfl)]
 rw[bw h1 hn,aa]
 try dsimp only
 rw[e3,aa]
 try dsimp only
theorem JY {i:Nat} (i1:i≤7):symW.findIdx? (fun s=>decide (symW.getD i ⟨#[]⟩=s))=some i:=by
 have:i=0∨i=1∨i=2∨i=3∨i=4∨i=5∨i=6∨i=7:=by omega
 rcases this with rfl|rfl|rfl|rfl|rfl|rfl|rfl|rfl <;> decide
theorem eX {p:Po} {i:Nat} (i0:1≤i) (i1:i≤7) {xs:List ByteArray} (h0:xs≠[]) (hi:xs.all idB=true) (hr:r≠[]) (h:l.drop k.1=kN (symW.getD i ⟨#[]⟩) :: (liK xs++kM ⟨#[59]⟩ :: r)):∃ k',bp ⟨#[114,101,113,117,105,114,101]⟩ {Stm.zero with pos:=p} k= .ok ({Stm.zero with kind:=19,op:=1+(i:Int),list:=xs,pos:=p},k')∧l.drop k'.1=r:=by
 have h1:=aO h (by simp[hr])
 obtain ⟨k2,e2,h2⟩:=qN h0 (by simp) (bX (by decide) _) hi h1
 refine Ad (k1:=k2) (by unfold bR;rw[if_neg (by decide),if_neg (by decide),if_neg (by decide),if_neg (by decide),if_neg (by decide),if_neg (by decide),if_neg (by decide),if_neg (by decide),if_neg (by decide)]) (by unfold dj;rw[if_neg (by decide),if_neg (by decide),if_neg (by decide),if_neg (by decide),if_neg (by decide),if_neg (by decide),if_neg (by decide)]) ?_ h2 hr
 unfold cZ
 rw[if_pos rfl]
 rw[iZ (i:=i) (JY i1) h,aa]
 try dsimp only
 rw[if_neg (by omega),e2,aa]
 try dsimp only
theorem Jw {p:Po} {n:ByteArray} (hn:idB n=true) {c:Ct} (hc:cxB c=true) (hr:r≠[]) (h:l.drop k.1=kN n :: (cxK c++kM ⟨#[59]⟩ :: r)):∃ k',bp ⟨#[115,105,100]⟩ {Stm.zero with pos:=p} k= .ok ({Stm.zero with kind:=20,name:=n,ctx:=c,pos:=p},k')∧l.drop k'.1=r:=by
 have h1:=aO h (by simp[hr])
 obtain ⟨k2,e2,h2⟩:=oN hc (by simp) (bX (by decide) _) (bX (by decide) _) (bX (by decide) _) (bX (by decide) _) h1
 refine Ad (k1:=k2) (by unfold bR;rw[if_neg (by decide),if_neg (by decide),if_neg (by decide),if_neg (by decide),if_neg (by decide),if_neg (by decide),if_neg (by decide),if_neg (by decide),if_neg (by decide)]) (by unfold dj;rw[if_neg (by decide),if_neg (by decide),if_neg (by decide),if_neg (by decide),if_neg (by decide),if_neg (by decide),if_neg (by decide)]) ?_ h2 hr
 unfold cZ
 rw[if_neg (by decide),if_pos rfl]
 rw[bw h hn,aa]
 try dsimp only
 rw[e2,aa]
 try dsimp only
theorem FK {i:Nat} (i1:i≤4):fileW.findIdx? (fun s=>decide (fileW.getD i ⟨#[]⟩=s))=some i:=by
 have:i=0∨i=1∨i=2∨i=3∨i=4:=by omega
 rcases this with rfl|rfl|rfl|rfl|rfl <;> decide
theorem ic {p:Po} {t:ByteArray} (ht:t≠⟨#[]⟩) {i:Nat} (i1:i≤4) {c:Ct} (hc:cxB c=true) (hr:r≠[]) (h:l.drop k.1=kS t :: kN (fileW.getD i ⟨#[]⟩) :: (cxK c++kM ⟨#[59]⟩ :: r)):∃ k',bp ⟨#[102,105,108,101,99,111,110]⟩ {Stm.zero with pos:=p} k= .ok ({Stm.zero with kind:=21,text:=t,op:=(i:Int),ctx:=c,pos:=p},k')∧l.drop k'.1=r:=by
 have h1:=aO h (by simp[hr])
 have h2:=aO h1 (by simp[hr])
 obtain ⟨k3,e3,h3⟩:=oN hc (by simp) (bX (by decide) _) (bX (by decide) _) (bX (by decide) _) (bX (by decide) _) h2
 refine Ad (k1:=k3) (by unfold bR;rw[if_neg (by decide),if_neg (by decide),if_neg (by decide),if_neg (by decide),if_neg (by decide),if_neg (by decide),if_neg (by decide),if_neg (by decide),if_neg (by decide)]) (by unfold dj;rw[if_neg (by decide),if_neg (by decide),if_neg (by decide),if_neg (by decide),if_neg (by decide),if_neg (by decide),if_neg (by decide)]) ?_ h3 hr
 unfold cZ
 rw[if_neg (by decide),if_neg (by decide),if_pos rfl]
 rw[Fj ht h,aa]
 try dsimp only
 rw[iZ (i:=i) (FK i1) h1,aa]
 try dsimp only
 rw[e3,aa]
 try dsimp only
theorem qE {p:Po} {a:NS} (ha:av a false=true) (hr:r≠[]) (h:l.drop k.1=nsK a++kM ⟨#[59]⟩ :: r):∃ k',bp ⟨#[112,101,114,109,105,115,115,105,118,101]⟩ {Stm.zero with pos:=p} k= .ok ({Stm.zero with kind:=22,source:=a,pos:=p},k')∧l.drop k'.1=r:=by
 obtain ⟨k1,e1,h1⟩:=fm ha (by simp[hr]) h
 refine Ad (k1:=k1) (by unfold bR;rw[if_neg (by decide),if_neg (by decide),if_neg (by decide),if_neg (by decide),if_neg (by decide),if_neg (by decide),if_neg (by decide),if_neg (by decide),if_neg (by decide)]) (by unfold dj;rw[if_neg (by decide),if_neg (by decide),if_neg (by decide),if_neg (by decide),if_neg (by decide),if_neg (by decide),if_neg (by decide)]) ?_ h1 hr
 unfold cZ
 rw[if_neg (by decide),if_neg (by decide),if_neg (by decide),if_pos rfl]
 rw[e1,aa]
 try dsimp only
theorem IC {i:Nat} (i1:i≤2):asrW.findIdx? (fun s=>decide (asrW.getD i ⟨#[]⟩=s))=some i:=by
 have:i=0∨i=1∨i=2:=by omega
 rcases this with rfl|rfl|rfl <;> decide
theorem n9 {p:Po} {n:ByteArray} (hn:idB n=true) {i:Nat} (i1:i≤2) {a b:NS} (ha:av a false=true) (hb:av b false=true) (hr:r≠[]) (h:l.drop k.1=kN n :: kN (asrW.getD i ⟨#[]⟩) :: (nsK a++(nsK b++kM ⟨#[59]⟩ :: r))):∃ k',bp ⟨#[97,115,115,101,114,116]⟩ {Stm.zero with pos:=p} k= .ok ({Stm.zero with kind:=23,name:=n,op:=1+(i:Int),source:=a,target:=b,pos:=p},k')∧l.drop k'.1=r:=by
 have h1:=aO h (by simp[hr])
 have h2:=aO h1 (by simp[hr])
 obtain ⟨k3,e3,h3⟩:=fm ha (by simp[hr]) h2
 obtain ⟨k4,e4,h4⟩:=fm hb (by simp[hr]) h3
 refine Ad (k1:=k4) (by unfold bR;rw[if_neg (by decide),if_neg (by decide),if_neg (by decide),if_neg (by decide),if_neg (by decide),if_neg (by decide),if_neg (by decide),if_neg (by decide),if_neg (by decide)]) (by unfold dj;rw[if_neg (by decide),if_neg (by decide),if_neg (by decide),if_neg (by decide),if_neg (by decide),if_neg (by decide),if_neg (by decide)]) ?_ h4 hr
 unfold cZ
 rw[if_neg (by decide),if_neg (by decide),if_neg (by decide),if_neg (by decide),if_pos rfl]
 rw[bw h hn,aa]
 try dsimp only
 rw[iZ (i:=i) (IC i1) h1,aa]
 try dsimp only
 rw[e3,aa]
 try dsimp only
 rw[e4,aa]
 try dsimp only
end
end Am
namespace Am
open Tk
set_option maxRecDepth 100000
set_option maxHeartbeats 4000000
structure LnP (w:ByteArray) (s:Stm) (ts:List Tok):Prop where
 bg:rQ w=true
 ni:¬ (w=⟨#[105,102]⟩∨w=⟨#[111,112,116,105,111,110,97,108]⟩)
 pl:∀ (l:List Tok) (k:Ix l) (r:List Tok),r≠[]→l.drop k.1=ts++r→∃ s' k',bp w {Stm.zero with pos:=⟨0,0⟩} k= .ok (s',k')∧npS s'=npS s∧l.drop k'.1=r
inductive HdK:Stm→List Tok→Prop where
 |cond {e:Ex} (h:cP 1 e=0):HdK {Stm.zero with kind:=17,cond:=e} (kN ⟨#[105,102]⟩ :: bxK e)
 |opt:HdK {Stm.zero with kind:=18} [kN ⟨#[111,112,116,105,111,110,97,108]⟩]
inductive TK:List Stm→List Tok→Nat→Nat→Prop where
 |nil:TK [] [] 0 0
 |ln {w:ByteArray} {s:Stm} {ts us:List Tok} {l:List Stm} {c d:Nat} (h:LnP w s ts) (hl:TK l us c d):TK (s :: l) (kN w :: (ts++us)) (c+1) d
 |blk {h s:Stm} {hs ts us:List Tok} {l b:List Stm} {c d c1 d1:Nat} (hh:HdK h hs) (hb:TK b ts c1 d1) (b0:b≠[]) (hn:npS s=npS {h with thn:=b}) (hl:TK l us c d):TK (s :: l) (hs++kM ⟨#[123]⟩ :: (ts++kM ⟨#[125]⟩ :: us)) (c1+1+c) (max (d1+1) d)
 |two {h s:Stm} {hs ts vs us:List Tok} {l b e:List Stm} {c d c1 d1 c2 d2:Nat} (hh:HdK h hs) (hb:TK b ts c1 d1) (b0:b≠[]) (he:TK e vs c2 d2) (e0:e≠[]) (hn:npS s=npS {h with thn:=b,els:=e}) (hl:TK l us c d):TK (s :: l) (hs++kM ⟨#[123]⟩ :: (ts++kM ⟨#[125]⟩ :: kN ⟨#[101,108,115,101]⟩ :: kM ⟨#[123]⟩ :: (vs++kM ⟨#[125]⟩ :: us))) (c1+c2+1+c) (max (max (d1+1) (d2+1)) d)
def Stp (d:Nat) (r:List Tok):Prop:=∃ t u,r=t :: u∧(t.kind=0∨(0<d∧t.kind=4∧t.text=⟨#[125]⟩))
theorem Stp.ne {d:Nat} {r:List Tok} (h:Stp d r):r≠[]:=by obtain ⟨t,u,rfl,-⟩:=h;simp
theorem Stp.els {d:Nat} {r:List Tok} (h:Stp d r):hW ⟨#[101,108,115,101]⟩ r=false:=by
 obtain ⟨t,u,rfl,h⟩:=h
 show(decide (t.kind=1)&&_)=false
 rw[decide_eq_false (by omega),Bool.false_and]
theorem Stp.cls (d:Nat) (r:List Tok):Stp (d+1) (kM ⟨#[125]⟩ :: r):=⟨_,_,rfl,.inr ⟨Nat.succ_pos _,rfl,rfl⟩⟩
theorem TK.hd {ss:List Stm} {ts:List Tok} {c d:Nat} (h:TK ss ts c d):(ss=[]∧ts=[])∨∃ w r,ts=kN w :: r∧rQ w=true:=by
 cases h with
 |nil=>exact .inl ⟨rfl,rfl⟩
 |ln h hl=>exact .inr ⟨_,_,rfl,h.bg⟩
 |blk hh hb b0 hn hl=>
  cases hh with
  |cond h=>exact .inr ⟨_,_,rfl,by decide⟩
  |opt=>exact .inr ⟨_,_,rfl,by decide⟩
 |two hh hb b0 he e0 hn hl=>
  cases hh with
  |cond h=>exact .inr ⟨_,_,rfl,by decide⟩
  |opt=>exact .inr ⟨_,_,rfl,by decide⟩
theorem TK.els {ss:List Stm} {ts:List Tok} {c d dd:Nat} (h:TK ss ts c d) {r:List Tok} (hr:Stp dd r):hW ⟨#[101,108,115,101]⟩ (ts++r)=false:=by
 rcases h.hd with⟨-,rfl⟩|⟨w,u,rfl,hb⟩
 ·exact hr.els
 ·show hW ⟨#[101,108,115,101]⟩ (kN w :: (u++r))=false
  rw[nU,decide_eq_false_iff_not]
  rintro rfl
  revert hb;decide
theorem TK.cls {ss:List Stm} {ts:List Tok} {c d:Nat} (h:TK ss ts c d) (h0:ss≠[]) (r:List Tok):hM ⟨#[125]⟩ (ts++r)=false:=by
 rcases h.hd with⟨h1,-⟩|⟨w,u,rfl,hb⟩
 ·exact absurd h1 h0
 ·rfl
section
variable {l:List Tok}
def PT (l:List Tok) (ss:List Stm) (ts:List Tok) (c d:Nat):Prop:=∀ (n dd:Nat) (acc:List Stm) (k:Ix l) (cc:Nat) (r:List Tok),Stp dd r→cc+c≤1024→dd+d≤12→4*ts.length+2≤n→l.drop k.1=ts++r→∃ xs k',cy tksK n dd acc k cc= .ok (acc++xs,(k',cc+c))∧xs.map npS=ss.map npS∧l.drop k'.1=r
theorem Jz:PT l [] [] 0 0:=fun n dd acc k cc r hs hc hd hn hr=>by
 obtain ⟨n,rfl⟩:∃ m,n=m+1:=⟨n - 1,by omega⟩
 have hr:l.drop k.1=r:=hr
 obtain ⟨t,u,rfl,h⟩:=hs
 refine⟨[],k,?_,rfl,hr⟩
 have hm:0<dd∧t.kind=4∧t.text=⟨#[125]⟩→0<dd∧isM ⟨#[125]⟩ k=true:=fun h=>⟨h.1,by rw[cG hr];simp[hM,h.2.1,h.2.2]⟩
 rw[cy,if_pos (by rw[gH hr];exact h.imp id hm),List.append_nil,Nat.add_zero]
theorem th {s:Stm} {ts us:List Tok} {ss:List Stm} {w:ByteArray} {c1 c d1 d:Nat} (hl:PT l ss us c d)
 (h1:∀ (n dd:Nat) (k:Ix l) (cc:Nat) (r:List Tok),r≠[]→hW ⟨#[101,108,115,101]⟩ r=false→cc+c1≤1024→dd+d1≤12→4*(ts.length+1)+1≤n→l.drop k.1=kN w :: (ts++r)→∃ x k',cX tksK n dd k cc= .ok (x,(k',cc+c1))∧npS x=npS s∧l.drop k'.1=r)
 (he:∀ (dd:Nat) (r:List Tok),Stp dd r→hW ⟨#[101,108,115,101]⟩ (us++r)=false):PT l (s :: ss) (kN w :: (ts++us)) (c1+c) (max d1 d):=fun n dd acc k cc r hs hc hd hn hr=>by
 rw[List.length_cons,List.length_append] at hn
 obtain ⟨n,rfl⟩:∃ m,n=m+1:=⟨n - 1,by omega⟩
 have hr:l.drop k.1=kN w :: (ts++(us++r)):=by rw[hr];simp
 have hne:us++r≠[]:=by simp[hs.ne]
 obtain ⟨x,k1,e1,e2,e3⟩:=h1 n dd k cc (us++r) hne (he dd r hs) (by omega) (by omega) (by omega) hr
 obtain ⟨xs,k',e4,e5,e6⟩:=hl n dd (acc++[x]) k1 (cc+c1) r hs (by omega) (by omega) (by omega) e3
 refine⟨x :: xs,k',?_,by rw[List.map_cons,List.map_cons,e2,e5],e6⟩
 have hno:¬ ((tk k).kind=0∨(0<dd∧isM ⟨#[125]⟩ k=true)):=by
  rw[gH hr,cG hr,jK]
  rintro (h|h)
  ·exact absurd (show(1:Int)=0 from h) (by decide)
  ·exact absurd h.2 (by decide)
 rw[cy,if_neg hno,e1,aa]
 dsimp only
 rw[e4,List.append_assoc,Nat.add_assoc];rfl
theorem Lq {w:ByteArray} {s:Stm} {ts:List Tok} (h:LnP w s ts) (n dd:Nat) (k:Ix l) (cc:Nat) (r:List Tok) (hr:r≠[]) (hc:cc+1≤1024) (hn:1≤n) (hd:l.drop k.1=kN w :: (ts++r)):∃ x k',cX tksK n dd k cc= .ok (x,(k',cc+1))∧npS x=npS s∧l.drop k'.1=r:=by
 obtain ⟨n,rfl⟩:∃ m,n=m+1:=⟨n - 1,by omega⟩
 obtain ⟨s',k',e1,e2,e3⟩:=h.pl l (nx k) r hr (aO hd (by simp[hr]))
 refine⟨s',k',?_,e2,e3⟩
 rw[cX,gH hd]
 dsimp only
 rw[if_pos ⟨rfl,h.bg⟩,if_neg (by omega),if_neg h.ni,e1,aa]
theorem xq {ss:List Stm} {ts:List Tok} {c d:Nat} (h:PT l ss ts c d) (hb:∀ r,hM ⟨#[125]⟩ (ts++r)=false) (n dd:Nat) (k:Ix l) (cc:Nat) (r:List Tok) (hr:r≠[]) (hc:cc+c≤1024) (hd:dd+1+d≤12) (hn:4*ts.length+3≤n) (hk:l.drop k.1=kM ⟨#[123]⟩ :: (ts++kM ⟨#[125]⟩ :: r)):∃ xs k',cK tksK n dd k cc= .ok (xs,(k',cc+c))∧xs.map npS=ss.map npS∧l.drop k'.1=r:=by
 obtain ⟨n,rfl⟩:∃ m,n=m+1:=⟨n - 1,by omega⟩
 have h1:=aO hk (by simp)
 obtain ⟨xs,k',e1,e2,e3⟩:=h n (dd+1) [] (nx k) cc (kM ⟨#[125]⟩ :: r) (Stp.cls dd r) hc hd (by omega) h1
 refine⟨xs,nx k',?_,e2,aO e3 hr⟩
 rw[cK,fE hk,aa]
 dsimp only
 rw[cG h1,hb,if_neg (by decide),e1,aa]
 dsimp only
 rw[fE e3,aa,List.nil_append]
end
end Am
namespace Am
open Tk
set_option maxRecDepth 100000
set_option maxHeartbeats 4000000
def LnS (s:Stm):Prop:=∃ w ts,LnP w s (ts++[kM ⟨#[59]⟩])∧SB true (bz s) (kN w :: ts)
theorem nn {w:ByteArray} (t:ByteArray) (h:fk w.data.toList=true) (ht:t.data.toList=32 :: (w.data.toList++[32])):SB false t [kN w]:=by
 unfold SB
 rw[ht]
 exact ScK.sp.app ((ScK.name h).app ScK.sp fun _=>by decide) fun h=>by cases h
theorem iT:SB false ⟨#[32,58,32]⟩ [kM ⟨#[58]⟩]:=
 ScK.sp.app ((ScK.mark1 (c:=58) (by decide) (by decide)).app ScK.sp fun h=>by cases h) fun h=>by cases h
theorem dJ (w:ByteArray) (h:fk w.data.toList=true):SB true w [kN w]:=ScK.name h
theorem MJ {s:ByteArray} (h:Tk.quoB s.data.toList=true):SB false (⟨#[32,34]⟩++(s++⟨#[34]⟩)) [kS s]:=by
 unfold SB
 have e:(⟨#[32,34]⟩++(s++⟨#[34]⟩):ByteArray).data.toList=32 :: (34 :: (s.data.toList++[34])):=by rw[iy,iy];rfl
 rw[e]
 exact ScK.sp.app (ScK.str h) fun h=>by cases h
theorem vA {s:ByteArray} (h:Tk.quoB s.data.toList=true):SB false (⟨#[102,105,108,101,99,111,110,32,34]⟩++(s++⟨#[34,32]⟩)) [kN ⟨#[102,105,108,101,99,111,110]⟩,kS s]:=by
 unfold SB
 have e:(⟨#[102,105,108,101,99,111,110,32,34]⟩++(s++⟨#[34,32]⟩):ByteArray).data.toList=(⟨#[102,105,108,101,99,111,110]⟩:ByteArray).data.toList++([32]++((34 :: (s.data.toList++[34]))++[32])):=by rw[iy,iy];simp <;> rfl
 rw[e]
 exact(ScK.name (s:=⟨#[102,105,108,101,99,111,110]⟩) (by decide)).app (ScK.sp.app ((ScK.str h).app ScK.sp fun h=>by cases h) fun h=>by cases h) fun _=>rfl
theorem HG {l:List ByteArray} (h0:l≠[]) (hi:l.all idB=true):SB true (⟨#[44,32]⟩++bC ⟨#[44,32]⟩ l) (coK l):=by
 cases l with
 |nil=>exact absurd rfl h0
 |cons x l=>
  have h:=sb_cs.appF (me h0 hi)
  exact h
theorem Fo (b:Bool):SB true (u6 b) [kN (if b then⟨#[116,114,117,101]⟩ else⟨#[102,97,108,115,101]⟩)]:=by
 cases b with
 |true=>exact dJ ⟨#[116,114,117,101]⟩ (by decide)
 |false=>exact dJ ⟨#[102,97,108,115,101]⟩ (by decide)
theorem CC {p:Po} {n:ByteArray} (hn:idB n=true) {xs:List ByteArray} (h0:xs≠[]) (hi:xs.all idB=true):LnS {Stm.zero with kind:=1,name:=n,list:=xs,pos:=p}:=by
 refine⟨⟨#[99,108,97,115,115]⟩,kN n :: brK xs,⟨by decide,by decide,fun l k r hr h=>?_⟩,?_⟩
 ·obtain ⟨k',e1,e2⟩:=Dg (p:=⟨0,0⟩) hn h0 hi hr (l:=l) (k:=k) (by rw[h];simp[coK,symW,fileW,asrW])
  exact⟨_,k',e1,by rw[ay,ay] <;> rfl,e2⟩
 ·have e:bz {Stm.zero with kind:=1,name:=n,list:=xs,pos:=p}=⟨#[99,108,97,115,115,32]⟩++(n++(⟨#[32]⟩++(brT xs))):=by
   simp only[← aL]
   rfl
  rw[e]
  have h:=SB.weak (SB.appF (fB (w:=⟨#[99,108,97,115,115]⟩) ⟨#[99,108,97,115,115,32]⟩ (by decide) rfl) (SB.app (SB.name hn) (SB.appF sb_sp (ub h0 hi)) fun _=>(aF _ (by decide))))
  simpa using h
theorem si {p:Po} {n:ByteArray} (hn:idB n=true):LnS {Stm.zero with kind:=3,name:=n,pos:=p}:=by
 refine⟨⟨#[97,116,116,114,105,98,117,116,101]⟩,[kN n],⟨by decide,by decide,fun l k r hr h=>?_⟩,?_⟩
 ·obtain ⟨k',e1,e2⟩:=tc (p:=⟨0,0⟩) hn hr (l:=l) (k:=k) (by rw[h];simp[coK,symW,fileW,asrW])
  exact⟨_,k',e1,by rw[ay,ay] <;> rfl,e2⟩
 ·have e:bz {Stm.zero with kind:=3,name:=n,pos:=p}=⟨#[97,116,116,114,105,98,117,116,101,32]⟩++(n):=by
   simp only[← aL]
   rfl
  rw[e]
  have h:=SB.weak (SB.appF (fB (w:=⟨#[97,116,116,114,105,98,117,116,101]⟩) ⟨#[97,116,116,114,105,98,117,116,101,32]⟩ (by decide) rfl) (SB.name hn))
  simpa using h
theorem pq {p:Po} {n:ByteArray} (hn:idB n=true):LnS {Stm.zero with kind:=10,name:=n,pos:=p}:=by
 refine⟨⟨#[115,101,110,115,105,116,105,118,105,116,121]⟩,[kN n],⟨by decide,by decide,fun l k r hr h=>?_⟩,?_⟩
 ·obtain ⟨k',e1,e2⟩:=pO (p:=⟨0,0⟩) hn hr (l:=l) (k:=k) (by rw[h];simp[coK,symW,fileW,asrW])
  exact⟨_,k',e1,by rw[ay,ay] <;> rfl,e2⟩
 ·have e:bz {Stm.zero with kind:=10,name:=n,pos:=p}=⟨#[115,101,110,115,105,116,105,118,105,116,121,32]⟩++(n):=by
   simp only[← aL]
   rfl
  rw[e]
  have h:=SB.weak (SB.appF (fB (w:=⟨#[115,101,110,115,105,116,105,118,105,116,121]⟩) ⟨#[115,101,110,115,105,116,105,118,105,116,121,32]⟩ (by decide) rfl) (SB.name hn))
  simpa using h
theorem uU {p:Po} {n:ByteArray} (hn:idB n=true):LnS {Stm.zero with kind:=11,name:=n,pos:=p}:=by
 refine⟨⟨#[99,97,116,101,103,111,114,121]⟩,[kN n],⟨by decide,by decide,fun l k r hr h=>?_⟩,?_⟩
 ·obtain ⟨k',e1,e2⟩:=vj (p:=⟨0,0⟩) hn hr (l:=l) (k:=k) (by rw[h];simp[coK,symW,fileW,asrW])
  exact⟨_,k',e1,by rw[ay,ay] <;> rfl,e2⟩
 ·have e:bz {Stm.zero with kind:=11,name:=n,pos:=p}=⟨#[99,97,116,101,103,111,114,121,32]⟩++(n):=by
   simp only[← aL]
   rfl
  rw[e]
  have h:=SB.weak (SB.appF (fB (w:=⟨#[99,97,116,101,103,111,114,121]⟩) ⟨#[99,97,116,101,103,111,114,121,32]⟩ (by decide) rfl) (SB.name hn))
  simpa using h
theorem mW {p:Po} {n:ByteArray} (hn:idB n=true) {xs:List ByteArray} (h0:xs≠[]) (hi:xs.all idB=true):LnS {Stm.zero with kind:=4,name:=n,list:=xs,pos:=p}:=by
 refine⟨⟨#[116,121,112,101,97,116,116,114,105,98,117,116,101]⟩,kN n :: liK xs,⟨by decide,by decide,fun l k r hr h=>?_⟩,?_⟩
 ·obtain ⟨k',e1,e2⟩:=nc (p:=⟨0,0⟩) hn h0 hi hr (l:=l) (k:=k) (by rw[h];simp[coK,symW,fileW,asrW])
  exact⟨_,k',e1,by rw[ay,ay] <;> rfl,e2⟩
 ·have e:bz {Stm.zero with kind:=4,name:=n,list:=xs,pos:=p}=⟨#[116,121,112,101,97,116,116,114,105,98,117,116,101,32]⟩++(n++(⟨#[32]⟩++(bC ⟨#[44,32]⟩ xs))):=by
   simp only[← aL]
   rfl
  rw[e]
  have h:=SB.weak (SB.appF (fB (w:=⟨#[116,121,112,101,97,116,116,114,105,98,117,116,101]⟩) ⟨#[116,121,112,101,97,116,116,114,105,98,117,116,101,32]⟩ (by decide) rfl) (SB.app (SB.name hn) (SB.appF sb_sp (me h0 hi)) fun _=>(aF _ (by decide))))
  simpa using h
theorem zZ {p:Po} {n:ByteArray} (hn:idB n=true):LnS {Stm.zero with kind:=2,name:=n,list:=[],pos:=p}:=by
 refine⟨⟨#[116,121,112,101]⟩,[kN n],⟨by decide,by decide,fun l k r hr h=>?_⟩,?_⟩
 ·obtain ⟨k',e1,e2⟩:=vl (p:=⟨0,0⟩) hn (xs:=[]) rfl hr (l:=l) (k:=k) (by rw[h];simp[coK,symW,fileW,asrW])
  exact⟨_,k',e1,by rw[ay,ay] <;> rfl,e2⟩
 ·have e:bz {Stm.zero with kind:=2,name:=n,list:=[],pos:=p}=⟨#[116,121,112,101,32]⟩++(n):=by
   simp only[← aL]
   rfl
  rw[e]
  have h:=SB.weak (SB.appF (fB (w:=⟨#[116,121,112,101]⟩) ⟨#[116,121,112,101,32]⟩ (by decide) rfl) (SB.name hn))
  simpa using h
theorem CF {p:Po} {n:ByteArray} (hn:idB n=true) {xs:List ByteArray} (h0:xs≠[]) (hi:xs.all idB=true):LnS {Stm.zero with kind:=2,name:=n,list:=xs,pos:=p}:=by
 refine⟨⟨#[116,121,112,101]⟩,kN n :: coK xs,⟨by decide,by decide,fun l k r hr h=>?_⟩,?_⟩
 ·obtain ⟨k',e1,e2⟩:=vl (p:=⟨0,0⟩) hn hi hr (l:=l) (k:=k) (by rw[h];simp[coK,symW,fileW,asrW])
  exact⟨_,k',e1,by rw[ay,ay] <;> rfl,e2⟩
 ·have e:bz {Stm.zero with kind:=2,name:=n,list:=xs,pos:=p}=⟨#[116,121,112,101,32]⟩++(n++(⟨#[44,32]⟩++bC ⟨#[44,32]⟩ xs)):=by
   have q0:0<xs.length:=List.length_pos_iff.2 h0
   simp only[← aL]
   show(if 0<xs.length then _ else _)=_
   rw[if_pos q0]
   simp only[aL]
  rw[e]
  have h:=SB.weak (SB.appF (fB (w:=⟨#[116,121,112,101]⟩) ⟨#[116,121,112,101,32]⟩ (by decide) rfl) (SB.app (SB.name hn) (HG h0 hi) fun _=>(aF _ (by decide))))
  simpa using h
theorem A0 {p:Po} {n:ByteArray} (hn:idB n=true) {al:List ByteArray} (a0:al≠[]) (ai:al.all idB=true):LnS {Stm.zero with kind:=2,name:=n,aliases:=al,list:=[],pos:=p}:=by
 refine⟨⟨#[116,121,112,101]⟩,kN n :: kN ⟨#[97,108,105,97,115]⟩ :: brK al,⟨by decide,by decide,fun l k r hr h=>?_⟩,?_⟩
 ·obtain ⟨k',e1,e2⟩:=vm (p:=⟨0,0⟩) hn a0 ai (xs:=[]) rfl hr (l:=l) (k:=k) (by rw[h];simp[coK,symW,fileW,asrW])
  exact⟨_,k',e1,by rw[ay,ay] <;> rfl,e2⟩
 ·have e:bz {Stm.zero with kind:=2,name:=n,aliases:=al,list:=[],pos:=p}=⟨#[116,121,112,101,32]⟩++(n++(⟨#[32,97,108,105,97,115,32]⟩++(brT al))):=by
   have q0:0<al.length:=List.length_pos_iff.2 a0
   simp only[← aL]
   show(if 0<al.length then(if 0<([]:List ByteArray).length then _ else _) else _)=_
   rw[if_pos q0,if_neg (by decide)]
   simp only[aL]
  rw[e]
  have h:=SB.weak (SB.appF (fB (w:=⟨#[116,121,112,101]⟩) ⟨#[116,121,112,101,32]⟩ (by decide) rfl) (SB.app (SB.name hn) (SB.appF (nn (w:=⟨#[97,108,105,97,115]⟩) ⟨#[32,97,108,105,97,115,32]⟩ (by decide) rfl) (ub a0 ai)) fun _=>(aF _ (by decide))))
  simpa using h
theorem CG {p:Po} {n:ByteArray} (hn:idB n=true) {al:List ByteArray} (a0:al≠[]) (ai:al.all idB=true) {xs:List ByteArray} (h0:xs≠[]) (hi:xs.all idB=true):LnS {Stm.zero with kind:=2,name:=n,aliases:=al,list:=xs,pos:=p}:=by
 refine⟨⟨#[116,121,112,101]⟩,kN n :: kN ⟨#[97,108,105,97,115]⟩ :: (brK al++coK xs),⟨by decide,by decide,fun l k r hr h=>?_⟩,?_⟩
 ·obtain ⟨k',e1,e2⟩:=vm (p:=⟨0,0⟩) hn a0 ai hi hr (l:=l) (k:=k) (by rw[h];simp[coK,symW,fileW,asrW])
  exact⟨_,k',e1,by rw[ay,ay] <;> rfl,e2⟩
 ·have e:bz {Stm.zero with kind:=2,name:=n,aliases:=al,list:=xs,pos:=p}=⟨#[116,121,112,101,32]⟩++(n++(⟨#[32,97,108,105,97,115,32]⟩++(brT al++(⟨#[44,32]⟩++bC ⟨#[44,32]⟩ xs)))):=by
   have q0:0<al.length:=List.length_pos_iff.2 a0
   have q1:0<xs.length:=List.length_pos_iff.2 h0
   simp only[← aL]
   show(if 0<al.length then(if 0<xs.length then _ else _) else _)=_
   rw[if_pos q0,if_pos q1]
   simp only[aL]
  rw[e]
  have h:=SB.weak (SB.appF (fB (w:=⟨#[116,121,112,101]⟩) ⟨#[116,121,112,101,32]⟩ (by decide) rfl) (SB.app (SB.name hn) (SB.appF (nn (w:=⟨#[97,108,105,97,115]⟩) ⟨#[32,97,108,105,97,115,32]⟩ (by decide) rfl) (SB.appF (ub a0 ai) (HG h0 hi))) fun _=>(aF _ (by decide))))
  simpa using h
theorem CD {p:Po} {n:ByteArray} (hn:idB n=true):LnS {Stm.zero with kind:=5,name:=n,pos:=p}:=by
 refine⟨⟨#[114,111,108,101]⟩,[kN n],⟨by decide,by decide,fun l k r hr h=>?_⟩,?_⟩
 ·obtain ⟨k',e1,e2⟩:=Dh (p:=⟨0,0⟩) hn hr (l:=l) (k:=k) (by rw[h];simp[coK,symW,fileW,asrW])
  exact⟨_,k',e1,by rw[ay,ay] <;> rfl,e2⟩
 ·have e:bz {Stm.zero with kind:=5,name:=n,pos:=p}=⟨#[114,111,108,101,32]⟩++(n):=by
   simp only[← aL]
   rfl
  rw[e]
  have h:=SB.weak (SB.appF (fB (w:=⟨#[114,111,108,101]⟩) ⟨#[114,111,108,101,32]⟩ (by decide) rfl) (SB.name hn))
  simpa using h
theorem CE {p:Po} {n:ByteArray} (hn:idB n=true) {a:NS} (ha:av a false=true):LnS {Stm.zero with kind:=5,name:=n,source:=a,pos:=p}:=by
 refine⟨⟨#[114,111,108,101]⟩,kN n :: kN ⟨#[116,121,112,101,115]⟩ :: nsK a,⟨by decide,by decide,fun l k r hr h=>?_⟩,?_⟩
 ·obtain ⟨k',e1,e2⟩:=Di (p:=⟨0,0⟩) hn ha hr (l:=l) (k:=k) (by rw[h];simp[coK,symW,fileW,asrW])
  exact⟨_,k',e1,by rw[ay,ay] <;> rfl,e2⟩
 ·have e:bz {Stm.zero with kind:=5,name:=n,source:=a,pos:=p}=⟨#[114,111,108,101,32]⟩++(n++(⟨#[32,116,121,112,101,115,32]⟩++(nsT a))):=by
   simp only[← aL]
   show(if av a false=true then _ else _)=_
   rw[if_pos ha]
   try simp only[aL]
  rw[e]
  have h:=SB.weak (SB.appF (fB (w:=⟨#[114,111,108,101]⟩) ⟨#[114,111,108,101,32]⟩ (by decide) rfl) (SB.app (SB.name hn) (SB.appF (nn (w:=⟨#[116,121,112,101,115]⟩) ⟨#[32,116,121,112,101,115,32]⟩ (by decide) rfl) (bU ha)) fun _=>(aF _ (by decide))))
  simpa using h
theorem Ga {p:Po} {n:ByteArray} (hn:idB n=true) {xs:List ByteArray} (h0:xs≠[]) (hi:xs.all idB=true) {v:Lv} (hv:lvB v=true) {g:Rg} (hg:rgB g=true):LnS {Stm.zero with kind:=8,name:=n,list:=xs,level:=v,range:=g,pos:=p}:=by
 refine⟨⟨#[117,115,101,114]⟩,kN n :: kN ⟨#[114,111,108,101,115]⟩ :: (brK xs++kN ⟨#[108,101,118,101,108]⟩ :: (lvK v++kN ⟨#[114,97,110,103,101]⟩ :: rgK g)),⟨by decide,by decide,fun l k r hr h=>?_⟩,?_⟩
 ·obtain ⟨k',e1,e2⟩:=GF (p:=⟨0,0⟩) hn h0 hi hv hg hr (l:=l) (k:=k) (by rw[h];simp[coK,symW,fileW,asrW])
  exact⟨_,k',e1,by rw[ay,ay] <;> rfl,e2⟩
 ·have e:bz {Stm.zero with kind:=8,name:=n,list:=xs,level:=v,range:=g,pos:=p}=⟨#[117,115,101,114,32]⟩++(n++(⟨#[32,114,111,108,101,115,32]⟩++(brT xs++(⟨#[32,108,101,118,101,108,32]⟩++(lvT v++(⟨#[32,114,97,110,103,101,32]⟩++(rgT g))))))):=by
   simp only[← aL]
   rfl
  rw[e]
  have h:=SB.weak (SB.appF (fB (w:=⟨#[117,115,101,114]⟩) ⟨#[117,115,101,114,32]⟩ (by decide) rfl) (SB.app (SB.name hn) (SB.appF (nn (w:=⟨#[114,111,108,101,115]⟩) ⟨#[32,114,111,108,101,115,32]⟩ (by decide) rfl) (SB.appF (ub h0 hi) (SB.appF (nn (w:=⟨#[108,101,118,101,108]⟩) ⟨#[32,108,101,118,101,108,32]⟩ (by decide) rfl) (SB.app (yS hv) (SB.appF (nn (w:=⟨#[114,97,110,103,101]⟩) ⟨#[32,114,97,110,103,101,32]⟩ (by decide) rfl) (Dv hg)) fun _=>(aF _ (by decide)))))) fun _=>(aF _ (by decide))))
  simpa using h
theorem G9 {p:Po} {n:ByteArray} (hn:idB n=true) (b:Bool):LnS {Stm.zero with kind:=9,name:=n,value:=b,pos:=p}:=by
 refine⟨⟨#[98,111,111,108]⟩,[kN n,kN (if b then⟨#[116,114,117,101]⟩ else⟨#[102,97,108,115,101]⟩)],⟨by decide,by decide,fun l k r hr h=>?_⟩,?_⟩
 ·obtain ⟨k',e1,e2⟩:=pl_bool (p:=⟨0,0⟩) hn b hr (l:=l) (k:=k) (by rw[h];simp[coK,symW,fileW,asrW])
  exact⟨_,k',e1,by rw[ay,ay] <;> rfl,e2⟩
 ·have e:bz {Stm.zero with kind:=9,name:=n,value:=b,pos:=p}=⟨#[98,111,111,108,32]⟩++(n++(⟨#[32]⟩++(u6 b))):=by
   simp only[← aL]
   rfl
  rw[e]
  have h:=SB.weak (SB.appF (fB (w:=⟨#[98,111,111,108]⟩) ⟨#[98,111,111,108,32]⟩ (by decide) rfl) (SB.app (SB.name hn) (SB.appF sb_sp (Fo b)) fun _=>(aF _ (by decide))))
  simpa using h
theorem CA {p:Po} {a b c:NS} (ha:av a false=true) (hb:av b true=true) (hc:av c false=true) {q:NS} (hq:av q false=true):LnS {Stm.zero with kind:=12,op:=1,source:=a,target:=b,cls:=c,perms:=q,pos:=p}:=by
 refine⟨⟨#[97,108,108,111,119]⟩,nsK a++(nsK b++kM ⟨#[58]⟩ :: (nsK c++nsK q)),⟨by decide,by decide,fun l k r hr h=>?_⟩,?_⟩
 ·obtain ⟨k',e1,e2⟩:=Df (p:=⟨0,0⟩) ha hb hc hq hr (l:=l) (k:=k) (by rw[h];simp[coK,symW,fileW,asrW])
  exact⟨_,k',e1,by rw[ay,ay] <;> rfl,e2⟩
 ·have e:bz {Stm.zero with kind:=12,op:=1,source:=a,target:=b,cls:=c,perms:=q,pos:=p}=⟨#[97,108,108,111,119]⟩++(⟨#[32]⟩++(nsT a++(⟨#[32]⟩++(nsT b++(⟨#[32,58,32]⟩++(nsT c++(⟨#[32]⟩++(nsT q)))))))):=by
   simp only[← aL]
   rfl
  rw[e]
  have h:=SB.weak (SB.app (dJ ⟨#[97,108,108,111,119]⟩ (by decide)) (SB.appF sb_sp (SB.app (bU ha) (SB.appF sb_sp (SB.app (bU hb) (SB.appF iT (SB.app (bU hc) (SB.appF sb_sp (bU hq)) fun _=>(aF _ (by decide)))) fun _=>(aF _ (by decide)))) fun _=>(aF _ (by decide)))) fun _=>(aF _ (by decide)))
  simpa using h
theorem qy {p:Po} {a b c:NS} (ha:av a false=true) (hb:av b true=true) (hc:av c false=true) {q:NS} (hq:av q false=true):LnS {Stm.zero with kind:=12,op:=2,source:=a,target:=b,cls:=c,perms:=q,pos:=p}:=by
 refine⟨⟨#[97,117,100,105,116,97,108,108,111,119]⟩,nsK a++(nsK b++kM ⟨#[58]⟩ :: (nsK c++nsK q)),⟨by decide,by decide,fun l k r hr h=>?_⟩,?_⟩
 ·obtain ⟨k',e1,e2⟩:=qC (p:=⟨0,0⟩) ha hb hc hq hr (l:=l) (k:=k) (by rw[h];simp[coK,symW,fileW,asrW])
  exact⟨_,k',e1,by rw[ay,ay] <;> rfl,e2⟩
 ·have e:bz {Stm.zero with kind:=12,op:=2,source:=a,target:=b,cls:=c,perms:=q,pos:=p}=⟨#[97,117,100,105,116,97,108,108,111,119]⟩++(⟨#[32]⟩++(nsT a++(⟨#[32]⟩++(nsT b++(⟨#[32,58,32]⟩++(nsT c++(⟨#[32]⟩++(nsT q)))))))):=by
   simp only[← aL]
   rfl
  rw[e]
  have h:=SB.weak (SB.app (dJ ⟨#[97,117,100,105,116,97,108,108,111,119]⟩ (by decide)) (SB.appF sb_sp (SB.app (bU ha) (SB.appF sb_sp (SB.app (bU hb) (SB.appF iT (SB.app (bU hc) (SB.appF sb_sp (bU hq)) fun _=>(aF _ (by decide)))) fun _=>(aF _ (by decide)))) fun _=>(aF _ (by decide)))) fun _=>(aF _ (by decide)))
  simpa using h
theorem sn {p:Po} {a b c:NS} (ha:av a false=true) (hb:av b true=true) (hc:av c false=true) {q:NS} (hq:av q false=true):LnS {Stm.zero with kind:=12,op:=3,source:=a,target:=b,cls:=c,perms:=q,pos:=p}:=by
 refine⟨⟨#[100,111,110,116,97,117,100,105,116]⟩,nsK a++(nsK b++kM ⟨#[58]⟩ :: (nsK c++nsK q)),⟨by decide,by decide,fun l k r hr h=>?_⟩,?_⟩
 ·obtain ⟨k',e1,e2⟩:=te (p:=⟨0,0⟩) ha hb hc hq hr (l:=l) (k:=k) (by rw[h];simp[coK,symW,fileW,asrW])
  exact⟨_,k',e1,by rw[ay,ay] <;> rfl,e2⟩
 ·have e:bz {Stm.zero with kind:=12,op:=3,source:=a,target:=b,cls:=c,perms:=q,pos:=p}=⟨#[100,111,110,116,97,117,100,105,116]⟩++(⟨#[32]⟩++(nsT a++(⟨#[32]⟩++(nsT b++(⟨#[32,58,32]⟩++(nsT c++(⟨#[32]⟩++(nsT q)))))))):=by
   simp only[← aL]
   rfl
  rw[e]
  have h:=SB.weak (SB.app (dJ ⟨#[100,111,110,116,97,117,100,105,116]⟩ (by decide)) (SB.appF sb_sp (SB.app (bU ha) (SB.appF sb_sp (SB.app (bU hb) (SB.appF iT (SB.app (bU hc) (SB.appF sb_sp (bU hq)) fun _=>(aF _ (by decide)))) fun _=>(aF _ (by decide)))) fun _=>(aF _ (by decide)))) fun _=>(aF _ (by decide)))
  simpa using h
theorem qz {p:Po} {a b c:NS} (ha:av a false=true) (hb:av b true=true) (hc:av c false=true) {q:NS} (hq:av q false=true):LnS {Stm.zero with kind:=12,op:=4,source:=a,target:=b,cls:=c,perms:=q,pos:=p}:=by
 refine⟨⟨#[110,101,118,101,114,97,108,108,111,119]⟩,nsK a++(nsK b++kM ⟨#[58]⟩ :: (nsK c++nsK q)),⟨by decide,by decide,fun l k r hr h=>?_⟩,?_⟩
 ·obtain ⟨k',e1,e2⟩:=qD (p:=⟨0,0⟩) ha hb hc hq hr (l:=l) (k:=k) (by rw[h];simp[coK,symW,fileW,asrW])
  exact⟨_,k',e1,by rw[ay,ay] <;> rfl,e2⟩
 ·have e:bz {Stm.zero with kind:=12,op:=4,source:=a,target:=b,cls:=c,perms:=q,pos:=p}=⟨#[110,101,118,101,114,97,108,108,111,119]⟩++(⟨#[32]⟩++(nsT a++(⟨#[32]⟩++(nsT b++(⟨#[32,58,32]⟩++(nsT c++(⟨#[32]⟩++(nsT q)))))))):=by
   simp only[← aL]
   rfl
  rw[e]
  have h:=SB.weak (SB.app (dJ ⟨#[110,101,118,101,114,97,108,108,111,119]⟩ (by decide)) (SB.appF sb_sp (SB.app (bU ha) (SB.appF sb_sp (SB.app (bU hb) (SB.appF iT (SB.app (bU hc) (SB.appF sb_sp (bU hq)) fun _=>(aF _ (by decide)))) fun _=>(aF _ (by decide)))) fun _=>(aF _ (by decide)))) fun _=>(aF _ (by decide)))
  simpa using h
theorem lk {p:Po} {a b c:NS} (ha:av a false=true) (hb:av b false=true) (hc:av c false=true) {n:ByteArray} (hn:idB n=true):LnS {Stm.zero with kind:=13,op:=1,source:=a,target:=b,cls:=c,result:=n,pos:=p}:=by
 refine⟨⟨#[116,121,112,101,95,116,114,97,110,115,105,116,105,111,110]⟩,nsK a++(nsK b++kM ⟨#[58]⟩ :: (nsK c++[kN n])),⟨by decide,by decide,fun l k r hr h=>?_⟩,?_⟩
 ·obtain ⟨k',e1,e2⟩:=lC (p:=⟨0,0⟩) ha hb hc hn hr (l:=l) (k:=k) (by rw[h];simp[coK,symW,fileW,asrW])
  exact⟨_,k',e1,by rw[ay,ay] <;> rfl,e2⟩
 ·have e:bz {Stm.zero with kind:=13,op:=1,source:=a,target:=b,cls:=c,result:=n,pos:=p}=⟨#[116,121,112,101,95,116,114,97,110,115,105,116,105,111,110]⟩++(⟨#[32]⟩++(nsT a++(⟨#[32]⟩++(nsT b++(⟨#[32,58,32]⟩++(nsT c++(⟨#[32]⟩++(n)))))))):=by
   simp only[← aL]
   rfl
  rw[e]
  have h:=SB.weak (SB.app (dJ ⟨#[116,121,112,101,95,116,114,97,110,115,105,116,105,111,110]⟩ (by decide)) (SB.appF sb_sp (SB.app (bU ha) (SB.appF sb_sp (SB.app (bU hb) (SB.appF iT (SB.app (bU hc) (SB.appF sb_sp (SB.name hn)) fun _=>(aF _ (by decide)))) fun _=>(aF _ (by decide)))) fun _=>(aF _ (by decide)))) fun _=>(aF _ (by decide)))
  simpa using h
theorem pr {p:Po} {a b c:NS} (ha:av a false=true) (hb:av b false=true) (hc:av c false=true) {n:ByteArray} (hn:idB n=true):LnS {Stm.zero with kind:=13,op:=2,source:=a,target:=b,cls:=c,result:=n,pos:=p}:=by
 refine⟨⟨#[116,121,112,101,95,99,104,97,110,103,101]⟩,nsK a++(nsK b++kM ⟨#[58]⟩ :: (nsK c++[kN n])),⟨by decide,by decide,fun l k r hr h=>?_⟩,?_⟩
 ·obtain ⟨k',e1,e2⟩:=pP (p:=⟨0,0⟩) ha hb hc hn hr (l:=l) (k:=k) (by rw[h];simp[coK,symW,fileW,asrW])
  exact⟨_,k',e1,by rw[ay,ay] <;> rfl,e2⟩
 ·have e:bz {Stm.zero with kind:=13,op:=2,source:=a,target:=b,cls:=c,result:=n,pos:=p}=⟨#[116,121,112,101,95,99,104,97,110,103,101]⟩++(⟨#[32]⟩++(nsT a++(⟨#[32]⟩++(nsT b++(⟨#[32,58,32]⟩++(nsT c++(⟨#[32]⟩++(n)))))))):=by
   simp only[← aL]
   rfl
  rw[e]
  have h:=SB.weak (SB.app (dJ ⟨#[116,121,112,101,95,99,104,97,110,103,101]⟩ (by decide)) (SB.appF sb_sp (SB.app (bU ha) (SB.appF sb_sp (SB.app (bU hb) (SB.appF iT (SB.app (bU hc) (SB.appF sb_sp (SB.name hn)) fun _=>(aF _ (by decide)))) fun _=>(aF _ (by decide)))) fun _=>(aF _ (by decide)))) fun _=>(aF _ (by decide)))
  simpa using h
theorem pt {p:Po} {a b c:NS} (ha:av a false=true) (hb:av b false=true) (hc:av c false=true) {n:ByteArray} (hn:idB n=true):LnS {Stm.zero with kind:=13,op:=3,source:=a,target:=b,cls:=c,result:=n,pos:=p}:=by
 refine⟨⟨#[116,121,112,101,95,109,101,109,98,101,114]⟩,nsK a++(nsK b++kM ⟨#[58]⟩ :: (nsK c++[kN n])),⟨by decide,by decide,fun l k r hr h=>?_⟩,?_⟩
 ·obtain ⟨k',e1,e2⟩:=pQ (p:=⟨0,0⟩) ha hb hc hn hr (l:=l) (k:=k) (by rw[h];simp[coK,symW,fileW,asrW])
  exact⟨_,k',e1,by rw[ay,ay] <;> rfl,e2⟩
 ·have e:bz {Stm.zero with kind:=13,op:=3,source:=a,target:=b,cls:=c,result:=n,pos:=p}=⟨#[116,121,112,101,95,109,101,109,98,101,114]⟩++(⟨#[32]⟩++(nsT a++(⟨#[32]⟩++(nsT b++(⟨#[32,58,32]⟩++(nsT c++(⟨#[32]⟩++(n)))))))):=by
   simp only[← aL]
   rfl
  rw[e]
  have h:=SB.weak (SB.app (dJ ⟨#[116,121,112,101,95,109,101,109,98,101,114]⟩ (by decide)) (SB.appF sb_sp (SB.app (bU ha) (SB.appF sb_sp (SB.app (bU hb) (SB.appF iT (SB.app (bU hc) (SB.appF sb_sp (SB.name hn)) fun _=>(aF _ (by decide)))) fun _=>(aF _ (by decide)))) fun _=>(aF _ (by decide)))) fun _=>(aF _ (by decide)))
  simpa using h
theorem ke {p:Po} {a b c:NS} (ha:av a false=true) (hb:av b false=true) (hc:av c false=true) {n:ByteArray} (hn:idB n=true) {t:ByteArray} (ht:mj t=true) (h0:t≠⟨#[]⟩) (hq:Tk.quoB t.data.toList=true):LnS {Stm.zero with kind:=13,op:=1,source:=a,target:=b,cls:=c,result:=n,text:=t,pos:=p}:=by
 refine⟨⟨#[116,121,112,101,95,116,114,97,110,115,105,116,105,111,110]⟩,nsK a++(nsK b++kM ⟨#[58]⟩ :: (nsK c++[kN n,kS t])),⟨by decide,by decide,fun l k r hr h=>?_⟩,?_⟩
 ·obtain ⟨k',e1,e2⟩:=kk (p:=⟨0,0⟩) ha hb hc hn ht hr (l:=l) (k:=k) (by rw[h];simp[coK,symW,fileW,asrW])
  exact⟨_,k',e1,by rw[ay,ay] <;> rfl,e2⟩
 ·have e:bz {Stm.zero with kind:=13,op:=1,source:=a,target:=b,cls:=c,result:=n,text:=t,pos:=p}=⟨#[116,121,112,101,95,116,114,97,110,115,105,116,105,111,110]⟩++(⟨#[32]⟩++(nsT a++(⟨#[32]⟩++(nsT b++(⟨#[32,58,32]⟩++(nsT c++(⟨#[32]⟩++(n++(⟨#[32,34]⟩++(t++⟨#[34]⟩)))))))))):=by
   simp only[← aL]
   show(if t=⟨#[]⟩ then _ else _)=_
   rw[if_neg h0]
   simp only[← aL]
   rfl
  rw[e]
  have h:=SB.weak (SB.app (dJ ⟨#[116,121,112,101,95,116,114,97,110,115,105,116,105,111,110]⟩ (by decide)) (SB.appF sb_sp (SB.app (bU ha) (SB.appF sb_sp (SB.app (bU hb) (SB.appF iT (SB.app (bU hc) (SB.appF sb_sp (SB.app (SB.name hn) (MJ hq) fun _=>(aF _ (by decide)))) fun _=>(aF _ (by decide)))) fun _=>(aF _ (by decide)))) fun _=>(aF _ (by decide)))) fun _=>(aF _ (by decide)))
  simpa using h
theorem kP {p:Po} {a b c:NS} (ha:av a false=true) (hb:av b false=true) (hc:av c false=true) {g:Rg} (hg:rgB g=true):LnS {Stm.zero with kind:=14,source:=a,target:=b,cls:=c,range:=g,pos:=p}:=by
 refine⟨⟨#[114,97,110,103,101,95,116,114,97,110,115,105,116,105,111,110]⟩,nsK a++(nsK b++kM ⟨#[58]⟩ :: (nsK c++rgK g)),⟨by decide,by decide,fun l k r hr h=>?_⟩,?_⟩
 ·obtain ⟨k',e1,e2⟩:=kQ (p:=⟨0,0⟩) ha hb hc hg hr (l:=l) (k:=k) (by rw[h];simp[coK,symW,fileW,asrW])
  exact⟨_,k',e1,by rw[ay,ay] <;> rfl,e2⟩
 ·have e:bz {Stm.zero with kind:=14,source:=a,target:=b,cls:=c,range:=g,pos:=p}=⟨#[114,97,110,103,101,95,116,114,97,110,115,105,116,105,111,110,32]⟩++(nsT a++(⟨#[32]⟩++(nsT b++(⟨#[32,58,32]⟩++(nsT c++(⟨#[32]⟩++(rgT g))))))):=by
   simp only[← aL]
   rfl
  rw[e]
  have h:=SB.weak (SB.appF (fB (w:=⟨#[114,97,110,103,101,95,116,114,97,110,115,105,116,105,111,110]⟩) ⟨#[114,97,110,103,101,95,116,114,97,110,115,105,116,105,111,110,32]⟩ (by decide) rfl) (SB.app (bU ha) (SB.appF sb_sp (SB.app (bU hb) (SB.appF iT (SB.app (bU hc) (SB.appF sb_sp (Dv hg)) fun _=>(aF _ (by decide)))) fun _=>(aF _ (by decide)))) fun _=>(aF _ (by decide))))
  simpa using h
theorem lj {p:Po} {a b c:NS} (ha:av a false=true) (hb:av b false=true) (hc:av c false=true) {n:ByteArray} (hn:idB n=true):LnS {Stm.zero with kind:=7,source:=a,target:=b,cls:=c,result:=n,pos:=p}:=by
 refine⟨⟨#[114,111,108,101,95,116,114,97,110,115,105,116,105,111,110]⟩,nsK a++(nsK b++kM ⟨#[58]⟩ :: (nsK c++[kN n])),⟨by decide,by decide,fun l k r hr h=>?_⟩,?_⟩
 ·obtain ⟨k',e1,e2⟩:=lB (p:=⟨0,0⟩) ha hb hc hn hr (l:=l) (k:=k) (by rw[h];simp[coK,symW,fileW,asrW])
  exact⟨_,k',e1,by rw[ay,ay] <;> rfl,e2⟩
 ·have e:bz {Stm.zero with kind:=7,source:=a,target:=b,cls:=c,result:=n,pos:=p}=⟨#[114,111,108,101,95,116,114,97,110,115,105,116,105,111,110,32]⟩++(nsT a++(⟨#[32]⟩++(nsT b++(⟨#[32,58,32]⟩++(nsT c++(⟨#[32]⟩++(n))))))):=by
   simp only[← aL]
   rfl
  rw[e]
  have h:=SB.weak (SB.appF (fB (w:=⟨#[114,111,108,101,95,116,114,97,110,115,105,116,105,111,110]⟩) ⟨#[114,111,108,101,95,116,114,97,110,115,105,116,105,111,110,32]⟩ (by decide) rfl) (SB.app (bU ha) (SB.appF sb_sp (SB.app (bU hb) (SB.appF iT (SB.app (bU hc) (SB.appF sb_sp (SB.name hn)) fun _=>(aF _ (by decide)))) fun _=>(aF _ (by decide)))) fun _=>(aF _ (by decide))))
  simpa using h
theorem sH {p:Po} {a b:NS} (ha:av a false=true) (hb:av b false=true):LnS {Stm.zero with kind:=6,source:=a,target:=b,pos:=p}:=by
 refine⟨⟨#[114,111,108,101,97,108,108,111,119]⟩,nsK a++nsK b,⟨by decide,by decide,fun l k r hr h=>?_⟩,?_⟩
 ·obtain ⟨k',e1,e2⟩:=tf (p:=⟨0,0⟩) ha hb hr (l:=l) (k:=k) (by rw[h];simp[coK,symW,fileW,asrW])
  exact⟨_,k',e1,by rw[ay,ay] <;> rfl,e2⟩
 ·have e:bz {Stm.zero with kind:=6,source:=a,target:=b,pos:=p}=⟨#[114,111,108,101,97,108,108,111,119,32]⟩++(nsT a++(⟨#[32]⟩++(nsT b))):=by
   simp only[← aL]
   rfl
  rw[e]
  have h:=SB.weak (SB.appF (fB (w:=⟨#[114,111,108,101,97,108,108,111,119]⟩) ⟨#[114,111,108,101,97,108,108,111,119,32]⟩ (by decide) rfl) (SB.app (bU ha) (SB.appF sb_sp (bU hb)) fun _=>(aF _ (by decide))))
  simpa using h
theorem sj {p:Po} {a b:NS} (ha:av a false=true) (hb:av b false=true) {e:Ex} (he:fy e false=true):LnS {Stm.zero with kind:=15,cls:=a,perms:=b,cond:=e,pos:=p}:=by
 refine⟨⟨#[99,111,110,115,116,114,97,105,110]⟩,nsK a++(nsK b++exK e),⟨by decide,by decide,fun l k r hr h=>?_⟩,?_⟩
 ·obtain ⟨k',e1,e2⟩:=td (p:=⟨0,0⟩) ha hb he hr (l:=l) (k:=k) (by rw[h];simp[coK,symW,fileW,asrW])
  exact⟨_,k',e1,by rw[ay,ay] <;> rfl,e2⟩
 ·have e:bz {Stm.zero with kind:=15,cls:=a,perms:=b,cond:=e,pos:=p}=⟨#[99,111,110,115,116,114,97,105,110,32]⟩++(nsT a++(⟨#[32]⟩++(nsT b++(⟨#[32]⟩++(exT e))))):=by
   simp only[← aL]
   rfl
  rw[e]
  have h:=SB.weak (SB.appF (fB (w:=⟨#[99,111,110,115,116,114,97,105,110]⟩) ⟨#[99,111,110,115,116,114,97,105,110,32]⟩ (by decide) rfl) (SB.app (bU ha) (SB.appF sb_sp (SB.app (bU hb) (SB.appF sb_sp (yA he)) fun _=>(aF _ (by decide)))) fun _=>(aF _ (by decide))))
  simpa using h
theorem mX {p:Po} {a:NS} (ha:av a false=true) {e:Ex} (he:fy e true=true):LnS {Stm.zero with kind:=16,cls:=a,cond:=e,pos:=p}:=by
 refine⟨⟨#[118,97,108,105,100,97,116,101,116,114,97,110,115]⟩,nsK a++exK e,⟨by decide,by decide,fun l k r hr h=>?_⟩,?_⟩
 ·obtain ⟨k',e1,e2⟩:=nd (p:=⟨0,0⟩) ha he hr (l:=l) (k:=k) (by rw[h];simp[coK,symW,fileW,asrW])
  exact⟨_,k',e1,by rw[ay,ay] <;> rfl,e2⟩
 ·have e:bz {Stm.zero with kind:=16,cls:=a,cond:=e,pos:=p}=⟨#[118,97,108,105,100,97,116,101,116,114,97,110,115,32]⟩++(nsT a++(⟨#[32]⟩++(exT e))):=by
   simp only[← aL]
   rfl
  rw[e]
  have h:=SB.weak (SB.appF (fB (w:=⟨#[118,97,108,105,100,97,116,101,116,114,97,110,115]⟩) ⟨#[118,97,108,105,100,97,116,101,116,114,97,110,115,32]⟩ (by decide) rfl) (SB.app (bU ha) (SB.appF sb_sp (yA he)) fun _=>(aF _ (by decide))))
  simpa using h
theorem uV {p:Po} {n:ByteArray} (hn:idB n=true) {xs:List ByteArray} (h0:xs≠[]) (hi:xs.all idB=true):LnS {Stm.zero with kind:=19,op:=1,name:=n,list:=xs,pos:=p}:=by
 refine⟨⟨#[114,101,113,117,105,114,101]⟩,kN ⟨#[99,108,97,115,115]⟩ :: kN n :: brK xs,⟨by decide,by decide,fun l k r hr h=>?_⟩,?_⟩
 ·obtain ⟨k',e1,e2⟩:=vk (p:=⟨0,0⟩) hn h0 hi hr (l:=l) (k:=k) (by rw[h];simp[coK,symW,fileW,asrW])
  exact⟨_,k',e1,by rw[ay,ay] <;> rfl,e2⟩
 ·have e:bz {Stm.zero with kind:=19,op:=1,name:=n,list:=xs,pos:=p}=⟨#[114,101,113,117,105,114,101,32]⟩++(⟨#[99,108,97,115,115,32]⟩++(n++(⟨#[32]⟩++(brT xs)))):=by
   simp only[← aL]
   rfl
  rw[e]
  have h:=SB.weak (SB.appF (fB (w:=⟨#[114,101,113,117,105,114,101]⟩) ⟨#[114,101,113,117,105,114,101,32]⟩ (by decide) rfl) (SB.appF (fB (w:=⟨#[99,108,97,115,115]⟩) ⟨#[99,108,97,115,115,32]⟩ (by decide) rfl) (SB.app (SB.name hn) (SB.appF sb_sp (ub h0 hi)) fun _=>(aF _ (by decide)))))
  simpa using h
theorem sy {p:Po} {xs:List ByteArray} (h0:xs≠[]) (hi:xs.all idB=true):LnS {Stm.zero with kind:=19,op:=2,list:=xs,pos:=p}:=by
 refine⟨⟨#[114,101,113,117,105,114,101]⟩,kN ⟨#[116,121,112,101]⟩ :: liK xs,⟨by decide,by decide,fun l k r hr h=>?_⟩,?_⟩
 ·obtain ⟨k',e1,e2⟩:=eX (p:=⟨0,0⟩) (i:=1) (by decide) (by decide) h0 hi hr (l:=l) (k:=k) (by rw[h];simp[coK,symW,fileW,asrW])
  exact⟨_,k',e1,by rw[ay,ay] <;> rfl,e2⟩
 ·have e:bz {Stm.zero with kind:=19,op:=2,list:=xs,pos:=p}=⟨#[114,101,113,117,105,114,101,32]⟩++(⟨#[116,121,112,101]⟩++(⟨#[32]⟩++(bC ⟨#[44,32]⟩ xs))):=by
   simp only[← aL]
   rfl
  rw[e]
  have h:=SB.weak (SB.appF (fB (w:=⟨#[114,101,113,117,105,114,101]⟩) ⟨#[114,101,113,117,105,114,101,32]⟩ (by decide) rfl) (SB.app (dJ ⟨#[116,121,112,101]⟩ (by decide)) (SB.appF sb_sp (me h0 hi)) fun _=>(aF _ (by decide))))
  simpa using h
theorem sA {p:Po} {xs:List ByteArray} (h0:xs≠[]) (hi:xs.all idB=true):LnS {Stm.zero with kind:=19,op:=3,list:=xs,pos:=p}:=by
 refine⟨⟨#[114,101,113,117,105,114,101]⟩,kN ⟨#[97,116,116,114,105,98,117,116,101]⟩ :: liK xs,⟨by decide,by decide,fun l k r hr h=>?_⟩,?_⟩
 ·obtain ⟨k',e1,e2⟩:=eX (p:=⟨0,0⟩) (i:=2) (by decide) (by decide) h0 hi hr (l:=l) (k:=k) (by rw[h];simp[coK,symW,fileW,asrW])
  exact⟨_,k',e1,by rw[ay,ay] <;> rfl,e2⟩
 ·have e:bz {Stm.zero with kind:=19,op:=3,list:=xs,pos:=p}=⟨#[114,101,113,117,105,114,101,32]⟩++(⟨#[97,116,116,114,105,98,117,116,101]⟩++(⟨#[32]⟩++(bC ⟨#[44,32]⟩ xs))):=by
   simp only[← aL]
   rfl
  rw[e]
  have h:=SB.weak (SB.appF (fB (w:=⟨#[114,101,113,117,105,114,101]⟩) ⟨#[114,101,113,117,105,114,101,32]⟩ (by decide) rfl) (SB.app (dJ ⟨#[97,116,116,114,105,98,117,116,101]⟩ (by decide)) (SB.appF sb_sp (me h0 hi)) fun _=>(aF _ (by decide))))
  simpa using h
theorem sC {p:Po} {xs:List ByteArray} (h0:xs≠[]) (hi:xs.all idB=true):LnS {Stm.zero with kind:=19,op:=4,list:=xs,pos:=p}:=by
 refine⟨⟨#[114,101,113,117,105,114,101]⟩,kN ⟨#[114,111,108,101]⟩ :: liK xs,⟨by decide,by decide,fun l k r hr h=>?_⟩,?_⟩
 ·obtain ⟨k',e1,e2⟩:=eX (p:=⟨0,0⟩) (i:=3) (by decide) (by decide) h0 hi hr (l:=l) (k:=k) (by rw[h];simp[coK,symW,fileW,asrW])
  exact⟨_,k',e1,by rw[ay,ay] <;> rfl,e2⟩
 ·have e:bz {Stm.zero with kind:=19,op:=4,list:=xs,pos:=p}=⟨#[114,101,113,117,105,114,101,32]⟩++(⟨#[114,111,108,101]⟩++(⟨#[32]⟩++(bC ⟨#[44,32]⟩ xs))):=by
   simp only[← aL]
   rfl
  rw[e]
  have h:=SB.weak (SB.appF (fB (w:=⟨#[114,101,113,117,105,114,101]⟩) ⟨#[114,101,113,117,105,114,101,32]⟩ (by decide) rfl) (SB.app (dJ ⟨#[114,111,108,101]⟩ (by decide)) (SB.appF sb_sp (me h0 hi)) fun _=>(aF _ (by decide))))
  simpa using h
theorem sD {p:Po} {xs:List ByteArray} (h0:xs≠[]) (hi:xs.all idB=true):LnS {Stm.zero with kind:=19,op:=5,list:=xs,pos:=p}:=by
 refine⟨⟨#[114,101,113,117,105,114,101]⟩,kN ⟨#[117,115,101,114]⟩ :: liK xs,⟨by decide,by decide,fun l k r hr h=>?_⟩,?_⟩
 ·obtain ⟨k',e1,e2⟩:=eX (p:=⟨0,0⟩) (i:=4) (by decide) (by decide) h0 hi hr (l:=l) (k:=k) (by rw[h];simp[coK,symW,fileW,asrW])
  exact⟨_,k',e1,by rw[ay,ay] <;> rfl,e2⟩
 ·have e:bz {Stm.zero with kind:=19,op:=5,list:=xs,pos:=p}=⟨#[114,101,113,117,105,114,101,32]⟩++(⟨#[117,115,101,114]⟩++(⟨#[32]⟩++(bC ⟨#[44,32]⟩ xs))):=by
   simp only[← aL]
   rfl
  rw[e]
  have h:=SB.weak (SB.appF (fB (w:=⟨#[114,101,113,117,105,114,101]⟩) ⟨#[114,101,113,117,105,114,101,32]⟩ (by decide) rfl) (SB.app (dJ ⟨#[117,115,101,114]⟩ (by decide)) (SB.appF sb_sp (me h0 hi)) fun _=>(aF _ (by decide))))
  simpa using h
theorem sE {p:Po} {xs:List ByteArray} (h0:xs≠[]) (hi:xs.all idB=true):LnS {Stm.zero with kind:=19,op:=6,list:=xs,pos:=p}:=by
 refine⟨⟨#[114,101,113,117,105,114,101]⟩,kN ⟨#[98,111,111,108]⟩ :: liK xs,⟨by decide,by decide,fun l k r hr h=>?_⟩,?_⟩
 ·obtain ⟨k',e1,e2⟩:=eX (p:=⟨0,0⟩) (i:=5) (by decide) (by decide) h0 hi hr (l:=l) (k:=k) (by rw[h];simp[coK,symW,fileW,asrW])
  exact⟨_,k',e1,by rw[ay,ay] <;> rfl,e2⟩
 ·have e:bz {Stm.zero with kind:=19,op:=6,list:=xs,pos:=p}=⟨#[114,101,113,117,105,114,101,32]⟩++(⟨#[98,111,111,108]⟩++(⟨#[32]⟩++(bC ⟨#[44,32]⟩ xs))):=by
   simp only[← aL]
   rfl
  rw[e]
  have h:=SB.weak (SB.appF (fB (w:=⟨#[114,101,113,117,105,114,101]⟩) ⟨#[114,101,113,117,105,114,101,32]⟩ (by decide) rfl) (SB.app (dJ ⟨#[98,111,111,108]⟩ (by decide)) (SB.appF sb_sp (me h0 hi)) fun _=>(aF _ (by decide))))
  simpa using h
theorem sF {p:Po} {xs:List ByteArray} (h0:xs≠[]) (hi:xs.all idB=true):LnS {Stm.zero with kind:=19,op:=7,list:=xs,pos:=p}:=by
 refine⟨⟨#[114,101,113,117,105,114,101]⟩,kN ⟨#[115,101,110,115,105,116,105,118,105,116,121]⟩ :: liK xs,⟨by decide,by decide,fun l k r hr h=>?_⟩,?_⟩
 ·obtain ⟨k',e1,e2⟩:=eX (p:=⟨0,0⟩) (i:=6) (by decide) (by decide) h0 hi hr (l:=l) (k:=k) (by rw[h];simp[coK,symW,fileW,asrW])
  exact⟨_,k',e1,by rw[ay,ay] <;> rfl,e2⟩
 ·have e:bz {Stm.zero with kind:=19,op:=7,list:=xs,pos:=p}=⟨#[114,101,113,117,105,114,101,32]⟩++(⟨#[115,101,110,115,105,116,105,118,105,116,121]⟩++(⟨#[32]⟩++(bC ⟨#[44,32]⟩ xs))):=by
   simp only[← aL]
   rfl
  rw[e]
  have h:=SB.weak (SB.appF (fB (w:=⟨#[114,101,113,117,105,114,101]⟩) ⟨#[114,101,113,117,105,114,101,32]⟩ (by decide) rfl) (SB.app (dJ ⟨#[115,101,110,115,105,116,105,118,105,116,121]⟩ (by decide)) (SB.appF sb_sp (me h0 hi)) fun _=>(aF _ (by decide))))
  simpa using h
theorem sG {p:Po} {xs:List ByteArray} (h0:xs≠[]) (hi:xs.all idB=true):LnS {Stm.zero with kind:=19,op:=8,list:=xs,pos:=p}:=by
 refine⟨⟨#[114,101,113,117,105,114,101]⟩,kN ⟨#[99,97,116,101,103,111,114,121]⟩ :: liK xs,⟨by decide,by decide,fun l k r hr h=>?_⟩,?_⟩
 ·obtain ⟨k',e1,e2⟩:=eX (p:=⟨0,0⟩) (i:=7) (by decide) (by decide) h0 hi hr (l:=l) (k:=k) (by rw[h];simp[coK,symW,fileW,asrW])
  exact⟨_,k',e1,by rw[ay,ay] <;> rfl,e2⟩
 ·have e:bz {Stm.zero with kind:=19,op:=8,list:=xs,pos:=p}=⟨#[114,101,113,117,105,114,101,32]⟩++(⟨#[99,97,116,101,103,111,114,121]⟩++(⟨#[32]⟩++(bC ⟨#[44,32]⟩ xs))):=by
   simp only[← aL]
   rfl
  rw[e]
  have h:=SB.weak (SB.appF (fB (w:=⟨#[114,101,113,117,105,114,101]⟩) ⟨#[114,101,113,117,105,114,101,32]⟩ (by decide) rfl) (SB.app (dJ ⟨#[99,97,116,101,103,111,114,121]⟩ (by decide)) (SB.appF sb_sp (me h0 hi)) fun _=>(aF _ (by decide))))
  simpa using h
theorem Jf {p:Po} {n:ByteArray} (hn:idB n=true) {c:Ct} (hc:cxB c=true):LnS {Stm.zero with kind:=20,name:=n,ctx:=c,pos:=p}:=by
 refine⟨⟨#[115,105,100]⟩,kN n :: cxK c,⟨by decide,by decide,fun l k r hr h=>?_⟩,?_⟩
 ·obtain ⟨k',e1,e2⟩:=Jw (p:=⟨0,0⟩) hn hc hr (l:=l) (k:=k) (by rw[h];simp[coK,symW,fileW,asrW])
  exact⟨_,k',e1,by rw[ay,ay] <;> rfl,e2⟩
 ·have e:bz {Stm.zero with kind:=20,name:=n,ctx:=c,pos:=p}=⟨#[115,105,100,32]⟩++(n++(⟨#[32]⟩++(cxT c))):=by
   simp only[← aL]
   rfl
  rw[e]
  have h:=SB.weak (SB.appF (fB (w:=⟨#[115,105,100]⟩) ⟨#[115,105,100,32]⟩ (by decide) rfl) (SB.app (SB.name hn) (SB.appF sb_sp (qT hc)) fun _=>(aF _ (by decide))))
  simpa using h
theorem sq {p:Po} {t:ByteArray} (ht:t≠⟨#[]⟩) (hq:Tk.quoB t.data.toList=true) {c:Ct} (hc:cxB c=true):LnS {Stm.zero with kind:=21,text:=t,op:=0,ctx:=c,pos:=p}:=by
 refine⟨⟨#[102,105,108,101,99,111,110]⟩,kS t :: kN ⟨#[97,110,121]⟩ :: cxK c,⟨by decide,by decide,fun l k r hr h=>?_⟩,?_⟩
 ·obtain ⟨k',e1,e2⟩:=ic (p:=⟨0,0⟩) ht (i:=0) (by decide) hc hr (l:=l) (k:=k) (by rw[h];simp[coK,symW,fileW,asrW])
  exact⟨_,k',e1,by rw[ay,ay] <;> rfl,e2⟩
 ·have e:bz {Stm.zero with kind:=21,text:=t,op:=0,ctx:=c,pos:=p}=⟨#[102,105,108,101,99,111,110,32,34]⟩++(t++⟨#[34,32]⟩)++(⟨#[97,110,121]⟩++(⟨#[32]⟩++(cxT c))):=by
   simp only[← aL]
   rfl
  rw[e]
  have h:=SB.weak (SB.appF (vA hq) (SB.app (dJ ⟨#[97,110,121]⟩ (by decide)) (SB.appF sb_sp (qT hc)) fun _=>(aF _ (by decide))))
  simpa using h
theorem sr {p:Po} {t:ByteArray} (ht:t≠⟨#[]⟩) (hq:Tk.quoB t.data.toList=true) {c:Ct} (hc:cxB c=true):LnS {Stm.zero with kind:=21,text:=t,op:=1,ctx:=c,pos:=p}:=by
 refine⟨⟨#[102,105,108,101,99,111,110]⟩,kS t :: kN ⟨#[114,101,103,117,108,97,114]⟩ :: cxK c,⟨by decide,by decide,fun l k r hr h=>?_⟩,?_⟩
 ·obtain ⟨k',e1,e2⟩:=ic (p:=⟨0,0⟩) ht (i:=1) (by decide) hc hr (l:=l) (k:=k) (by rw[h];simp[coK,symW,fileW,asrW])
  exact⟨_,k',e1,by rw[ay,ay] <;> rfl,e2⟩
 ·have e:bz {Stm.zero with kind:=21,text:=t,op:=1,ctx:=c,pos:=p}=⟨#[102,105,108,101,99,111,110,32,34]⟩++(t++⟨#[34,32]⟩)++(⟨#[114,101,103,117,108,97,114]⟩++(⟨#[32]⟩++(cxT c))):=by
   simp only[← aL]
   rfl
  rw[e]
  have h:=SB.weak (SB.appF (vA hq) (SB.app (dJ ⟨#[114,101,103,117,108,97,114]⟩ (by decide)) (SB.appF sb_sp (qT hc)) fun _=>(aF _ (by decide))))
  simpa using h
theorem su {p:Po} {t:ByteArray} (ht:t≠⟨#[]⟩) (hq:Tk.quoB t.data.toList=true) {c:Ct} (hc:cxB c=true):LnS {Stm.zero with kind:=21,text:=t,op:=2,ctx:=c,pos:=p}:=by
 refine⟨⟨#[102,105,108,101,99,111,110]⟩,kS t :: kN ⟨#[100,105,114,101,99,116,111,114,121]⟩ :: cxK c,⟨by decide,by decide,fun l k r hr h=>?_⟩,?_⟩
 ·obtain ⟨k',e1,e2⟩:=ic (p:=⟨0,0⟩) ht (i:=2) (by decide) hc hr (l:=l) (k:=k) (by rw[h];simp[coK,symW,fileW,asrW])
  exact⟨_,k',e1,by rw[ay,ay] <;> rfl,e2⟩
 ·have e:bz {Stm.zero with kind:=21,text:=t,op:=2,ctx:=c,pos:=p}=⟨#[102,105,108,101,99,111,110,32,34]⟩++(t++⟨#[34,32]⟩)++(⟨#[100,105,114,101,99,116,111,114,121]⟩++(⟨#[32]⟩++(cxT c))):=by
   simp only[← aL]
   rfl
  rw[e]
  have h:=SB.weak (SB.appF (vA hq) (SB.app (dJ ⟨#[100,105,114,101,99,116,111,114,121]⟩ (by decide)) (SB.appF sb_sp (qT hc)) fun _=>(aF _ (by decide))))
  simpa using h
theorem sv {p:Po} {t:ByteArray} (ht:t≠⟨#[]⟩) (hq:Tk.quoB t.data.toList=true) {c:Ct} (hc:cxB c=true):LnS {Stm.zero with kind:=21,text:=t,op:=3,ctx:=c,pos:=p}:=by
 refine⟨⟨#[102,105,108,101,99,111,110]⟩,kS t :: kN ⟨#[108,105,110,107]⟩ :: cxK c,⟨by decide,by decide,fun l k r hr h=>?_⟩,?_⟩
 ·obtain ⟨k',e1,e2⟩:=ic (p:=⟨0,0⟩) ht (i:=3) (by decide) hc hr (l:=l) (k:=k) (by rw[h];simp[coK,symW,fileW,asrW])
  exact⟨_,k',e1,by rw[ay,ay] <;> rfl,e2⟩
 ·have e:bz {Stm.zero with kind:=21,text:=t,op:=3,ctx:=c,pos:=p}=⟨#[102,105,108,101,99,111,110,32,34]⟩++(t++⟨#[34,32]⟩)++(⟨#[108,105,110,107]⟩++(⟨#[32]⟩++(cxT c))):=by
   simp only[← aL]
   rfl
  rw[e]
  have h:=SB.weak (SB.appF (vA hq) (SB.app (dJ ⟨#[108,105,110,107]⟩ (by decide)) (SB.appF sb_sp (qT hc)) fun _=>(aF _ (by decide))))
  simpa using h
theorem sw {p:Po} {t:ByteArray} (ht:t≠⟨#[]⟩) (hq:Tk.quoB t.data.toList=true) {c:Ct} (hc:cxB c=true):LnS {Stm.zero with kind:=21,text:=t,op:=4,ctx:=c,pos:=p}:=by
 refine⟨⟨#[102,105,108,101,99,111,110]⟩,kS t :: kN ⟨#[115,111,99,107,101,116]⟩ :: cxK c,⟨by decide,by decide,fun l k r hr h=>?_⟩,?_⟩
 ·obtain ⟨k',e1,e2⟩:=ic (p:=⟨0,0⟩) ht (i:=4) (by decide) hc hr (l:=l) (k:=k) (by rw[h];simp[coK,symW,fileW,asrW])
  exact⟨_,k',e1,by rw[ay,ay] <;> rfl,e2⟩
 ·have e:bz {Stm.zero with kind:=21,text:=t,op:=4,ctx:=c,pos:=p}=⟨#[102,105,108,101,99,111,110,32,34]⟩++(t++⟨#[34,32]⟩)++(⟨#[115,111,99,107,101,116]⟩++(⟨#[32]⟩++(cxT c))):=by
   simp only[← aL]
   rfl
  rw[e]
  have h:=SB.weak (SB.appF (vA hq) (SB.app (dJ ⟨#[115,111,99,107,101,116]⟩ (by decide)) (SB.appF sb_sp (qT hc)) fun _=>(aF _ (by decide))))
  simpa using h
theorem qA {p:Po} {a:NS} (ha:av a false=true):LnS {Stm.zero with kind:=22,source:=a,pos:=p}:=by
 refine⟨⟨#[112,101,114,109,105,115,115,105,118,101]⟩,nsK a,⟨by decide,by decide,fun l k r hr h=>?_⟩,?_⟩
 ·obtain ⟨k',e1,e2⟩:=qE (p:=⟨0,0⟩) ha hr (l:=l) (k:=k) (by rw[h];simp[coK,symW,fileW,asrW])
  exact⟨_,k',e1,by rw[ay,ay] <;> rfl,e2⟩
 ·have e:bz {Stm.zero with kind:=22,source:=a,pos:=p}=⟨#[112,101,114,109,105,115,115,105,118,101,32]⟩++(nsT a):=by
   simp only[← aL]
   rfl
  rw[e]
  have h:=SB.weak (SB.appF (fB (w:=⟨#[112,101,114,109,105,115,115,105,118,101]⟩) ⟨#[112,101,114,109,105,115,115,105,118,101,32]⟩ (by decide) rfl) (bU ha))
  simpa using h
theorem uR {p:Po} {n:ByteArray} (hn:idB n=true) {a b:NS} (ha:av a false=true) (hb:av b false=true):LnS {Stm.zero with kind:=23,name:=n,op:=1,source:=a,target:=b,pos:=p}:=by
 refine⟨⟨#[97,115,115,101,114,116]⟩,kN n :: kN ⟨#[110,111,102,108,111,119]⟩ :: (nsK a++nsK b),⟨by decide,by decide,fun l k r hr h=>?_⟩,?_⟩
 ·obtain ⟨k',e1,e2⟩:=n9 (p:=⟨0,0⟩) hn (i:=0) (by decide) ha hb hr (l:=l) (k:=k) (by rw[h];simp[coK,symW,fileW,asrW])
  exact⟨_,k',e1,by rw[ay,ay] <;> rfl,e2⟩
 ·have e:bz {Stm.zero with kind:=23,name:=n,op:=1,source:=a,target:=b,pos:=p}=⟨#[97,115,115,101,114,116,32]⟩++(n++(⟨#[32]⟩++(⟨#[110,111,102,108,111,119]⟩++(⟨#[32]⟩++(nsT a++(⟨#[32]⟩++(nsT b))))))):=by
   simp only[← aL]
   unfold bz eK fU
   simp only[← aL]
   rfl
  rw[e]
  have h:=SB.weak (SB.appF (fB (w:=⟨#[97,115,115,101,114,116]⟩) ⟨#[97,115,115,101,114,116,32]⟩ (by decide) rfl) (SB.app (SB.name hn) (SB.appF sb_sp (SB.app (dJ ⟨#[110,111,102,108,111,119]⟩ (by decide)) (SB.appF sb_sp (SB.app (bU ha) (SB.appF sb_sp (bU hb)) fun _=>(aF _ (by decide)))) fun _=>(aF _ (by decide)))) fun _=>(aF _ (by decide))))
  simpa using h
theorem uS {p:Po} {n:ByteArray} (hn:idB n=true) {a b:NS} (ha:av a false=true) (hb:av b false=true):LnS {Stm.zero with kind:=23,name:=n,op:=2,source:=a,target:=b,pos:=p}:=by
 refine⟨⟨#[97,115,115,101,114,116]⟩,kN n :: kN ⟨#[110,111,100,111,109,97,105,110]⟩ :: (nsK a++nsK b),⟨by decide,by decide,fun l k r hr h=>?_⟩,?_⟩
 ·obtain ⟨k',e1,e2⟩:=n9 (p:=⟨0,0⟩) hn (i:=1) (by decide) ha hb hr (l:=l) (k:=k) (by rw[h];simp[coK,symW,fileW,asrW])
  exact⟨_,k',e1,by rw[ay,ay] <;> rfl,e2⟩
 ·have e:bz {Stm.zero with kind:=23,name:=n,op:=2,source:=a,target:=b,pos:=p}=⟨#[97,115,115,101,114,116,32]⟩++(n++(⟨#[32]⟩++(⟨#[110,111,100,111,109,97,105,110]⟩++(⟨#[32]⟩++(nsT a++(⟨#[32]⟩++(nsT b))))))):=by
   simp only[← aL]
   unfold bz eK fU
   simp only[← aL]
   rfl
  rw[e]
  have h:=SB.weak (SB.appF (fB (w:=⟨#[97,115,115,101,114,116]⟩) ⟨#[97,115,115,101,114,116,32]⟩ (by decide) rfl) (SB.app (SB.name hn) (SB.appF sb_sp (SB.app (dJ ⟨#[110,111,100,111,109,97,105,110]⟩ (by decide)) (SB.appF sb_sp (SB.app (bU ha) (SB.appF sb_sp (bU hb)) fun _=>(aF _ (by decide)))) fun _=>(aF _ (by decide)))) fun _=>(aF _ (by decide))))
  simpa using h
theorem uT {p:Po} {n:ByteArray} (hn:idB n=true) {a b:NS} (ha:av a false=true) (hb:av b false=true):LnS {Stm.zero with kind:=23,name:=n,op:=3,source:=a,target:=b,pos:=p}:=by
 refine⟨⟨#[97,115,115,101,114,116]⟩,kN n :: kN ⟨#[115,101,112,97,114,97,116,101]⟩ :: (nsK a++nsK b),⟨by decide,by decide,fun l k r hr h=>?_⟩,?_⟩
 ·obtain ⟨k',e1,e2⟩:=n9 (p:=⟨0,0⟩) hn (i:=2) (by decide) ha hb hr (l:=l) (k:=k) (by rw[h];simp[coK,symW,fileW,asrW])
  exact⟨_,k',e1,by rw[ay,ay] <;> rfl,e2⟩
 ·have e:bz {Stm.zero with kind:=23,name:=n,op:=3,source:=a,target:=b,pos:=p}=⟨#[97,115,115,101,114,116,32]⟩++(n++(⟨#[32]⟩++(⟨#[115,101,112,97,114,97,116,101]⟩++(⟨#[32]⟩++(nsT a++(⟨#[32]⟩++(nsT b))))))):=by
   simp only[← aL]
   unfold bz eK fU
   simp only[← aL]
   rfl
  rw[e]
  have h:=SB.weak (SB.appF (fB (w:=⟨#[97,115,115,101,114,116]⟩) ⟨#[97,115,115,101,114,116,32]⟩ (by decide) rfl) (SB.app (SB.name hn) (SB.appF sb_sp (SB.app (dJ ⟨#[115,101,112,97,114,97,116,101]⟩ (by decide)) (SB.appF sb_sp (SB.app (bU ha) (SB.appF sb_sp (bU hb)) fun _=>(aF _ (by decide)))) fun _=>(aF _ (by decide)))) fun _=>(aF _ (by decide))))
  simpa using h
end Am
end Go.Proofs.YtkpodagbefnebaaGreatDoor
