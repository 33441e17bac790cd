import Derived.Test.YtkpodagbefnebaaGreatDoorYh17
set_option linter.unusedSimpArgs false
set_option linter.unusedVariables false
set_option linter.unusedSectionVars false
namespace Go.Proofs.YtkpodagbefnebaaGreatDoor
namespace Am
open Tk Go.RowKit
set_option maxRecDepth 100000
set_option maxHeartbeats 4000000
theorem yb (t:Option Nat) (l:List Stm):(V.c (.lst t 55 (l.map stC))).un= .c (.lst none 55 (l.map stC)):=by simp only[V.un,C.un,unA]
theorem D8 (d:Nat→Bool) {t:Nat} (l:List Stm) (h:d t=true):V.ok d (.c (.lst (some t) 55 (l.map stC)))=true:=by
 show(d t&&bB d (l.map stC))=true
 rw[h,bW l fun x _=>fS d x];rfl
section
variable {l:List Tok} {cnd:List Tok→Except Fa (Ex×Nat)}
theorem DR (hf:Fine l) {n d:Nat} (ih:∀ m,m<n→∀ (k:Ix l) (c:Nat),4*(l.length - k.1)+1≤m→MX Tryz.prog 109 [(0,psO k c d)] [.c (.ptr 0 0)] (cX cnd m d k c) (fun s=>.agg (stC s)) (fun b=>[(0,psO b.1 b.2 d)]) pvS) {k:Ix l} {c:Nat} (hn:4*(l.length - k.1)+6≤n) :
 MX Tryz.prog 51 [(0,psO k c d)] [.c (.ptr 0 0)] (cy cnd n d [] k c) (fun s=>.c (.lst none 55 (s.map stC))) (fun b=>[(0,psO b.1 b.2 d)]) pvS:=by
 have hl:=hf.le
 have hk:=k.2
 generalize hsp:cy cnd n d [] k c=sp
 refine MXA (fn:=Tryz.f51) Tryz.call51 Tryz.func51 rfl Tryz.ntmps51 Tryz.results51 rfl rfl ?_
 repeat'(first|(with_reducible first|apply AW.seq|apply AW.block|apply ae|apply y_e|refine ah ?_)|((with_reducible apply ak);refine t_v AS.v ?_)|fail)
 refine yT stC 3 1002 69 55 rfl rfl ?_
 refine AW.loop (fun m σ=>∃ (acc:List Stm) (k':Ix l) (c':Nat),m≤n∧cy cnd m d acc k' c'=sp∧4*(l.length - k'.1)+6≤m∧acc.length≤k'.1∧σ=mk [(3,.c (.lst (some 1002) 55 (acc.map stC))),(0,.c (.ptr 0 0))] [(1002,.row 69 55 acc.length),(0,psO k' c' d)]) n ?_ ?_
 ·exact⟨_,wkA,[],k,c,Nat.le_refl _,hsp,hn,Nat.zero_le _,rfl⟩
 clear hsp hn hk
 rintro m σ ⟨acc,k',c',hmn,hm,hm2,ha,rfl⟩
 subst hm
 have hk':=k'.2
 obtain ⟨m,rfl⟩:∃ n,m=n+1:=⟨m - 1,by omega⟩
 have st:=ih m (by omega) k' c' (by omega)
 repeat'(first|(with_reducible first|apply AW.seq|apply AW.block|apply AW.skip|apply AW.ret|apply AW.exit|apply ae|apply aJ|apply aE|apply aw|apply aW|apply cf|apply y_e|refine ah ?_)|((with_reducible apply ak);first|refine t_v AS.v ?_|refine t_v (by exact bn (hP:=cw)) ?_|refine t_w AS.w ?_|refine bG (hP:=st) (k1:=fun x k h=>?_) (k2:=fun e h σx=>?_))|((with_reducible apply bc);first|refine t_m (hs:=fun hg=>AS.v) (k:=?_)|refine t_m (hs:=fun hg=>(by exact bn (hP:=sJ _))) (k:=?_))|((with_reducible refine au ?_);((refine aj (fun hc=>?_) (fun hc=>?_))))|((with_reducible refine bo ?_);first|(with_reducible refine aY ?_)|refine l_1 (k:=?_))|fail)
 ·have hno:¬((tk k').kind=0∨(0<d∧isM ⟨#[125]⟩ k'=true)):=by
   intro hh
   rcases hh with hh|⟨h1,h2⟩
   ·simp[hh] at hc
   ·have h1:(0:Int)<d:=by omega
    simp[h1,h2] at hc
    omega
  obtain ⟨k1,c1⟩:=k
  have hlt:=(kH hf cnd m).1 h
  have hk1:=k1.2
  exact⟨m,_,Nat.lt_succ_self m,wkA,acc++[x],k1,c1,by omega,by rw[cy,if_neg hno,h];rfl,by omega,by simp;omega,rfl⟩
 ·have hno:¬((tk k').kind=0∨(0<d∧isM ⟨#[125]⟩ k'=true)):=by
   intro hh
   rcases hh with hh|⟨h1,h2⟩
   ·simp[hh] at hc
   ·have h1:(0:Int)<d:=by omega
    simp[h1,h2] at hc
    omega
  rw[cy,if_neg hno,h];rfl
 ·have hyes:((tk k').kind=0∨(0<d∧isM ⟨#[125]⟩ k'=true)):=by
   by_cases h0:(tk k').kind=0
   ·exact .inl h0
   ·simp[h0] at hc
    exact .inr ⟨by omega,hc.2⟩
  exact⟨acc,(k',c'),by rw[cy,if_pos hyes],yb _ _,aD rfl⟩
theorem BI (hf:Fine l) {n d:Nat} (hd:d≤12) (ih:∀ (k:Ix l) (c:Nat),4*(l.length - k.1)+6≤n→MX Tryz.prog 51 [(0,psO k c ((d+1:Nat):Int))] [.c (.ptr 0 0)] (cy cnd n (d+1) [] k c) (fun s=>.c (.lst none 55 (s.map stC))) (fun b=>[(0,psO b.1 b.2 ((d+1:Nat):Int))]) pvS) {k:Ix l} {c:Nat} (hn:4*(l.length - k.1)+3≤n+1) :
 MX Tryz.prog 248 [(0,psO k c d)] [.c (.ptr 0 0)] (cK cnd (n+1) d k c) (fun s=>.c (.lst none 55 (s.map stC))) (fun b=>[(0,psO b.1 b.2 d)]) pvS:=by
 have hl:=hf.le
 have hk:=k.2
 have ed:((d:Nat):Int)+1=((d+1:Nat):Int):=rfl
 refine MXA (fn:=Tryz.f248) Tryz.call248 Tryz.func248 rfl Tryz.ntmps248 Tryz.results248 rfl rfl ?_
 repeat'((fail_if_success (with_reducible refine ct 3 ?_));(first|(with_reducible first|apply AW.seq|apply ae|apply aE|apply y_e|refine ah ?_)|((with_reducible apply ak);first|refine t_v AS.v ?_|refine bG (hP:=jA hf _) (k1:=fun x k h=>?_) (k2:=fun e h σx=>?_))|((with_reducible apply aV);refine t_s AS.s ?_)|((with_reducible refine bo ?_);(with_reducible refine aY ?_))|fail))
 ·rename_i k0
  have hk:=k.2
  have e1:=(eU hf h).2
  have st:=ih k c (by omega)
  simp only[ed]
  clear ed
  have ed:((d+1:Nat):Int) - 1=(d:Int):=by omega
  have eb:cK cnd (n+1) d k0 c=if isM ⟨#[125]⟩ k then .error (flt 9 (tk k)) else cy cnd n (d+1) [] k c>>=fun x=>eD ⟨#[125]⟩ x.2.1>>=fun y=>.ok (x.1,(y.2,x.2.2)):=by rw[cK,h];rfl
  rw[eb]
  clear eb h
  repeat'((fail_if_success (with_reducible refine ct 7 ?_));(first|(with_reducible first|apply AW.seq|apply AW.skip|apply ae|apply aE|apply y_e|refine ah ?_)|((with_reducible apply ak);first|refine t_v AS.v ?_|refine t_v (by first|exact bn (hP:=sJ _)|exact bn (hP:=cw)) ?_|refine bG (hP:=st) (k1:=fun x k h=>?_) (k2:=fun e h σx=>?_)|refine t_q (hP:=eH _ _) (k:=fun σx=>?_))|((with_reducible apply aV);refine t_s AS.s ?_)|((with_reducible refine au ?_);((refine aj (fun hc=>?_) (fun hc=>?_))))|((with_reducible refine bo ?_);(with_reducible refine aY ?_))|fail))
  ·rw[if_pos hc]
  ·obtain ⟨k2,c2⟩:=k
   simp only[ed]
   clear ed
   rename_i k1
   rw[hc,h]
   clear e1 st hk
   repeat'(first|(with_reducible first|apply AW.seq|apply AW.ret|apply ae|apply aE|apply y_e|refine ah ?_)|((with_reducible apply ak);first|refine t_v AS.v ?_|refine bG (hP:=jA hf _) (k1:=fun x k h=>?_) (k2:=fun e h σx=>?_))|((with_reducible refine bo ?_);first|(with_reducible refine aY ?_)|refine l_1 (k:=?_))|fail)
   ·rename_i h2 _ _
    exact⟨_,(_,_),by simp only[Bool.false_eq_true,if_false,aa];rw[h];rfl,yb _ _,aD rfl⟩
   ·simp only[Bool.false_eq_true,if_false,aa];rw[h];rfl
  ·rw[hc,h];rfl
 ·rw[cK,h];rfl
theorem zJ (hf:Fine l) (hq:CndOk l cnd) {n d:Nat} (ih:∀ (k:Ix l) (c:Nat),4*(l.length - k.1)+3≤n→MX Tryz.prog 248 [(0,psO k c d)] [.c (.ptr 0 0)] (cK cnd n d k c) (fun s=>.c (.lst none 55 (s.map stC))) (fun b=>[(0,psO b.1 b.2 d)]) pvS) {k:Ix l} {c:Nat} (hn:4*(l.length - k.1)+4≤n+1) (s:Stm) (i:Bool) :
 MX Tryz.prog 181 [(0,psO k c d),(1001,stO s)] [.c (.ptr 0 0),.c (.ptr 1001 0),.c (sB i)] (cq cnd (n+1) d i s k c) (fun _=>.tup []) (fun b=>[(0,psO b.2.1 b.2.2 d),(1001,stO b.1)]) pvS:=by
 have hl:=hf.le
 have hk:=k.2
 have cx:=uo (k:=k) (c:=(c:Int)) (d:=(d:Int)) hf (hq.run k) (hq.ok k) (hq.no k)
 cases i with
 |true=>
  refine MXA (fn:=Tryz.f181) Tryz.call181 Tryz.func181 rfl Tryz.ntmps181 Tryz.results181 rfl rfl ?_
  repeat'((fail_if_success (with_reducible refine ct 4 ?_));(first|(with_reducible first|apply AW.seq|apply ae|apply aE|apply y_e|refine ah ?_)|((with_reducible apply ak);first|refine t_v AS.v ?_|refine bG (hP:=cx) (k1:=fun x k h=>?_) (k2:=fun e h σx=>?_))|((with_reducible apply aV);refine t_s AS.s ?_)|((with_reducible refine au ?_);refine cF ?_)|((with_reducible refine bo ?_);(with_reducible refine aY ?_))|fail))
  ·rename_i k0
   have hk:=k.2
   have e1:=um h
   have st:=ih k c (by omega)
   have eb:cq cnd (n+1) d true s k0 c=cK cnd n d k c>>=fun z=>if isW ⟨#[101,108,115,101]⟩ z.2.1 then cK cnd n d (nx z.2.1) z.2.2>>=fun u=>.ok ((),({s with kind:=17,cond:=x,thn:=z.1,els:=u.1},u.2)) else .ok ((),({s with kind:=17,cond:=x,thn:=z.1},z.2)):=by rw[cq,if_pos rfl,h];rfl
   rw[eb]
   clear eb h cx
   repeat'((fail_if_success (with_reducible refine ct 5 ?_));(first|(with_reducible first|apply AW.seq|apply AW.skip|apply ae|apply aE|apply y_e|refine ah ?_)|((with_reducible apply ak);first|refine t_v AS.v ?_|refine bG (hP:=st) (k1:=fun x k h=>?_) (k2:=fun e h σx=>?_))|((with_reducible apply aV);refine t_s AS.s ?_)|((with_reducible refine au ?_);refine cj ?_)|((with_reducible refine bo ?_);(with_reducible refine aY ?_))|fail))
   ·obtain ⟨k1,c1⟩:=k
    have e2:=(kH hf cnd n).2.2.1 h
    rw[h]
    clear h
    have a1:=(du (k:=k1) (c:=(c1:Int)) (d:=(d:Int)) hf ⟨#[101,108,115,101]⟩).ok _ _ rfl
    cases hb:isW ⟨#[101,108,115,101]⟩ k1 with
    |true=>
     rw[hb] at a1
     have a1:MNL _ _ _ _ _ [(0,psO (nx k1) c1 d)]:=a1
     have e3:=iA hf hb
     have hk1:=(nx k1).2
     have st2:=ih (nx k1) c1 (by omega)
     repeat'(first|(with_reducible first|apply AW.seq|apply ae|apply y_e|refine ah ?_)|((with_reducible apply ak);first|refine t_v AS.v ?_|refine t_w (by exact ch (hP:=a1)) ?_|refine bG (hP:=st2) (k1:=fun x k h=>?_) (k2:=fun e h σx=>?_))|((with_reducible apply aV);refine t_s AS.s ?_)|((with_reducible refine au ?_);refine cF ?_)|((with_reducible refine bo ?_);first|(with_reducible refine aY ?_)|refine qx (k:=?_))|fail)
     ·exact⟨(),(_,(_,_)),by rw[aa];refine(if_pos hb).trans ?_;rw[h];rfl,rfl,aD rfl,aD rfl⟩
     ·rw[aa];refine(if_pos hb).trans ?_;rw[h];rfl
    |false=>
     have hb':¬ isW ⟨#[101,108,115,101]⟩ k1=true:=by rw[hb];decide
     rw[hb] at a1
     have a1:MNL _ _ _ _ _ [(0,psO k1 c1 d)]:=a1
     repeat'(first|(with_reducible first|apply AW.seq|apply AW.skip|apply ae|apply y_e|refine ah ?_)|((with_reducible apply ak);first|refine t_v AS.v ?_|refine t_w (by exact ch (hP:=a1)) ?_)|((with_reducible refine au ?_);refine cj ?_)|((with_reducible refine bo ?_);refine qx (k:=?_))|fail)
     exact⟨(),(_,(_,_)),by rw[aa];exact if_neg hb',rfl,aD rfl,aD rfl⟩
   ·rw[h];rfl
  ·rw[cq,if_pos rfl,h];rfl
 |false=>
  have st:=ih k c (by omega)
  have eb:cq cnd (n+1) d false s k c=cK cnd n d k c>>=fun z=>if isW ⟨#[101,108,115,101]⟩ z.2.1 then cK cnd n d (nx z.2.1) z.2.2>>=fun u=>.ok ((),({s with kind:=18,thn:=z.1,els:=u.1},u.2)) else .ok ((),({s with kind:=18,thn:=z.1},z.2)):=by rw[cq,if_neg (by decide)];rfl
  rw[eb]
  clear eb cx
  refine MXA (fn:=Tryz.f181) Tryz.call181 Tryz.func181 rfl Tryz.ntmps181 Tryz.results181 rfl rfl ?_
  repeat'((fail_if_success (with_reducible refine ct 5 ?_));(first|(with_reducible first|apply AW.seq|apply AW.skip|apply ae|apply aE|apply y_e|refine ah ?_)|((with_reducible apply ak);first|refine t_v AS.v ?_|refine bG (hP:=st) (k1:=fun x k h=>?_) (k2:=fun e h σx=>?_))|((with_reducible apply aV);refine t_s AS.s ?_)|((with_reducible refine au ?_);refine cj ?_)|((with_reducible refine bo ?_);(with_reducible refine aY ?_))|fail))
  ·obtain ⟨k1,c1⟩:=k
   have e2:=(kH hf cnd n).2.2.1 h
   rw[h]
   clear h
   have a1:=(du (k:=k1) (c:=(c1:Int)) (d:=(d:Int)) hf ⟨#[101,108,115,101]⟩).ok _ _ rfl
   cases hb:isW ⟨#[101,108,115,101]⟩ k1 with
   |true=>
    rw[hb] at a1
    have a1:MNL _ _ _ _ _ [(0,psO (nx k1) c1 d)]:=a1
    have e3:=iA hf hb
    have hk1:=(nx k1).2
    have st2:=ih (nx k1) c1 (by omega)
    repeat'(first|(with_reducible first|apply AW.seq|apply ae|apply y_e|refine ah ?_)|((with_reducible apply ak);first|refine t_v AS.v ?_|refine t_w (by exact ch (hP:=a1)) ?_|refine bG (hP:=st2) (k1:=fun x k h=>?_) (k2:=fun e h σx=>?_))|((with_reducible apply aV);refine t_s AS.s ?_)|((with_reducible refine au ?_);refine cF ?_)|((with_reducible refine bo ?_);first|(with_reducible refine aY ?_)|refine qx (k:=?_))|fail)
    ·exact⟨(),(_,(_,_)),by rw[aa];refine(if_pos hb).trans ?_;rw[h];rfl,rfl,aD rfl,aD rfl⟩
    ·rw[aa];refine(if_pos hb).trans ?_;rw[h];rfl
   |false=>
    have hb':¬ isW ⟨#[101,108,115,101]⟩ k1=true:=by rw[hb];decide
    rw[hb] at a1
    have a1:MNL _ _ _ _ _ [(0,psO k1 c1 d)]:=a1
    repeat'(first|(with_reducible first|apply AW.seq|apply AW.skip|apply ae|apply y_e|refine ah ?_)|((with_reducible apply ak);first|refine t_v AS.v ?_|refine t_w (by exact ch (hP:=a1)) ?_)|((with_reducible refine au ?_);refine cj ?_)|((with_reducible refine bo ?_);refine qx (k:=?_))|fail)
    exact⟨(),(_,(_,_)),by rw[aa];exact if_neg hb',rfl,aD rfl,aD rfl⟩
  ·rw[h];rfl
variable (l cnd) in
structure SX (n:Nat):Prop where
 st:∀ (d:Nat) (k:Ix l) (c:Nat),d≤12→4*(l.length - k.1)+1≤n→MX Tryz.prog 109 [(0,psO k c d)] [.c (.ptr 0 0)] (cX cnd n d k c) (fun s=>.agg (stC s)) (fun b=>[(0,psO b.1 b.2 d)]) pvS
 bs:∀ (d:Nat) (k:Ix l) (c:Nat) (s:Stm) (i:Bool),d≤11→4*(l.length - k.1)+4≤n→MX Tryz.prog 181 [(0,psO k c d),(1001,stO s)] [.c (.ptr 0 0),.c (.ptr 1001 0),.c (sB i)] (cq cnd n d i s k c) (fun _=>.tup []) (fun b=>[(0,psO b.2.1 b.2.2 d),(1001,stO b.1)]) pvS
 bl:∀ (d:Nat) (k:Ix l) (c:Nat),d≤11→4*(l.length - k.1)+3≤n→MX Tryz.prog 248 [(0,psO k c d)] [.c (.ptr 0 0)] (cK cnd n d k c) (fun s=>.c (.lst none 55 (s.map stC))) (fun b=>[(0,psO b.1 b.2 d)]) pvS
 ss:∀ (d:Nat) (k:Ix l) (c:Nat),d≤12→4*(l.length - k.1)+6≤n→MX Tryz.prog 51 [(0,psO k c d)] [.c (.ptr 0 0)] (cy cnd n d [] k c) (fun s=>.c (.lst none 55 (s.map stC))) (fun b=>[(0,psO b.1 b.2 d)]) pvS
theorem DU (hf:Fine l) (hq:CndOk l cnd):∀ n m:Nat,m≤n→SX l cnd m
 |_,0,_=>⟨fun _ _ _ _ h=>absurd h (by omega),fun _ _ _ _ _ _ h=>absurd h (by omega),fun _ _ _ _ h=>absurd h (by omega),fun _ _ _ _ h=>absurd h (by omega)⟩
 |0,_+1,h=>absurd h (by omega)
 |n+1,m+1,h=>by
  have ih:=DU hf hq n
  have i0:=ih m (by omega)
  refine⟨fun d k c hd hn=>?_,fun d k c s i hd hn=>?_,fun d k c hd hn=>?_,fun d k c hd hn=>?_⟩
  ·exact H8 hf hq hd fun h1 s b h2=>i0.bs d (nx k) (c+1) s b (by omega) (by have:=hC hf h2;have:=(nx k).2;omega)
  ·exact zJ hf hq (fun k c hk=>i0.bl d k c hd hk) hn s i
  ·exact BI hf (by omega) (fun k c hk=>i0.ss (d+1) k c (by omega) hk) hn
  ·exact DR hf (fun j hj k c hk=>(ih j (by omega)).st d k c hd hk) hn
end
end Am
namespace Am
open Tk
def isK (ts:List Tok) (i:Nat) (m:ByteArray):Bool:=match ts[i]? with
 |some t=>decide (t.kind=4)&&decide (t.text=m)
 |none=>false
def nmK (ts:List Tok) (i:Nat):Option ByteArray:=match ts[i]? with
 |some t=>if t.kind=1∧idB t.text=true then some t.text else none
 |none=>none
def flK (c:Int) (ts:List Tok) (i:Nat):Fa:=⟨c,(match ts[i]? with|some t=>t.pos|none=>⟨0,0⟩),⟨#[]⟩⟩
def opK (ts:List Tok) (i:Nat) (n:Nat):Int:=
 if n=4 then(if isK ts i ⟨#[61,61]⟩=true then 6 else if isK ts i ⟨#[33,61]⟩=true then 7 else 0)
 else if n=3 then(if isK ts i ⟨#[38,38]⟩=true then 3 else 0)
 else if n=2 then(if isK ts i ⟨#[94]⟩=true then 5 else 0)
 else if n=1 then(if isK ts i ⟨#[124,124]⟩=true then 4 else 0)
 else 0
mutual
def dy (ts:List Tok):Nat→Nat→Nat→Except Fa (Ex×Nat)
 |0,i,_=>.error (flK 9 ts i)
 |f+1,i,d=>
  if isK ts i ⟨#[33]⟩=true then(if 12≤d then .error (flK 4 ts i) else dy ts f (i+1) (d+1)>>=fun x=>.ok ({Ex.zero with op:=2,kids:=[x.1]},x.2))
  else if isK ts i ⟨#[40]⟩=true then(if 12≤d then .error (flK 4 ts i) else ek ts f 1 (i+1) (d+1)>>=fun x=>if isK ts x.2 ⟨#[41]⟩=true then .ok (x.1,x.2+1) else .error (flK 9 ts x.2))
  else match nmK ts i with
  |some s=>.ok ({Ex.zero with op:=1,names:=[s]},i+1)
  |none=>.error (flK 9 ts i)
def ek (ts:List Tok):Nat→Nat→Nat→Nat→Except Fa (Ex×Nat)
 |0,_,i,_=>.error (flK 9 ts i)
 |f+1,n,i,d=>if 4<n then dy ts f i d else ek ts f (n+1) i d>>=fun x=>eP ts f n x.1 x.2 d
def eP (ts:List Tok):Nat→Nat→Ex→Nat→Nat→Except Fa (Ex×Nat)
 |0,_,_,i,_=>.error (flK 9 ts i)
 |f+1,n,e,i,d=>if opK ts i n=0 then .ok (e,i) else ek ts f (n+1) (i+1) d>>=fun x=>eP ts f n {Ex.zero with op:=opK ts i n,kids:=[e,x.1]} x.2 d
end
def tksK (ts:List Tok):Except Fa (Ex×Nat):=ek ts (8*ts.length+16) 1 0 0>>=fun x=>if 12<cD x.1 then .error (flK 4 ts 0) else .ok x
theorem sd {ts:List Tok} {i:Nat} {m:ByteArray} (h:isK ts i m=true):i<ts.length:=by
 unfold isK at h
 split at h
 ·rename_i t e;exact(List.getElem?_eq_some_iff.1 e).1
 ·cases h
theorem Ji {ts:List Tok} {i:Nat} {s:ByteArray} (h:nmK ts i=some s):i<ts.length:=by
 unfold nmK at h
 split at h
 ·rename_i t e;exact(List.getElem?_eq_some_iff.1 e).1
 ·cases h
theorem Jv {ts:List Tok} {i n:Nat} (h:opK ts i n≠0):i<ts.length:=by
 unfold opK at h
 (repeat' split at h) <;> first|exact sd (by assumption)|exact absurd rfl h
theorem lM (ts:List Tok):∀ f:Nat,(∀ {i d j:Nat} {x:Ex},dy ts f i d= .ok (x,j)→i<j∧j≤ts.length)∧(∀ {n i d j:Nat} {x:Ex},ek ts f n i d= .ok (x,j)→i<j∧j≤ts.length)∧(∀ {n i d j:Nat} {e x:Ex},i≤ts.length→eP ts f n e i d= .ok (x,j)→i≤j∧j≤ts.length)
 |0=>⟨fun h=>(by rw[dy] at h;cases h),fun h=>(by rw[ek] at h;cases h),fun _ h=>(by rw[eP] at h;cases h)⟩
 |f+1=>by
  obtain ⟨i1,i2,i3⟩:=lM ts f
  refine⟨fun {i d j x} h=>?_,fun {n i d j x} h=>?_,fun {n i d j e x} hi h=>?_⟩
  ·rw[dy] at h
   split at h
   ·split at h
    ·cases h
    ·obtain ⟨⟨y,k⟩,h1,h⟩:=aB.1 h
     have:=i1 h1
     injection h with h;injection h with _ h
     dsimp only at h;omega
   ·split at h
    ·split at h
     ·cases h
     ·obtain ⟨⟨y,k⟩,h1,h⟩:=aB.1 h
      have:=i2 h1
      dsimp only at h
      split at h
      ·rename_i hq
       have:=sd hq
       injection h with h;injection h with _ h
       omega
      ·cases h
    ·split at h
     ·rename_i s hs
      have:=Ji hs
      injection h with h;injection h with _ h
      omega
     ·cases h
  ·rw[ek] at h
   split at h
   ·exact i1 h
   ·obtain ⟨⟨y,k⟩,h1,h⟩:=aB.1 h
    have:=i2 h1
    have:=i3 (by omega) h
    dsimp only at this;omega
  ·rw[eP] at h
   split at h
   ·injection h with h;injection h with _ h;omega
   ·rename_i ho
    obtain ⟨⟨y,k⟩,h1,h⟩:=aB.1 h
    have:=i2 h1
    have:=i3 (by omega) h
    dsimp only at this;omega
end Am
end Go.Proofs.YtkpodagbefnebaaGreatDoor
