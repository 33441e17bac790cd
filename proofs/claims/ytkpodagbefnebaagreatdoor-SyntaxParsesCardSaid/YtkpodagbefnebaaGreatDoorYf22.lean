import Derived.Test.YtkpodagbefnebaaGreatDoorYf21
set_option linter.unusedSimpArgs false
set_option linter.unusedVariables false
set_option linter.unusedSectionVars false
namespace Go.Proofs.YtkpodagbefnebaaGreatDoor
namespace Am
open Tk Go.RowKit
set_option maxRecDepth 100000
set_option maxHeartbeats 4000000
section
variable [Tb] {P:Program} {ρ:Operand→Option V} {H:Nat→Option HO} {d:Option Nat} {ty:TypeId} {pos:String} {af:Array Edge} {gu:Option (Nat×Bool)} {x:Operand} {args:Array Operand} {ats:Array TypeId} {f:Nat} {us:List V}
theorem FJ {n n':NS} {o o':HO} {S:TypeId} (hx:Ev ρ x (.c (.fn f []))) (hv:EvL ρ args.toList (.c (.ptr 0 0) :: .agg (nsR 1002 1003 n) :: us)) (h0:H 0=some o) (h2:H 1002=some (.row S 1 n.names.length)) (h3:H 1003=some (.row S 1 n.except.length))
 (hP:MNL P f [(0,o),(1002,.row S 1 n.names.length),(1003,.row S 1 n.except.length)] (.c (.ptr 0 0) :: .agg (nsR 1002 1003 n) :: us) (.agg (nsR 1002 1003 n')) [(0,o'),(1002,.row S 1 n'.names.length),(1003,.row S 1 n'.except.length)]) (hok:okV noN us=true) (h1:o.one=true) (h1':o'.one=true) :
 AS P ρ H ⟨d,.call {callee:=.value x,args:=args,argTypes:=ats},ty,pos,af,gu⟩ ⟨.agg (nsR 1002 1003 n'),[(0,o'),(1002,.row S 1 n'.names.length),(1003,.row S 1 n'.except.length)],[0,1002,1003]⟩:=by
 have e0:byT []=fun n=>n:=rfl
 refine Bd (us:=.c (.ptr 0 0) :: .agg (nsR 1002 1003 n) :: us) [] hx hv hP rfl rfl ?_ ?_ ?_ ?_ rfl ?_ ?_ ?_ ?_ rfl
 ·rw[List.map_nil,List.append_nil]
  show(true&&(okL _ (nsR 1002 1003 n)&&okV _ us))=true
  rw[kI _ _ _ _ rfl rfl,lX us hok];rfl
 ·rw[List.map_nil,List.append_nil]
  show V.c (.ptr 0 0) :: V.agg (gq _ (nsR 1002 1003 n)) :: hY _ us=_
  rw[mb,lK us hok];rfl
 ·show(match H 0 with|some o=>_|none=>none)=_
  rw[h0]
  show Option.map _ (match H 1002 with|some o=>_|none=>none)=_
  rw[h2]
  show Option.map _ (Option.map _ (match H 1003 with|some o=>_|none=>none))=_
  rw[h3]
  show some [(0,o.ren _),(1002,_),(1003,_)]=_
  rw[fj h1];rfl
 ·show((match H 0 with|some o=>_|none=>false)&&((match H 1002 with|some o=>_|none=>false)&&((match H 1003 with|some o=>_|none=>false)&&true)))=true
  rw[h0,h2,h3]
  show(o.within _&&(true&&(true&&true)))=true
  rw[cR h1];rfl
 ·show(o'.within _&&(true&&(true&&true)))=true
  rw[cR h1'];rfl
 ·exact kI _ _ _ _ rfl rfl
 ·show V.agg (gq _ (nsR 1002 1003 n'))=_
  rw[mb];rfl
 ·show[(0,o'.ren _),(1002,_),(1003,_)]=_
  rw[fj h1'];rfl
theorem F1 {t ty0:Nat} {cs:List C} (hx:Ev ρ x (.c (.fn f []))) (hv:EvL ρ args.toList us) (hok:okV noN us=true) (hP:NewC P f us ty0 cs) (hn:H t=none):AS P ρ H ⟨some t,.call {callee:=.value x,args:=args,argTypes:=ats},ty,pos,af,gu⟩ ⟨.c (.ptr t 0),[(t,.obj ty0 cs)],[t]⟩:=
 .callW rfl hx hv (by rw[List.map_nil,List.append_nil];exact CvL.refl _) hok hP hn
end
section
variable [Tb] {P:Program} {ops:Array Oper} {l:List (Nat×V)} {h:List (Nat×HO)} {rest:List Oper} {fs:List FP} {K:St→List FP→Prop} {J:Value→St→List FP→List Nat→Prop} {t:Nat} {ty:TypeId} {pos:String} {af:Array Edge} {x:Operand} {args:Array Operand} {ats:Array TypeId} {f:Nat} {us:List V}
theorem xE {n n':NS} {o o':HO} {S:TypeId} (hx:Ev (evA (look l)) x (.c (.fn f [])):=by exact aC) (hv:EvL (evA (look l)) args.toList (.c (.ptr 0 0) :: .agg (nsR 1002 1003 n) :: us):=by(first|((repeat(first|exact .nil|((apply EvL.cons);(· (first|(refine .wh rfl ?_;first|assumption|(rw[hp];rfl)|(simp_all;done))|exact .pl rfl)))));done)|fail)) (h0:look h 0=some o:=by rfl) (h2:look h 1002=some (.row S 1 n.names.length):=by rfl) (h3:look h 1003=some (.row S 1 n.except.length):=by rfl)
 (hP:MNL P f [(0,o),(1002,.row S 1 n.names.length),(1003,.row S 1 n.except.length)] (.c (.ptr 0 0) :: .agg (nsR 1002 1003 n) :: us) (.agg (nsR 1002 1003 n')) [(0,o'),(1002,.row S 1 n'.names.length),(1003,.row S 1 n'.except.length)]) (hok:okV noN us=true:=by rfl) (h1:o.one=true:=by((simp[HO.one,okL,C.ok,okA];done))) (h1':o'.one=true:=by((simp[HO.one,okL,C.ok,okA];done)))
 (k:AY P ops rest (mk ((t,.agg (nsR 1002 1003 n')) :: l) ((1003,.row S 1 n'.except.length) :: (1002,.row S 1 n'.names.length) :: (0,o') :: h)) (fs++[([0,1002,1003],[0,1002,1003])]) K J):AY P ops (⟨some t,.call {callee:=.value x,args:=args,argTypes:=ats},ty,pos,af,none⟩ :: rest) (mk l h) fs K J:=
 y_x (FJ hx hv h0 h2 h3 hP hok h1 h1') rfl k
theorem Cb {ty0:Nat} {cs:List C} (hP:NewC P f us ty0 cs) (hx:Ev (evA (look l)) x (.c (.fn f [])):=by exact aC) (hv:EvL (evA (look l)) args.toList us:=by(first|((repeat(first|exact .nil|((apply EvL.cons);(· (first|(refine .wh rfl ?_;first|assumption|(rw[hp];rfl)|(simp_all;done))|exact .pl rfl)))));done)|fail)) (hok:okV noN us=true:=by first|rfl|(simp[okV,V.ok,okL,C.ok,okA];done)) (hn:look h t=none:=by rfl):AS P (evA (look l)) (look h) ⟨some t,.call {callee:=.value x,args:=args,argTypes:=ats},ty,pos,af,none⟩ ⟨.c (.ptr t 0),[(t,.obj ty0 cs)],[t]⟩:=F1 hx hv hok hP hn
theorem xx {N:List Nat} {h':Nat→Option HO} {t0 ty0 n0 off0 to0 k0:Nat} {cs0:List C} {b0:Bool} {v0 r:V} (e:one [v0]=r) (hN:∀ n∈N,look h n=h' n) (h0:Ev (evA (look l)) (.tmp t0) (.c (.ptr n0 off0)):=by exact aC) (hh0:look h n0=some (.obj to0 cs0):=by rfl) (ht0:tyi P ty0=some (k0,b0):=by exact cO rfl) (hc0:aN b0 cs0 off0 k0=some v0:=by(first|(simp only[dG];rfl)|(rw[cD _ _ _ _ _ (by(try simp only[iI]);decide)];simp only[dG,Nat.reduceAdd];rfl)|rfl)):pe P [.cell t0 ty0] N r h' .ret (mk l h):=⟨.inl rfl,hN,[v0],.cell h0 hh0 ht0 hc0 .nil,.inl e⟩
theorem hN3 {h:Nat→Option HO} {o:HO} {a b:HO} (h0:h 0=some o) (h2:h 1002=some a) (h3:h 1003=some b):∀ n∈[0,1002,1003],h n=look [(0,o),(1002,a),(1003,b)] n:=fun n hn=>by
 simp only[List.mem_cons,List.not_mem_nil,or_false] at hn
 rcases hn with rfl|rfl|rfl
 ·exact h0
 ·exact h2
 ·exact h3
end
section
variable {ρ:Operand→Option V} {H:Nat→Option HO} {d:Option Nat} {ty:TypeId} {pos:String} {af:Array Edge} {gu:Option (Nat×Bool)}
theorem hC:AS Tryz.prog ρ H ⟨d,.build 60 #[],ty,pos,af,gu⟩ ⟨.agg [sB false,sB false,sB false,.nil,.nil],[],[]⟩:=bj (zs:=[sB false,sB false,sB false,.nil,.nil]) zwN (by decide +kernel) (by kernel_rfl) (show EvP ρ _ _ from .nil) (by kernel_rfl)
end
section
variable {l:List Tok} {c:Int}
theorem ch (hf:Fine l) (k:Ix l) (f:Fa) (s:ByteArray):MNL Tryz.prog 116 [(0,qsO k f c)] [.c (.ptr 0 0),.c (sS s)] (.c (sB (okM f s k))) [(0,qsO (adv (okM f s k) k) f c)]:=(nk hf s).ok _ _ rfl
theorem fZ (hf:Fine l) (k:Ix l) (f:Fa) (s:ByteArray):MNL Tryz.prog 110 [(0,qsO k f c)] [.c (.ptr 0 0),.c (sS s)] (.c (sB (okW f s k))) [(0,qsO (adv (okW f s k) k) f c)]:=(qD hf s).ok _ _ rfl
theorem bV (hf:Fine l) (k:Ix l) (f:Fa) (s:ByteArray):MNL Tryz.prog 56 [(0,qsO k f c)] [.c (.ptr 0 0),.c (sS s)] (.tup []) [(0,qsO (aO s k f).1 (aO s k f).2 c)]:=(xL hf s).ok () _ rfl
theorem lM (hf:Fine l) (k:Ix l) (f:Fa) (s:ByteArray):MNL Tryz.prog 53 [(0,qsO k f c)] [.c (.ptr 0 0),.c (sS s)] (.tup []) [(0,qsO (iu s k f).1 (iu s k f).2 c)]:=(qO hf s).ok () _ rfl
theorem bk (hf:Fine l) (k:Ix l) (f:Fa):MNL Tryz.prog 54 [(0,qsO k f c)] [.c (.ptr 0 0)] (.c (sS (aB k f).1)) [(0,qsO (aB k f).2.1 (aB k f).2.2 c)]:=(qs hf).ok (aB k f).1 (aB k f).2 rfl
theorem cw (k:Ix l) (f:Fa) (e:Int) (t:Tok):MNL Tryz.prog 111 [(0,qsO k f c)] [.c (.ptr 0 0),.c (sI e),.agg (tkC t)] (.tup []) [(0,qsO k (bZ f e t) c)]:=(ko e t).ok () _ rfl
theorem iM (k:Ix l) (f:Fa) (s:ByteArray):Pure Tryz.prog 154 [.c (.ep (qsC ⟨l,((k.1:Nat):Int),f,c⟩)),.c (sI 4),.c (sS s)] (.c (sB (okM f s k))):=by
 have:=pL (l:=l) (k:=k) (f:=f) (c:=c) 4 s
 rwa [Bool.and_assoc] at this
theorem Ak (k:Ix l) (f:Fa) (s:ByteArray):Pure Tryz.prog 154 [.c (.ep (qsC ⟨l,((k.1:Nat):Int),f,c⟩)),.c (sI 1),.c (sS s)] (.c (sB (okW f s k))):=by
 have:=pL (l:=l) (k:=k) (f:=f) (c:=c) 1 s
 rwa [Bool.and_assoc] at this
theorem BH (k:Ix l) (f:Fa):Pure Tryz.prog 113 [.c (.ep (qsC ⟨l,((k.1:Nat):Int),f,c⟩))] (.c (sB (okN f k))):=nZ
theorem fJ {f:Fa} (k:Ix l) (h:f.code≠0):Pure Tryz.prog 115 [.c (.ep (qsC ⟨l,((k.1:Nat):Int),f,c⟩))] (.c (sB true)):=by
 have:=cM (l:=l) (k:=k) (f:=f) (c:=c)
 rwa [decide_eq_false h] at this
theorem ee {f:Fa} (k:Ix l) (h:f.code=0):Pure Tryz.prog 115 [.c (.ep (qsC ⟨l,((k.1:Nat):Int),f,c⟩))] (.c (sB false)):=by
 have:=cM (l:=l) (k:=k) (f:=f) (c:=c)
 rwa [decide_eq_true h] at this
theorem vv (hf:Fine l) (k:Ix l) (f:Fa):MX Tryz.prog 259 [(0,qsO k f c)] [.c (.ptr 0 0)] (.ok (bN k f):Except Fa (List ByteArray×(Ix l×Fa))) (fun s=>.c (bC s)) (fun b=>[(0,qsO b.1 b.2 c)]) pvS:=by
 have hl:=hf.le
 have m1:=bV (c:=c) hf k f ⟨#[123]⟩
 unfold bN
 generalize aO ⟨#[123]⟩ k f=q at *
 obtain ⟨k1,f1⟩:=q
 dsimp only at m1 ⊢
 have m2:=bk (c:=c) hf k1 f1
 have hn:=eX hf k1 f1
 unfold k8 km
 generalize aB k1 f1=q at *
 obtain ⟨x,k2,f2⟩:=q
 dsimp only at m2 hn ⊢
 refine MXA (fn:=Tryz.f259) Tryz.call259 Tryz.func259 rfl Tryz.ntmps259 Tryz.results259 rfl rfl ?_
 repeat'(first|(with_reducible first|apply AW.seq|apply AW.block|apply aa|apply y_e|refine ae ?_)|((with_reducible apply ai);first|refine t_w ng ?_|refine t_v AS.v ?_|refine t_w (by first|exact av (hP:=m1)|exact av (hP:=m2)) ?_)|fail)
 generalize hsp:dV (fuel l) [x] k2 f2=sp
 refine AW.loop (fun m σ=>∃ acc k' f',dV m acc k' f'=sp∧0<m∧(f'.code=0→l.length<m+k'.1∧acc.length≤k'.1+1)∧acc.length≤k'.1+2∧σ=mk [(3,.c (.lst (some 8) 1 (acc.map oneS))),(0,.c (.ptr 0 0))] [(8,.row 9 1 acc.length),(0,qsO k' f' c)]) (fuel l) ?_ ?_
 ·exact⟨_,wkA,[x],k2,f2,hsp,by unfold fuel;omega,fun _=>⟨by unfold fuel;omega,by simp⟩,by simp,rfl⟩
 clear hsp m1 m2 hn
 rintro m σ ⟨acc,k',f',hm,h0,hi,ha,rfl⟩
 subst hm
 have hk':=k'.2
 obtain ⟨m,rfl⟩:∃ n,m=n+1:=⟨m - 1,by omega⟩
 have is:=iM (c:=c) k' f' ⟨#[125]⟩
 have m3:=bV (c:=c) hf k' f' ⟨#[125]⟩
 rw[dV]
 by_cases hf0:f'.code=0
 ·have fa:=ee (l:=l) (c:=c) k' hf0
  have e2:(decide (f'.code=0)&& !okM f' ⟨#[125]⟩ k')= !okM f' ⟨#[125]⟩ k':=by simp[hf0]
  rw[e2]
  generalize okM f' ⟨#[125]⟩ k'=b at *
  obtain ⟨hi1,hi2⟩:=hi hf0
  cases b with
  |true=>
   rw[if_neg (by decide)]
   dsimp only
   generalize aO ⟨#[125]⟩ k' f'=q at *
   obtain ⟨k3,f3⟩:=q
   dsimp only at m3 ⊢
   repeat'(first|(with_reducible first|apply AW.seq|apply AW.ret|apply AW.exit|apply aa|apply aE|apply aH|apply y_e|refine ae ?_)|((with_reducible apply ai);first|refine t_v AS.v ?_|refine t_v (by exact az (hP:=fa)) ?_|refine t_w (by exact av (hP:=m3)) ?_)|((with_reducible apply aK);first|refine t_m (hs:=fun hg=>AS.v) (k:=?_)|refine t_m (hs:=fun hg=>(by exact az (hP:=is))) (k:=?_))|((with_reducible refine aq ?_);refine aJ ?_)|((with_reducible refine aD ?_);refine l_1 (k:=?_))|fail)
   exact⟨_,(_,_),rfl,ca _ _,ar rfl⟩
  |false=>
   rw[if_pos (show(!false)=true from rfl)]
   clear m3
   have nm:=bk (c:=c) hf k' f'
   have hn:=eX hf k' f'
   generalize aB k' f'=q at *
   obtain ⟨x,k3,f3⟩:=q
   dsimp only at nm hn ⊢
   repeat'(first|(with_reducible first|apply AW.seq|apply AW.block|apply AW.skip|apply aa|apply aw|apply y_e|refine ae ?_)|((with_reducible apply ai);first|refine t_v AS.v ?_|refine t_v (by exact az (hP:=fa)) ?_|refine t_w AS.w ?_|refine t_w (by exact av (hP:=nm)) ?_)|((with_reducible apply aK);first|refine t_m (hs:=fun hg=>AS.v) (k:=?_)|refine t_m (hs:=fun hg=>(by exact az (hP:=is))) (k:=?_))|((with_reducible refine aq ?_);refine aI ?_)|fail)
   rcases hn with⟨_,e1,e2⟩|⟨e1,e2⟩
   ·exact⟨m,_,Nat.lt_succ_self m,wkA,acc++[x],k3,f3,rfl,by have:=k3.2;omega,fun _=>⟨by omega,by simp;omega⟩,by simp;omega,rfl⟩
   ·exact⟨m,_,Nat.lt_succ_self m,wkA,acc++[x],k3,f3,rfl,by omega,fun h=>absurd h e2,by rw[e1];simp;omega,rfl⟩
 ·have fa:=fJ (l:=l) (c:=c) k' hf0
  have e2:(decide (f'.code=0)&& !okM f' ⟨#[125]⟩ k')=false:=by simp[hf0]
  rw[e2,if_neg (by decide)]
  dsimp only
  generalize aO ⟨#[125]⟩ k' f'=q at *
  obtain ⟨k3,f3⟩:=q
  dsimp only at m3 ⊢
  repeat'(first|(with_reducible first|apply AW.seq|apply AW.ret|apply AW.exit|apply aa|apply aE|apply aH|apply y_e|refine ae ?_)|((with_reducible apply ai);first|refine t_v AS.v ?_|refine t_v (by exact az (hP:=fa)) ?_|refine t_w (by exact av (hP:=m3)) ?_)|((with_reducible apply aK);refine t_f ?_)|((with_reducible refine aq ?_);refine aJ ?_)|((with_reducible refine aD ?_);refine l_1 (k:=?_))|fail)
  exact⟨_,(_,_),rfl,ca _ _,ar rfl⟩
theorem jk (hf:Fine l) (self:Bool) (n:NS) (k:Ix l) (f:Fa) (b1:n.names.length≤k.1+2) (b2:n.except.length≤k.1+2):MNL Tryz.prog 153 [(0,qsO k f c),(1002,.row 9 1 n.names.length),(1003,.row 9 1 n.except.length)] [.c (.ptr 0 0),.agg (nsR 1002 1003 n),.c (sB self)]
 (.agg (nsR 1002 1003 (cy self n k f).1)) [(0,qsO (cy self n k f).2.1 (cy self n k f).2.2 c),(1002,.row 9 1 (cy self n k f).1.names.length),(1003,.row 9 1 (cy self n k f).1.except.length)]:=by
 have hl:=hf.le
 have hk:=k.2
 have a1:=ch (c:=c) hf k f ⟨#[42]⟩
 have a2:=ch (c:=c) hf k f ⟨#[45]⟩
 have a3:=fZ (c:=c) hf k f ⟨#[115,101,108,102]⟩
 unfold cy
 cases h1:okM f ⟨#[42]⟩ k with
 |true=>
  rw[h1] at a1
  have a1:MNL _ _ _ _ _ [(0,qsO (nx k) f c)]:=a1
  rw[if_pos rfl]
  clear a2 a3
  refine MNL.of (fn:=Tryz.f153) Tryz.call153 Tryz.func153 rfl Tryz.ntmps153 Tryz.results153 rfl rfl ?_
  repeat'(first|(with_reducible first|apply AW.seq|apply AW.block|apply AW.ret|apply aa|apply aw|apply y_e|refine ae ?_)|((with_reducible apply ai);first|refine t_v AS.v ?_|refine t_w AS.w ?_|refine t_w (by exact av (hP:=a1)) ?_)|((with_reducible apply ay);refine t_s AS.s ?_)|((with_reducible refine aq ?_);refine aI ?_)|fail)
  exact xx rfl (hN3 rfl rfl rfl)
 |false=>
  rw[h1] at a1
  have a1:MNL _ _ _ _ _ [(0,qsO k f c)]:=a1
  rw[if_neg (by decide)]
  cases h2:okM f ⟨#[45]⟩ k with
  |true=>
   rw[h2] at a2
   have a2:MNL _ _ _ _ _ [(0,qsO (nx k) f c)]:=a2
   rw[if_pos rfl]
   clear a3
   have nm:=bk (c:=c) hf (nx k) f
   generalize aB (nx k) f=q at *
   obtain ⟨x,k3,f3⟩:=q
   dsimp only at nm ⊢
   refine MNL.of (fn:=Tryz.f153) Tryz.call153 Tryz.func153 rfl Tryz.ntmps153 Tryz.results153 rfl rfl ?_
   repeat'(first|(with_reducible first|apply AW.seq|apply AW.block|apply AW.ret|apply aa|apply aw|apply y_e|refine ae ?_|refine b7 ?_)|((with_reducible apply ai);first|refine t_v AS.v ?_|refine t_w AS.w ?_|refine t_w (by first|exact av (hP:=a1)|exact av (hP:=a2)|exact av (hP:=nm)) ?_)|((with_reducible apply aK);refine t_f ?_)|((with_reducible apply ay);refine t_s AS.s ?_)|((with_reducible refine aq ?_);first|refine aI ?_|refine aJ ?_)|(refine⟨by decide +kernel,?_⟩)|fail)
   all_goals first|exact absurd hg (by decide)|(refine xx (hN:=hN3 rfl rfl rfl) (e:=?_);first|rfl|(simp only[one,nsR,List.map_append,List.map_cons,List.map_nil];done)|(simp only[List.map_append,List.map_cons,List.map_nil];rfl)|trace_state)
  |false=>
   rw[h2] at a2
   have a2:MNL _ _ _ _ _ [(0,qsO k f c)]:=a2
   rw[if_neg (by decide)]
   cases h3:(self&&okW f ⟨#[115,101,108,102]⟩ k) with
   |true=>
    rw[Bool.and_eq_true] at h3
    obtain ⟨rfl,h3⟩:=h3
    rw[h3] at a3
    have a3:MNL _ _ _ _ _ [(0,qsO (nx k) f c)]:=a3
    rw[if_pos rfl]
    refine MNL.of (fn:=Tryz.f153) Tryz.call153 Tryz.func153 rfl Tryz.ntmps153 Tryz.results153 rfl rfl ?_
    repeat'(first|(with_reducible first|apply AW.seq|apply AW.block|apply AW.ret|apply aa|apply aw|apply y_e|refine ae ?_|refine b7 ?_)|((with_reducible apply ai);first|refine t_v AS.v ?_|refine t_w AS.w ?_|refine t_w (by first|exact av (hP:=a1)|exact av (hP:=a2)) ?_)|((with_reducible apply aK);first|refine t_m (hs:=fun hg=>AS.v) (k:=?_)|refine t_g (hs:=fun hg=>(by exact av (hP:=a3))) (k:=fun hg=>?_) (k0:=fun hg=>?_))|((with_reducible apply ay);refine t_s AS.s ?_)|((with_reducible refine aq ?_);first|refine aI ?_|refine aJ ?_)|((with_reducible apply Br);dsimp only[List.append])|fail)
    all_goals first|exact absurd hg (by decide)|exact xx rfl (hN3 rfl rfl rfl)
   |false=>
    rw[if_neg (by decide)]
    have nm:=bk (c:=c) hf k f
    generalize aB k f=q at *
    obtain ⟨x,k3,f3⟩:=q
    dsimp only at nm ⊢
    cases self with
    |true=>
     have h3:okW f ⟨#[115,101,108,102]⟩ k=false:=h3
     rw[h3] at a3
     have a3:MNL _ _ _ _ _ [(0,qsO k f c)]:=a3
     refine MNL.of (fn:=Tryz.f153) Tryz.call153 Tryz.func153 rfl Tryz.ntmps153 Tryz.results153 rfl rfl ?_
     repeat'(first|(with_reducible first|apply AW.seq|apply AW.block|apply AW.ret|apply aa|apply aw|apply y_e|refine ae ?_|refine b7 ?_)|((with_reducible apply ai);first|refine t_v AS.v ?_|refine t_w AS.w ?_|refine t_w (by first|exact av (hP:=a1)|exact av (hP:=a2)|exact av (hP:=nm)) ?_)|((with_reducible apply aK);first|refine t_m (hs:=fun hg=>AS.v) (k:=?_)|refine t_g (hs:=fun hg=>(by exact av (hP:=a3))) (k:=fun hg=>?_) (k0:=fun hg=>?_))|((with_reducible apply ay);refine t_s AS.s ?_)|((with_reducible refine aq ?_);refine aJ ?_)|(refine⟨by decide +kernel,?_⟩)|fail)
     all_goals first|exact absurd hg (by decide)|(refine xx (hN:=hN3 rfl rfl rfl) (e:=?_);first|rfl|(simp only[one,nsR,List.map_append,List.map_cons,List.map_nil];done)|(simp only[List.map_append,List.map_cons,List.map_nil];rfl)|trace_state)
    |false=>
     clear a3
     refine MNL.of (fn:=Tryz.f153) Tryz.call153 Tryz.func153 rfl Tryz.ntmps153 Tryz.results153 rfl rfl ?_
     repeat'(first|(with_reducible first|apply AW.seq|apply AW.block|apply AW.ret|apply aa|apply aw|apply y_e|refine ae ?_|refine b7 ?_)|((with_reducible apply ai);first|refine t_v AS.v ?_|refine t_w AS.w ?_|refine t_w (by first|exact av (hP:=a1)|exact av (hP:=a2)|exact av (hP:=nm)) ?_)|((with_reducible apply aK);refine t_f ?_)|((with_reducible apply ay);refine t_s AS.s ?_)|((with_reducible refine aq ?_);first|refine aI ?_|refine aJ ?_)|(refine⟨by decide +kernel,?_⟩)|fail)
     all_goals((refine xx (hN:=hN3 rfl rfl rfl) (e:=?_);rfl))
theorem AV (hf:Fine l) (self:Bool) (k:Ix l) (f:Fa):MX Tryz.prog 81 [(0,qsO k f c)] [.c (.ptr 0 0),.c (sB self)] (.ok (bz self k f):Except Fa (NS×(Ix l×Fa))) (fun s=>.agg (nsC s)) (fun b=>[(0,qsO b.1 b.2 c)]) pvS:=by
 have hl:=hf.le
 have hk:=k.2
 have a1:=ch (c:=c) hf k f ⟨#[126]⟩
 unfold bz
 cases h1:okM f ⟨#[126]⟩ k with
 |true=>
  rw[h1] at a1
  have a1:MNL _ _ _ _ _ [(0,qsO (nx k) f c)]:=a1
  rw[if_pos rfl]
  have an:=BH (c:=c) (nx k) f
  cases h2:okN f (nx k) with
  |true=>
   rw[h2] at an
   rw[if_pos rfl]
   have nm:=bk (c:=c) hf (nx k) f
   generalize aB (nx k) f=q at *
   obtain ⟨x,k3,f3⟩:=q
   dsimp only at nm ⊢
   refine MXA (fn:=Tryz.f81) Tryz.call81 Tryz.func81 rfl Tryz.ntmps81 Tryz.results81 rfl rfl ?_
   repeat'((fail_if_success (with_reducible refine bA 2 ?_));(first|(with_reducible first|apply AW.seq|apply aa|apply y_e|refine ae ?_)|((with_reducible apply ai);first|refine t_w gi ?_|refine t_v hC ?_)|((with_reducible apply ay);refine t_s AS.s ?_)|fail))
   refine nilRowH 5 3 1002 9 1 (cs':=[sB false,sB false,sB false,.lst (some 1002) 1 [],.nil]) rfl rfl rfl rfl ?_
   refine nilRowH 5 4 1003 9 1 (cs':=nsR 1002 1003 (ns0 false)) rfl rfl rfl rfl ?_
   repeat'(first|(with_reducible first|apply AW.seq|apply AW.ret|apply aa|apply ak|apply y_e|refine ae ?_)|((with_reducible apply ai);first|refine t_v AS.v ?_|refine t_v (by exact az (hP:=an)) ?_|refine t_w (by first|exact av (hP:=a1)|exact av (hP:=nm)) ?_)|((with_reducible apply ay);refine t_s AS.s ?_)|((with_reducible refine aq ?_);refine aI ?_)|((with_reducible refine aD ?_);refine b8 (k:=?_))|fail)
   exact⟨⟨false,true,false,[x],[]⟩,(_,_),rfl,by simp[V.un,unL,bu,C.un,unA];rfl,ar rfl⟩
  |false=>
   rw[h2] at an
   rw[if_neg (by decide)]
   have a2:=ch (c:=c) hf (nx k) f ⟨#[123]⟩
   cases h3:okM f ⟨#[123]⟩ (nx k) with
   |true=>
    rw[h3] at a2
    have a2:MNL _ _ _ _ _ [(0,qsO (nx (nx k)) f c)]:=a2
    rw[if_pos rfl]
    have el:=jk (c:=c) hf self (ns0 true) (nx (nx k)) f (Nat.zero_le _) (Nat.zero_le _)
    have hb:=jq hf self (ns0 true) (nx (nx k)) f
    unfold kJ jC
    generalize cy self (ns0 true) (nx (nx k)) f=q at *
    obtain ⟨x,k3,f3⟩:=q
    dsimp only at el hb ⊢
    obtain ⟨hb,hb1,hb2⟩:=hb
    have hb1:x.names.length≤1:=hb1
    have hb2:x.except.length≤1:=hb2
    refine MXA (fn:=Tryz.f81) Tryz.call81 Tryz.func81 rfl Tryz.ntmps81 Tryz.results81 rfl rfl ?_
    repeat'((fail_if_success (with_reducible refine bA 2 ?_));(first|(with_reducible first|apply AW.seq|apply aa|apply y_e|refine ae ?_)|((with_reducible apply ai);first|refine t_w gi ?_|refine t_v hC ?_)|((with_reducible apply ay);refine t_s AS.s ?_)|fail))
    refine nilRowH 5 3 1002 9 1 (cs':=[sB false,sB false,sB false,.lst (some 1002) 1 [],.nil]) rfl rfl rfl rfl ?_
    refine nilRowH 5 4 1003 9 1 (cs':=nsR 1002 1003 (ns0 false)) rfl rfl rfl rfl ?_
    repeat'(first|(with_reducible first|apply AW.seq|apply AW.block|apply AW.skip|apply aa|apply y_e|refine ae ?_)|((with_reducible apply ai);first|refine t_v AS.v ?_|refine t_v (by exact az (hP:=an)) ?_|refine t_w (by first|exact av (hP:=a1)|exact av (hP:=a2)) ?_|refine xE (hP:=el) (k:=?_))|((with_reducible apply ay);refine t_s AS.s ?_)|((with_reducible refine aq ?_);first|refine aI ?_|refine aJ ?_)|fail)
    generalize hsp:fv self (fuel l) x k3 f3=sp
    refine AW.loop (fun m σ=>∃ n k' f',fv self m n k' f'=sp∧0<m∧(f'.code=0→l.length<m+k'.1∧n.names.length≤k'.1∧n.except.length≤k'.1)∧n.names.length≤k'.1+1∧n.except.length≤k'.1+1∧σ=mk [(0,.c (.ptr 0 0)),(1,.c (sB self)),(4,.c (.ptr 4 0)),(5,.c (.ptr 5 0))] [(1003,.row 9 1 n.except.length),(1002,.row 9 1 n.names.length),(5,.obj 60 (nsR 1002 1003 n)),(0,qsO k' f' c),(4,.obj 60 [sB false,sB false,sB false,.nil,.nil])]) (fuel l) ?_ ?_
    ·exact⟨_,wkA,x,k3,f3,hsp,by unfold fuel;omega,fun hz=>by
     rcases hb with⟨_,_,hb⟩|⟨_,hb⟩
     ·exact⟨by unfold fuel;omega,by omega,by omega⟩
     ·exact absurd hz hb,by omega,by omega,rfl⟩
    clear hsp hb hb1 hb2 el
    rintro m σ ⟨n,k',f',hm,h0,hi,hi1,hi2,rfl⟩
    subst hm
    have hk':=k'.2
    obtain ⟨m,rfl⟩:∃ n,m=n+1:=⟨m - 1,by omega⟩
    have is:=iM (c:=c) k' f' ⟨#[125]⟩
    have m3:=bV (c:=c) hf k' f' ⟨#[125]⟩
    rw[fv]
    by_cases hf0:f'.code=0
    ·have fa:=ee (l:=l) (c:=c) k' hf0
     have e2:(decide (f'.code=0)&& !okM f' ⟨#[125]⟩ k')= !okM f' ⟨#[125]⟩ k':=by simp[hf0]
     rw[e2]
     generalize okM f' ⟨#[125]⟩ k'=b at *
     obtain ⟨hj,hj1,hj2⟩:=hi hf0
     cases b with
     |true=>
      rw[if_neg (by decide)]
      dsimp only
      generalize aO ⟨#[125]⟩ k' f'=q at *
      obtain ⟨k4,f4⟩:=q
      dsimp only at m3 ⊢
      repeat'(first|(with_reducible first|apply AW.seq|apply AW.ret|apply AW.exit|apply aa|apply ak|apply aE|apply aH|apply y_e|refine ae ?_)|((with_reducible apply ai);first|refine t_v AS.v ?_|refine t_v (by exact az (hP:=fa)) ?_|refine t_w (by exact av (hP:=m3)) ?_)|((with_reducible apply aK);first|refine t_m (hs:=fun hg=>AS.v) (k:=?_)|refine t_m (hs:=fun hg=>(by exact az (hP:=is))) (k:=?_))|((with_reducible apply ay);refine t_s AS.s ?_)|((with_reducible refine aq ?_);refine aJ ?_)|((with_reducible refine aD ?_);refine b8 (k:=?_))|fail)
      exact⟨_,(_,_),rfl,iH rfl,ar rfl⟩
     |false=>
      rw[if_pos (show(!false)=true from rfl)]
      clear m3
      have el:=jk (c:=c) hf self n k' f' (by omega) (by omega)
      have hb:=jq hf self n k' f'
      generalize cy self n k' f'=q at *
      obtain ⟨y,k4,f4⟩:=q
      dsimp only at el hb ⊢
      obtain ⟨hb,hb1,hb2⟩:=hb
      repeat'(first|(with_reducible first|apply AW.seq|apply AW.block|apply AW.skip|apply aa|apply aw|apply y_e|refine ae ?_)|((with_reducible apply ai);first|refine t_v AS.v ?_|refine t_v (by exact az (hP:=fa)) ?_|refine xE (hP:=el) (k:=?_))|((with_reducible apply aK);first|refine t_m (hs:=fun hg=>AS.v) (k:=?_)|refine t_m (hs:=fun hg=>(by exact az (hP:=is))) (k:=?_))|((with_reducible apply ay);refine t_s AS.s ?_)|((with_reducible refine aq ?_);refine aI ?_)|fail)
      exact⟨m,_,Nat.lt_succ_self m,wkA,y,k4,f4,rfl,by have:=k4.2;omega,fun hz=>by
       rcases hb with⟨_,_,hb⟩|⟨_,hb⟩
       ·exact⟨by omega,by omega,by omega⟩
       ·exact absurd hz hb,by omega,by omega,rfl⟩
    ·have fa:=fJ (l:=l) (c:=c) k' hf0
     have e2:(decide (f'.code=0)&& !okM f' ⟨#[125]⟩ k')=false:=by simp[hf0]
     rw[e2,if_neg (by decide)]
     dsimp only
     generalize aO ⟨#[125]⟩ k' f'=q at *
     obtain ⟨k4,f4⟩:=q
     dsimp only at m3 ⊢
     repeat'(first|(with_reducible first|apply AW.seq|apply AW.ret|apply AW.exit|apply aa|apply ak|apply aE|apply aH|apply y_e|refine ae ?_)|((with_reducible apply ai);first|refine t_v AS.v ?_|refine t_v (by exact az (hP:=fa)) ?_|refine t_w (by exact av (hP:=m3)) ?_)|((with_reducible apply aK);refine t_f ?_)|((with_reducible apply ay);refine t_s AS.s ?_)|((with_reducible refine aq ?_);refine aJ ?_)|((with_reducible refine aD ?_);refine b8 (k:=?_))|fail)
     exact⟨_,(_,_),rfl,iH rfl,ar rfl⟩
   |false=>
    rw[h3] at a2
    have a2:MNL _ _ _ _ _ [(0,qsO (nx k) f c)]:=a2
    rw[if_neg (by decide)]
    have nw:=cj (l:=l) (k:=nx k) (f:=f) (c:=c)
    have fl:=cw (c:=c) (nx k) f 9 (tk (nx k))
    have is:=iM (c:=c) (nx k) f ⟨#[45]⟩
    refine MXA (fn:=Tryz.f81) Tryz.call81 Tryz.func81 rfl Tryz.ntmps81 Tryz.results81 rfl rfl ?_
    repeat'((fail_if_success (with_reducible refine bA 2 ?_));(first|(with_reducible first|apply AW.seq|apply aa|apply y_e|refine ae ?_)|((with_reducible apply ai);first|refine t_w gi ?_|refine t_v hC ?_)|((with_reducible apply ay);refine t_s AS.s ?_)|fail))
    refine nilRowH 5 3 1002 9 1 (cs':=[sB false,sB false,sB false,.lst (some 1002) 1 [],.nil]) rfl rfl rfl rfl ?_
    refine nilRowH 5 4 1003 9 1 (cs':=nsR 1002 1003 (ns0 false)) rfl rfl rfl rfl ?_
    repeat'(first|(with_reducible first|apply AW.seq|apply AW.skip|apply AW.ret|apply aa|apply ak|apply y_e|refine ae ?_)|((with_reducible apply ai);first|refine t_v AS.v ?_|refine t_v (by first|exact az (hP:=an)|exact az (hP:=nw)) ?_|refine t_w (by first|exact av (hP:=a1)|exact av (hP:=a2)|exact av (hP:=fl)) ?_)|((with_reducible apply aK);refine t_f ?_)|((with_reducible apply ay);refine t_s AS.s ?_)|((with_reducible refine aq ?_);first|refine aI ?_|refine aJ ?_)|((with_reducible refine aD ?_);refine b8 (k:=?_))|fail)
    exact⟨ns0 true,(_,_),rfl,iH (t1:=1002) (t2:=1003) rfl,ar rfl⟩
 |false=>
  rw[h1] at a1
  have a1:MNL _ _ _ _ _ [(0,qsO k f c)]:=a1
  rw[if_neg (by decide)]
  have a2:=ch (c:=c) hf k f ⟨#[123]⟩
  cases h3:okM f ⟨#[123]⟩ k with
  |true=>
   rw[h3] at a2
   have a2:MNL _ _ _ _ _ [(0,qsO (nx k) f c)]:=a2
   rw[if_pos rfl]
   have el:=jk (c:=c) hf self (ns0 false) (nx k) f (Nat.zero_le _) (Nat.zero_le _)
   have hb:=jq hf self (ns0 false) (nx k) f
   unfold kJ jC
   generalize cy self (ns0 false) (nx k) f=q at *
   obtain ⟨x,k3,f3⟩:=q
   dsimp only at el hb ⊢
   obtain ⟨hb,hb1,hb2⟩:=hb
   have hb1:x.names.length≤1:=hb1
   have hb2:x.except.length≤1:=hb2
   refine MXA (fn:=Tryz.f81) Tryz.call81 Tryz.func81 rfl Tryz.ntmps81 Tryz.results81 rfl rfl ?_
   repeat'((fail_if_success (with_reducible refine bA 2 ?_));(first|(with_reducible first|apply AW.seq|apply aa|apply y_e|refine ae ?_)|((with_reducible apply ai);first|refine t_w gi ?_|refine t_v hC ?_)|((with_reducible apply ay);refine t_s AS.s ?_)|fail))
   refine nilRowH 5 3 1002 9 1 (cs':=[sB false,sB false,sB false,.lst (some 1002) 1 [],.nil]) rfl rfl rfl rfl ?_
   refine nilRowH 5 4 1003 9 1 (cs':=nsR 1002 1003 (ns0 false)) rfl rfl rfl rfl ?_
   repeat'(first|(with_reducible first|apply AW.seq|apply AW.block|apply AW.skip|apply aa|apply y_e|refine ae ?_)|((with_reducible apply ai);first|refine t_v AS.v ?_|refine t_w (by first|exact av (hP:=a1)|exact av (hP:=a2)) ?_|refine xE (hP:=el) (k:=?_))|((with_reducible apply ay);refine t_s AS.s ?_)|((with_reducible refine aq ?_);first|refine aI ?_|refine aJ ?_)|fail)
   generalize hsp:fv self (fuel l) x k3 f3=sp
   refine AW.loop (fun m σ=>∃ n k' f',fv self m n k' f'=sp∧0<m∧(f'.code=0→l.length<m+k'.1∧n.names.length≤k'.1∧n.except.length≤k'.1)∧n.names.length≤k'.1+1∧n.except.length≤k'.1+1∧σ=mk [(0,.c (.ptr 0 0)),(1,.c (sB self)),(4,.c (.ptr 4 0)),(5,.c (.ptr 5 0))] [(1003,.row 9 1 n.except.length),(1002,.row 9 1 n.names.length),(5,.obj 60 (nsR 1002 1003 n)),(0,qsO k' f' c),(4,.obj 60 [sB false,sB false,sB false,.nil,.nil])]) (fuel l) ?_ ?_
   ·exact⟨_,wkA,x,k3,f3,hsp,by unfold fuel;omega,fun hz=>by
    rcases hb with⟨_,_,hb⟩|⟨_,hb⟩
    ·exact⟨by unfold fuel;omega,by omega,by omega⟩
    ·exact absurd hz hb,by omega,by omega,rfl⟩
   clear hsp hb hb1 hb2 el
   rintro m σ ⟨n,k',f',hm,h0,hi,hi1,hi2,rfl⟩
   subst hm
   have hk':=k'.2
   obtain ⟨m,rfl⟩:∃ n,m=n+1:=⟨m - 1,by omega⟩
   have is:=iM (c:=c) k' f' ⟨#[125]⟩
   have m3:=bV (c:=c) hf k' f' ⟨#[125]⟩
   rw[fv]
   by_cases hf0:f'.code=0
   ·have fa:=ee (l:=l) (c:=c) k' hf0
    have e2:(decide (f'.code=0)&& !okM f' ⟨#[125]⟩ k')= !okM f' ⟨#[125]⟩ k':=by simp[hf0]
    rw[e2]
    generalize okM f' ⟨#[125]⟩ k'=b at *
    obtain ⟨hj,hj1,hj2⟩:=hi hf0
    cases b with
    |true=>
     rw[if_neg (by decide)]
     dsimp only
     generalize aO ⟨#[125]⟩ k' f'=q at *
     obtain ⟨k4,f4⟩:=q
     dsimp only at m3 ⊢
     repeat'(first|(with_reducible first|apply AW.seq|apply AW.ret|apply AW.exit|apply aa|apply ak|apply aE|apply aH|apply y_e|refine ae ?_)|((with_reducible apply ai);first|refine t_v AS.v ?_|refine t_v (by exact az (hP:=fa)) ?_|refine t_w (by exact av (hP:=m3)) ?_)|((with_reducible apply aK);first|refine t_m (hs:=fun hg=>AS.v) (k:=?_)|refine t_m (hs:=fun hg=>(by exact az (hP:=is))) (k:=?_))|((with_reducible apply ay);refine t_s AS.s ?_)|((with_reducible refine aq ?_);refine aJ ?_)|((with_reducible refine aD ?_);refine b8 (k:=?_))|fail)
     exact⟨_,(_,_),rfl,iH rfl,ar rfl⟩
    |false=>
     rw[if_pos (show(!false)=true from rfl)]
     clear m3
     have el:=jk (c:=c) hf self n k' f' (by omega) (by omega)
     have hb:=jq hf self n k' f'
     generalize cy self n k' f'=q at *
     obtain ⟨y,k4,f4⟩:=q
     dsimp only at el hb ⊢
     obtain ⟨hb,hb1,hb2⟩:=hb
     repeat'(first|(with_reducible first|apply AW.seq|apply AW.block|apply AW.skip|apply aa|apply aw|apply y_e|refine ae ?_)|((with_reducible apply ai);first|refine t_v AS.v ?_|refine t_v (by exact az (hP:=fa)) ?_|refine xE (hP:=el) (k:=?_))|((with_reducible apply aK);first|refine t_m (hs:=fun hg=>AS.v) (k:=?_)|refine t_m (hs:=fun hg=>(by exact az (hP:=is))) (k:=?_))|((with_reducible apply ay);refine t_s AS.s ?_)|((with_reducible refine aq ?_);refine aI ?_)|fail)
     exact⟨m,_,Nat.lt_succ_self m,wkA,y,k4,f4,rfl,by have:=k4.2;omega,fun hz=>by
      rcases hb with⟨_,_,hb⟩|⟨_,hb⟩
      ·exact⟨by omega,by omega,by omega⟩
      ·exact absurd hz hb,by omega,by omega,rfl⟩
   ·have fa:=fJ (l:=l) (c:=c) k' hf0
    have e2:(decide (f'.code=0)&& !okM f' ⟨#[125]⟩ k')=false:=by simp[hf0]
    rw[e2,if_neg (by decide)]
    dsimp only
    generalize aO ⟨#[125]⟩ k' f'=q at *
    obtain ⟨k4,f4⟩:=q
    dsimp only at m3 ⊢
    repeat'(first|(with_reducible first|apply AW.seq|apply AW.ret|apply AW.exit|apply aa|apply ak|apply aE|apply aH|apply y_e|refine ae ?_)|((with_reducible apply ai);first|refine t_v AS.v ?_|refine t_v (by exact az (hP:=fa)) ?_|refine t_w (by exact av (hP:=m3)) ?_)|((with_reducible apply aK);refine t_f ?_)|((with_reducible apply ay);refine t_s AS.s ?_)|((with_reducible refine aq ?_);refine aJ ?_)|((with_reducible refine aD ?_);refine b8 (k:=?_))|fail)
    exact⟨_,(_,_),rfl,iH rfl,ar rfl⟩
  |false=>
   rw[h3] at a2
   have a2:MNL _ _ _ _ _ [(0,qsO k f c)]:=a2
   rw[if_neg (by decide)]
   have is:=iM (c:=c) k f ⟨#[45]⟩
   cases h4:okM f ⟨#[45]⟩ k with
   |true=>
    rw[h4] at is
    rw[if_pos rfl]
    have nw:=cj (l:=l) (k:=k) (f:=f) (c:=c)
    have fl:=cw (c:=c) k f 9 (tk k)
    refine MXA (fn:=Tryz.f81) Tryz.call81 Tryz.func81 rfl Tryz.ntmps81 Tryz.results81 rfl rfl ?_
    repeat'((fail_if_success (with_reducible refine bA 2 ?_));(first|(with_reducible first|apply AW.seq|apply aa|apply y_e|refine ae ?_)|((with_reducible apply ai);first|refine t_w gi ?_|refine t_v hC ?_)|((with_reducible apply ay);refine t_s AS.s ?_)|fail))
    refine nilRowH 5 3 1002 9 1 (cs':=[sB false,sB false,sB false,.lst (some 1002) 1 [],.nil]) rfl rfl rfl rfl ?_
    refine nilRowH 5 4 1003 9 1 (cs':=nsR 1002 1003 (ns0 false)) rfl rfl rfl rfl ?_
    repeat'(first|(with_reducible first|apply AW.seq|apply AW.skip|apply AW.ret|apply aa|apply ak|apply y_e|refine ae ?_)|((with_reducible apply ai);first|refine t_v AS.v ?_|refine t_v (by exact az (hP:=nw)) ?_|refine t_w (by first|exact av (hP:=a1)|exact av (hP:=a2)|exact av (hP:=fl)) ?_)|((with_reducible apply aK);first|refine t_m (hs:=fun hg=>AS.v) (k:=?_)|refine t_m (hs:=fun hg=>(by exact az (hP:=is))) (k:=?_))|((with_reducible apply ay);refine t_s AS.s ?_)|((with_reducible refine aq ?_);first|refine aI ?_|refine aJ ?_)|((with_reducible refine aD ?_);refine b8 (k:=?_))|fail)
    exact⟨ns0 false,(_,_),rfl,iH (t1:=1002) (t2:=1003) rfl,ar rfl⟩
   |false=>
    rw[h4] at is
    rw[if_neg (by decide)]
    have el:=jk (c:=c) hf self (ns0 false) k f (Nat.zero_le _) (Nat.zero_le _)
    generalize cy self (ns0 false) k f=q at *
    obtain ⟨x,k3,f3⟩:=q
    dsimp only at el ⊢
    refine MXA (fn:=Tryz.f81) Tryz.call81 Tryz.func81 rfl Tryz.ntmps81 Tryz.results81 rfl rfl ?_
    repeat'((fail_if_success (with_reducible refine bA 2 ?_));(first|(with_reducible first|apply AW.seq|apply aa|apply y_e|refine ae ?_)|((with_reducible apply ai);first|refine t_w gi ?_|refine t_v hC ?_)|((with_reducible apply ay);refine t_s AS.s ?_)|fail))
    refine nilRowH 5 3 1002 9 1 (cs':=[sB false,sB false,sB false,.lst (some 1002) 1 [],.nil]) rfl rfl rfl rfl ?_
    refine nilRowH 5 4 1003 9 1 (cs':=nsR 1002 1003 (ns0 false)) rfl rfl rfl rfl ?_
    repeat'(first|(with_reducible first|apply AW.seq|apply AW.skip|apply AW.ret|apply aa|apply y_e|refine ae ?_)|((with_reducible apply ai);first|refine t_v AS.v ?_|refine t_w (by first|exact av (hP:=a1)|exact av (hP:=a2)) ?_|refine xE (hP:=el) (k:=?_))|((with_reducible apply aK);first|refine t_m (hs:=fun hg=>AS.v) (k:=?_)|refine t_m (hs:=fun hg=>(by exact az (hP:=is))) (k:=?_))|((with_reducible apply ay);refine t_s AS.s ?_)|((with_reducible refine aq ?_);refine aJ ?_)|((with_reducible refine aD ?_);refine b8 (k:=?_))|fail)
    exact⟨x,(_,_),rfl,iH (t1:=1002) (t2:=1003) rfl,ar rfl⟩
theorem bS (hf:Fine l) (self:Bool) (k:Ix l) (f:Fa):MNL Tryz.prog 81 [(0,qsO k f c)] [.c (.ptr 0 0),.c (sB self)] (.agg (nsC (bz self k f).1)) [(0,qsO (bz self k f).2.1 (bz self k f).2.2 c)]:=(AV hf self k f).ok (bz self k f).1 (bz self k f).2 rfl
theorem gU (hf:Fine l) (k:Ix l) (f:Fa):MNL Tryz.prog 259 [(0,qsO k f c)] [.c (.ptr 0 0)] (.c (bC (bN k f).1)) [(0,qsO (bN k f).2.1 (bN k f).2.2 c)]:=(vv hf k f).ok (bN k f).1 (bN k f).2 rfl
theorem vg (hf:Fine l) (k:Ix l) (f:Fa):MX Tryz.prog 156 [(0,qsO k f c)] [.c (.ptr 0 0)] (.ok (cA k f):Except Fa (Lv×(Ix l×Fa))) (fun s=>.agg (lvC s)) (fun b=>[(0,qsO b.1 b.2 c)]) pvS:=by
 have hl:=hf.le
 have m1:=bk (c:=c) hf k f
 unfold cA
 generalize aB k f=q at *
 obtain ⟨x,k1,f1⟩:=q
 dsimp only at m1 ⊢
 have a1:=ch (c:=c) hf k1 f1 ⟨#[58]⟩
 cases h1:okM f1 ⟨#[58]⟩ k1 with
 |false=>
  rw[h1] at a1
  have a1:MNL _ _ _ _ _ [(0,qsO k1 f1 c)]:=a1
  rw[if_neg (by decide)]
  refine MXA (fn:=Tryz.f156) Tryz.call156 Tryz.func156 rfl Tryz.ntmps156 Tryz.results156 rfl rfl ?_
  repeat'((fail_if_success (with_reducible refine bA 2 ?_));(first|(with_reducible first|apply AW.seq|apply aa|apply y_e|refine ae ?_)|((with_reducible apply ai);first|refine t_v nr ?_|refine t_v AS.v ?_|refine t_w AS.w ?_|refine t_w (by exact av (hP:=m1)) ?_)|((with_reducible apply ay);refine t_s AS.s ?_)|fail))
  refine nilRowH 3 1 1002 170 2 (cs':=lvR 1002 ⟨x,[]⟩) rfl rfl rfl rfl ?_
  repeat'(first|(with_reducible first|apply AW.seq|apply AW.block|apply AW.skip|apply AW.ret|apply aa|apply ak|apply y_e|refine ae ?_)|((with_reducible apply ai);first|refine t_v AS.v ?_|refine t_w (by exact av (hP:=a1)) ?_)|((with_reducible apply ay);refine t_s AS.s ?_)|((with_reducible refine aq ?_);first|refine aI ?_|refine aJ ?_)|((with_reducible refine aD ?_);refine b8 (k:=?_))|fail)
  exact⟨⟨x,[]⟩,(_,_),rfl,cz _ _,ar rfl⟩
 |true=>
  have hz:f1.code=0:=by
   unfold okM at h1
   exact of_decide_eq_true ((Bool.and_eq_true _ _).mp h1).1
  have hx:(nx k1).1=k1.1+1:=by
   unfold okM at h1
   exact aW hf ((Bool.and_eq_true _ _).mp h1).2
  rw[h1] at a1
  have a1:MNL _ _ _ _ _ [(0,qsO (nx k1) f1 c)]:=a1
  rw[if_pos rfl]
  refine MXA (fn:=Tryz.f156) Tryz.call156 Tryz.func156 rfl Tryz.ntmps156 Tryz.results156 rfl rfl ?_
  repeat'((fail_if_success (with_reducible refine bA 2 ?_));(first|(with_reducible first|apply AW.seq|apply aa|apply y_e|refine ae ?_)|((with_reducible apply ai);first|refine t_v nr ?_|refine t_v AS.v ?_|refine t_w AS.w ?_|refine t_w (by exact av (hP:=m1)) ?_)|((with_reducible apply ay);refine t_s AS.s ?_)|fail))
  refine nilRowH 3 1 1002 170 2 (cs':=lvR 1002 ⟨x,[]⟩) rfl rfl rfl rfl ?_
  repeat'(first|(with_reducible first|apply AW.seq|apply AW.block|apply AW.skip|apply AW.ret|apply aa|apply ak|apply y_e|refine ae ?_)|((with_reducible apply ai);first|refine t_v AS.v ?_|refine t_w (by exact av (hP:=a1)) ?_)|((with_reducible apply ay);refine t_s AS.s ?_)|((with_reducible refine aq ?_);first|refine aI ?_|refine aJ ?_)|((with_reducible refine aD ?_);refine b8 (k:=?_))|fail)
  generalize hsp:fN (fuel l) ⟨x,[]⟩ (nx k1) f1=sp
  refine AW.loop (fun m σ=>∃ b v k' f',(b=true→fN m v k' f'=sp∧f'.code=0∧l.length<m+k'.1∧v.cats.length≤k'.1)∧(b=false→(v,(k',f'))=sp)∧σ=mk [(4,.c (sB b)),(0,.c (.ptr 0 0)),(2,.c (.ptr 2 0)),(3,.c (.ptr 3 0))] [(1002,.row 170 2 v.cats.length),(3,.obj 63 (lvR 1002 v)),(0,qsO k' f' c),(2,.obj 63 (lvC Lv.zero))]) (fuel l) ?_ ?_
  ·exact⟨_,wkA,true,⟨x,[]⟩,_,f1,fun _=>⟨hsp,hz,by unfold fuel;omega,Nat.zero_le _⟩,fun h=>(by cases h),rfl⟩
  clear hsp hx hz h1 a1 m1
  rintro m σ ⟨b,v,k',f',hb1,hb2,rfl⟩
  have hk':=k'.2
  cases b with
  |false=>
   have hb2:=hb2 rfl
   subst hb2
   clear hb1
   repeat'(first|(with_reducible first|apply AW.seq|apply AW.ret|apply AW.exit|apply aa|apply aE|apply aH|apply y_e|refine ae ?_)|((with_reducible apply ai);refine t_v AS.v ?_)|((with_reducible apply aK);refine t_f ?_)|((with_reducible apply ay);refine t_s AS.s ?_)|((with_reducible refine aq ?_);refine aJ ?_)|((with_reducible refine aD ?_);refine b8 (k:=?_))|fail)
   exact⟨v,(_,_),rfl,oZ (t:=1002) rfl,ar rfl⟩
  |true=>
   obtain ⟨hm,hz,hm2,hc1⟩:=hb1 rfl
   clear hb1 hb2
   subst hm
   obtain ⟨m,rfl⟩:∃ n,m=n+1:=⟨m - 1,by omega⟩
   have fa:=ee (l:=l) (c:=c) k' hz
   have hle:=sX hf k' f'
   rw[fN]
   have nm:=bk (c:=c) hf k' f'
   have fin:∀ (s:Sp) (k3:Ix l) (f3:Fa),fb k' f'=(s,(k3,f3))→k'.1≤k3.1:=fun s k3 f3 h=>by rw[h] at hle;exact hle
   clear hle
   unfold fb at *
   generalize aB k' f'=q at *
   obtain ⟨y,k2,f2⟩:=q
   dsimp only at nm fin ⊢
   have a2:=ch (c:=c) hf k2 f2 ⟨#[46]⟩
   cases h2:okM f2 ⟨#[46]⟩ k2 with
   |true=>
    rw[h2] at a2 fin
    have a2:MNL _ _ _ _ _ [(0,qsO (nx k2) f2 c)]:=a2
    simp only[if_true] at fin ⊢
    have nm2:=bk (c:=c) hf (nx k2) f2
    generalize aB (nx k2) f2=q at *
    obtain ⟨z,k3,f3⟩:=q
    have hle:=fin ⟨y,z⟩ k3 f3 rfl
    dsimp only at nm2 ⊢
    have a3:=ch (c:=c) hf k3 f3 ⟨#[44]⟩
    cases h3:okM f3 ⟨#[44]⟩ k3 with
    |true=>
     have hx:(nx k3).1=k3.1+1:=by
      unfold okM at h3
      exact aW hf ((Bool.and_eq_true _ _).mp h3).2
     have hz3:f3.code=0:=by
      unfold okM at h3
      exact of_decide_eq_true ((Bool.and_eq_true _ _).mp h3).1
     rw[h3] at a3
     have a3:MNL _ _ _ _ _ [(0,qsO (nx k3) f3 c)]:=a3
     clear fin h2 h3
     repeat'(first|(with_reducible first|apply AW.seq|apply AW.block|apply AW.skip|apply aa|apply aw|apply y_e|refine ae ?_)|((with_reducible apply ai);first|refine t_v AS.v ?_|refine t_w AS.w ?_|refine t_w (by first|exact av (hP:=nm)|exact av (hP:=a2)|exact av (hP:=nm2)|exact av (hP:=a3)) ?_)|((with_reducible apply aK);first|refine t_m (hs:=fun hg=>AS.v) (k:=?_)|refine t_m (hs:=fun hg=>(by exact az (hP:=fa))) (k:=?_))|((with_reducible apply ay);refine t_s AS.s ?_)|((with_reducible refine aq ?_);refine aI ?_)|fail)
     exact⟨m,_,Nat.lt_succ_self m,wkA,true,⟨v.sens,v.cats++[⟨y,z⟩]⟩,nx k3,f3,fun _=>⟨rfl,hz3,by omega,by simp only[List.length_append,List.length_cons,List.length_nil];omega⟩,fun h=>(by cases h),rfl⟩
    |false=>
     rw[h3] at a3
     have a3:MNL _ _ _ _ _ [(0,qsO k3 f3 c)]:=a3
     clear fin h2 h3
     repeat'(first|(with_reducible first|apply AW.seq|apply AW.block|apply AW.skip|apply aa|apply aw|apply y_e|refine ae ?_)|((with_reducible apply ai);first|refine t_v AS.v ?_|refine t_w AS.w ?_|refine t_w (by first|exact av (hP:=nm)|exact av (hP:=a2)|exact av (hP:=nm2)|exact av (hP:=a3)) ?_)|((with_reducible apply aK);first|refine t_m (hs:=fun hg=>AS.v) (k:=?_)|refine t_m (hs:=fun hg=>(by exact az (hP:=fa))) (k:=?_))|((with_reducible apply ay);refine t_s AS.s ?_)|((with_reducible refine aq ?_);refine aI ?_)|fail)
     exact⟨m,_,Nat.lt_succ_self m,wkA,false,⟨v.sens,v.cats++[⟨y,z⟩]⟩,k3,f3,fun h=>(by cases h),fun _=>rfl,rfl⟩
   |false=>
    rw[h2] at a2 fin
    have a2:MNL _ _ _ _ _ [(0,qsO k2 f2 c)]:=a2
    simp only[Bool.false_eq_true,if_false] at fin ⊢
    have hle:=fin ⟨y,⟨#[]⟩⟩ k2 f2 rfl
    have a3:=ch (c:=c) hf k2 f2 ⟨#[44]⟩
    cases h3:okM f2 ⟨#[44]⟩ k2 with
    |true=>
     have hx:(nx k2).1=k2.1+1:=by
      unfold okM at h3
      exact aW hf ((Bool.and_eq_true _ _).mp h3).2
     have hz3:f2.code=0:=by
      unfold okM at h3
      exact of_decide_eq_true ((Bool.and_eq_true _ _).mp h3).1
     rw[h3] at a3
     have a3:MNL _ _ _ _ _ [(0,qsO (nx k2) f2 c)]:=a3
     clear fin h2 h3
     repeat'(first|(with_reducible first|apply AW.seq|apply AW.block|apply AW.skip|apply aa|apply aw|apply y_e|refine ae ?_)|((with_reducible apply ai);first|refine t_v AS.v ?_|refine t_w AS.w ?_|refine t_w (by first|exact av (hP:=nm)|exact av (hP:=a2)|exact av (hP:=a3)) ?_)|((with_reducible apply aK);first|refine t_m (hs:=fun hg=>AS.v) (k:=?_)|refine t_m (hs:=fun hg=>(by exact az (hP:=fa))) (k:=?_))|((with_reducible apply ay);refine t_s AS.s ?_)|((with_reducible refine aq ?_);first|refine aI ?_|refine aJ ?_)|fail)
     exact⟨m,_,Nat.lt_succ_self m,wkA,true,⟨v.sens,v.cats++[⟨y,⟨#[]⟩⟩]⟩,nx k2,f2,fun _=>⟨rfl,hz3,by omega,by simp only[List.length_append,List.length_cons,List.length_nil];omega⟩,fun h=>(by cases h),rfl⟩
    |false=>
     rw[h3] at a3
     have a3:MNL _ _ _ _ _ [(0,qsO k2 f2 c)]:=a3
     clear fin h2 h3
     repeat'(first|(with_reducible first|apply AW.seq|apply AW.block|apply AW.skip|apply aa|apply aw|apply y_e|refine ae ?_)|((with_reducible apply ai);first|refine t_v AS.v ?_|refine t_w AS.w ?_|refine t_w (by first|exact av (hP:=nm)|exact av (hP:=a2)|exact av (hP:=a3)) ?_)|((with_reducible apply aK);first|refine t_m (hs:=fun hg=>AS.v) (k:=?_)|refine t_m (hs:=fun hg=>(by exact az (hP:=fa))) (k:=?_))|((with_reducible apply ay);refine t_s AS.s ?_)|((with_reducible refine aq ?_);first|refine aI ?_|refine aJ ?_)|fail)
     exact⟨m,_,Nat.lt_succ_self m,wkA,false,⟨v.sens,v.cats++[⟨y,⟨#[]⟩⟩]⟩,k2,f2,fun h=>(by cases h),fun _=>rfl,rfl⟩
theorem kK (hf:Fine l) (k:Ix l) (f:Fa):MNL Tryz.prog 156 [(0,qsO k f c)] [.c (.ptr 0 0)] (.agg (lvC (cA k f).1)) [(0,qsO (cA k f).2.1 (cA k f).2.2 c)]:=(vg hf k f).ok (cA k f).1 (cA k f).2 rfl
theorem yv (hf:Fine l) (k:Ix l) (f:Fa):MX Tryz.prog 84 [(0,qsO k f c)] [.c (.ptr 0 0)] (.ok (du k f):Except Fa (Rg×(Ix l×Fa))) (fun s=>.agg (rgC s)) (fun b=>[(0,qsO b.1 b.2 c)]) pvS:=by
 have m1:=kK (c:=c) hf k f
 unfold du
 generalize cA k f=q at *
 obtain ⟨x,k1,f1⟩:=q
 dsimp only at m1 ⊢
 unfold lH
 have a1:=ch (c:=c) hf k1 f1 ⟨#[45]⟩
 cases h1:okM f1 ⟨#[45]⟩ k1 with
 |true=>
  rw[h1] at a1
  have a1:MNL _ _ _ _ _ [(0,qsO (nx k1) f1 c)]:=a1
  rw[if_pos rfl]
  have m2:=kK (c:=c) hf (nx k1) f1
  generalize cA (nx k1) f1=q at *
  obtain ⟨y,k2,f2⟩:=q
  dsimp only at m2 ⊢
  refine MXA (fn:=Tryz.f84) Tryz.call84 Tryz.func84 rfl Tryz.ntmps84 Tryz.results84 rfl rfl ?_
  repeat'(first|(with_reducible first|apply AW.seq|apply AW.ret|apply aa|apply y_e|refine ae ?_)|((with_reducible apply ai);first|refine t_v AS.v ?_|refine t_w AS.w ?_|refine t_w (by first|exact av (hP:=m1)|exact av (hP:=a1)|exact av (hP:=m2)) ?_)|((with_reducible apply ay);refine t_s AS.s ?_)|((with_reducible refine aq ?_);refine aI ?_)|((with_reducible refine aD ?_);refine b8 (k:=?_))|fail)
  exact⟨⟨x,y⟩,(_,_),rfl,cB _,ar rfl⟩
 |false=>
  rw[h1] at a1
  have a1:MNL _ _ _ _ _ [(0,qsO k1 f1 c)]:=a1
  rw[if_neg (by decide)]
  refine MXA (fn:=Tryz.f84) Tryz.call84 Tryz.func84 rfl Tryz.ntmps84 Tryz.results84 rfl rfl ?_
  repeat'(first|(with_reducible first|apply AW.seq|apply AW.skip|apply AW.ret|apply aa|apply y_e|refine ae ?_)|((with_reducible apply ai);first|refine t_v AS.v ?_|refine t_w AS.w ?_|refine t_w (by first|exact av (hP:=m1)|exact av (hP:=a1)) ?_)|((with_reducible apply ay);refine t_s AS.s ?_)|((with_reducible refine aq ?_);refine aJ ?_)|((with_reducible refine aD ?_);refine b8 (k:=?_))|fail)
  exact⟨⟨x,Lv.zero⟩,(_,_),rfl,cB _,ar rfl⟩
theorem mr (hf:Fine l) (k:Ix l) (f:Fa):MNL Tryz.prog 84 [(0,qsO k f c)] [.c (.ptr 0 0)] (.agg (rgC (du k f).1)) [(0,qsO (du k f).2.1 (du k f).2.2 c)]:=(yv hf k f).ok (du k f).1 (du k f).2 rfl
theorem qG (hf:Fine l) (k:Ix l) (f:Fa):MX Tryz.prog 88 [(0,qsO k f c)] [.c (.ptr 0 0)] (.ok (cY k f):Except Fa (Ct×(Ix l×Fa))) (fun s=>.agg (cxC s)) (fun b=>[(0,qsO b.1 b.2 c)]) pvS:=by
 have m1:=bk (c:=c) hf k f
 unfold cY
 generalize aB k f=q at *
 obtain ⟨u,k1,f1⟩:=q
 dsimp only at m1 ⊢
 unfold qy
 have m2:=bV (c:=c) hf k1 f1 ⟨#[58]⟩
 generalize aO ⟨#[58]⟩ k1 f1=q at *
 obtain ⟨k2,f2⟩:=q
 dsimp only at m2 ⊢
 have m3:=bk (c:=c) hf k2 f2
 generalize aB k2 f2=q at *
 obtain ⟨r,k3,f3⟩:=q
 dsimp only at m3 ⊢
 unfold nY
 have m4:=bV (c:=c) hf k3 f3 ⟨#[58]⟩
 generalize aO ⟨#[58]⟩ k3 f3=q at *
 obtain ⟨k4,f4⟩:=q
 dsimp only at m4 ⊢
 have m5:=bk (c:=c) hf k4 f4
 generalize aB k4 f4=q at *
 obtain ⟨t,k5,f5⟩:=q
 dsimp only at m5 ⊢
 unfold o6
 have m6:=bV (c:=c) hf k5 f5 ⟨#[58]⟩
 generalize aO ⟨#[58]⟩ k5 f5=q at *
 obtain ⟨k6,f6⟩:=q
 dsimp only at m6 ⊢
 unfold qe
 have m7:=mr (c:=c) hf k6 f6
 generalize du k6 f6=q at *
 obtain ⟨g,k7,f7⟩:=q
 dsimp only at m7 ⊢
 refine MXA (fn:=Tryz.f88) Tryz.call88 Tryz.func88 rfl Tryz.ntmps88 Tryz.results88 rfl rfl ?_
 repeat'(first|(with_reducible first|apply AW.seq|apply AW.ret|apply aa|apply y_e|refine ae ?_)|((with_reducible apply ai);first|refine t_v AS.v ?_|refine t_w AS.w ?_|refine t_w (by first|exact av (hP:=m1)|exact av (hP:=m2)|exact av (hP:=m3)|exact av (hP:=m4)|exact av (hP:=m5)|exact av (hP:=m6)|exact av (hP:=m7)) ?_)|((with_reducible apply ay);refine t_s AS.s ?_)|((with_reducible refine aD ?_);refine b8 (k:=?_))|fail)
 exact⟨⟨u,r,t,g⟩,(_,_),rfl,cH _,ar rfl⟩
theorem lu (hf:Fine l) (k:Ix l) (f:Fa):MNL Tryz.prog 88 [(0,qsO k f c)] [.c (.ptr 0 0)] (.agg (cxC (cY k f).1)) [(0,qsO (cY k f).2.1 (cY k f).2.2 c)]:=(qG hf k f).ok (cY k f).1 (cY k f).2 rfl
end
end Am
end Go.Proofs.YtkpodagbefnebaaGreatDoor
