import Derived.Test.YtkpodagbefnebaaGreatDoorYg15
import Derived.Test.YtkpodagbefnebaaGreatDoorYg12
set_option linter.unusedSimpArgs false
set_option linter.unusedVariables false
set_option linter.unusedSectionVars false
namespace Go.Proofs.YtkpodagbefnebaaGreatDoor
namespace Am
open Tk Go.RowKit
set_option maxRecDepth 100000
set_option maxHeartbeats 4000000
theorem xY {d:Nat→Bool}:∀ {l:List C} {i:Nat} {c:C},okL d l=true→C.ok d c=true→okL d (l.set i c)=true
 |[],_,_,_,_=>rfl
 |x :: l,0,c,h,hc=>by
  rw[okL,Bool.and_eq_true] at h
  rw[List.set_cons_zero,okL,hc,h.2];rfl
 |x :: l,i+1,c,h,hc=>by
  rw[okL,Bool.and_eq_true] at h
  rw[List.set_cons_succ,okL,h.1,xY h.2 hc];rfl
theorem yo:∀ {l:List C} {i:Nat} {c:C},unL (l.set i c)=(unL l).set i c.un
 |[],_,_=>rfl
 |x :: l,0,c=>by rw[List.set_cons_zero,unL,unL,List.set_cons_zero]
 |x :: l,i+1,c=>by rw[List.set_cons_succ,unL,unL,List.set_cons_succ,yo]
def stM (h:C) (s:Stm):List C:=(stC s).set 7 h
theorem Iz:(∀ h x y,aY (stM h x) 0 [sI y]=some (stM h {x with kind:=y}))∧(∀ h x y,aY (stM h x) 4 [sS y]=some (stM h {x with name:=y}))∧(∀ h x y,aY (stM h x) 8 [bW y]=some (stM h {x with aliases:=y}))∧(∀ h x h',aY (stM h x) 7 [h']=some (stM h' x)):=by
 refine⟨?_,?_,?_,?_⟩ <;> (intro h x y;cases x;kernel_rfl)
theorem JE:∀ h x,aU false (stM h x) 7 1=some (.c h):=by intros;kernel_rfl
theorem getM (h:C) (x:Stm):(stM h x)[7]? =some h:=by kernel_rfl
theorem K3 (h h':C) (x:Stm):(stM h x).set 7 h'=stM h' x:=by unfold stM;rw[List.set_set]
theorem BL (d:Nat→Bool) {t:Nat} {acc:List ByteArray} (s:Stm) (h:d t=true):okL d (stM (.lst (some t) 1 (acc.map oneS)) s)=true:=xY (fJ d s) (by
 show(d t&&bu d (acc.map oneS))=true
 rw[h,okA.2.1 d];rfl)
theorem Dg {t:Nat} {acc:List ByteArray} (s:Stm):(HO.obj 69 (stM (.lst (some t) 1 (acc.map oneS)) s)).un=stO {s with list:=acc}:=by
 show HO.obj _ (unL _)=_
 rw[stM,yo,fM,C.un,unA.2.1]
 cases s;rfl
section
variable {l:List Tok} {k k':Ix l} {c d:Int}
theorem IK (hf:Fine l) (s:Stm) (hs:s.list=[]):MX Tryz.prog 182 [(0,psO k c d),(1001,.obj 69 (stM .nil s))] [.c (.ptr 0 0),.c (.ptr 1001 0),.c (sS ⟨#[116,121,112,101]⟩)] (bM ⟨#[116,121,112,101]⟩ s k) (fun b=>.c (sB b)) (fun b=>[(0,psO b.2 c d),(1001,stO b.1)]) pvS:=by
 have hl:=hf.le
 have a1:=fun k=>(dq (k:=k) (c:=c) (d:=d) hf ⟨#[97,108,105,97,115]⟩).ok _ _ rfl
 refine MXA (fn:=Tryz.f182) Tryz.call182 Tryz.func182 rfl Tryz.ntmps182 Tryz.results182 rfl rfl ?_
 repeat'(first|(with_reducible first|apply AW.seq|apply AW.block|apply AW.skip|apply ae|apply aD|apply ca|apply y_e|refine ag ?_)|((with_reducible apply ak);first|refine t_v AS.v ?_|refine t_w (by exact cf (hP:=a1 _)) ?_|refine bB (hP:=dZ hf) (k1:=fun x k h=>?_) (k2:=fun e h σx=>?_)|refine bB (hP:=l8 hf) (k1:=fun x k h=>?_) (k2:=fun e h σx=>?_))|((with_reducible apply aX);(refine t_s (lP (hs:=by simp only[Iz];rfl)) ?_))|((with_reducible refine av ?_);first|refine cO ?_|refine cg ?_|(refine aj (fun hc=>?_) (fun hc=>?_)))|((with_reducible refine bj ?_);(with_reducible refine aW ?_))|fail)
 ·rename_i k0 x1 k1 h1
  have e:bM ⟨#[116,121,112,101]⟩ s k0=bp (fuel l) [] k>>=fun z=>.ok (true,({s with kind:=2,name:=x1,aliases:=x,list:=z.1},z.2)):=by
   rw[hc] at h
   have h:cD (nx k1)= .ok (x,k):=h
   rw[bM,if_neg (by decide),if_pos rfl,h1]
   simp only[aa]
   rw[if_pos hc,h,hs]
   rfl
  rw[e]
  clear e
  refine nilRowH 1001 7 1002 9 1 (cs':=stM (.lst (some 1002) 1 []) {s with kind:=2,name:=x1,aliases:=x}) rfl rfl (getM _ _) (K3 _ _ _) ?_
  clear h h1 hc
  revert x k
  intro y2 k2
  generalize hsp:bp (fuel l) [] k2=z
  refine AW.loop (fun m σ=>∃ acc k',bp m acc k'=z∧l.length<m+k'.1∧acc.length≤k'.1∧σ=mk [(0,.c (.ptr 0 0)),(1,.c (.ptr 1001 0))] [(1002,.row 9 1 acc.length),(1001,.obj 69 (stM (.lst (some 1002) 1 (acc.map oneS)) {s with kind:=2,name:=x1,aliases:=y2})),(0,psO k' c d)]) (fuel l) ?_ ?_
  ·exact⟨_,wkA,[],k2,hsp,by unfold fuel;omega,Nat.zero_le _,rfl⟩
  clear hsp
  rintro m σ ⟨acc,k',hm,hm2,ha,rfl⟩
  subst hm
  have hk':=k'.2
  obtain ⟨m,rfl⟩:∃ n,m=n+1:=⟨m - 1,by omega⟩
  have a:=(bZ (k:=k') (c:=c) (d:=d) hf ⟨#[44]⟩).ok _ _ rfl
  cases hb:isM ⟨#[44]⟩ k' with
  |true=>
   rw[hb] at a
   have a:MNL _ _ _ _ _ [(0,psO (nx k') c d)]:=a
   have hy:=bD hf hb
   repeat'(first|(with_reducible first|apply AW.seq|apply AW.block|apply AW.skip|apply ae|apply aD|apply ay|apply ca|apply y_e|refine ag ?_|refine bh ?_)|((with_reducible apply ak);first|refine t_v (sF (hc:=by simp only[JE];rfl)) ?_|refine t_v AS.v ?_|refine t_w AS.w ?_|refine t_w (by exact cf (hP:=a)) ?_|refine bB (hP:=dZ hf) (k1:=fun x k h=>?_) (k2:=fun e h σx=>?_))|((with_reducible apply aX);(refine t_s (lP (hs:=by simp only[Iz];rfl)) ?_))|((with_reducible refine av ?_);refine cO ?_)|((with_reducible refine bj ?_);(with_reducible refine aW ?_))|(refine⟨by decide +kernel,fun(σx:St)=>?_⟩)|(refine⟨by decide +kernel,?_⟩)|fail)
   ·have hx:=(bN hf h).2
    exact⟨m,_,Nat.lt_succ_self m,wkA,acc++[x],k,by rw[bp,hb,if_pos rfl,h];rfl,by omega,by simp;omega,rfl⟩
   ·rw[bp,hb,if_pos rfl,h];rfl
  |false=>
   rw[hb] at a
   have a:MNL _ _ _ _ _ [(0,psO k' c d)]:=a
   repeat'(first|(with_reducible first|apply AW.seq|apply AW.ret|apply AW.exit|apply ae|apply aG|apply ay|apply aT|apply y_e|refine ag ?_)|((with_reducible apply ak);first|refine t_v AS.v ?_|refine t_w (by exact cf (hP:=a)) ?_)|((with_reducible refine av ?_);refine cg ?_)|((with_reducible refine bj ?_);refine l_d (k:=?_))|fail)
   exact⟨true,({s with kind:=2,name:=x1,aliases:=y2,list:=acc},k'),by rw[bp,hb];rfl,rfl,aC rfl,GB (Dg _)⟩
 ·(first|(simp_all[bM,aa,aq,adv,Lv.zero,Sp.zero,Rg.zero,Ct.zero];done)|fail "end")
 ·rename_i k0
  have e:bM ⟨#[116,121,112,101]⟩ s k0=bp (fuel l) [] (adv (isW ⟨#[97,108,105,97,115]⟩ k) k)>>=fun z=>.ok (true,({s with kind:=2,name:=x,list:=z.1},z.2)):=by
   rw[bM,if_neg (by decide),if_pos rfl,h]
   simp only[aa]
   rw[hc,if_neg (by decide),hs]
   rfl
  rw[e]
  clear e
  refine nilRowH 1001 7 1002 9 1 (cs':=stM (.lst (some 1002) 1 []) {s with kind:=2,name:=x}) rfl rfl (getM _ _) (K3 _ _ _) ?_
  generalize adv (isW ⟨#[97,108,105,97,115]⟩ k) k=k2
  clear h hc
  revert x
  intro y2
  generalize hsp:bp (fuel l) [] k2=z
  refine AW.loop (fun m σ=>∃ acc k',bp m acc k'=z∧l.length<m+k'.1∧acc.length≤k'.1∧σ=mk [(0,.c (.ptr 0 0)),(1,.c (.ptr 1001 0))] [(1002,.row 9 1 acc.length),(1001,.obj 69 (stM (.lst (some 1002) 1 (acc.map oneS)) {s with kind:=2,name:=y2})),(0,psO k' c d)]) (fuel l) ?_ ?_
  ·exact⟨_,wkA,[],k2,hsp,by unfold fuel;omega,Nat.zero_le _,rfl⟩
  clear hsp
  rintro m σ ⟨acc,k',hm,hm2,ha,rfl⟩
  subst hm
  have hk':=k'.2
  obtain ⟨m,rfl⟩:∃ n,m=n+1:=⟨m - 1,by omega⟩
  have a:=(bZ (k:=k') (c:=c) (d:=d) hf ⟨#[44]⟩).ok _ _ rfl
  cases hb:isM ⟨#[44]⟩ k' with
  |true=>
   rw[hb] at a
   have a:MNL _ _ _ _ _ [(0,psO (nx k') c d)]:=a
   have hy:=bD hf hb
   repeat'(first|(with_reducible first|apply AW.seq|apply AW.block|apply AW.skip|apply ae|apply aD|apply ay|apply ca|apply y_e|refine ag ?_|refine bh ?_)|((with_reducible apply ak);first|refine t_v (sF (hc:=by simp only[JE];rfl)) ?_|refine t_v AS.v ?_|refine t_w AS.w ?_|refine t_w (by exact cf (hP:=a)) ?_|refine bB (hP:=dZ hf) (k1:=fun x k h=>?_) (k2:=fun e h σx=>?_))|((with_reducible apply aX);(refine t_s (lP (hs:=by simp only[Iz];rfl)) ?_))|((with_reducible refine av ?_);refine cO ?_)|((with_reducible refine bj ?_);(with_reducible refine aW ?_))|(refine⟨by decide +kernel,fun(σx:St)=>?_⟩)|(refine⟨by decide +kernel,?_⟩)|fail)
   ·have hx:=(bN hf h).2
    exact⟨m,_,Nat.lt_succ_self m,wkA,acc++[x],k,by rw[bp,hb,if_pos rfl,h];rfl,by omega,by simp;omega,rfl⟩
   ·rw[bp,hb,if_pos rfl,h];rfl
  |false=>
   rw[hb] at a
   have a:MNL _ _ _ _ _ [(0,psO k' c d)]:=a
   repeat'(first|(with_reducible first|apply AW.seq|apply AW.ret|apply AW.exit|apply ae|apply aG|apply ay|apply aT|apply y_e|refine ag ?_)|((with_reducible apply ak);first|refine t_v AS.v ?_|refine t_w (by exact cf (hP:=a)) ?_)|((with_reducible refine av ?_);refine cg ?_)|((with_reducible refine bj ?_);refine l_d (k:=?_))|fail)
   exact⟨true,({s with kind:=2,name:=y2,list:=acc},k'),by rw[bp,hb];rfl,rfl,aC rfl,GB (Dg _)⟩
 ·(first|(simp_all[bM,aa,aq,adv,Lv.zero,Sp.zero,Rg.zero,Ct.zero];done)|fail "end")
end
end Am
namespace Am
open Tk Go.RowKit
set_option maxRecDepth 100000
set_option maxHeartbeats 4000000
theorem sV (s:ByteArray):Pure Tryz.prog 180 [.c (sS s)] (.c (sB (qT s))):=by
 refine fn1 (fn:=Tryz.f180) Tryz.call180 Tryz.func180 rfl Tryz.ntmps180 Tryz.results180 rfl (by rfl) ?_
 repeat'(first|(with_reducible first|apply AW.seq|apply AW.block|apply AW.skip|apply AW.ret|apply ae|apply ar|apply ay|apply aJ|apply y_e|refine ag ?_)|((with_reducible apply ak);refine t_v AS.v ?_)|((with_reducible refine av ?_);((refine aj (fun hc=>?_) (fun hc=>?_);all_goals(try(exfalso;simp[*] at hc;done)))))|((with_reducible refine aF ?_);refine k_b ?_)|fail)
 all_goals simp_all[qT,beginW]
theorem zwS:Zw Tryz.prog 69 (stM .nil Stm.zero):=Zw.of (by decide +kernel)
theorem zV {ρ:Operand→Option V} {H:Nat→Option HO} {d:Option Nat} {ty:TypeId} {pos:String} {af:Array Edge} {gu:Option (Nat×Bool)} {x0:Operand} {y0:Po} (h0:Ev ρ x0 (.agg (poC y0))):AS Tryz.prog ρ H ⟨d,.build 69 #[(2,x0)],ty,pos,af,gu⟩ ⟨.agg (stM .nil {Stm.zero with pos:=y0}),[],[]⟩:=bO zwS (by decide +kernel) (by kernel_rfl) (show EvP ρ _ _ from .cons h0 rfl .nil) (by kernel_rfl)
structure CndOk (l:List Tok) (cnd:List Tok→Except Fa (Ex×Nat)):Prop where
 run:∀ k:Ix l,Pure Tryz.prog 78 [.c (.lst none 4 ((l.drop k.1).map tkC))] (wI (cnd (l.drop k.1)))
 ok:∀ (k:Ix l) e n,cnd (l.drop k.1)= .ok (e,n)→k.1+n<l.length
 no:∀ (k:Ix l) f,cnd (l.drop k.1)= .error f→f.code≠0
theorem CY {ρ:Operand→Option V} {H:Nat→Option HO} {d:Option Nat} {ty:TypeId} {pos:String} {af:Array Edge} {gu:Option (Nat×Bool)} {x0:Operand} {y0:Po} (h0:Ev ρ x0 (.agg (poC y0)):=by exact .pl rfl):AS Tryz.prog ρ H ⟨d,.build 69 #[(2,x0)],ty,pos,af,gu⟩ ⟨.agg (stM .nil {Stm.zero with pos:=y0}),[],[]⟩:=zV h0
section
variable {l:List Tok} {cnd:List Tok→Except Fa (Ex×Nat)}
theorem FK (hf:Fine l) (hc:CndOk l cnd) {n d:Nat} (hd:d≤12) {k:Ix l} {c:Nat} (ihB:d<12→∀ (s:Stm) (b:Bool),(tk k).kind≠0→MX Tryz.prog 181 [(0,psO (nx k) ((c+1:Nat):Int) d),(1001,stO s)] [.c (.ptr 0 0),.c (.ptr 1001 0),.c (sB b)] (cm cnd n d b s (nx k) (c+1)) (fun _=>.tup []) (fun b=>[(0,psO b.2.1 b.2.2 d),(1001,stO b.1)]) pvS) :
 MX Tryz.prog 109 [(0,psO k c d)] [.c (.ptr 0 0)] (cT cnd (n+1) d k c) (fun s=>.agg (stC s)) (fun b=>[(0,psO b.1 b.2 d)]) pvS:=by
 have hl:=hf.le
 have hk:=k.2
 by_cases hb:(tk k).kind=1∧qT (tk k).text=true
 ·have h1:=hb.1
  have h2:=hb.2
  have en:((k.1:Nat):Int)+1=(((nx k).1:Nat):Int):=by rw[gX hf (by rw[h1];decide)];rfl
  have ec:((c:Nat):Int)+1=((c+1:Nat):Int):=rfl
  have bg:=sV (tk k).text
  rw[h2] at bg
  by_cases hc1:1024≤c
  ·have e:cT cnd (n+1) d k c= .error (flt 4 (tk k)):=by rw[cT,if_pos hb,if_pos hc1]
   rw[e]
   refine MXA (fn:=Tryz.f109) Tryz.call109 Tryz.func109 rfl Tryz.ntmps109 Tryz.results109 rfl rfl ?_
   repeat'(first|(with_reducible first|apply AW.seq|apply AW.block|apply ae|apply aD|apply ca|apply y_e|refine ag ?_)|((with_reducible apply ak);first|refine t_v AS.v ?_|refine t_v (by exact bm (hP:=cr)) ?_|refine t_w AS.w ?_|refine t_q (hP:=eC _ _) (k:=fun σx=>?_))|((with_reducible apply bt);first|refine t_m (hs:=fun hg=>AS.v) (k:=?_)|refine t_m (hs:=fun hg=>(by exact ah (hP:=bg))) (k:=?_))|((with_reducible apply aX);refine t_s AS.s ?_)|((with_reducible refine av ?_);((refine aj (fun hc=>?_) (fun hc=>?_);all_goals(try(exfalso;simp[*] at hc;done));all_goals(try(exfalso;revert hc;simp;omega)))))|((with_reducible refine bj ?_);(with_reducible refine aW ?_))|fail)
   all_goals rfl
  ·by_cases hi:(tk k).text=⟨#[105,102]⟩∨(tk k).text=⟨#[111,112,116,105,111,110,97,108]⟩
   ·by_cases hd1:12≤d
    ·have e:cT cnd (n+1) d k c= .error (flt 4 (tk k)):=by rw[cT,if_pos hb,if_neg hc1,if_pos hi,if_pos hd1]
     rw[e]
     refine MXA (fn:=Tryz.f109) Tryz.call109 Tryz.func109 rfl Tryz.ntmps109 Tryz.results109 rfl rfl ?_
     repeat'((fail_if_success (with_reducible refine ch 14 ?_));(first|(with_reducible first|apply AW.seq|apply AW.block|apply AW.skip|apply ae|apply aD|apply ay|apply y_e|refine ag ?_)|((with_reducible apply ak);first|refine t_v AS.v ?_|refine t_v (by exact bm (hP:=cr)) ?_|refine t_w AS.w ?_|refine t_q (hP:=eC _ _) (k:=fun σx=>?_))|((with_reducible apply bt);first|refine t_m (hs:=fun hg=>AS.v) (k:=?_)|refine t_m (hs:=fun hg=>(by exact ah (hP:=bg))) (k:=?_))|((with_reducible apply aX);refine t_s AS.s ?_)|((with_reducible refine av ?_);((refine aj (fun hc=>?_) (fun hc=>?_);all_goals(try(exfalso;simp[*] at hc;done));all_goals(try(exfalso;revert hc;simp;omega)))))|((with_reducible refine bj ?_);(with_reducible refine aW ?_))|fail))
     ·rfl
     ·exfalso;rcases hi with h|h <;> simp[h] at hc
    ·have e:cT cnd (n+1) d k c=cm cnd n d (decide ((tk k).text=⟨#[105,102]⟩)) {Stm.zero with pos:=(tk k).pos} (nx k) (c+1)>>=fun x=>.ok (x.2.1,x.2.2):=by rw[cT,if_pos hb,if_neg hc1,if_pos hi,if_neg hd1]
     rw[e]
     clear e
     have iB:=fun s b=>ihB (by omega) s b (by rw[h1];decide)
     refine MXA (fn:=Tryz.f109) Tryz.call109 Tryz.func109 rfl Tryz.ntmps109 Tryz.results109 rfl rfl ?_
     repeat'((fail_if_success (with_reducible refine ch 12 ?_));(fail_if_success (with_reducible refine ch 14 ?_));(first|(with_reducible first|apply AW.seq|apply AW.block|apply AW.skip|apply ae|apply ay|apply y_e|refine ag ?_)|((with_reducible apply ak);first|refine t_v AS.v ?_|refine t_v (by exact bm (hP:=cr)) ?_|refine t_w AS.w ?_)|((with_reducible apply bt);first|refine t_m (hs:=fun hg=>AS.v) (k:=?_)|refine t_m (hs:=fun hg=>(by exact ah (hP:=bg))) (k:=?_))|((with_reducible apply aX);refine t_s AS.s ?_)|((with_reducible refine av ?_);((refine aj (fun hc=>?_) (fun hc=>?_);all_goals(try(exfalso;simp[*] at hc;done));all_goals(try(exfalso;revert hc;simp;omega)))))|fail))
     ·simp only[en,ec]
      clear en ec
      repeat'(first|(with_reducible first|apply AW.seq|apply AW.ret|apply ae|apply ar|apply aD|apply y_e|refine ag ?_)|((with_reducible apply ak);first|refine t_v AS.v ?_|refine uZ (hP:=iB _ _) (k1:=fun x k h=>?_) (k2:=fun e h σx=>?_))|((with_reducible apply aX);refine t_s AS.s ?_)|((with_reducible refine bj ?_);first|(with_reducible refine aW ?_)|refine fG (k:=?_))|fail)
      ·exact⟨_,(_,_),by rw[h];rfl,di _,aC rfl⟩
      ·rw[h];rfl
     ·exfalso;rcases hi with h|h <;> simp[h] at hc
   ·have e:cT cnd (n+1) d k c=bn (tk k).text {Stm.zero with pos:=(tk k).pos} (nx k)>>=fun x=>.ok (x.1,(x.2,c+1)):=by rw[cT,if_pos hb,if_neg hc1,if_neg hi]
    rw[e]
    clear e
    by_cases ht:(tk k).text=⟨#[116,121,112,101]⟩
    ·have ty:=fun c d=>IK (k:=nx k) (c:=c) (d:=d) hf {Stm.zero with pos:=(tk k).pos} rfl
     rw[← ht] at ty
     refine MXA (fn:=Tryz.f109) Tryz.call109 Tryz.func109 rfl Tryz.ntmps109 Tryz.results109 rfl rfl ?_
     repeat'((fail_if_success (with_reducible fail));(fail_if_success (with_reducible refine ch 15 ?_));(first|(with_reducible first|apply AW.seq|apply AW.block|apply AW.skip|apply ae|apply ay|apply y_e|refine ag ?_)|((with_reducible apply ak);first|refine t_v CY ?_|refine t_v AS.v ?_|refine t_v (by exact bm (hP:=cr)) ?_|refine t_w AS.w ?_)|((with_reducible apply bt);first|refine t_m (hs:=fun hg=>AS.v) (k:=?_)|refine t_m (hs:=fun hg=>(by exact ah (hP:=bg))) (k:=?_))|((with_reducible apply aX);refine t_s AS.s ?_)|((with_reducible refine av ?_);((refine aj (fun hc=>?_) (fun hc=>?_);all_goals(try(exfalso;simp[*] at hc;done));all_goals(try(exfalso;revert hc;simp;omega)))))|fail))
     ·simp only[en,ec]
      clear en ec
      repeat'(first|(with_reducible first|apply AW.seq|apply AW.skip|apply AW.ret|apply ae|apply aD|apply y_e|refine ag ?_)|((with_reducible apply ak);first|refine t_v AS.v ?_|refine bB (hP:=jd hf _) (k1:=fun x k h=>?_) (k2:=fun e h σx=>?_)|refine uZ (hP:=ty _ _) (k1:=fun x k h=>?_) (k2:=fun e h σx=>?_)|refine uZ (hP:=y4 hf _ _) (k1:=fun x k h=>?_) (k2:=fun e h σx=>?_))|((with_reducible apply bt);first|refine t_f ?_|refine t_m (hs:=fun hg=>AS.v) (k:=?_)|refine GO (hP:=Cc hf _ _) (k1:=fun hg x k h=>?_) (k2:=fun hg e h σx=>?_) (k0:=fun hg=>?_))|((with_reducible apply aX);refine t_s AS.s ?_)|((with_reducible refine av ?_);first|refine cg ?_|(refine aj (fun hc=>?_) (fun hc=>?_)))|((with_reducible refine bj ?_);first|(with_reducible refine aW ?_)|refine fG (k:=?_))|fail)
      all_goals(clear hi ht h1 h2 hb hc1 bg ty;skip)
      all_goals((first|(refine⟨_,(_,_),?_,(by exact di _),(by exact aC rfl)⟩;simp_all[bn,aa,aq,adv,Lv.zero,Sp.zero,Rg.zero,Ct.zero];done)|(simp_all[bn,aa,aq,adv,Lv.zero,Sp.zero,Rg.zero,Ct.zero];done)|fail "end"))
    ·have ty:=fun c d=>pN (k:=nx k) (c:=c) (d:=d) hf {Stm.zero with pos:=(tk k).pos} (tk k).text ht
     refine MXA (fn:=Tryz.f109) Tryz.call109 Tryz.func109 rfl Tryz.ntmps109 Tryz.results109 rfl rfl ?_
     repeat'((fail_if_success (with_reducible fail));(fail_if_success (with_reducible refine ch 15 ?_));(first|(with_reducible first|apply AW.seq|apply AW.block|apply AW.skip|apply ae|apply ay|apply y_e|refine ag ?_)|((with_reducible apply ak);first|refine t_v AS.v ?_|refine t_v (by exact bm (hP:=cr)) ?_|refine t_w AS.w ?_)|((with_reducible apply bt);first|refine t_m (hs:=fun hg=>AS.v) (k:=?_)|refine t_m (hs:=fun hg=>(by exact ah (hP:=bg))) (k:=?_))|((with_reducible apply aX);refine t_s AS.s ?_)|((with_reducible refine av ?_);((refine aj (fun hc=>?_) (fun hc=>?_);all_goals(try(exfalso;simp[*] at hc;done));all_goals(try(exfalso;revert hc;simp;omega)))))|fail))
     ·simp only[en,ec]
      clear en ec
      repeat'(first|(with_reducible first|apply AW.seq|apply AW.skip|apply AW.ret|apply ae|apply aD|apply y_e|refine ag ?_)|((with_reducible apply ak);first|refine t_v AS.v ?_|refine bB (hP:=jd hf _) (k1:=fun x k h=>?_) (k2:=fun e h σx=>?_)|refine uZ (hP:=ty _ _) (k1:=fun x k h=>?_) (k2:=fun e h σx=>?_)|refine uZ (hP:=y4 hf _ _) (k1:=fun x k h=>?_) (k2:=fun e h σx=>?_))|((with_reducible apply bt);first|refine t_f ?_|refine t_m (hs:=fun hg=>AS.v) (k:=?_)|refine GO (hP:=Cc hf _ _) (k1:=fun hg x k h=>?_) (k2:=fun hg e h σx=>?_) (k0:=fun hg=>?_))|((with_reducible apply aX);refine t_s AS.s ?_)|((with_reducible refine av ?_);first|refine cg ?_|(refine aj (fun hc=>?_) (fun hc=>?_)))|((with_reducible refine bj ?_);first|(with_reducible refine aW ?_)|refine fG (k:=?_))|fail)
      all_goals(clear hi ht h1 h2 hb hc1 bg ty;skip)
      all_goals((first|(refine⟨_,(_,_),?_,(by exact di _),(by exact aC rfl)⟩;simp_all[bn,aa,aq,adv,Lv.zero,Sp.zero,Rg.zero,Ct.zero];done)|(simp_all[bn,aa,aq,adv,Lv.zero,Sp.zero,Rg.zero,Ct.zero];done)|fail "end"))
 ·have e:cT cnd (n+1) d k c= .error (flt 9 (tk k)):=by rw[cT,if_neg hb]
  rw[e]
  refine MXA (fn:=Tryz.f109) Tryz.call109 Tryz.func109 rfl Tryz.ntmps109 Tryz.results109 rfl rfl ?_
  repeat'((fail_if_success (with_reducible fail));(first|(with_reducible first|apply AW.seq|apply AW.block|apply ae|apply aD|apply ca|apply y_e|refine ag ?_)|((with_reducible apply ak);first|refine t_v AS.v ?_|refine t_v (by exact bm (hP:=cr)) ?_|refine t_w AS.w ?_|refine t_q (hP:=eC _ _) (k:=fun σx=>?_))|((with_reducible apply bt);first|refine t_m (hs:=fun hg=>AS.v) (k:=?_)|refine t_m (hs:=fun hg=>(by exact ah (hP:=sV _))) (k:=?_))|((with_reducible apply aX);refine t_s AS.s ?_)|((with_reducible refine av ?_);((refine aj (fun hc=>?_) (fun hc=>?_);all_goals(try(exfalso;simp[*] at hc;done)))))|((with_reducible refine bj ?_);(with_reducible refine aW ?_))|fail))
  all_goals rfl
end
end Am
namespace Am
open Tk Go.RowKit
section
variable {l:List Tok} {k k':Ix l}
theorem tj (hf:Fine l) {x:Ct} (h:da k= .ok (x,k')):k.1<k'.1:=by
 unfold da at h
 obtain ⟨⟨u,k1⟩,h1,h⟩:=az.1 h;(try dsimp only at h)
 obtain ⟨⟨a,k2⟩,h2,h⟩:=az.1 h;(try dsimp only at h)
 obtain ⟨⟨r,k3⟩,h3,h⟩:=az.1 h;(try dsimp only at h)
 obtain ⟨⟨b,k4⟩,h4,h⟩:=az.1 h;(try dsimp only at h)
 obtain ⟨⟨t,k5⟩,h5,h⟩:=az.1 h;(try dsimp only at h)
 obtain ⟨⟨c,k6⟩,h6,h⟩:=az.1 h;(try dsimp only at h)
 obtain ⟨⟨g,k7⟩,h7,h⟩:=az.1 h;(try dsimp only at h)
 injection h with h;injection h with _ h;subst h
 have:=(bN hf h1).2
 have:=(eP hf h2).2
 have:=(bN hf h3).2
 have:=(eP hf h4).2
 have:=(bN hf h5).2
 have:=(eP hf h6).2
 have:=qD hf h7
 show k.1<k7.1
 omega
theorem CD (hf:Fine l) {x:ByteArray} (h:iI k= .ok (x,k')):k.1<k'.1:=by
 unfold iI at h
 split at h
 ·rename_i hk
  split at h
  ·cases h
  ·injection h with h;injection h with _ h;subst h
   rw[gX hf (by rw[hk];decide)]
   omega
 ·cases h
theorem vz (hf:Fine l) {v:Bool} {x:Ex} (h:dG v k= .ok (x,k')):k.1<k'.1:=by
 unfold dG at h
 obtain ⟨⟨u,k1⟩,h1,h⟩:=az.1 h;(try dsimp only at h)
 split at h
 ·cases h
 ·injection h with h;injection h with _ h;subst h
  exact(og hf v _).2.2.2.1 h1
theorem th {cnd:List Tok→Except Fa (Ex×Nat)} {x:Ex} (h:fQ cnd k= .ok (x,k')):k.1≤k'.1:=by
 unfold fQ at h
 obtain ⟨⟨u,n⟩,h1,h⟩:=az.1 h;(try dsimp only at h)
 injection h with h;injection h with _ h;subst h
 unfold tF
 split
 ·exact Nat.le_add_right _ _
 ·exact Nat.le_refl _
theorem dV {p:Prop} [Decidable p] {α:Type} {x y z:α} (h:(if p then x else y)=z):(p∧x=z)∨(¬p∧y=z):=by
 by_cases c:p
 ·rw[if_pos c] at h;exact .inl ⟨c,h⟩
 ·rw[if_neg c] at h;exact .inr ⟨c,h⟩
theorem seq1 {α β:Type} {x:Except Fa (α×Ix l)} {f:α×Ix l→Except Fa (β×(Stm×Ix l))} {b:β} {s:Stm} (h:(x>>=f)= .ok (b,(s,k'))) (h1:∀ a k1,x= .ok (a,k1)→k.1<k1.1) (h2:∀ a k1,f (a,k1)= .ok (b,(s,k'))→k1.1≤k'.1):k.1≤k'.1:=by
 obtain ⟨⟨a,k1⟩,e1,e2⟩:=az.1 h
 have:=h1 a k1 e1
 have:=h2 a k1 e2
 omega
theorem fE {β:Type} {b b':β} {s s':Stm} {k1:Ix l} (h:(Except.ok (b',(s',k1)):Except Fa (β×(Stm×Ix l)))= .ok (b,(s,k'))):k1.1≤k'.1:=by
 injection h with h;injection h with _ h;injection h with _ h;subst h;exact Nat.le_refl _
section
variable (hf:Fine l)
include hf
theorem iA:∀ {k:Ix l} a k1,bV k= .ok (a,k1)→k.1<k1.1:=fun a k1 h=>by have:=(bN hf h).2;omega
theorem xn:∀ {k:Ix l} a k1,cD k= .ok (a,k1)→k.1<k1.1:=fun a k1 h=>(nZ hf h).1
theorem GC:∀ {k:Ix l} a k1,dH k= .ok (a,k1)→k.1<k1.1:=fun a k1 h=>vY hf h
theorem j4 {self:Bool}:∀ {k:Ix l} a k1,eG self k= .ok (a,k1)→k.1<k1.1:=fun a k1 h=>FC hf h
theorem BH {s:ByteArray}:∀ {k:Ix l} a k1,eO s k= .ok (a,k1)→k.1<k1.1:=fun a k1 h=>by have:=(yU hf h).2;omega
theorem JU {s:ByteArray}:∀ {k:Ix l} a k1,ez s k= .ok (a,k1)→k.1<k1.1:=fun a k1 h=>by have:=(eP hf h).2;omega
theorem JR:∀ {k:Ix l} a k1,eD k= .ok (a,k1)→k.1<k1.1:=fun a k1 h=>mi hf h
theorem GK:∀ {k:Ix l} a k1,fk k= .ok (a,k1)→k.1<k1.1:=fun a k1 h=>qD hf h
theorem xo {ws:List ByteArray}:∀ {k:Ix l} a k1,cU ws k= .ok (a,k1)→k.1<k1.1:=fun a k1 h=>by have:=(iU hf h).2.2.2.1;omega
theorem Gs:∀ {k:Ix l} a k1,da k= .ok (a,k1)→k.1<k1.1:=fun a k1 h=>tj hf h
theorem Kh:∀ {k:Ix l} a k1,iI k= .ok (a,k1)→k.1<k1.1:=fun a k1 h=>CD hf h
theorem Gq {v:Bool}:∀ {k:Ix l} a k1,dG v k= .ok (a,k1)→k.1<k1.1:=fun a k1 h=>vz hf h
theorem Be {s:Stm} {k1:Ix l} {β:Type} {b:β} {n:Nat} {acc:List ByteArray} {f:List ByteArray×Ix l→Except Fa (β×(Stm×Ix l))} (h:(bp n acc k1>>=f)= .ok (b,(s,k'))) (h2:∀ a k1,f (a,k1)= .ok (b,(s,k'))→k1.1≤k'.1):k1.1≤k'.1:=by
 obtain ⟨⟨a,k2⟩,e1,e2⟩:=az.1 h
 have:=(mP hf e1).1
 have:=h2 a k2 e2
 omega
theorem B6 {s:ByteArray} {k1:Ix l} (h:isW s k1=true) (h2:(nx k1).1≤k'.1):k1.1≤k'.1:=by have:=iy hf h;omega
theorem Ax {w:ByteArray} {s s':Stm} {b:Bool} (h:bM w s k= .ok (b,(s',k'))):k.1≤k'.1:=by
 unfold bM at h
 rcases dV h with⟨hw,h⟩|⟨_,h⟩
 ·exact seq1 h (iA hf) fun a k1 h=>seq1 h (xn hf) fun a k1 h=>fE h
 rcases dV h with⟨hw,h⟩|⟨_,h⟩
 ·refine seq1 h (iA hf) fun a k1 h=>?_
  dsimp only at h
  rcases dV h with⟨hw,h⟩|⟨_,h⟩
  ·exact B6 hf hw (seq1 h (xn hf) fun a k1 h=>Be hf h fun a k1 h=>fE h)
  ·exact Be hf h fun a k1 h=>fE h
 rcases dV h with⟨hw,h⟩|⟨_,h⟩
 ·exact seq1 h (iA hf) fun a k1 h=>fE h
 rcases dV h with⟨hw,h⟩|⟨_,h⟩
 ·exact seq1 h (iA hf) fun a k1 h=>seq1 h (GC hf) fun a k1 h=>fE h
 rcases dV h with⟨hw,h⟩|⟨_,h⟩
 ·refine seq1 h (iA hf) fun a k1 h=>?_
  dsimp only at h
  rcases dV h with⟨hw,h⟩|⟨_,h⟩
  ·exact B6 hf hw (seq1 h (j4 hf) fun a k1 h=>fE h)
  ·exact fE h
 rcases dV h with⟨hw,h⟩|⟨_,h⟩
 ·exact seq1 h (iA hf) fun a k1 h=>seq1 h (BH hf) fun a k1 h=>seq1 h (xn hf) fun a k1 h=>seq1 h (BH hf) fun a k1 h=>seq1 h (JR hf) fun a k1 h=>seq1 h (BH hf) fun a k1 h=>seq1 h (GK hf) fun a k1 h=>fE h
 rcases dV h with⟨hw,h⟩|⟨_,h⟩
 ·exact seq1 h (iA hf) fun a k1 h=>seq1 h (xo hf) fun a k1 h=>fE h
 rcases dV h with⟨hw,h⟩|⟨_,h⟩
 ·exact seq1 h (iA hf) fun a k1 h=>fE h
 rcases dV h with⟨hw,h⟩|⟨_,h⟩
 ·exact seq1 h (iA hf) fun a k1 h=>fE h
 ·exact fE h
theorem BR {self:Bool} {s s':Stm} {u:Unit} (h:gr self s k= .ok (u,(s',k'))):k.1≤k'.1:=by
 unfold gr at h
 exact seq1 h (j4 hf) fun a k1 h=>seq1 h (j4 hf) fun a k1 h=>seq1 h (JU hf) fun a k1 h=>seq1 h (j4 hf) fun a k1 h=>fE h
theorem FB {β:Type} {self:Bool} {s0 s:Stm} {f:Unit×(Stm×Ix l)→Except Fa (β×(Stm×Ix l))} {b:β} (h:(gr self s0 k>>=f)= .ok (b,(s,k'))) (h2:∀ a s1 k1,f (a,(s1,k1))= .ok (b,(s,k'))→k1.1≤k'.1):k.1≤k'.1:=by
 obtain ⟨⟨a,s1,k1⟩,e1,e2⟩:=az.1 h
 have:=BR hf e1
 have:=h2 a s1 k1 e2
 omega
theorem Cb {w:ByteArray} {s s':Stm} {b:Bool} (h:dh w s k= .ok (b,(s',k'))):k.1≤k'.1:=by
 unfold dh at h
 rcases dV h with⟨hw,h⟩|⟨_,h⟩
 ·exact FB hf h fun a s1 k1 h=>seq1 h (j4 hf) fun a k1 h=>fE h
 rcases dV h with⟨hw,h⟩|⟨_,h⟩
 ·refine FB hf h fun a s1 k1 h=>seq1 h (iA hf) fun a k1 h=>?_
  dsimp only at h
  rcases dV h with⟨hw,h⟩|⟨_,h⟩
  ·have hk:=hw
   rcases dV h with⟨_,h⟩|⟨_,h⟩
   ·have:=fE h
    rw[gX hf (by rw[hk.2];decide)] at this
    omega
   ·cases h
  ·exact fE h
 rcases dV h with⟨hw,h⟩|⟨_,h⟩
 ·exact FB hf h fun a s1 k1 h=>seq1 h (GK hf) fun a k1 h=>fE h
 rcases dV h with⟨hw,h⟩|⟨_,h⟩
 ·exact FB hf h fun a s1 k1 h=>seq1 h (iA hf) fun a k1 h=>fE h
 rcases dV h with⟨hw,h⟩|⟨_,h⟩
 ·exact seq1 h (j4 hf) fun a k1 h=>seq1 h (j4 hf) fun a k1 h=>fE h
 rcases dV h with⟨hw,h⟩|⟨_,h⟩
 ·exact seq1 h (j4 hf) fun a k1 h=>seq1 h (j4 hf) fun a k1 h=>seq1 h (Gq hf) fun a k1 h=>fE h
 rcases dV h with⟨hw,h⟩|⟨_,h⟩
 ·exact seq1 h (j4 hf) fun a k1 h=>seq1 h (Gq hf) fun a k1 h=>fE h
 ·exact fE h
theorem yY {w:ByteArray} {s s':Stm} {u:Unit} (h:cW w s k= .ok (u,(s',k'))):k.1≤k'.1:=by
 unfold cW at h
 rcases dV h with⟨hw,h⟩|⟨_,h⟩
 ·refine seq1 h (xo hf) fun a k1 h=>?_
  dsimp only at h
  rcases dV h with⟨hw,h⟩|⟨_,h⟩
  ·exact seq1 h (iA hf) fun a k1 h=>seq1 h (xn hf) fun a k1 h=>fE h
  ·exact seq1 h (GC hf) fun a k1 h=>fE h
 rcases dV h with⟨hw,h⟩|⟨_,h⟩
 ·exact seq1 h (iA hf) fun a k1 h=>seq1 h (Gs hf) fun a k1 h=>fE h
 rcases dV h with⟨hw,h⟩|⟨_,h⟩
 ·exact seq1 h (Kh hf) fun a k1 h=>seq1 h (xo hf) fun a k1 h=>seq1 h (Gs hf) fun a k1 h=>fE h
 rcases dV h with⟨hw,h⟩|⟨_,h⟩
 ·exact seq1 h (j4 hf) fun a k1 h=>fE h
 rcases dV h with⟨hw,h⟩|⟨_,h⟩
 ·exact seq1 h (iA hf) fun a k1 h=>seq1 h (xo hf) fun a k1 h=>seq1 h (j4 hf) fun a k1 h=>seq1 h (j4 hf) fun a k1 h=>fE h
 ·exact fE h
theorem z6 {w:ByteArray} {s s':Stm} (h:bn w s k= .ok (s',k')):k.1<k'.1:=by
 unfold bn at h
 obtain ⟨⟨b,s1,k1⟩,h1,h⟩:=az.1 h;(try dsimp only at h)
 have e1:=Ax hf h1
 obtain ⟨⟨s2,k2⟩,h2,h⟩:=az.1 h;(try dsimp only at h)
 have e2:k1.1≤k2.1:=by
  split at h2
  ·injection h2 with h2;injection h2 with _ h2;subst h2;exact Nat.le_refl _
  ·obtain ⟨⟨b3,s3,k3⟩,h3,h2⟩:=az.1 h2;(try dsimp only at h2)
   have e3:=Cb hf h3
   split at h2
   ·injection h2 with h2;injection h2 with _ h2;subst h2;exact e3
   ·obtain ⟨⟨b4,s4,k4⟩,h4,h2⟩:=az.1 h2;(try dsimp only at h2)
    have e4:=yY hf h4
    injection h2 with h2;injection h2 with _ h2;subst h2
    omega
 obtain ⟨⟨u,k5⟩,h5,h⟩:=az.1 h;(try dsimp only at h)
 have e5:=(eP hf h5).2
 injection h with h;injection h with _ h;subst h
 show k.1<k5.1
 omega
theorem ki (cnd:List Tok→Except Fa (Ex×Nat)):∀ n:Nat,(∀ {d c c':Nat} {k k':Ix l} {s:Stm},cT cnd n d k c= .ok (s,(k',c'))→k.1<k'.1)∧(∀ {d c c':Nat} {i:Bool} {k k':Ix l} {s s':Stm} {u:Unit},cm cnd n d i s k c= .ok (u,(s',(k',c')))→k.1≤k'.1)∧(∀ {d c c':Nat} {k k':Ix l} {x:List Stm},cE cnd n d k c= .ok (x,(k',c'))→k.1<k'.1)∧(∀ {d c c':Nat} {acc:List Stm} {k k':Ix l} {x:List Stm},ct cnd n d acc k c= .ok (x,(k',c'))→k.1≤k'.1)
 |0=>⟨fun h=>(by rw[cT] at h;cases h),fun h=>(by rw[cm] at h;cases h),fun h=>(by rw[cE] at h;cases h),fun h=>(by rw[ct] at h;cases h)⟩
 |n+1=>by
  obtain ⟨i1,i2,i3,i4⟩:=ki cnd n
  refine⟨fun {d c c' k k' s} h=>?_,fun {d c c' i k k' s s' u} h=>?_,fun {d c c' k k' x} h=>?_,fun {d c c' acc k k' x} h=>?_⟩
  ·rw[cT] at h
   split at h
   ·rename_i hk
    have en:=gX hf (k:=k) (by rw[hk.1];decide)
    split at h
    ·cases h
    ·split at h
     ·split at h
      ·cases h
      ·obtain ⟨⟨u,s1,k1,c1⟩,h1,h⟩:=az.1 h;(try dsimp only at h)
       injection h with h;injection h with _ h;injection h with h _;subst h
       have:=i2 h1
       omega
     ·obtain ⟨⟨s1,k1⟩,h1,h⟩:=az.1 h;(try dsimp only at h)
      injection h with h;injection h with _ h;injection h with h _;subst h
      have:=z6 hf h1
      omega
   ·cases h
  ·rw[cm] at h
   obtain ⟨⟨s1,k1⟩,h1,h⟩:=az.1 h;(try dsimp only at h)
   have e1:k.1≤k1.1:=by
    split at h1
    ·obtain ⟨⟨x,k2⟩,h2,h1⟩:=az.1 h1;(try dsimp only at h1)
     injection h1 with h1;injection h1 with _ h1;subst h1
     exact th h2
    ·injection h1 with h1;injection h1 with _ h1;subst h1;exact Nat.le_refl _
   obtain ⟨⟨x,k2,c2⟩,h2,h⟩:=az.1 h;(try dsimp only at h)
   have e2:=i3 h2
   split at h
   ·rename_i hw
    have e3:=iy hf hw
    obtain ⟨⟨y,k3,c3⟩,h3,h⟩:=az.1 h;(try dsimp only at h)
    have e4:=i3 h3
    injection h with h;injection h with _ h;injection h with _ h;injection h with h _;subst h
    show k.1≤k3.1
    omega
   ·injection h with h;injection h with _ h;injection h with _ h;injection h with h _;subst h
    omega
  ·rw[cE] at h
   obtain ⟨⟨u,k1⟩,h1,h⟩:=az.1 h;(try dsimp only at h)
   have e1:=(eP hf h1).2
   split at h
   ·cases h
   ·obtain ⟨⟨x2,k2,c2⟩,h2,h⟩:=az.1 h;(try dsimp only at h)
    have e2:=i4 h2
    obtain ⟨⟨v,k3⟩,h3,h⟩:=az.1 h;(try dsimp only at h)
    have e3:=(eP hf h3).2
    injection h with h;injection h with _ h;injection h with h _;subst h
    show k.1<k3.1
    omega
  ·rw[ct] at h
   split at h
   ·injection h with h;injection h with _ h;injection h with h _;subst h;exact Nat.le_refl _
   ·obtain ⟨⟨s1,k1,c1⟩,h1,h⟩:=az.1 h;(try dsimp only at h)
    have e1:=i1 h1
    have e2:=i4 h
    omega
end
end
end Am
end Go.Proofs.YtkpodagbefnebaaGreatDoor
