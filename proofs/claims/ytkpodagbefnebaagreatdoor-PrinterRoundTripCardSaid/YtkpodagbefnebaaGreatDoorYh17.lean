import Derived.Test.YtkpodagbefnebaaGreatDoorYh16
import Derived.Test.YtkpodagbefnebaaGreatDoorYh13
set_option linter.unusedSimpArgs false
set_option linter.unusedVariables false
set_option linter.unusedSectionVars false
namespace Go.Proofs.YtkpodagbefnebaaGreatDoor
namespace Am
open Tk Go.RowKit
set_option maxRecDepth 100000
set_option maxHeartbeats 4000000
theorem z6 {d:Nat→Bool}:∀ {l:List C} {i:Nat} {c:C},okL d l=true→C.ok d c=true→okL d (l.set i c)=true
 |[],_,_,_,_=>rfl
 |x :: l,0,c,h,hc=>by
  rw[okL,Bool.and_eq_true] at h
  rw[List.set_cons_zero,okL,hc,h.2];rfl
 |x :: l,i+1,c,h,hc=>by
  rw[okL,Bool.and_eq_true] at h
  rw[List.set_cons_succ,okL,h.1,z6 h.2 hc];rfl
theorem zt:∀ {l:List C} {i:Nat} {c:C},unL (l.set i c)=(unL l).set i c.un
 |[],_,_=>rfl
 |x :: l,0,c=>by rw[List.set_cons_zero,unL,unL,List.set_cons_zero]
 |x :: l,i+1,c=>by rw[List.set_cons_succ,unL,unL,List.set_cons_succ,zt]
def stM (h:C) (s:Stm):List C:=(stC s).set 7 h
theorem JQ:(∀ h x y,aZ (stM h x) 0 [sI y]=some (stM h {x with kind:=y}))∧(∀ h x y,aZ (stM h x) 4 [sS y]=some (stM h {x with name:=y}))∧(∀ h x y,aZ (stM h x) 8 [bA y]=some (stM h {x with aliases:=y}))∧(∀ h x h',aZ (stM h x) 7 [h']=some (stM h' x)):=by
 refine⟨?_,?_,?_,?_⟩ <;> (intro h x y;cases x;kernel_rfl)
theorem L2:∀ h x,aU false (stM h x) 7 1=some (.c h):=by intros;kernel_rfl
theorem getM (h:C) (x:Stm):(stM h x)[7]? =some h:=by kernel_rfl
theorem Ls (h h':C) (x:Stm):(stM h x).set 7 h'=stM h' x:=by unfold stM;rw[List.set_set]
theorem D7 (d:Nat→Bool) {t:Nat} {acc:List ByteArray} (s:Stm) (h:d t=true):okL d (stM (.lst (some t) 1 (acc.map oneS)) s)=true:=z6 (fS d s) (by
 show(d t&&bB d (acc.map oneS))=true
 rw[h,okA.2.1 d];rfl)
theorem EG {t:Nat} {acc:List ByteArray} (s:Stm):(HO.obj 69 (stM (.lst (some t) 1 (acc.map oneS)) s)).un=stO {s with list:=acc}:=by
 show HO.obj _ (unL _)=_
 rw[stM,zt,fW,C.un,unA.2.1]
 cases s;rfl
section
variable {l:List Tok} {k k':Ix l} {c d:Int}
theorem K5 (hf:Fine l) (s:Stm) (hs:s.list=[]):MX Tryz.prog 182 [(0,psO k c d),(1001,.obj 69 (stM .nil s))] [.c (.ptr 0 0),.c (.ptr 1001 0),.c (sS ⟨#[116,121,112,101]⟩)] (bR ⟨#[116,121,112,101]⟩ s k) (fun b=>.c (sB b)) (fun b=>[(0,psO b.2 c d),(1001,stO b.1)]) pvS:=by
 have hl:=hf.le
 have a1:=fun k=>(du (k:=k) (c:=c) (d:=d) hf ⟨#[97,108,105,97,115]⟩).ok _ _ rfl
 refine MXA (fn:=Tryz.f182) Tryz.call182 Tryz.func182 rfl Tryz.ntmps182 Tryz.results182 rfl rfl ?_
 repeat'(first|(with_reducible first|apply AW.seq|apply AW.block|apply AW.skip|apply ae|apply aE|apply cf|apply y_e|refine ah ?_)|((with_reducible apply ak);first|refine t_v AS.v ?_|refine t_w (by exact ch (hP:=a1 _)) ?_|refine bG (hP:=eu hf) (k1:=fun x k h=>?_) (k2:=fun e h σx=>?_)|refine bG (hP:=lS hf) (k1:=fun x k h=>?_) (k2:=fun e h σx=>?_))|((with_reducible apply aV);(refine t_s (mC (hs:=by simp only[JQ];rfl)) ?_))|((with_reducible refine au ?_);first|refine cF ?_|refine cj ?_|(refine aj (fun hc=>?_) (fun hc=>?_)))|((with_reducible refine bo ?_);(with_reducible refine aY ?_))|fail)
 ·rename_i k0 x1 k1 h1
  have e:bR ⟨#[116,121,112,101]⟩ s k0=br (fuel l) [] k>>=fun z=>.ok (true,({s with kind:=2,name:=x1,aliases:=x,list:=z.1},z.2)):=by
   rw[hc] at h
   have h:cH (nx k1)= .ok (x,k):=h
   rw[bR,if_neg (by decide),if_pos rfl,h1]
   simp only[aa]
   rw[if_pos hc,h,hs]
   rfl
  rw[e]
  clear e
  refine nilRowH 1001 7 1002 9 1 (cs':=stM (.lst (some 1002) 1 []) {s with kind:=2,name:=x1,aliases:=x}) rfl rfl (getM _ _) (Ls _ _ _) ?_
  clear h h1 hc
  revert x k
  intro y2 k2
  generalize hsp:br (fuel l) [] k2=z
  refine AW.loop (fun m σ=>∃ acc k',br m acc k'=z∧l.length<m+k'.1∧acc.length≤k'.1∧σ=mk [(0,.c (.ptr 0 0)),(1,.c (.ptr 1001 0))] [(1002,.row 9 1 acc.length),(1001,.obj 69 (stM (.lst (some 1002) 1 (acc.map oneS)) {s with kind:=2,name:=x1,aliases:=y2})),(0,psO k' c d)]) (fuel l) ?_ ?_
  ·exact⟨_,wkA,[],k2,hsp,by unfold fuel;omega,Nat.zero_le _,rfl⟩
  clear hsp
  rintro m σ ⟨acc,k',hm,hm2,ha,rfl⟩
  subst hm
  have hk':=k'.2
  obtain ⟨m,rfl⟩:∃ n,m=n+1:=⟨m - 1,by omega⟩
  have a:=(cd (k:=k') (c:=c) (d:=d) hf ⟨#[44]⟩).ok _ _ rfl
  cases hb:isM ⟨#[44]⟩ k' with
  |true=>
   rw[hb] at a
   have a:MNL _ _ _ _ _ [(0,psO (nx k') c d)]:=a
   have hy:=bH hf hb
   repeat'(first|(with_reducible first|apply AW.seq|apply AW.block|apply AW.skip|apply ae|apply aE|apply aw|apply cf|apply y_e|refine ah ?_|refine bb ?_)|((with_reducible apply ak);first|refine t_v (tE (hc:=by simp only[L2];rfl)) ?_|refine t_v AS.v ?_|refine t_w AS.w ?_|refine t_w (by exact ch (hP:=a)) ?_|refine bG (hP:=eu hf) (k1:=fun x k h=>?_) (k2:=fun e h σx=>?_))|((with_reducible apply aV);(refine t_s (mC (hs:=by simp only[JQ];rfl)) ?_))|((with_reducible refine au ?_);refine cF ?_)|((with_reducible refine bo ?_);(with_reducible refine aY ?_))|(refine⟨by decide +kernel,fun(σx:St)=>?_⟩)|(refine⟨by decide +kernel,?_⟩)|fail)
   ·have hx:=(bS hf h).2
    exact⟨m,_,Nat.lt_succ_self m,wkA,acc++[x],k,by rw[br,hb,if_pos rfl,h];rfl,by omega,by simp;omega,rfl⟩
   ·rw[br,hb,if_pos rfl,h];rfl
  |false=>
   rw[hb] at a
   have a:MNL _ _ _ _ _ [(0,psO k' c d)]:=a
   repeat'(first|(with_reducible first|apply AW.seq|apply AW.ret|apply AW.exit|apply ae|apply aJ|apply aw|apply aW|apply y_e|refine ah ?_)|((with_reducible apply ak);first|refine t_v AS.v ?_|refine t_w (by exact ch (hP:=a)) ?_)|((with_reducible refine au ?_);refine cj ?_)|((with_reducible refine bo ?_);refine l_d (k:=?_))|fail)
   exact⟨true,({s with kind:=2,name:=x1,aliases:=y2,list:=acc},k'),by rw[br,hb];rfl,rfl,aD rfl,HU (EG _)⟩
 ·(first|(simp_all[bR,aa,ar,adv,Lv.zero,Sp.zero,Rg.zero,Ct.zero];done)|fail "end")
 ·rename_i k0
  have e:bR ⟨#[116,121,112,101]⟩ s k0=br (fuel l) [] (adv (isW ⟨#[97,108,105,97,115]⟩ k) k)>>=fun z=>.ok (true,({s with kind:=2,name:=x,list:=z.1},z.2)):=by
   rw[bR,if_neg (by decide),if_pos rfl,h]
   simp only[aa]
   rw[hc,if_neg (by decide),hs]
   rfl
  rw[e]
  clear e
  refine nilRowH 1001 7 1002 9 1 (cs':=stM (.lst (some 1002) 1 []) {s with kind:=2,name:=x}) rfl rfl (getM _ _) (Ls _ _ _) ?_
  generalize adv (isW ⟨#[97,108,105,97,115]⟩ k) k=k2
  clear h hc
  revert x
  intro y2
  generalize hsp:br (fuel l) [] k2=z
  refine AW.loop (fun m σ=>∃ acc k',br m acc k'=z∧l.length<m+k'.1∧acc.length≤k'.1∧σ=mk [(0,.c (.ptr 0 0)),(1,.c (.ptr 1001 0))] [(1002,.row 9 1 acc.length),(1001,.obj 69 (stM (.lst (some 1002) 1 (acc.map oneS)) {s with kind:=2,name:=y2})),(0,psO k' c d)]) (fuel l) ?_ ?_
  ·exact⟨_,wkA,[],k2,hsp,by unfold fuel;omega,Nat.zero_le _,rfl⟩
  clear hsp
  rintro m σ ⟨acc,k',hm,hm2,ha,rfl⟩
  subst hm
  have hk':=k'.2
  obtain ⟨m,rfl⟩:∃ n,m=n+1:=⟨m - 1,by omega⟩
  have a:=(cd (k:=k') (c:=c) (d:=d) hf ⟨#[44]⟩).ok _ _ rfl
  cases hb:isM ⟨#[44]⟩ k' with
  |true=>
   rw[hb] at a
   have a:MNL _ _ _ _ _ [(0,psO (nx k') c d)]:=a
   have hy:=bH hf hb
   repeat'(first|(with_reducible first|apply AW.seq|apply AW.block|apply AW.skip|apply ae|apply aE|apply aw|apply cf|apply y_e|refine ah ?_|refine bb ?_)|((with_reducible apply ak);first|refine t_v (tE (hc:=by simp only[L2];rfl)) ?_|refine t_v AS.v ?_|refine t_w AS.w ?_|refine t_w (by exact ch (hP:=a)) ?_|refine bG (hP:=eu hf) (k1:=fun x k h=>?_) (k2:=fun e h σx=>?_))|((with_reducible apply aV);(refine t_s (mC (hs:=by simp only[JQ];rfl)) ?_))|((with_reducible refine au ?_);refine cF ?_)|((with_reducible refine bo ?_);(with_reducible refine aY ?_))|(refine⟨by decide +kernel,fun(σx:St)=>?_⟩)|(refine⟨by decide +kernel,?_⟩)|fail)
   ·have hx:=(bS hf h).2
    exact⟨m,_,Nat.lt_succ_self m,wkA,acc++[x],k,by rw[br,hb,if_pos rfl,h];rfl,by omega,by simp;omega,rfl⟩
   ·rw[br,hb,if_pos rfl,h];rfl
  |false=>
   rw[hb] at a
   have a:MNL _ _ _ _ _ [(0,psO k' c d)]:=a
   repeat'(first|(with_reducible first|apply AW.seq|apply AW.ret|apply AW.exit|apply ae|apply aJ|apply aw|apply aW|apply y_e|refine ah ?_)|((with_reducible apply ak);first|refine t_v AS.v ?_|refine t_w (by exact ch (hP:=a)) ?_)|((with_reducible refine au ?_);refine cj ?_)|((with_reducible refine bo ?_);refine l_d (k:=?_))|fail)
   exact⟨true,({s with kind:=2,name:=y2,list:=acc},k'),by rw[br,hb];rfl,rfl,aD rfl,HU (EG _)⟩
 ·(first|(simp_all[bR,aa,ar,adv,Lv.zero,Sp.zero,Rg.zero,Ct.zero];done)|fail "end")
end
end Am
namespace Am
open Tk Go.RowKit
set_option maxRecDepth 100000
set_option maxHeartbeats 4000000
theorem tX (s:ByteArray):Pure Tryz.prog 180 [.c (sS s)] (.c (sB (rQ s))):=by
 refine fn1 (fn:=Tryz.f180) Tryz.call180 Tryz.func180 rfl Tryz.ntmps180 Tryz.results180 rfl (by rfl) ?_
 repeat'(first|(with_reducible first|apply AW.seq|apply AW.block|apply AW.skip|apply AW.ret|apply ae|apply aq|apply aw|apply aG|apply y_e|refine ah ?_)|((with_reducible apply ak);refine t_v AS.v ?_)|((with_reducible refine au ?_);((refine aj (fun hc=>?_) (fun hc=>?_);all_goals(try(exfalso;simp[*] at hc;done)))))|((with_reducible refine aA ?_);refine k_b ?_)|fail)
 all_goals simp_all[rQ,beginW]
theorem zwS:Zw Tryz.prog 69 (stM .nil Stm.zero):=Zw.of (by decide +kernel)
theorem Bg {ρ:Operand→Option V} {H:Nat→Option HO} {d:Option Nat} {ty:TypeId} {pos:String} {af:Array Edge} {gu:Option (Nat×Bool)} {x0:Operand} {y0:Po} (h0:Ev ρ x0 (.agg (poC y0))):AS Tryz.prog ρ H ⟨d,.build 69 #[(2,x0)],ty,pos,af,gu⟩ ⟨.agg (stM .nil {Stm.zero with pos:=y0}),[],[]⟩:=bq zwS (by decide +kernel) (by kernel_rfl) (show EvP ρ _ _ from .cons h0 rfl .nil) (by kernel_rfl)
structure CndOk (l:List Tok) (cnd:List Tok→Except Fa (Ex×Nat)):Prop where
 run:∀ k:Ix l,Pure Tryz.prog 78 [.c (.lst none 4 ((l.drop k.1).map tkC))] (xS (cnd (l.drop k.1)))
 ok:∀ (k:Ix l) e n,cnd (l.drop k.1)= .ok (e,n)→k.1+n<l.length
 no:∀ (k:Ix l) f,cnd (l.drop k.1)= .error f→f.code≠0
theorem Ej {ρ:Operand→Option V} {H:Nat→Option HO} {d:Option Nat} {ty:TypeId} {pos:String} {af:Array Edge} {gu:Option (Nat×Bool)} {x0:Operand} {y0:Po} (h0:Ev ρ x0 (.agg (poC y0)):=by exact .pl rfl):AS Tryz.prog ρ H ⟨d,.build 69 #[(2,x0)],ty,pos,af,gu⟩ ⟨.agg (stM .nil {Stm.zero with pos:=y0}),[],[]⟩:=Bg h0
section
variable {l:List Tok} {cnd:List Tok→Except Fa (Ex×Nat)}
theorem H8 (hf:Fine l) (hc:CndOk l cnd) {n d:Nat} (hd:d≤12) {k:Ix l} {c:Nat} (ihB:d<12→∀ (s:Stm) (b:Bool),(tk k).kind≠0→MX Tryz.prog 181 [(0,psO (nx k) ((c+1:Nat):Int) d),(1001,stO s)] [.c (.ptr 0 0),.c (.ptr 1001 0),.c (sB b)] (cq cnd n d b s (nx k) (c+1)) (fun _=>.tup []) (fun b=>[(0,psO b.2.1 b.2.2 d),(1001,stO b.1)]) pvS) :
 MX Tryz.prog 109 [(0,psO k c d)] [.c (.ptr 0 0)] (cX cnd (n+1) d k c) (fun s=>.agg (stC s)) (fun b=>[(0,psO b.1 b.2 d)]) pvS:=by
 have hl:=hf.le
 have hk:=k.2
 by_cases hb:(tk k).kind=1∧rQ (tk k).text=true
 ·have h1:=hb.1
  have h2:=hb.2
  have en:((k.1:Nat):Int)+1=(((nx k).1:Nat):Int):=by rw[hC hf (by rw[h1];decide)];rfl
  have ec:((c:Nat):Int)+1=((c+1:Nat):Int):=rfl
  have bg:=tX (tk k).text
  rw[h2] at bg
  by_cases hc1:1024≤c
  ·have e:cX cnd (n+1) d k c= .error (flt 4 (tk k)):=by rw[cX,if_pos hb,if_pos hc1]
   rw[e]
   refine MXA (fn:=Tryz.f109) Tryz.call109 Tryz.func109 rfl Tryz.ntmps109 Tryz.results109 rfl rfl ?_
   repeat'(first|(with_reducible first|apply AW.seq|apply AW.block|apply ae|apply aE|apply cf|apply y_e|refine ah ?_)|((with_reducible apply ak);first|refine t_v AS.v ?_|refine t_v (by exact bn (hP:=cw)) ?_|refine t_w AS.w ?_|refine t_q (hP:=eH _ _) (k:=fun σx=>?_))|((with_reducible apply bc);first|refine t_m (hs:=fun hg=>AS.v) (k:=?_)|refine t_m (hs:=fun hg=>(by exact ag (hP:=bg))) (k:=?_))|((with_reducible apply aV);refine t_s AS.s ?_)|((with_reducible refine au ?_);((refine aj (fun hc=>?_) (fun hc=>?_);all_goals(try(exfalso;simp[*] at hc;done));all_goals(try(exfalso;revert hc;simp;omega)))))|((with_reducible refine bo ?_);(with_reducible refine aY ?_))|fail)
   all_goals rfl
  ·by_cases hi:(tk k).text=⟨#[105,102]⟩∨(tk k).text=⟨#[111,112,116,105,111,110,97,108]⟩
   ·by_cases hd1:12≤d
    ·have e:cX cnd (n+1) d k c= .error (flt 4 (tk k)):=by rw[cX,if_pos hb,if_neg hc1,if_pos hi,if_pos hd1]
     rw[e]
     refine MXA (fn:=Tryz.f109) Tryz.call109 Tryz.func109 rfl Tryz.ntmps109 Tryz.results109 rfl rfl ?_
     repeat'((fail_if_success (with_reducible refine ct 14 ?_));(first|(with_reducible first|apply AW.seq|apply AW.block|apply AW.skip|apply ae|apply aE|apply aw|apply y_e|refine ah ?_)|((with_reducible apply ak);first|refine t_v AS.v ?_|refine t_v (by exact bn (hP:=cw)) ?_|refine t_w AS.w ?_|refine t_q (hP:=eH _ _) (k:=fun σx=>?_))|((with_reducible apply bc);first|refine t_m (hs:=fun hg=>AS.v) (k:=?_)|refine t_m (hs:=fun hg=>(by exact ag (hP:=bg))) (k:=?_))|((with_reducible apply aV);refine t_s AS.s ?_)|((with_reducible refine au ?_);((refine aj (fun hc=>?_) (fun hc=>?_);all_goals(try(exfalso;simp[*] at hc;done));all_goals(try(exfalso;revert hc;simp;omega)))))|((with_reducible refine bo ?_);(with_reducible refine aY ?_))|fail))
     ·rfl
     ·exfalso;rcases hi with h|h <;> simp[h] at hc
    ·have e:cX cnd (n+1) d k c=cq cnd n d (decide ((tk k).text=⟨#[105,102]⟩)) {Stm.zero with pos:=(tk k).pos} (nx k) (c+1)>>=fun x=>.ok (x.2.1,x.2.2):=by rw[cX,if_pos hb,if_neg hc1,if_pos hi,if_neg hd1]
     rw[e]
     clear e
     have iB:=fun s b=>ihB (by omega) s b (by rw[h1];decide)
     refine MXA (fn:=Tryz.f109) Tryz.call109 Tryz.func109 rfl Tryz.ntmps109 Tryz.results109 rfl rfl ?_
     repeat'((fail_if_success (with_reducible refine ct 12 ?_));(fail_if_success (with_reducible refine ct 14 ?_));(first|(with_reducible first|apply AW.seq|apply AW.block|apply AW.skip|apply ae|apply aw|apply y_e|refine ah ?_)|((with_reducible apply ak);first|refine t_v AS.v ?_|refine t_v (by exact bn (hP:=cw)) ?_|refine t_w AS.w ?_)|((with_reducible apply bc);first|refine t_m (hs:=fun hg=>AS.v) (k:=?_)|refine t_m (hs:=fun hg=>(by exact ag (hP:=bg))) (k:=?_))|((with_reducible apply aV);refine t_s AS.s ?_)|((with_reducible refine au ?_);((refine aj (fun hc=>?_) (fun hc=>?_);all_goals(try(exfalso;simp[*] at hc;done));all_goals(try(exfalso;revert hc;simp;omega)))))|fail))
     ·simp only[en,ec]
      clear en ec
      repeat'(first|(with_reducible first|apply AW.seq|apply AW.ret|apply ae|apply aq|apply aE|apply y_e|refine ah ?_)|((with_reducible apply ak);first|refine t_v AS.v ?_|refine vM (hP:=iB _ _) (k1:=fun x k h=>?_) (k2:=fun e h σx=>?_))|((with_reducible apply aV);refine t_s AS.s ?_)|((with_reducible refine bo ?_);first|(with_reducible refine aY ?_)|refine fN (k:=?_))|fail)
      ·exact⟨_,(_,_),by rw[h];rfl,dp _,aD rfl⟩
      ·rw[h];rfl
     ·exfalso;rcases hi with h|h <;> simp[h] at hc
   ·have e:cX cnd (n+1) d k c=bp (tk k).text {Stm.zero with pos:=(tk k).pos} (nx k)>>=fun x=>.ok (x.1,(x.2,c+1)):=by rw[cX,if_pos hb,if_neg hc1,if_neg hi]
    rw[e]
    clear e
    by_cases ht:(tk k).text=⟨#[116,121,112,101]⟩
    ·have ty:=fun c d=>K5 (k:=nx k) (c:=c) (d:=d) hf {Stm.zero with pos:=(tk k).pos} rfl
     rw[← ht] at ty
     refine MXA (fn:=Tryz.f109) Tryz.call109 Tryz.func109 rfl Tryz.ntmps109 Tryz.results109 rfl rfl ?_
     repeat'((fail_if_success (with_reducible fail));(fail_if_success (with_reducible refine ct 15 ?_));(first|(with_reducible first|apply AW.seq|apply AW.block|apply AW.skip|apply ae|apply aw|apply y_e|refine ah ?_)|((with_reducible apply ak);first|refine t_v Ej ?_|refine t_v AS.v ?_|refine t_v (by exact bn (hP:=cw)) ?_|refine t_w AS.w ?_)|((with_reducible apply bc);first|refine t_m (hs:=fun hg=>AS.v) (k:=?_)|refine t_m (hs:=fun hg=>(by exact ag (hP:=bg))) (k:=?_))|((with_reducible apply aV);refine t_s AS.s ?_)|((with_reducible refine au ?_);((refine aj (fun hc=>?_) (fun hc=>?_);all_goals(try(exfalso;simp[*] at hc;done));all_goals(try(exfalso;revert hc;simp;omega)))))|fail))
     ·simp only[en,ec]
      clear en ec
      repeat'(first|(with_reducible first|apply AW.seq|apply AW.skip|apply AW.ret|apply ae|apply aE|apply y_e|refine ah ?_)|((with_reducible apply ak);first|refine t_v AS.v ?_|refine bG (hP:=jA hf _) (k1:=fun x k h=>?_) (k2:=fun e h σx=>?_)|refine vM (hP:=ty _ _) (k1:=fun x k h=>?_) (k2:=fun e h σx=>?_)|refine vM (hP:=z8 hf _ _) (k1:=fun x k h=>?_) (k2:=fun e h σx=>?_))|((with_reducible apply bc);first|refine t_f ?_|refine t_m (hs:=fun hg=>AS.v) (k:=?_)|refine I5 (hP:=Dx hf _ _) (k1:=fun hg x k h=>?_) (k2:=fun hg e h σx=>?_) (k0:=fun hg=>?_))|((with_reducible apply aV);refine t_s AS.s ?_)|((with_reducible refine au ?_);first|refine cj ?_|(refine aj (fun hc=>?_) (fun hc=>?_)))|((with_reducible refine bo ?_);first|(with_reducible refine aY ?_)|refine fN (k:=?_))|fail)
      all_goals(clear hi ht h1 h2 hb hc1 bg ty;skip)
      all_goals((first|(refine⟨_,(_,_),?_,(by exact dp _),(by exact aD rfl)⟩;simp_all[bp,aa,ar,adv,Lv.zero,Sp.zero,Rg.zero,Ct.zero];done)|(simp_all[bp,aa,ar,adv,Lv.zero,Sp.zero,Rg.zero,Ct.zero];done)|fail "end"))
    ·have ty:=fun c d=>qv (k:=nx k) (c:=c) (d:=d) hf {Stm.zero with pos:=(tk k).pos} (tk k).text ht
     refine MXA (fn:=Tryz.f109) Tryz.call109 Tryz.func109 rfl Tryz.ntmps109 Tryz.results109 rfl rfl ?_
     repeat'((fail_if_success (with_reducible fail));(fail_if_success (with_reducible refine ct 15 ?_));(first|(with_reducible first|apply AW.seq|apply AW.block|apply AW.skip|apply ae|apply aw|apply y_e|refine ah ?_)|((with_reducible apply ak);first|refine t_v AS.v ?_|refine t_v (by exact bn (hP:=cw)) ?_|refine t_w AS.w ?_)|((with_reducible apply bc);first|refine t_m (hs:=fun hg=>AS.v) (k:=?_)|refine t_m (hs:=fun hg=>(by exact ag (hP:=bg))) (k:=?_))|((with_reducible apply aV);refine t_s AS.s ?_)|((with_reducible refine au ?_);((refine aj (fun hc=>?_) (fun hc=>?_);all_goals(try(exfalso;simp[*] at hc;done));all_goals(try(exfalso;revert hc;simp;omega)))))|fail))
     ·simp only[en,ec]
      clear en ec
      repeat'(first|(with_reducible first|apply AW.seq|apply AW.skip|apply AW.ret|apply ae|apply aE|apply y_e|refine ah ?_)|((with_reducible apply ak);first|refine t_v AS.v ?_|refine bG (hP:=jA hf _) (k1:=fun x k h=>?_) (k2:=fun e h σx=>?_)|refine vM (hP:=ty _ _) (k1:=fun x k h=>?_) (k2:=fun e h σx=>?_)|refine vM (hP:=z8 hf _ _) (k1:=fun x k h=>?_) (k2:=fun e h σx=>?_))|((with_reducible apply bc);first|refine t_f ?_|refine t_m (hs:=fun hg=>AS.v) (k:=?_)|refine I5 (hP:=Dx hf _ _) (k1:=fun hg x k h=>?_) (k2:=fun hg e h σx=>?_) (k0:=fun hg=>?_))|((with_reducible apply aV);refine t_s AS.s ?_)|((with_reducible refine au ?_);first|refine cj ?_|(refine aj (fun hc=>?_) (fun hc=>?_)))|((with_reducible refine bo ?_);first|(with_reducible refine aY ?_)|refine fN (k:=?_))|fail)
      all_goals(clear hi ht h1 h2 hb hc1 bg ty;skip)
      all_goals((first|(refine⟨_,(_,_),?_,(by exact dp _),(by exact aD rfl)⟩;simp_all[bp,aa,ar,adv,Lv.zero,Sp.zero,Rg.zero,Ct.zero];done)|(simp_all[bp,aa,ar,adv,Lv.zero,Sp.zero,Rg.zero,Ct.zero];done)|fail "end"))
 ·have e:cX cnd (n+1) d k c= .error (flt 9 (tk k)):=by rw[cX,if_neg hb]
  rw[e]
  refine MXA (fn:=Tryz.f109) Tryz.call109 Tryz.func109 rfl Tryz.ntmps109 Tryz.results109 rfl rfl ?_
  repeat'((fail_if_success (with_reducible fail));(first|(with_reducible first|apply AW.seq|apply AW.block|apply ae|apply aE|apply cf|apply y_e|refine ah ?_)|((with_reducible apply ak);first|refine t_v AS.v ?_|refine t_v (by exact bn (hP:=cw)) ?_|refine t_w AS.w ?_|refine t_q (hP:=eH _ _) (k:=fun σx=>?_))|((with_reducible apply bc);first|refine t_m (hs:=fun hg=>AS.v) (k:=?_)|refine t_m (hs:=fun hg=>(by exact ag (hP:=tX _))) (k:=?_))|((with_reducible apply aV);refine t_s AS.s ?_)|((with_reducible refine au ?_);((refine aj (fun hc=>?_) (fun hc=>?_);all_goals(try(exfalso;simp[*] at hc;done)))))|((with_reducible refine bo ?_);(with_reducible refine aY ?_))|fail))
  all_goals rfl
end
end Am
namespace Am
open Tk Go.RowKit
section
variable {l:List Tok} {k k':Ix l}
theorem uq (hf:Fine l) {x:Ct} (h:db k= .ok (x,k')):k.1<k'.1:=by
 unfold db at h
 obtain ⟨⟨u,k1⟩,h1,h⟩:=aB.1 h;(try dsimp only at h)
 obtain ⟨⟨a,k2⟩,h2,h⟩:=aB.1 h;(try dsimp only at h)
 obtain ⟨⟨r,k3⟩,h3,h⟩:=aB.1 h;(try dsimp only at h)
 obtain ⟨⟨b,k4⟩,h4,h⟩:=aB.1 h;(try dsimp only at h)
 obtain ⟨⟨t,k5⟩,h5,h⟩:=aB.1 h;(try dsimp only at h)
 obtain ⟨⟨c,k6⟩,h6,h⟩:=aB.1 h;(try dsimp only at h)
 obtain ⟨⟨g,k7⟩,h7,h⟩:=aB.1 h;(try dsimp only at h)
 injection h with h;injection h with _ h;subst h
 have:=(bS hf h1).2
 have:=(eU hf h2).2
 have:=(bS hf h3).2
 have:=(eU hf h4).2
 have:=(bS hf h5).2
 have:=(eU hf h6).2
 have:=rm hf h7
 show k.1<k7.1
 omega
theorem DX (hf:Fine l) {x:ByteArray} (h:iJ k= .ok (x,k')):k.1<k'.1:=by
 unfold iJ at h
 split at h
 ·rename_i hk
  split at h
  ·cases h
  ·injection h with h;injection h with _ h;subst h
   rw[hC hf (by rw[hk];decide)]
   omega
 ·cases h
theorem wy (hf:Fine l) {v:Bool} {x:Ex} (h:dL v k= .ok (x,k')):k.1<k'.1:=by
 unfold dL at h
 obtain ⟨⟨u,k1⟩,h1,h⟩:=aB.1 h;(try dsimp only at h)
 split at h
 ·cases h
 ·injection h with h;injection h with _ h;subst h
  exact(oV hf v _).2.2.2.1 h1
theorem um {cnd:List Tok→Except Fa (Ex×Nat)} {x:Ex} (h:ga cnd k= .ok (x,k')):k.1≤k'.1:=by
 unfold ga at h
 obtain ⟨⟨u,n⟩,h1,h⟩:=aB.1 h;(try dsimp only at h)
 injection h with h;injection h with _ h;subst h
 unfold uJ
 split
 ·exact Nat.le_add_right _ _
 ·exact Nat.le_refl _
theorem eh {p:Prop} [Decidable p] {α:Type} {x y z:α} (h:(if p then x else y)=z):(p∧x=z)∨(¬p∧y=z):=by
 by_cases c:p
 ·rw[if_pos c] at h;exact .inl ⟨c,h⟩
 ·rw[if_neg c] at h;exact .inr ⟨c,h⟩
theorem seq1 {α β:Type} {x:Except Fa (α×Ix l)} {f:α×Ix l→Except Fa (β×(Stm×Ix l))} {b:β} {s:Stm} (h:(x>>=f)= .ok (b,(s,k'))) (h1:∀ a k1,x= .ok (a,k1)→k.1<k1.1) (h2:∀ a k1,f (a,k1)= .ok (b,(s,k'))→k1.1≤k'.1):k.1≤k'.1:=by
 obtain ⟨⟨a,k1⟩,e1,e2⟩:=aB.1 h
 have:=h1 a k1 e1
 have:=h2 a k1 e2
 omega
theorem fM {β:Type} {b b':β} {s s':Stm} {k1:Ix l} (h:(Except.ok (b',(s',k1)):Except Fa (β×(Stm×Ix l)))= .ok (b,(s,k'))):k1.1≤k'.1:=by
 injection h with h;injection h with _ h;injection h with _ h;subst h;exact Nat.le_refl _
section
variable (hf:Fine l)
include hf
theorem iD:∀ {k:Ix l} a k1,bY k= .ok (a,k1)→k.1<k1.1:=fun a k1 h=>by have:=(bS hf h).2;omega
theorem yp:∀ {k:Ix l} a k1,cH k= .ok (a,k1)→k.1<k1.1:=fun a k1 h=>(oR hf h).1
theorem HV:∀ {k:Ix l} a k1,dN k= .ok (a,k1)→k.1<k1.1:=fun a k1 h=>xg hf h
theorem jj {self:Bool}:∀ {k:Ix l} a k1,ff self k= .ok (a,k1)→k.1<k1.1:=fun a k1 h=>H0 hf h
theorem D2 {s:ByteArray}:∀ {k:Ix l} a k1,eS s k= .ok (a,k1)→k.1<k1.1:=fun a k1 h=>by have:=(A6 hf h).2;omega
theorem Li {s:ByteArray}:∀ {k:Ix l} a k1,eD s k= .ok (a,k1)→k.1<k1.1:=fun a k1 h=>by have:=(eU hf h).2;omega
theorem Lg:∀ {k:Ix l} a k1,eI k= .ok (a,k1)→k.1<k1.1:=fun a k1 h=>mU hf h
theorem I2:∀ {k:Ix l} a k1,fr k= .ok (a,k1)→k.1<k1.1:=fun a k1 h=>rm hf h
theorem yt {ws:List ByteArray}:∀ {k:Ix l} a k1,cY ws k= .ok (a,k1)→k.1<k1.1:=fun a k1 h=>by have:=(j3 hf h).2.2.2.1;omega
theorem HH:∀ {k:Ix l} a k1,db k= .ok (a,k1)→k.1<k1.1:=fun a k1 h=>uq hf h
theorem LH:∀ {k:Ix l} a k1,iJ k= .ok (a,k1)→k.1<k1.1:=fun a k1 h=>DX hf h
theorem HF {v:Bool}:∀ {k:Ix l} a k1,dL v k= .ok (a,k1)→k.1<k1.1:=fun a k1 h=>wy hf h
theorem Cy {s:Stm} {k1:Ix l} {β:Type} {b:β} {n:Nat} {acc:List ByteArray} {f:List ByteArray×Ix l→Except Fa (β×(Stm×Ix l))} (h:(br n acc k1>>=f)= .ok (b,(s,k'))) (h2:∀ a k1,f (a,k1)= .ok (b,(s,k'))→k1.1≤k'.1):k1.1≤k'.1:=by
 obtain ⟨⟨a,k2⟩,e1,e2⟩:=aB.1 h
 have:=(nE hf e1).1
 have:=h2 a k2 e2
 omega
theorem Cr {s:ByteArray} {k1:Ix l} (h:isW s k1=true) (h2:(nx k1).1≤k'.1):k1.1≤k'.1:=by have:=iA hf h;omega
theorem BT {w:ByteArray} {s s':Stm} {b:Bool} (h:bR w s k= .ok (b,(s',k'))):k.1≤k'.1:=by
 unfold bR at h
 rcases eh h with⟨hw,h⟩|⟨_,h⟩
 ·exact seq1 h (iD hf) fun a k1 h=>seq1 h (yp hf) fun a k1 h=>fM h
 rcases eh h with⟨hw,h⟩|⟨_,h⟩
 ·refine seq1 h (iD hf) fun a k1 h=>?_
  dsimp only at h
  rcases eh h with⟨hw,h⟩|⟨_,h⟩
  ·exact Cr hf hw (seq1 h (yp hf) fun a k1 h=>Cy hf h fun a k1 h=>fM h)
  ·exact Cy hf h fun a k1 h=>fM h
 rcases eh h with⟨hw,h⟩|⟨_,h⟩
 ·exact seq1 h (iD hf) fun a k1 h=>fM h
 rcases eh h with⟨hw,h⟩|⟨_,h⟩
 ·exact seq1 h (iD hf) fun a k1 h=>seq1 h (HV hf) fun a k1 h=>fM h
 rcases eh h with⟨hw,h⟩|⟨_,h⟩
 ·refine seq1 h (iD hf) fun a k1 h=>?_
  dsimp only at h
  rcases eh h with⟨hw,h⟩|⟨_,h⟩
  ·exact Cr hf hw (seq1 h (jj hf) fun a k1 h=>fM h)
  ·exact fM h
 rcases eh h with⟨hw,h⟩|⟨_,h⟩
 ·exact seq1 h (iD hf) fun a k1 h=>seq1 h (D2 hf) fun a k1 h=>seq1 h (yp hf) fun a k1 h=>seq1 h (D2 hf) fun a k1 h=>seq1 h (Lg hf) fun a k1 h=>seq1 h (D2 hf) fun a k1 h=>seq1 h (I2 hf) fun a k1 h=>fM h
 rcases eh h with⟨hw,h⟩|⟨_,h⟩
 ·exact seq1 h (iD hf) fun a k1 h=>seq1 h (yt hf) fun a k1 h=>fM h
 rcases eh h with⟨hw,h⟩|⟨_,h⟩
 ·exact seq1 h (iD hf) fun a k1 h=>fM h
 rcases eh h with⟨hw,h⟩|⟨_,h⟩
 ·exact seq1 h (iD hf) fun a k1 h=>fM h
 ·exact fM h
theorem Dd {self:Bool} {s s':Stm} {u:Unit} (h:gB self s k= .ok (u,(s',k'))):k.1≤k'.1:=by
 unfold gB at h
 exact seq1 h (jj hf) fun a k1 h=>seq1 h (jj hf) fun a k1 h=>seq1 h (Li hf) fun a k1 h=>seq1 h (jj hf) fun a k1 h=>fM h
theorem GY {β:Type} {self:Bool} {s0 s:Stm} {f:Unit×(Stm×Ix l)→Except Fa (β×(Stm×Ix l))} {b:β} (h:(gB self s0 k>>=f)= .ok (b,(s,k'))) (h2:∀ a s1 k1,f (a,(s1,k1))= .ok (b,(s,k'))→k1.1≤k'.1):k.1≤k'.1:=by
 obtain ⟨⟨a,s1,k1⟩,e1,e2⟩:=aB.1 h
 have:=Dd hf e1
 have:=h2 a s1 k1 e2
 omega
theorem Dw {w:ByteArray} {s s':Stm} {b:Bool} (h:dj w s k= .ok (b,(s',k'))):k.1≤k'.1:=by
 unfold dj at h
 rcases eh h with⟨hw,h⟩|⟨_,h⟩
 ·exact GY hf h fun a s1 k1 h=>seq1 h (jj hf) fun a k1 h=>fM h
 rcases eh h with⟨hw,h⟩|⟨_,h⟩
 ·refine GY hf h fun a s1 k1 h=>seq1 h (iD hf) fun a k1 h=>?_
  dsimp only at h
  rcases eh h with⟨hw,h⟩|⟨_,h⟩
  ·have hk:=hw
   rcases eh h with⟨_,h⟩|⟨_,h⟩
   ·have:=fM h
    rw[hC hf (by rw[hk.2];decide)] at this
    omega
   ·cases h
  ·exact fM h
 rcases eh h with⟨hw,h⟩|⟨_,h⟩
 ·exact GY hf h fun a s1 k1 h=>seq1 h (I2 hf) fun a k1 h=>fM h
 rcases eh h with⟨hw,h⟩|⟨_,h⟩
 ·exact GY hf h fun a s1 k1 h=>seq1 h (iD hf) fun a k1 h=>fM h
 rcases eh h with⟨hw,h⟩|⟨_,h⟩
 ·exact seq1 h (jj hf) fun a k1 h=>seq1 h (jj hf) fun a k1 h=>fM h
 rcases eh h with⟨hw,h⟩|⟨_,h⟩
 ·exact seq1 h (jj hf) fun a k1 h=>seq1 h (jj hf) fun a k1 h=>seq1 h (HF hf) fun a k1 h=>fM h
 rcases eh h with⟨hw,h⟩|⟨_,h⟩
 ·exact seq1 h (jj hf) fun a k1 h=>seq1 h (HF hf) fun a k1 h=>fM h
 ·exact fM h
theorem Ab {w:ByteArray} {s s':Stm} {u:Unit} (h:cZ w s k= .ok (u,(s',k'))):k.1≤k'.1:=by
 unfold cZ at h
 rcases eh h with⟨hw,h⟩|⟨_,h⟩
 ·refine seq1 h (yt hf) fun a k1 h=>?_
  dsimp only at h
  rcases eh h with⟨hw,h⟩|⟨_,h⟩
  ·exact seq1 h (iD hf) fun a k1 h=>seq1 h (yp hf) fun a k1 h=>fM h
  ·exact seq1 h (HV hf) fun a k1 h=>fM h
 rcases eh h with⟨hw,h⟩|⟨_,h⟩
 ·exact seq1 h (iD hf) fun a k1 h=>seq1 h (HH hf) fun a k1 h=>fM h
 rcases eh h with⟨hw,h⟩|⟨_,h⟩
 ·exact seq1 h (LH hf) fun a k1 h=>seq1 h (yt hf) fun a k1 h=>seq1 h (HH hf) fun a k1 h=>fM h
 rcases eh h with⟨hw,h⟩|⟨_,h⟩
 ·exact seq1 h (jj hf) fun a k1 h=>fM h
 rcases eh h with⟨hw,h⟩|⟨_,h⟩
 ·exact seq1 h (iD hf) fun a k1 h=>seq1 h (yt hf) fun a k1 h=>seq1 h (jj hf) fun a k1 h=>seq1 h (jj hf) fun a k1 h=>fM h
 ·exact fM h
theorem Ae {w:ByteArray} {s s':Stm} (h:bp w s k= .ok (s',k')):k.1<k'.1:=by
 unfold bp at h
 obtain ⟨⟨b,s1,k1⟩,h1,h⟩:=aB.1 h;(try dsimp only at h)
 have e1:=BT hf h1
 obtain ⟨⟨s2,k2⟩,h2,h⟩:=aB.1 h;(try dsimp only at h)
 have e2:k1.1≤k2.1:=by
  split at h2
  ·injection h2 with h2;injection h2 with _ h2;subst h2;exact Nat.le_refl _
  ·obtain ⟨⟨b3,s3,k3⟩,h3,h2⟩:=aB.1 h2;(try dsimp only at h2)
   have e3:=Dw hf h3
   split at h2
   ·injection h2 with h2;injection h2 with _ h2;subst h2;exact e3
   ·obtain ⟨⟨b4,s4,k4⟩,h4,h2⟩:=aB.1 h2;(try dsimp only at h2)
    have e4:=Ab hf h4
    injection h2 with h2;injection h2 with _ h2;subst h2
    omega
 obtain ⟨⟨u,k5⟩,h5,h⟩:=aB.1 h;(try dsimp only at h)
 have e5:=(eU hf h5).2
 injection h with h;injection h with _ h;subst h
 show k.1<k5.1
 omega
theorem kH (cnd:List Tok→Except Fa (Ex×Nat)):∀ n:Nat,(∀ {d c c':Nat} {k k':Ix l} {s:Stm},cX cnd n d k c= .ok (s,(k',c'))→k.1<k'.1)∧(∀ {d c c':Nat} {i:Bool} {k k':Ix l} {s s':Stm} {u:Unit},cq cnd n d i s k c= .ok (u,(s',(k',c')))→k.1≤k'.1)∧(∀ {d c c':Nat} {k k':Ix l} {x:List Stm},cK cnd n d k c= .ok (x,(k',c'))→k.1<k'.1)∧(∀ {d c c':Nat} {acc:List Stm} {k k':Ix l} {x:List Stm},cy cnd n d acc k c= .ok (x,(k',c'))→k.1≤k'.1)
 |0=>⟨fun h=>(by rw[cX] at h;cases h),fun h=>(by rw[cq] at h;cases h),fun h=>(by rw[cK] at h;cases h),fun h=>(by rw[cy] at h;cases h)⟩
 |n+1=>by
  obtain ⟨i1,i2,i3,i4⟩:=kH cnd n
  refine⟨fun {d c c' k k' s} h=>?_,fun {d c c' i k k' s s' u} h=>?_,fun {d c c' k k' x} h=>?_,fun {d c c' acc k k' x} h=>?_⟩
  ·rw[cX] at h
   split at h
   ·rename_i hk
    have en:=hC hf (k:=k) (by rw[hk.1];decide)
    split at h
    ·cases h
    ·split at h
     ·split at h
      ·cases h
      ·obtain ⟨⟨u,s1,k1,c1⟩,h1,h⟩:=aB.1 h;(try dsimp only at h)
       injection h with h;injection h with _ h;injection h with h _;subst h
       have:=i2 h1
       omega
     ·obtain ⟨⟨s1,k1⟩,h1,h⟩:=aB.1 h;(try dsimp only at h)
      injection h with h;injection h with _ h;injection h with h _;subst h
      have:=Ae hf h1
      omega
   ·cases h
  ·rw[cq] at h
   obtain ⟨⟨s1,k1⟩,h1,h⟩:=aB.1 h;(try dsimp only at h)
   have e1:k.1≤k1.1:=by
    split at h1
    ·obtain ⟨⟨x,k2⟩,h2,h1⟩:=aB.1 h1;(try dsimp only at h1)
     injection h1 with h1;injection h1 with _ h1;subst h1
     exact um h2
    ·injection h1 with h1;injection h1 with _ h1;subst h1;exact Nat.le_refl _
   obtain ⟨⟨x,k2,c2⟩,h2,h⟩:=aB.1 h;(try dsimp only at h)
   have e2:=i3 h2
   split at h
   ·rename_i hw
    have e3:=iA hf hw
    obtain ⟨⟨y,k3,c3⟩,h3,h⟩:=aB.1 h;(try dsimp only at h)
    have e4:=i3 h3
    injection h with h;injection h with _ h;injection h with _ h;injection h with h _;subst h
    show k.1≤k3.1
    omega
   ·injection h with h;injection h with _ h;injection h with _ h;injection h with h _;subst h
    omega
  ·rw[cK] at h
   obtain ⟨⟨u,k1⟩,h1,h⟩:=aB.1 h;(try dsimp only at h)
   have e1:=(eU hf h1).2
   split at h
   ·cases h
   ·obtain ⟨⟨x2,k2,c2⟩,h2,h⟩:=aB.1 h;(try dsimp only at h)
    have e2:=i4 h2
    obtain ⟨⟨v,k3⟩,h3,h⟩:=aB.1 h;(try dsimp only at h)
    have e3:=(eU hf h3).2
    injection h with h;injection h with _ h;injection h with h _;subst h
    show k.1<k3.1
    omega
  ·rw[cy] at h
   split at h
   ·injection h with h;injection h with _ h;injection h with h _;subst h;exact Nat.le_refl _
   ·obtain ⟨⟨s1,k1,c1⟩,h1,h⟩:=aB.1 h;(try dsimp only at h)
    have e1:=i1 h1
    have e2:=i4 h
    omega
end
end
end Am
end Go.Proofs.YtkpodagbefnebaaGreatDoor
