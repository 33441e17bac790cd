import Derived.Test.YtkpodagbefnebaaGreatDoorYf29
set_option linter.unusedSimpArgs false
set_option linter.unusedVariables false
set_option linter.unusedSectionVars false
namespace Go.Proofs.YtkpodagbefnebaaGreatDoor
namespace Am
open Tk Go.RowKit
set_option maxRecDepth 100000
set_option maxHeartbeats 4000000
section
variable {l:List Tok}
theorem vN (hf:Fine l) {n d:Nat} (hd:d≤11) (ih:∀ j,j<n→∀ (k:Ix l) (f:Fa) (c:Int),En 1 1 j k f c→MNL Tryz.prog 117 [(0,qsO k f c)] [.c (.ptr 0 0),.c (sI ((d:Int)+1))] (.agg (stC (stQ j (d+1) k f c).1)) [(0,qsO (stQ j (d+1) k f c).2.1 (stQ j (d+1) k f c).2.2.1 (stQ j (d+1) k f c).2.2.2)]) (k:Ix l) (f:Fa) (c:Int) (hn:En 3 3 n k f c) :
 MX Tryz.prog 258 [(0,qsO k f c)] [.c (.ptr 0 0),.c (sI d)] (.ok (cE n d k f c):Except Fa (List Stm×(Ix l×(Fa×Int)))) (fun s=>.c (.lst none 55 (s.map stC))) (fun b=>[(0,qsO b.1 b.2.1 b.2.2)]) pvS:=by
 have hl:=hf.le
 have hk:=k.2
 obtain ⟨hn3,hn⟩:=hn
 obtain ⟨m,rfl⟩:∃ m,n=m+2:=⟨n - 2,by omega⟩
 rw[cE,iP]
 unfold nM
 have m1:=bV (c:=c) hf k f ⟨#[123]⟩
 have ha:(aO ⟨#[123]⟩ k f).2.code=0→f.code=0∧(aO ⟨#[123]⟩ k f).1.1=k.1+1:=fun h=>by
  by_cases h0:f.code=0
  ·refine⟨h0,?_⟩
   unfold aO at h ⊢
   by_cases hm:isM ⟨#[123]⟩ k=true
   ·have e:okM f ⟨#[123]⟩ k=true:=by rw[jn h0];exact hm
    show(adv (okM f ⟨#[123]⟩ k) k).1=k.1+1
    rw[e];exact aW hf hm
   ·have e:¬ okM f ⟨#[123]⟩ k=true:=by rw[jn h0];exact hm
    dsimp only at h
    rw[if_neg e,gY h0] at h
    exact absurd (show(9:Int)=0 from h) (by decide)
  ·rw[dm _ h0] at h;exact absurd h h0
 generalize aO ⟨#[123]⟩ k f=q at *
 obtain ⟨k1,f1⟩:=q
 dsimp only at m1 ha ⊢
 have hk1:=k1.2
 have ho:=fun h0 hc=>vZ hf (n:=m) (d:=d+1) (k:=k1) (f:=f1) (c:=c) h0 hc
 have hb1:f1.code=0→0≤c∧c≤4294967296∧4*(l.length - k1.1)+2≤m:=fun h=>by
  obtain ⟨h0,h1⟩:=ha h
  have:=hn h0
  omega
 have m2:=ih m (by omega) k1 f1 c ⟨by omega,fun h=>by have:=hb1 h;omega⟩
 have hbad:=fun h=>(eo m).1 (d+1) k1 f1 c h
 generalize stQ m (d+1) k1 f1 c=q at *
 obtain ⟨x,k2,f2,c2⟩:=q
 dsimp only at m2 ho hbad ⊢
 have h2:f2.code=0→0≤c2∧c2≤4294967296∧4*(l.length - k2.1)+2≤m∧1≤k2.1:=fun h=>by
  by_cases h0:f1.code=0
  ·have a:=hb1 h0
   have b:=ho h0 ⟨a.1,a.2.1⟩ h
   have:=k2.2
   omega
  ·rw[hbad h0] at h;exact absurd h h0
 clear ho hbad hb1 ha hn
 refine MXA (fn:=Tryz.f258) Tryz.call258 Tryz.func258 rfl Tryz.ntmps258 Tryz.results258 rfl rfl ?_
 repeat'(first|(with_reducible first|apply AW.seq|apply AW.block|apply aa|apply y_e|refine ae ?_)|((with_reducible apply ai);first|refine t_w Bw ?_|refine t_v AS.v ?_|refine t_w (by first|exact av (hP:=m1)|exact av (hP:=m2)) ?_)|fail)
 generalize hsp:gV m (d+1) [x] k2 f2 c2=sp
 refine AW.loop (fun j σ=>∃ (acc:List Stm) (k':Ix l) (f':Fa) (c':Int),j≤m∧1≤j∧gV j (d+1) acc k' f' c'=sp∧(f'.code=0→0≤c'∧c'≤4294967296∧4*(l.length - k'.1)+2≤j∧acc.length≤k'.1)∧acc.length≤l.length+1∧σ=mk [(5,.c (.lst (some 12) 55 (acc.map stC))),(0,.c (.ptr 0 0)),(1,.c (sI d))] [(12,.row 69 55 acc.length),(0,qsO k' f' c')]) m ?_ ?_
 ·exact⟨_,wkA,[x],k2,f2,c2,Nat.le_refl _,by omega,hsp,fun h=>by have:=h2 h;simp;omega,by simp,rfl⟩
 clear hsp m1 m2 h2
 rintro j σ ⟨acc,k',f',c',hjm,hj,hm,hi,ha,rfl⟩
 subst hm
 have hk':=k'.2
 obtain ⟨j,rfl⟩:∃ n,j=n+1:=⟨j - 1,by omega⟩
 have is:=iM (c:=c') k' f' ⟨#[125]⟩
 have m3:=bV (c:=c') hf k' f' ⟨#[125]⟩
 rw[gV]
 by_cases hf0:f'.code=0
 ·have fa:=ee (l:=l) (c:=c') k' hf0
  have e2:(decide (f'.code=0)&& !okM f' ⟨#[125]⟩ k')= !okM f' ⟨#[125]⟩ k':=by simp[hf0]
  rw[e2]
  clear e2
  obtain ⟨hi0,hi1,hi2,hi3⟩:=hi hf0
  have ho:=fun h=>vZ hf (n:=j) (d:=d+1) (k:=k') (f:=f') (c:=c') hf0 ⟨hi0,hi1⟩ h
  generalize okM f' ⟨#[125]⟩ k'=b at *
  cases b with
  |true=>
   rw[if_neg (by decide)]
   clear ho ih hi
   dsimp only
   generalize aO ⟨#[125]⟩ k' f'=q at *
   obtain ⟨k3,f3⟩:=q
   dsimp only at m3 ⊢
   repeat'(first|(with_reducible first|apply AW.seq|apply AW.ret|apply AW.exit|apply aa|apply aE|apply aH|apply y_e|refine ae ?_)|((with_reducible apply ai);first|refine t_v AS.v ?_|refine t_v (by exact az (hP:=fa)) ?_|refine t_w (by exact av (hP:=m3)) ?_)|((with_reducible apply aK);first|refine t_f ?_|refine t_m (hs:=fun hg=>AS.v) (k:=?_)|refine t_m (hs:=fun hg=>(by exact az (hP:=is))) (k:=?_))|((with_reducible refine aq ?_);refine aJ ?_)|((with_reducible refine aD ?_);refine l_1 (k:=?_))|fail)
   exact⟨_,(_,(_,_)),rfl,ji _ _,ar rfl⟩
  |false=>
   rw[if_pos (show(!false)=true from rfl)]
   clear m3
   have st:=ih j (by omega) k' f' c' ⟨by omega,fun _=>⟨hi0,hi1,by omega⟩⟩
   generalize stQ j (d+1) k' f' c'=q at *
   obtain ⟨y,k3,f3,c3⟩:=q
   dsimp only at st ho ⊢
   clear ih hi
   repeat'(first|(with_reducible first|apply AW.seq|apply AW.block|apply AW.skip|apply aa|apply aw|apply y_e|refine ae ?_)|((with_reducible apply ai);first|refine t_v AS.v ?_|refine t_v (by exact az (hP:=fa)) ?_|refine t_w AS.w ?_|refine t_w (by exact av (hP:=st)) ?_)|((with_reducible apply aK);first|refine t_m (hs:=fun hg=>AS.v) (k:=?_)|refine t_m (hs:=fun hg=>(by exact az (hP:=is))) (k:=?_))|((with_reducible refine aq ?_);refine aI ?_)|fail)
   exact⟨j,_,Nat.lt_succ_self j,wkA,acc++[y],k3,f3,c3,by omega,by omega,rfl,fun h=>by have:=ho h;have:=k3.2;simp;omega,by simp;omega,rfl⟩
 ·have fa:=fJ (l:=l) (c:=c') k' hf0
  have e2:(decide (f'.code=0)&& !okM f' ⟨#[125]⟩ k')=false:=by simp[hf0]
  rw[e2,if_neg (by decide)]
  clear e2 ih hi
  dsimp only
  generalize aO ⟨#[125]⟩ k' f'=q at *
  obtain ⟨k3,f3⟩:=q
  dsimp only at m3 ⊢
  repeat'(first|(with_reducible first|apply AW.seq|apply AW.ret|apply AW.exit|apply aa|apply aE|apply aH|apply y_e|refine ae ?_)|((with_reducible apply ai);first|refine t_v AS.v ?_|refine t_v (by exact az (hP:=fa)) ?_|refine t_w (by exact av (hP:=m3)) ?_)|((with_reducible apply aK);first|refine t_f ?_|refine t_m (hs:=fun hg=>AS.v) (k:=?_)|refine t_m (hs:=fun hg=>(by exact az (hP:=is))) (k:=?_))|((with_reducible refine aq ?_);refine aJ ?_)|((with_reducible refine aD ?_);refine l_1 (k:=?_))|fail)
  exact⟨_,(_,(_,_)),rfl,ji _ _,ar rfl⟩
def zh (B:Ix l→Fa→Int→QS l (List Stm)) (s:Stm) (t:QS l (List Stm)):QS l Stm:=
 if okW t.2.2.1 ⟨#[101,108,115,101]⟩ t.2.1=true then({s with thn:=t.1,els:=(B (nx t.2.1) t.2.2.1 t.2.2.2).1},(B (nx t.2.1) t.2.2.1 t.2.2.2).2) else({s with thn:=t.1},t.2)
theorem s6 (hf:Fine l) {n d:Nat} (hd:d≤11) (ih:∀ (k:Ix l) (f:Fa) (c:Int),En 3 3 n k f c→MNL Tryz.prog 258 [(0,qsO k f c)] [.c (.ptr 0 0),.c (sI d)] (.c (.lst none 55 ((cE n d k f c).1.map stC))) [(0,qsO (cE n d k f c).2.1 (cE n d k f c).2.2.1 (cE n d k f c).2.2.2)]) (s:Stm) (k:Ix l) (f:Fa) (c:Int) (hn:En 3 3 n k f c) :
 MX Tryz.prog 187 [(0,qsO k f c)] [.c (.ptr 0 0),.agg (stC s),.c (sI d)] (.ok (eV (fun k f c=>cE n d k f c) s k f c):Except Fa (Stm×(Ix l×(Fa×Int)))) (fun s=>.agg (stC s)) (fun b=>[(0,qsO b.1 b.2.1 b.2.2)]) pvS:=by
 have hl:=hf.le
 have m1:=ih k f c hn
 have ho:=fun h0 hc=>D1 hf (n:=n) (d:=d) (k:=k) (f:=f) (c:=c) h0 hc
 have hbad:=fun h=>(eo n).2.2.1 d k f c h
 obtain ⟨hn3,hn⟩:=hn
 have e:eV (fun k f c=>cE n d k f c) s k f c=zh (fun k f c=>cE n d k f c) s (cE n d k f c):=rfl
 rw[e]
 clear e
 generalize cE n d k f c=q at *
 obtain ⟨x,k1,f1,c1⟩:=q
 unfold zh
 dsimp only at m1 ho hbad ⊢
 have m2:=fZ (c:=c1) hf k1 f1 ⟨#[101,108,115,101]⟩
 cases hb:okW f1 ⟨#[101,108,115,101]⟩ k1 with
 |true=>
  rw[if_pos rfl]
  have hz:f1.code=0∧isW ⟨#[101,108,115,101]⟩ k1=true:=by
   unfold okW at hb
   simpa using hb
  have en:En 3 3 n (nx k1) f1 c1:=⟨hn3,fun h=>by
   by_cases h0:f.code=0
   ·have a:=hn h0
    have b:=ho h0 ⟨a.1,a.2.1⟩ h
    have e:=fi hf hz.2
    have:=(nx k1).2
    omega
   ·rw[hbad h0] at h;exact absurd h h0⟩
  have m3:=ih (nx k1) f1 c1 en
  clear ho hbad hn ih en
  generalize cE n d (nx k1) f1 c1=q at *
  obtain ⟨y,k2,f2,c2⟩:=q
  dsimp only at m3 ⊢
  rw[hb] at m2
  refine MXA (fn:=Tryz.f187) Tryz.call187 Tryz.func187 rfl Tryz.ntmps187 Tryz.results187 rfl rfl ?_
  repeat'(first|(with_reducible first|apply AW.seq|apply AW.ret|apply aa|apply y_e|refine ae ?_)|((with_reducible apply ai);first|refine t_v AS.v ?_|refine t_w AS.w ?_|refine t_w (by first|exact av (hP:=m1)|exact av (hP:=m2)|exact av (hP:=m3)) ?_)|((with_reducible apply ay);refine t_s AS.s ?_)|((with_reducible refine aq ?_);refine aI ?_)|((with_reducible refine aD ?_);refine b8 (k:=?_))|fail)
  all_goals first|exact⟨_,(_,(_,_)),rfl,aY _,ar rfl⟩|trace_state
 |false=>
  rw[if_neg ff]
  clear ho hbad hn ih
  rw[hb] at m2
  refine MXA (fn:=Tryz.f187) Tryz.call187 Tryz.func187 rfl Tryz.ntmps187 Tryz.results187 rfl rfl ?_
  repeat'(first|(with_reducible first|apply AW.seq|apply AW.skip|apply AW.ret|apply aa|apply y_e|refine ae ?_)|((with_reducible apply ai);first|refine t_v AS.v ?_|refine t_w AS.w ?_|refine t_w (by first|exact av (hP:=m1)|exact av (hP:=m2)) ?_)|((with_reducible apply ay);refine t_s AS.s ?_)|((with_reducible refine aq ?_);refine aJ ?_)|((with_reducible refine aD ?_);refine b8 (k:=?_))|fail)
  all_goals exact⟨_,(_,(_,_)),rfl,aY _,ar rfl⟩
theorem z7 (hf:Fine l) {n d:Nat} (hd:d≤12) (ih:∀ j,j<n→∀ (s:Stm) (k:Ix l) (f:Fa) (c:Int),d≤11→En 3 3 j k f c→MNL Tryz.prog 187 [(0,qsO k f c)] [.c (.ptr 0 0),.agg (stC s),.c (sI d)] (.agg (stC (eV (fun k f c=>cE j d k f c) s k f c).1)) [(0,qsO (eV (fun k f c=>cE j d k f c) s k f c).2.1 (eV (fun k f c=>cE j d k f c) s k f c).2.2.1 (eV (fun k f c=>cE j d k f c) s k f c).2.2.2)]) (k:Ix l) (f:Fa) (c:Int) (hn:En 1 1 (n+1) k f c) :
 MX Tryz.prog 117 [(0,qsO k f c)] [.c (.ptr 0 0),.c (sI d)] (.ok (stQ (n+1) d k f c):Except Fa (Stm×(Ix l×(Fa×Int)))) (fun s=>.agg (stC s)) (fun b=>[(0,qsO b.1 b.2.1 b.2.2)]) pvS:=by
 have hl:=hf.le
 have hk:=k.2
 have b1:MNL Tryz.prog 185 [(0,qsO k f c)] [.c (.ptr 0 0),.c (sI d)] (.agg (stC (gN k f))) [(0,qsO (nx k) (eQ d k f (eg c)) (eg c))]:=(vt hf d (by omega) k f).ok (gN k f) (nx k,(eQ d k f (eg c),eg c)) rfl
 rw[stQ]
 have hb:=tq hf (d:=d) (k:=k) (f:=f) (c:=eg c)
 have hkd:=ux hf (d:=d) (k:=k) (f:=f) (c:=eg c)
 by_cases h0:(eQ d k f (eg c)).code=0
 ·obtain ⟨hb0,hb1,hb2,hb3,hb4⟩:=hb h0
  have hkd:=hkd h0
  have fa:=ee (l:=l) (c:=eg c) (nx k) h0
  have hn2:=hn.2 hb0
  have hc0:eg c=c+1:=by
   have:eg c=IntKind.i64.wrap (c+1):=rfl
   rw[this,wrap64 (by omega) (by omega)]
  rw[if_neg (fun h=>h h0)]
  rw[hb1] at b1 ⊢
  rw[hb1] at fa h0
  generalize hs:gN k f=s at *
  generalize hg:eg c=c1 at *
  by_cases h17:s.kind=17∨s.kind=18
  ·rw[if_pos h17]
   have hd12:=hb4 h17
   obtain ⟨j,rfl⟩:∃ j,n=j+1:=⟨n - 1,by omega⟩
   rw[lf]
   rcases h17 with h17|h18
   ·have ei:decide (s.kind=17)=true:=decide_eq_true h17
    rw[ei]
    unfold mi
    rw[if_pos rfl]
    have cd:=xC hf (c:=c1) (nx k) f
    have ho:=yj (k:=nx k) (f:=f)
    generalize eI (nx k) f=q at *
    obtain ⟨e,k1,f1⟩:=q
    dsimp only at cd ho ⊢
    have hk1:=k1.2
    have bl:=ih j (Nat.lt_succ_self j) {s with cond:=e} k1 f1 c1 (by omega) ⟨by omega,fun h=>by have:=ho h;omega⟩
    clear ih ho hb hn hn2
    generalize eV (fun k f c=>cE j d k f c) {s with cond:=e} k1 f1 c1=q at *
    obtain ⟨x,k2,f2,c2⟩:=q
    dsimp only at bl ⊢
    refine MXA (fn:=Tryz.f117) Tryz.call117 Tryz.func117 rfl Tryz.ntmps117 Tryz.results117 rfl rfl ?_
    repeat'(first|(with_reducible first|apply AW.seq|apply AW.block|apply AW.skip|apply AW.ret|apply aa|apply ak|apply aL|apply y_e|refine ae ?_)|((with_reducible apply ai);first|refine t_v AS.v ?_|refine t_v (by exact az (hP:=fa)) ?_|refine t_w AS.w ?_|refine t_w (by first|exact av (hP:=b1)|exact av (hP:=cd)|exact av (hP:=bl)) ?_)|((with_reducible apply ay);refine t_s AS.s ?_)|((with_reducible refine aq ?_);first|refine aJ ?_|(refine ah (fun hc=>?_) (fun hc=>?_);all_goals(try(exfalso;simp[*] at hc;done))))|((with_reducible refine aD ?_);refine b8 (k:=?_))|fail)
    all_goals exact⟨_,(_,(_,_)),rfl,aY _,ar rfl⟩
   ·have ei:decide (s.kind=17)=false:=by rw[h18];decide
    rw[ei]
    unfold mi
    rw[if_neg ff]
    dsimp only
    have bl:=ih j (Nat.lt_succ_self j) s (nx k) f c1 (by omega) ⟨by omega,fun h=>by have:=(nx k).2;omega⟩
    clear ih hb hn hn2
    generalize eV (fun k f c=>cE j d k f c) s (nx k) f c1=q at *
    obtain ⟨x,k2,f2,c2⟩:=q
    dsimp only at bl ⊢
    refine MXA (fn:=Tryz.f117) Tryz.call117 Tryz.func117 rfl Tryz.ntmps117 Tryz.results117 rfl rfl ?_
    repeat'(first|(with_reducible first|apply AW.seq|apply AW.block|apply AW.skip|apply AW.ret|apply aa|apply ak|apply aL|apply y_e|refine ae ?_)|((with_reducible apply ai);first|refine t_v AS.v ?_|refine t_v (by exact az (hP:=fa)) ?_|refine t_w AS.w ?_|refine t_w (by first|exact av (hP:=b1)|exact av (hP:=bl)) ?_)|((with_reducible apply ay);refine t_s AS.s ?_)|((with_reducible refine aq ?_);first|refine aJ ?_|(refine ah (fun hc=>?_) (fun hc=>?_);all_goals(try(exfalso;simp[*] at hc;done))))|((with_reducible refine aD ?_);refine b8 (k:=?_))|fail)
    all_goals exact⟨_,(_,(_,_)),rfl,aY _,ar rfl⟩
  ·rw[if_neg h17]
   clear ih hb hn hn2
   unfold bK
   dsimp only
   by_cases hS:s.kind=1∨s.kind=2∨s.kind=3∨s.kind=4∨s.kind=5∨s.kind=8∨s.kind=9∨s.kind=10∨s.kind=11
   ·have e:kn s (nx k) f=cm s (nx k) f:=by unfold kn;rw[if_pos hS]
    rw[e]
    have m1:=BO (c:=c1) hf s hS (nx k) f
    generalize cm s (nx k) f=q at *
    obtain ⟨x,k2,f2⟩:=q
    dsimp only at m1 ⊢
    have m2:=bV (c:=c1) hf k2 f2 ⟨#[59]⟩
    generalize aO ⟨#[59]⟩ k2 f2=q at *
    obtain ⟨k3,f3⟩:=q
    dsimp only at m2 ⊢
    refine MXA (fn:=Tryz.f117) Tryz.call117 Tryz.func117 rfl Tryz.ntmps117 Tryz.results117 rfl rfl ?_
    repeat'(first|(with_reducible first|apply AW.seq|apply AW.block|apply AW.skip|apply AW.ret|apply aa|apply aw|apply y_e|refine ae ?_)|((with_reducible apply ai);first|refine t_v AS.v ?_|refine t_v (by exact az (hP:=fa)) ?_|refine t_w AS.w ?_|refine t_w (by first|exact av (hP:=b1)|exact av (hP:=m1)|exact av (hP:=m2)) ?_)|((with_reducible apply ay);refine t_s AS.s ?_)|((with_reducible refine aq ?_);first|refine aJ ?_|(refine ah (fun hc=>?_) (fun hc=>?_);all_goals(try(exfalso;simp[*] at hc;done));all_goals(try(exfalso;revert hc;simp;omega))))|((with_reducible refine aD ?_);refine b8 (k:=?_))|((with_reducible apply Br);dsimp only[List.append])|fail)
    all_goals first|exact⟨_,(_,(_,_)),rfl,aY _,ar rfl⟩|(exfalso;clear b1 fa m1 m2;simp only[decide_eq_true_eq,decide_eq_false_iff_not] at *;omega)
   ·by_cases hR:s.kind=6∨s.kind=7∨s.kind=12∨s.kind=13∨s.kind=14
    ·have e:kn s (nx k) f=bL s (nx k) f:=by unfold kn;rw[if_neg hS,if_pos hR]
     rw[e]
     have m1:=wH (c:=c1) hf s hR (nx k) f
     generalize bL s (nx k) f=q at *
     obtain ⟨x,k2,f2⟩:=q
     dsimp only at m1 ⊢
     have m2:=bV (c:=c1) hf k2 f2 ⟨#[59]⟩
     generalize aO ⟨#[59]⟩ k2 f2=q at *
     obtain ⟨k3,f3⟩:=q
     dsimp only at m2 ⊢
     refine MXA (fn:=Tryz.f117) Tryz.call117 Tryz.func117 rfl Tryz.ntmps117 Tryz.results117 rfl rfl ?_
     repeat'(first|(with_reducible first|apply AW.seq|apply AW.block|apply AW.skip|apply AW.ret|apply aa|apply aw|apply y_e|refine ae ?_)|((with_reducible apply ai);first|refine t_v AS.v ?_|refine t_v (by exact az (hP:=fa)) ?_|refine t_w AS.w ?_|refine t_w (by first|exact av (hP:=b1)|exact av (hP:=m1)|exact av (hP:=m2)) ?_)|((with_reducible apply ay);refine t_s AS.s ?_)|((with_reducible refine aq ?_);first|refine aJ ?_|(refine ah (fun hc=>?_) (fun hc=>?_);all_goals(try(exfalso;simp[*] at hc;done));all_goals(try(exfalso;revert hc;simp;omega))))|((with_reducible refine aD ?_);refine b8 (k:=?_))|((with_reducible apply Br);dsimp only[List.append])|fail)
     all_goals first|exact⟨_,(_,(_,_)),rfl,aY _,ar rfl⟩|(exfalso;clear b1 fa m1 m2;simp only[decide_eq_true_eq,decide_eq_false_iff_not] at *;omega)
    ·have e:kn s (nx k) f=bB s (nx k) f:=by unfold kn;rw[if_neg hS,if_neg hR]
     rw[e]
     have m1:=BR (c:=c1) hf s (by omega) (nx k) f
     generalize bB s (nx k) f=q at *
     obtain ⟨x,k2,f2⟩:=q
     dsimp only at m1 ⊢
     have m2:=bV (c:=c1) hf k2 f2 ⟨#[59]⟩
     generalize aO ⟨#[59]⟩ k2 f2=q at *
     obtain ⟨k3,f3⟩:=q
     dsimp only at m2 ⊢
     refine MXA (fn:=Tryz.f117) Tryz.call117 Tryz.func117 rfl Tryz.ntmps117 Tryz.results117 rfl rfl ?_
     repeat'(first|(with_reducible first|apply AW.seq|apply AW.block|apply AW.skip|apply AW.ret|apply aa|apply aw|apply y_e|refine ae ?_)|((with_reducible apply ai);first|refine t_v AS.v ?_|refine t_v (by exact az (hP:=fa)) ?_|refine t_w AS.w ?_|refine t_w (by first|exact av (hP:=b1)|exact av (hP:=m1)|exact av (hP:=m2)) ?_)|((with_reducible apply ay);refine t_s AS.s ?_)|((with_reducible refine aq ?_);first|refine aJ ?_|(refine ah (fun hc=>?_) (fun hc=>?_);all_goals(try(exfalso;simp[*] at hc;done));all_goals(try(exfalso;revert hc;simp;omega))))|((with_reducible refine aD ?_);refine b8 (k:=?_))|((with_reducible apply Br);dsimp only[List.append])|fail)
     all_goals first|exact⟨_,(_,(_,_)),rfl,aY _,ar rfl⟩|(exfalso;clear b1 fa m1 m2;simp only[decide_eq_true_eq,decide_eq_false_iff_not] at *;omega)
 ·have fa:=fJ (l:=l) (c:=eg c) (nx k) h0
  rw[if_pos h0]
  generalize eQ d k f (eg c)=g at *
  generalize gN k f=s at *
  clear ih hb hn hkd
  refine MXA (fn:=Tryz.f117) Tryz.call117 Tryz.func117 rfl Tryz.ntmps117 Tryz.results117 rfl rfl ?_
  repeat'(first|(with_reducible first|apply AW.seq|apply AW.ret|apply aa|apply ak|apply y_e|refine ae ?_)|((with_reducible apply ai);first|refine t_v AS.v ?_|refine t_v (by exact az (hP:=fa)) ?_|refine t_w AS.w ?_|refine t_w (by exact av (hP:=b1)) ?_)|((with_reducible apply ay);refine t_s AS.s ?_)|((with_reducible refine aq ?_);refine aI ?_)|((with_reducible refine aD ?_);refine b8 (k:=?_))|fail)
  all_goals exact⟨_,(_,(_,_)),rfl,aY _,ar rfl⟩
end
end Am
namespace Am
open Tk Go.RowKit
set_option maxRecDepth 100000
set_option maxHeartbeats 4000000
section
variable {ρ:Operand→Option V} {H:Nat→Option HO} {d:Option Nat} {ty t t2:TypeId} {pos:String} {af:Array Edge} {gu:Option (Nat×Bool)} {x y:Operand} {p q:Int}
theorem EL (hx:Ev ρ x (.c (.sc (.int .u8 p)))) (h0:0≤p) (h1:p<256):AS Tryz.prog ρ H ⟨d,.convert 5 3 x,ty,pos,af,gu⟩ ⟨.c (.sc (.int .i64 p)),[],[]⟩:=by
 refine .still (fun q hq w=>?_) fun _=>.sc rfl
 have h1:=hq x (by simp[Op.operands]) _ _ hx .sc
 have h2:IntKind.i64.wrap p=p:=by rw[IntKind.wrap_i64];omega
 unfold execOp
 simp only[h1]
 simp[go_sem,run_underlying tA,run_underlying oP,h2]
theorem D7 (hx:Ev ρ x (.c (.sc (.int .u8 p)))) (hy:Ev ρ y (.c (.sc (.int .u8 q)))) (h0:0≤p - q) (h1:p - q<256):AS Tryz.prog ρ H ⟨d,.binOp .sub t x y t2,ty,pos,af,gu⟩ ⟨.c (.sc (.int .u8 (p - q))),[],[]⟩:=
 eS hx hy rfl fun w=>by
  have h2:IntKind.u8.wrap (p - q)=p - q:=by unfold IntKind.wrap;simp[IntKind.bits,IntKind.signed];omega
  simp[eqGuard,binOp,Op.intArith,h2]
end
section
variable {l:List Tok}
variable (l) in
structure SQ (n:Nat):Prop where
 st:∀ (d:Nat) (k:Ix l) (f:Fa) (c:Int),d≤12→En 1 1 n k f c→MNL Tryz.prog 117 [(0,qsO k f c)] [.c (.ptr 0 0),.c (sI d)] (.agg (stC (stQ n d k f c).1)) [(0,qsO (stQ n d k f c).2.1 (stQ n d k f c).2.2.1 (stQ n d k f c).2.2.2)]
 bs:∀ (d:Nat) (s:Stm) (k:Ix l) (f:Fa) (c:Int),d≤11→En 3 3 n k f c→MNL Tryz.prog 187 [(0,qsO k f c)] [.c (.ptr 0 0),.agg (stC s),.c (sI d)] (.agg (stC (eV (fun k f c=>cE n d k f c) s k f c).1)) [(0,qsO (eV (fun k f c=>cE n d k f c) s k f c).2.1 (eV (fun k f c=>cE n d k f c) s k f c).2.2.1 (eV (fun k f c=>cE n d k f c) s k f c).2.2.2)]
 bl:∀ (d:Nat) (k:Ix l) (f:Fa) (c:Int),d≤11→En 3 3 n k f c→MNL Tryz.prog 258 [(0,qsO k f c)] [.c (.ptr 0 0),.c (sI d)] (.c (.lst none 55 ((cE n d k f c).1.map stC))) [(0,qsO (cE n d k f c).2.1 (cE n d k f c).2.2.1 (cE n d k f c).2.2.2)]
theorem w4 (hf:Fine l):∀ n m:Nat,m≤n→SQ l m
 |_,0,_=>⟨fun _ _ _ _ _ h=>absurd h.1 (by omega),fun _ _ _ _ _ _ h=>absurd h.1 (by omega),fun _ _ _ _ _ h=>absurd h.1 (by omega)⟩
 |0,_+1,h=>absurd h (by omega)
 |n+1,m+1,h=>by
  have ih:=w4 hf n
  have bl:∀ (d:Nat) (k:Ix l) (f:Fa) (c:Int),d≤11→En 3 3 (m+1) k f c→MNL Tryz.prog 258 [(0,qsO k f c)] [.c (.ptr 0 0),.c (sI d)] (.c (.lst none 55 ((cE (m+1) d k f c).1.map stC))) [(0,qsO (cE (m+1) d k f c).2.1 (cE (m+1) d k f c).2.2.1 (cE (m+1) d k f c).2.2.2)]:=fun d k f c hd hn=>
   (vN hf hd (fun j hj k f c en=>(ih j (by omega)).st (d+1) k f c (by omega) en) k f c hn).ok _ _ rfl
  refine⟨fun d k f c hd hn=>?_,fun d s k f c hd hn=>?_,bl⟩
  ·exact(z7 hf hd (fun j hj s k f c h11 en=>(ih j (by omega)).bs d s k f c h11 en) k f c hn).ok _ _ rfl
  ·exact(s6 hf hd (fun k f c en=>bl d k f c hd en) s k f c hn).ok _ _ rfl
theorem uY (hf:Fine l) (k:Ix l) (f:Fa):MX Tryz.prog 57 [(0,qsO k f 0)] [.c (.ptr 0 0)] (.ok (iL (fuel l) [] k f 0):Except Fa (List Stm×(Ix l×(Fa×Int)))) (fun s=>.c (.lst none 55 (s.map stC))) (fun b=>[(0,qsO b.1 b.2.1 b.2.2)]) pvS:=by
 have hl:=hf.le
 have hk:=k.2
 generalize hsp:iL (fuel l) [] k f 0=sp
 refine MXA (fn:=Tryz.f57) Tryz.call57 Tryz.func57 rfl Tryz.ntmps57 Tryz.results57 rfl rfl ?_
 repeat'(first|(with_reducible first|apply AW.seq|apply AW.block|apply aa|apply y_e|refine ae ?_)|((with_reducible apply ai);refine t_v AS.v ?_)|fail)
 refine ks stC 3 1002 69 55 rfl rfl ?_
 refine AW.loop (fun j σ=>∃ (acc:List Stm) (k':Ix l) (f':Fa) (c':Int),1≤j∧iL j acc k' f' c'=sp∧(f'.code=0→0≤c'∧c'≤4294967296∧4*(l.length - k'.1)+2≤j∧acc.length≤k'.1)∧acc.length≤l.length+1∧σ=mk [(3,.c (.lst (some 1002) 55 (acc.map stC))),(0,.c (.ptr 0 0))] [(1002,.row 69 55 acc.length),(0,qsO k' f' c')]) (fuel l) ?_ ?_
 ·exact⟨_,wkA,[],k,f,0,by unfold fuel;omega,hsp,fun _=>⟨by omega,by omega,by unfold fuel;omega,Nat.zero_le _⟩,Nat.zero_le _,rfl⟩
 clear hsp hk
 rintro j σ ⟨acc,k',f',c',hj,hm,hi,ha,rfl⟩
 subst hm
 have hk':=k'.2
 obtain ⟨j,rfl⟩:∃ n,j=n+1:=⟨j - 1,by omega⟩
 have nw:=cj (l:=l) (k:=k') (f:=f') (c:=c')
 rw[iL]
 by_cases hf0:f'.code=0
 ·have fa:=ee (l:=l) (c:=c') k' hf0
  by_cases h0:(tk k').kind=0
  ·rw[if_neg (by simp[h0])]
   clear hi
   repeat'(first|(with_reducible first|apply AW.seq|apply AW.ret|apply AW.exit|apply aa|apply aE|apply aH|apply y_e|refine ae ?_)|((with_reducible apply ai);first|refine t_v AS.v ?_|refine t_v (by exact az (hP:=fa)) ?_)|((with_reducible apply aK);first|refine t_f ?_|refine t_m (hs:=fun hg=>AS.v) (k:=?_)|refine t_m (hs:=fun hg=>(by exact az (hP:=nw))) (k:=?_))|((with_reducible refine aq ?_);first|refine aJ ?_|(refine ah (fun hc=>?_) (fun hc=>?_);all_goals(try(exfalso;simp[*] at hc;done))))|((with_reducible refine aD ?_);refine l_1 (k:=?_))|fail)
   all_goals exact⟨_,(_,(_,_)),rfl,ji _ _,ar rfl⟩
  ·rw[if_pos (by simp[hf0,h0])]
   obtain ⟨hi0,hi1,hi2,hi3⟩:=hi hf0
   have ho:=fun h=>vZ hf (n:=j) (d:=0) (k:=k') (f:=f') (c:=c') hf0 ⟨hi0,hi1⟩ h
   have st:MNL Tryz.prog 117 [(0,qsO k' f' c')] [.c (.ptr 0 0),.c (sI 0)] (.agg (stC (stQ j 0 k' f' c').1)) [(0,qsO (stQ j 0 k' f' c').2.1 (stQ j 0 k' f' c').2.2.1 (stQ j 0 k' f' c').2.2.2)]:=(w4 hf j j (Nat.le_refl _)).st 0 k' f' c' (by omega) ⟨by omega,fun _=>⟨hi0,hi1,by omega⟩⟩
   generalize stQ j 0 k' f' c'=q at *
   obtain ⟨y,k3,f3,c3⟩:=q
   dsimp only at st ho ⊢
   clear hi
   repeat'(first|(with_reducible first|apply AW.seq|apply AW.block|apply AW.skip|apply aa|apply aw|apply y_e|refine ae ?_)|((with_reducible apply ai);first|refine t_v AS.v ?_|refine t_v (by exact az (hP:=fa)) ?_|refine t_w AS.w ?_|refine t_w (by exact av (hP:=st)) ?_)|((with_reducible apply aK);first|refine t_m (hs:=fun hg=>AS.v) (k:=?_)|refine t_m (hs:=fun hg=>(by exact az (hP:=nw))) (k:=?_))|((with_reducible refine aq ?_);((refine ah (fun hc=>?_) (fun hc=>?_);all_goals(try(exfalso;simp[*] at hc;done)))))|fail)
   all_goals(exact⟨j,_,Nat.lt_succ_self j,wkA,acc++[y],k3,f3,c3,by omega,rfl,fun h=>by have:=ho h;have:=k3.2;simp;omega,by simp;omega,rfl⟩)
 ·have fa:=fJ (l:=l) (c:=c') k' hf0
  rw[if_neg (by simp[hf0])]
  clear hi
  repeat'(first|(with_reducible first|apply AW.seq|apply AW.ret|apply AW.exit|apply aa|apply aE|apply aH|apply y_e|refine ae ?_)|((with_reducible apply ai);first|refine t_v AS.v ?_|refine t_v (by exact az (hP:=fa)) ?_)|((with_reducible apply aK);first|refine t_f ?_|refine t_m (hs:=fun hg=>AS.v) (k:=?_)|refine t_m (hs:=fun hg=>(by exact az (hP:=nw))) (k:=?_))|((with_reducible refine aq ?_);first|refine aJ ?_|(refine ah (fun hc=>?_) (fun hc=>?_);all_goals(try(exfalso;simp[*] at hc;done))))|((with_reducible refine aD ?_);refine l_1 (k:=?_))|fail)
  all_goals exact⟨_,(_,(_,_)),rfl,ji _ _,ar rfl⟩
theorem uF (hf:Fine l) (k:Ix l) (f:Fa):MNL Tryz.prog 57 [(0,qsO k f 0)] [.c (.ptr 0 0)] (.c (.lst none 55 ((iL (fuel l) [] k f 0).1.map stC))) [(0,qsO (iL (fuel l) [] k f 0).2.1 (iL (fuel l) [] k f 0).2.2.1 (iL (fuel l) [] k f 0).2.2.2)]:=(uY hf k f).ok _ _ rfl
theorem dec_lt {s:List UInt8} (h9:s.length≤9) (hd:s.all dgB=true):∀ j,j≤s.length→(s.take j).foldl (fun n c=>10*n+(c.toNat - 48)) 0<10 ^ j
 |0,_=>by simp
 |j+1,hj=>by
  have ih:=dec_lt h9 hd j (by omega)
  have h1:j<s.length:=by omega
  rw[List.take_succ_eq_append_getElem h1,List.foldl_append]
  have h2:dgB s[j]=true:=by rw[List.all_eq_true] at hd;exact hd _ (List.getElem_mem h1)
  have h3:s[j].toNat≤57:=by
   have h4:eP (bi s[j])=true:=h2
   unfold eP bi at h4
   have h5:=of_decide_eq_true h4
   omega
  simp only[List.foldl_cons,List.foldl_nil]
  rw[Nat.pow_succ]
  generalize (s.take j).foldl (fun n c=>10*n+(c.toNat - 48)) 0=F at *
  generalize 10 ^ j=P at *
  omega
theorem zg {c:Int} (hf:Fine l) (k:Ix l) (f:Fa):MX Tryz.prog 55 [(0,qsO k f c)] [.c (.ptr 0 0)] (.ok (gl k f):Except Fa (Int×(Ix l×Fa))) (fun n=>.c (sI n)) (fun b=>[(0,qsO b.1 b.2 c)]) pvS:=by
 have hl:=hf.le
 have hk:=k.2
 have nw:=cj (l:=l) (k:=k) (f:=f) (c:=c)
 unfold gl
 by_cases h0:f.code=0
 ·have fa:=ee (l:=l) (c:=c) k h0
  by_cases h2:(tk k).kind=2
  ·rw[if_pos (by simp[h0,h2])]
   obtain ⟨n1,n2,n3⟩:=hf.nm k h2
   have f1:=cw (c:=c) k f 3 (tk k)
   have s1:=fu (c:=c) hf k (bZ f 3 (tk k))
   have s2:=fu (c:=c) hf k f
   have hD:∃ D:Nat→Nat,D 0=0∧(∀ j d,(tk k).text.data.toList[j]? =some d→D (j+1)=10*D j+(d.toNat - 48)∧48≤d.toNat∧d.toNat≤57)∧(∀ j,j≤(tk k).text.size→D j<1000000000)∧D (tk k).text.size=ja (tk k).text:=by
    refine⟨fun j=>((tk k).text.data.toList.take j).foldl (fun n c=>10*n+(c.toNat - 48)) 0,rfl,fun j d hd=>?_,fun j hj=>?_,?_⟩
    ·obtain ⟨h1,h2⟩:=List.getElem?_eq_some_iff.1 hd
     have h3:dgB d=true:=by rw[List.all_eq_true] at n3;exact n3 d (List.mem_of_getElem? hd)
     have h4:48≤d.toNat∧d.toNat≤57:=by
      have h5:eP (bi d)=true:=h3
      unfold eP bi at h5
      have h6:=of_decide_eq_true h5
      omega
     refine⟨?_,h4⟩
     dsimp only
     rw[List.take_succ_eq_append_getElem h1,List.foldl_append,h2]
     rfl
    ·rw[bc] at hj
     have h1:=dec_lt n2 n3 j hj
     have h2:10 ^ j≤10 ^ 9:=Nat.pow_le_pow_right (by omega) (by omega)
     have h3:(10:Nat) ^ 9=1000000000:=by decide
     dsimp only
     omega
    ·show((tk k).text.data.toList.take (tk k).text.size).foldl _ 0=_
     rw[bc,List.take_length];rfl
   obtain ⟨D,d0,d1,d2,d3⟩:=hD
   rw[← d3]
   have hz:(tk k).text.size≤9:=by rw[bc];exact n2
   generalize ht:tk k=t at *
   clear n1 n2 n3 d3 hk
   refine MXA (fn:=Tryz.f55) Tryz.call55 Tryz.func55 rfl Tryz.ntmps55 Tryz.results55 rfl rfl ?_
   repeat'(first|(with_reducible first|apply AW.seq|apply AW.block|apply AW.skip|apply aa|apply y_e|refine ae ?_)|((with_reducible apply ai);first|refine t_v AS.v ?_|refine t_v (by first|exact az (hP:=nw)|exact az (hP:=fa)) ?_|refine t_w AS.w ?_)|((with_reducible apply aK);refine t_m (hs:=fun hg=>AS.v) (k:=?_))|((with_reducible apply ay);refine t_s AS.s ?_)|((with_reducible refine aq ?_);((refine ah (fun hc=>?_) (fun hc=>?_);all_goals(try(exfalso;simp[*] at hc;done)))))|fail)
   clear hc
   refine AW.loop (fun m σ=>∃ j:Nat,m=t.text.size - j∧j≤t.text.size∧σ=mk [(5,.c (sI (j:Int))),(4,.c (sI ((D j:Nat):Int))),(0,.c (.ptr 0 0)),(3,.c (.ptr 3 0))] [(3,.obj 99 (tkC t)),(0,qsO k f c)]) t.text.size ?_ ?_
   ·refine⟨_,?_,0,rfl,Nat.zero_le _,rfl⟩
    rw[d0]
    exact wkA
   rintro m σ ⟨j,rfl,hj,rfl⟩
   have hb:=d2 j hj
   by_cases hlt:j<t.text.size
   ·obtain ⟨d,hd⟩:∃ d,t.text.data.toList[j]? =some d:=⟨_,List.getElem?_eq_getElem (by rw[← bc];exact hlt)⟩
    obtain ⟨e1,e2,e3⟩:=d1 j d hd
    have e4:((D (j+1):Nat):Int)=IntKind.i64.wrap (IntKind.i64.wrap (10*(D j:Int))+((d.toNat:Int) - 48)):=by
     rw[wrap64 (n:=10*(D j:Int)) (by omega) (by omega),wrap64 (by omega) (by omega)];omega
    clear d1 d2 ht e1 f1 s1 s2 d0
    repeat'(first|(with_reducible first|apply AW.seq|apply AW.block|apply AW.skip|apply aa|apply aw|apply y_e|refine ae ?_)|((with_reducible apply ai);first|refine t_v AS.v ?_|refine t_v (by first|exact D7 (.pl rfl) (.pl rfl) (by omega) (by omega)|exact EL (.pl rfl) (by omega) (by omega)) ?_)|((with_reducible refine aq ?_);((refine ah (fun hc=>?_) (fun hc=>?_);all_goals(try(exfalso;simp[*] at hc;done)))))|fail)
    exact⟨_,mk [(5,.c (sI ((j:Int)+1))),(4,.c (sI (IntKind.i64.wrap (IntKind.i64.wrap (10*(D j:Int))+((d.toNat:Int) - 48))))),(0,.c (.ptr 0 0)),(3,.c (.ptr 3 0))] [(3,.obj 99 (tkC t)),(0,qsO k f c)],(show t.text.size - (j+1)<t.text.size - j by omega),wkA,j+1,rfl,hlt,by rw[e4];rfl⟩
   ·have ej:j=t.text.size:=by omega
    clear d1 d2 hlt
    repeat'(first|(with_reducible first|apply AW.seq|apply AW.skip|apply AW.ret|apply AW.exit|apply aa|apply aE|apply aH|apply y_e|refine ae ?_)|((with_reducible apply ai);first|refine t_v AS.v ?_|refine t_w (by first|exact av (hP:=f1)|exact av (hP:=s1)|exact av (hP:=s2)) ?_)|((with_reducible refine aq ?_);((refine ah (fun hc=>?_) (fun hc=>?_);all_goals(try(exfalso;simp[*] at hc;done)))))|((with_reducible refine aD ?_);refine l_1 (k:=?_))|fail)
    ·subst ej
     rw[if_pos (by have hc:=of_decide_eq_true hc;omega)]
     exact⟨_,(_,_),rfl,rfl,ar rfl⟩
    ·subst ej
     rw[if_neg (by have hc:=of_decide_eq_false hc;omega)]
     exact⟨_,(_,_),rfl,rfl,ar rfl⟩
  ·rw[if_neg (by simp[h2])]
   have m1:=cw (c:=c) k f 9 (tk k)
   refine MXA (fn:=Tryz.f55) Tryz.call55 Tryz.func55 rfl Tryz.ntmps55 Tryz.results55 rfl rfl ?_
   repeat'(first|(with_reducible first|apply AW.seq|apply AW.ret|apply aa|apply ak|apply y_e|refine ae ?_)|((with_reducible apply ai);first|refine t_v AS.v ?_|refine t_v (by first|exact az (hP:=nw)|exact az (hP:=fa)) ?_|refine t_w AS.w ?_|refine t_w (by exact av (hP:=m1)) ?_)|((with_reducible apply aK);first|refine t_f ?_|refine t_m (hs:=fun hg=>AS.v) (k:=?_))|((with_reducible apply ay);refine t_s AS.s ?_)|((with_reducible refine aq ?_);first|refine aI ?_|(refine ah (fun hc=>?_) (fun hc=>?_);all_goals(try(exfalso;simp[*] at hc;done))))|((with_reducible refine aD ?_);refine l_1 (k:=?_))|fail)
   all_goals exact⟨_,(_,_),rfl,rfl,ar rfl⟩
 ·have fa:=fJ (l:=l) (c:=c) k h0
  rw[if_neg (by simp[h0])]
  have m1:=cw (c:=c) k f 9 (tk k)
  refine MXA (fn:=Tryz.f55) Tryz.call55 Tryz.func55 rfl Tryz.ntmps55 Tryz.results55 rfl rfl ?_
  repeat'(first|(with_reducible first|apply AW.seq|apply AW.ret|apply aa|apply ak|apply y_e|refine ae ?_)|((with_reducible apply ai);first|refine t_v AS.v ?_|refine t_v (by first|exact az (hP:=nw)|exact az (hP:=fa)) ?_|refine t_w AS.w ?_|refine t_w (by exact av (hP:=m1)) ?_)|((with_reducible apply aK);first|refine t_f ?_|refine t_m (hs:=fun hg=>AS.v) (k:=?_))|((with_reducible apply ay);refine t_s AS.s ?_)|((with_reducible refine aq ?_);first|refine aI ?_|(refine ah (fun hc=>?_) (fun hc=>?_);all_goals(try(exfalso;simp[*] at hc;done))))|((with_reducible refine aD ?_);refine l_1 (k:=?_))|fail)
  all_goals exact⟨_,(_,_),rfl,rfl,ar rfl⟩
theorem xR {c:Int} (hf:Fine l) (k:Ix l) (f:Fa):MNL Tryz.prog 55 [(0,qsO k f c)] [.c (.ptr 0 0)] (.c (sI (gl k f).1)) [(0,qsO (gl k f).2.1 (gl k f).2.2 c)]:=(zg hf k f).ok _ _ rfl
end
end Am
end Go.Proofs.YtkpodagbefnebaaGreatDoor
