import Derived.Test.YtkpodagbefnebaaGreatDoorYg9
import Derived.Test.YtkpodagbefnebaaGreatDoorYg26
import Derived.Laws.IdiomStrings
set_option linter.unusedSimpArgs false
set_option linter.unusedVariables false
set_option linter.unusedSectionVars false
namespace Go.Proofs.YtkpodagbefnebaaGreatDoor
namespace Am
open Tk
set_option maxRecDepth 100000
set_option maxHeartbeats 4000000
theorem gv (s:ByteArray):Pure Tryz.prog 69 [.c (sS s)] (.c (sB (idB s))):=
 Pure.of_calls (vs:=[.string s]) Tryz.call69 (.sc rfl) fun hs w=>nf s (of_decide_eq_true (hs _ (.head _))) w
theorem ph (l:List ByteArray) (n:Int):Pure Tryz.prog 193 [.c (bW l),.c (sI n)] (.c (sB (ja l n))):=by
 refine fn2 (fn:=Tryz.f193) Tryz.call193 Tryz.func193 rfl Tryz.ntmps193 Tryz.results193 rfl (by rfl) ?_
 refine AW.fact (t:=0) rfl (fun κ w x hr=>gB hr) fun hn=>?_
 repeat'(first|(with_reducible first|apply AW.seq|apply AW.block|apply ae|apply y_e|refine ag ?_)|((with_reducible apply ak);refine t_v AS.v ?_)|fail)
 refine AW.loop (fun m σ=>∃ j,m=l.length - j∧j≤l.length∧(l.take j).all idB=true∧σ=mk [(0,.c (bW l)),(1,.c (sI n)),(5,.c (sI j))] []) l.length ?_ ?_
 ·exact⟨_,wkA,0,rfl,Nat.zero_le _,rfl,rfl⟩
 rintro m σ ⟨j,rfl,hj,ha,rfl⟩
 by_cases hlt:j<l.length
 ·obtain ⟨x,hx⟩:∃ x,l[j]? =some x:=⟨_,List.getElem?_eq_getElem hlt⟩
  repeat'(first|(with_reducible first|apply AW.seq|apply AW.block|apply AW.skip|apply AW.ret|apply ae|apply ar|apply ay|apply aJ|apply y_e|refine ag ?_)|((with_reducible apply ak);first|refine t_v AS.v ?_|refine t_v (by exact ah (hP:=gv x)) ?_)|((with_reducible refine av ?_);((refine aj (fun hc=>?_) (fun hc=>?_);all_goals(try(exfalso;simp[*] at hc;done)))))|((with_reducible refine aF ?_);refine k_b ?_)|fail)
  ·rw[ja,j8 hx (by simpa using hc),Bool.false_and]
  ·exact⟨_,_,(show l.length - (j+1)<l.length - j by omega),wkA,j+1,rfl,hlt,ek hx ha (by simpa using hc),rfl⟩
 ·repeat'(first|(with_reducible first|apply AW.seq|apply AW.ret|apply AW.exit|apply ae|apply aG|apply aT|apply y_e|refine ag ?_)|((with_reducible apply ak);refine t_v AS.v ?_)|((with_reducible refine av ?_);((refine aj (fun hc=>?_) (fun hc=>?_);all_goals(try(exfalso;simp[*] at hc;done)))))|((with_reducible refine aF ?_);refine k_b ?_)|fail)
  rw[ja,iu ha (by omega),Bool.true_and,List.length_map]
theorem uu (n:NS):Pure Tryz.prog 194 [.agg (nsC n)] (.c (sB (fV n))):=by
 refine fn1 (fn:=Tryz.f194) Tryz.call194 Tryz.func194 rfl Tryz.ntmps194 Tryz.results194 rfl (by rfl) ?_
 repeat'(first|(with_reducible first|apply AW.seq|apply AW.ret|apply ae|apply y_e|refine ag ?_)|((with_reducible apply ak);first|refine t_v AS.v ?_|refine t_w AS.w ?_)|((with_reducible apply bt);refine t_m (hs:=fun hg=>AS.v) (k:=?_))|((with_reducible refine aF ?_);refine k_b ?_)|fail)
 simp[fV]
theorem we (n:NS) (self:Bool):Pure Tryz.prog 195 [.agg (nsC n),.c (sB self)] (.c (sB (au n self))):=by
 refine fn2 (fn:=Tryz.f195) Tryz.call195 Tryz.func195 rfl Tryz.ntmps195 Tryz.results195 rfl (by rfl) ?_
 repeat'(first|(with_reducible first|apply AW.seq|apply AW.ret|apply ae|apply y_e|refine ag ?_)|((with_reducible apply ak);first|refine t_v AS.v ?_|refine t_w AS.w ?_)|((with_reducible apply bt);first|refine t_m (hs:=fun hg=>AS.v) (k:=?_)|refine t_m (hs:=fun hg=>(by exact ah (hP:=ph _ _))) (k:=?_))|((with_reducible refine aF ?_);refine k_b ?_)|fail)
 simp only[au,ja,List.length_map]
 cases n.self <;> cases self <;> simp
theorem FH (s:Sp):(!idB s.frm || (!decide (s.to=⟨#[]⟩)&& !idB s.to))= !spB s:=by
 unfold spB
 cases idB s.frm <;> cases decide (s.to=⟨#[]⟩) <;> cases idB s.to <;> rfl
theorem Jx {κ:K} {w:World} {x:Value} {cs:List C} {s:ByteArray} (hr:RepV κ w (.agg cs) x) (hc:sS s∈cs):s.size≤9223372036854775807:=by
 cases hr with|agg h=>
  obtain ⟨v,hv⟩:=uD h hc
  exact GI hv
theorem pj (l:Lv):Pure Tryz.prog 196 [.agg (lvC l)] (.c (sB (lvB l))):=by
 refine fn1 (fn:=Tryz.f196) Tryz.call196 Tryz.func196 rfl Tryz.ntmps196 Tryz.results196 rfl (by rfl) ?_
 refine AW.fact (t:=0) rfl (fun κ w x hr=>Ab hr (l:=l.cats) (f:=spC) (.tail _ (.head _))) fun hn=>?_
 repeat'(first|(with_reducible first|apply AW.seq|apply AW.block|apply ae|apply y_e|refine ag ?_)|((with_reducible apply ak);first|refine t_v AS.v ?_|refine t_w AS.w ?_)|fail)
 refine AW.loop (fun m σ=>∃ j,m=l.cats.length - j∧j≤l.cats.length∧(l.cats.take j).all spB=true∧σ=mk [(1,.c (.ptr 1 0)),(3,.c (sI j))] [(1,.obj 63 (lvC l))]) l.cats.length ?_ ?_
 ·exact⟨_,wkA,0,rfl,Nat.zero_le _,rfl,rfl⟩
 rintro m σ ⟨j,rfl,hj,ha,rfl⟩
 by_cases hlt:j<l.cats.length
 ·obtain ⟨x,hx⟩:∃ x,l.cats[j]? =some x:=⟨_,List.getElem?_eq_getElem hlt⟩
  have hs:=FH x
  repeat'(first|(with_reducible first|apply AW.seq|apply AW.block|apply AW.skip|apply AW.ret|apply ae|apply ar|apply ay|apply aJ|apply y_e|refine ag ?_)|((with_reducible apply ak);first|refine t_v AS.v ?_|refine t_v (by exact ah (hP:=gv _)) ?_|refine t_w AS.w ?_)|((with_reducible apply bt);first|refine t_m (hs:=fun hg=>AS.v) (k:=?_)|refine t_m (hs:=fun hg=>(by exact ah (hP:=gv _))) (k:=?_))|((with_reducible apply aX);refine t_s AS.s ?_)|((with_reducible refine av ?_);((refine aj (fun hc=>?_) (fun hc=>?_);all_goals(try(exfalso;simp[*] at hc;done)))))|((with_reducible refine aF ?_);refine k_b ?_)|fail)
  ·rw[hs] at hc
   rw[lvB,j8 hx (by simpa using hc),Bool.and_false]
  ·rw[hs] at hc
   exact⟨_,_,(show l.cats.length - (j+1)<l.cats.length - j by omega),wkA,j+1,rfl,hlt,ek hx ha (by simpa using hc),rfl⟩
 ·repeat'(first|(with_reducible first|apply AW.seq|apply AW.ret|apply AW.exit|apply ae|apply aG|apply aT|apply y_e|refine ag ?_)|((with_reducible apply ak);first|refine t_v AS.v ?_|refine t_v (by exact ah (hP:=gv _)) ?_)|((with_reducible refine av ?_);((refine aj (fun hc=>?_) (fun hc=>?_);all_goals(try(exfalso;simp[*] at hc;done)))))|((with_reducible refine aF ?_);refine k_b ?_)|fail)
  rw[lvB,iu ha (by omega),Bool.and_true]
theorem mA (r:Rg):Pure Tryz.prog 266 [.agg (rgC r)] (.c (sB (gU r.hi))):=by
 refine fn1 (fn:=Tryz.f266) Tryz.call266 Tryz.func266 rfl Tryz.ntmps266 Tryz.results266 rfl (by rfl) ?_
 repeat'(first|(with_reducible first|apply AW.seq|apply AW.ret|apply ae|apply y_e|refine ag ?_)|((with_reducible apply ak);first|refine t_v AS.v ?_|refine t_w AS.w ?_)|((with_reducible apply bt);refine t_m (hs:=fun hg=>AS.v) (k:=?_))|((with_reducible refine aF ?_);refine k_b ?_)|fail)
 simp[gU]
theorem jL (r:Rg):Pure Tryz.prog 197 [.agg (rgC r)] (.c (sB (rgB r))):=by
 refine fn1 (fn:=Tryz.f197) Tryz.call197 Tryz.func197 rfl Tryz.ntmps197 Tryz.results197 rfl (by rfl) ?_
 repeat'(first|(with_reducible first|apply AW.seq|apply AW.ret|apply ae|apply y_e|refine ag ?_)|((with_reducible apply ak);first|refine t_v AS.v ?_|refine t_v (by exact ah (hP:=pj _)) ?_|refine t_w AS.w ?_)|((with_reducible apply bt);first|refine t_m (hs:=fun hg=>AS.v) (k:=?_)|refine t_m (hs:=fun hg=>(by first|exact ah (hP:=pj _)|exact ah (hP:=mA _))) (k:=?_))|((with_reducible refine aF ?_);refine k_b ?_)|fail)
 rfl
theorem pe (c:Ct):Pure Tryz.prog 198 [.agg (cxC c)] (.c (sB (cxB c))):=by
 refine fn1 (fn:=Tryz.f198) Tryz.call198 Tryz.func198 rfl Tryz.ntmps198 Tryz.results198 rfl (by rfl) ?_
 repeat'(first|(with_reducible first|apply AW.seq|apply AW.ret|apply ae|apply y_e|refine ag ?_)|((with_reducible apply ak);first|refine t_v AS.v ?_|refine t_v (by exact ah (hP:=ph _ _)) ?_|refine t_w AS.w ?_)|((with_reducible apply bt);first|refine t_m (hs:=fun hg=>AS.v) (k:=?_)|refine t_m (hs:=fun hg=>(by exact ah (hP:=jL _))) (k:=?_))|((with_reducible refine aF ?_);refine k_b ?_)|fail)
 simp[cxB,ja,Bool.and_assoc]
theorem uv (e:Ex):Pure Tryz.prog 267 [.agg (exC e)] (.c (sB (decide ((e.kids.length:Int)=0)))):=by
 refine fn1 (fn:=Tryz.f267) Tryz.call267 Tryz.func267 rfl Tryz.ntmps267 Tryz.results267 rfl (by rfl) ?_
 repeat'(first|(with_reducible first|apply AW.seq|apply AW.ret|apply ae|apply y_e|refine ag ?_)|((with_reducible apply ak);first|refine t_v AS.v ?_|refine t_w AS.w ?_)|((with_reducible refine aF ?_);refine k_b ?_)|fail)
 rw[List.length_map]
theorem zc (s:ByteArray):Pure Tryz.prog 125 [.c (sS s)] (.c (sB (quoB s))):=by
 refine fn1 (fn:=Tryz.f125) Tryz.call125 Tryz.func125 rfl Tryz.ntmps125 Tryz.results125 rfl (by rfl) ?_
 refine AW.fact (t:=0) rfl (fun κ w x hr=>mB hr) fun hn=>?_
 repeat'(first|(with_reducible first|apply AW.seq|apply AW.block|apply AW.skip|apply AW.ret|apply AW.exit|apply ae|apply ar|apply aG|apply ay|apply aJ|apply aT|apply y_e|refine ag ?_)|((with_reducible apply ak);refine t_v AS.v ?_)|((with_reducible apply bt);refine t_m (hs:=fun hg=>AS.v) (k:=?_))|((with_reducible refine av ?_);((refine aj (fun hc=>?_) (fun hc=>?_);all_goals(try(exfalso;simp[*] at hc;done)))))|((with_reducible refine aF ?_);refine k_b ?_)|fail)
 refine AW.loop (fun n σ=>∃ j,n=s.size - j∧j≤s.size∧(s.data.toList.take j).all wb=true∧σ=mk [(0,.c (sS s)),(3,.c (sI j))] []) s.size ?_ ?_
 ·exact⟨_,wkA,0,rfl,Nat.zero_le _,rfl,rfl⟩
 rintro n σ ⟨j,rfl,hj,ha,rfl⟩
 by_cases hlt:j<s.size
 ·obtain ⟨x,hx⟩:∃ x,s.data.toList[j]? =some x:=⟨_,List.getElem?_eq_getElem (by have:=bX s;omega)⟩
  repeat'(first|(with_reducible first|apply AW.seq|apply AW.block|apply AW.skip|apply AW.ret|apply AW.exit|apply ae|apply ar|apply aG|apply ay|apply aJ|apply aT|apply y_e|refine ag ?_)|((with_reducible apply ak);refine t_v AS.v ?_)|((with_reducible apply bt);refine t_m (hs:=fun hg=>AS.v) (k:=?_))|((with_reducible refine av ?_);((refine aj (fun hc=>?_) (fun hc=>?_);all_goals(try(exfalso;simp[*] at hc;done)))))|((with_reducible refine aF ?_);refine k_b ?_)|fail)
  ·have e:wb x=false:=by simp only[wb];simp at hc ⊢;omega
   rw[quoB,j8 hx e,Bool.and_false]
  ·have e:wb x=true:=by simp only[wb];simp at hc ⊢;omega
   exact⟨_,_,(show s.size - (j+1)<s.size - j by omega),wkA,j+1,rfl,hlt,ek hx ha e,rfl⟩
 ·have e:=iu ha (by have:=bX s;omega)
  repeat'(first|(with_reducible first|apply AW.seq|apply AW.block|apply AW.skip|apply AW.ret|apply AW.exit|apply ae|apply ar|apply aG|apply ay|apply aJ|apply aT|apply y_e|refine ag ?_)|((with_reducible apply ak);refine t_v AS.v ?_)|((with_reducible apply bt);refine t_m (hs:=fun hg=>AS.v) (k:=?_))|((with_reducible refine av ?_);((refine aj (fun hc=>?_) (fun hc=>?_);all_goals(try(exfalso;simp[*] at hc;done)))))|((with_reducible refine aF ?_);refine k_b ?_)|fail)
  rw[quoB,e,Bool.and_true,show decide ((s.size:Int)≤256)=decide (s.size≤256) from decide_eq_decide.2 (by omega)]
theorem C5 (s:Stm):Pure Tryz.prog 199 [.agg (stC s)] (.c (sB (jT s))):=by
 refine fn1 (fn:=Tryz.f199) Tryz.call199 Tryz.func199 rfl Tryz.ntmps199 Tryz.results199 rfl (by rfl) ?_
 refine AW.fact (t:=0) rfl (fun κ w x hr=>Jx hr (s:=s.text) (by simp[stC])) fun hn=>?_
 repeat'(first|(with_reducible first|apply AW.seq|apply AW.block|apply AW.skip|apply AW.ret|apply AW.exit|apply ae|apply ar|apply aG|apply ay|apply aJ|apply aT|apply y_e|refine ag ?_)|((with_reducible apply ak);first|refine t_v AS.v ?_|refine t_w AS.w ?_)|((with_reducible apply bt);refine t_m (hs:=fun hg=>AS.v) (k:=?_))|((with_reducible refine av ?_);((refine aj (fun hc=>?_) (fun hc=>?_);all_goals(try(exfalso;simp[*] at hc;done)))))|((with_reducible refine aF ?_);refine k_b ?_)|fail)
 refine AW.loop (fun n σ=>∃ j,n=s.text.size - j∧j≤s.text.size∧(s.text.data.toList.take j).all lC=true∧σ=mk [(1,.c (.ptr 1 0)),(3,.c (sI j))] [(1,.obj 69 (stC s))]) s.text.size ?_ ?_
 ·exact⟨_,wkA,0,rfl,Nat.zero_le _,rfl,rfl⟩
 rintro n σ ⟨j,rfl,hj,ha,rfl⟩
 by_cases hlt:j<s.text.size
 ·obtain ⟨x,hx⟩:∃ x,s.text.data.toList[j]? =some x:=⟨_,List.getElem?_eq_getElem (by have:=bX s.text;omega)⟩
  repeat'(first|(with_reducible first|apply AW.seq|apply AW.block|apply AW.skip|apply AW.ret|apply AW.exit|apply ae|apply ar|apply aG|apply ay|apply aJ|apply aT|apply y_e|refine ag ?_)|((with_reducible apply ak);first|refine t_v AS.v ?_|refine t_w AS.w ?_)|((with_reducible apply bt);refine t_m (hs:=fun hg=>AS.v) (k:=?_))|((with_reducible refine av ?_);((refine aj (fun hc=>?_) (fun hc=>?_);all_goals(try(exfalso;simp[*] at hc;done)))))|((with_reducible refine aF ?_);refine k_b ?_)|fail)
  ·have e:lC x=false:=by simp only[lC];simp at hc ⊢;omega
   rw[jT,j8 hx e,Bool.false_and]
  ·have e:lC x=true:=by simp only[lC];simp at hc ⊢;omega
   exact⟨_,_,(show s.text.size - (j+1)<s.text.size - j by omega),wkA,j+1,rfl,hlt,ek hx ha e,rfl⟩
 ·have e:=iu ha (by have:=bX s.text;omega)
  repeat'(first|(with_reducible first|apply AW.seq|apply AW.block|apply AW.skip|apply AW.ret|apply AW.exit|apply ae|apply ar|apply aG|apply ay|apply aJ|apply aT|apply y_e|refine ag ?_)|((with_reducible apply ak);first|refine t_v AS.v ?_|refine t_w AS.w ?_)|((with_reducible apply bt);refine t_m (hs:=fun hg=>AS.v) (k:=?_))|((with_reducible refine av ?_);((refine aj (fun hc=>?_) (fun hc=>?_);all_goals(try(exfalso;simp[*] at hc;done)))))|((with_reducible refine aF ?_);refine k_b ?_)|fail)
  rw[jT,e,Bool.true_and,show decide ((s.text.size:Int)≤32)=decide (s.text.size≤32) from decide_eq_decide.2 (by omega)]
theorem y5 (v:Bool):∀ (n:Nat) (e:Ex) (levels:Int),SizeOf.sizeOf e<n→-100≤levels→levels≤12→Pure Tryz.prog 200 [.agg (exC e),.c (sB v),.c (sI levels)] (.c (sB (fy (if v then 15 else 10) (13 - levels) e)))
 |0,_,_,h,_,_=>absurd h (Nat.not_lt_zero _)
 |n+1,e,levels,h,h0,h1=>by
  obtain ⟨lim,hlim⟩:∃ lim:Int,lim=(if v then 15 else 10):=⟨_,rfl⟩
  have ih:∀ x∈e.kids,0<levels→Pure Tryz.prog 200 [.agg (exC x),.c (sB v),.c (sI (levels - 1))] (.c (sB (fy lim (13 - levels+1) x))):=fun x hx k1=>by
   have:=y5 v n x (levels - 1) (by have:=fW hx;omega) (by omega) (by omega)
   rwa [show 13 - (levels - 1)=13 - levels+1 by omega,←hlim] at this
  rw[← hlim,lA]
  have hh:mO lim (13 - levels) e.op e.a e.rel e.b e.names e.set e.kids.length=(decide (13 - levels≤12)&&Se.eqB e.set Se.zero &&
  (if e.op=2∨e.op=3∨e.op=4 then decide (e.a=0)&&decide (e.rel=0)&&decide (e.b=0)&&decide ((e.names.length:Int)=0)&&decide ((e.kids.length:Int)=if e.op=2 then 1 else 2)
   else if e.op=8 then(decide (0≤e.a)&&decide (e.a<lim))&&(decide (0≤e.b)&&decide (e.b<lim))&&(decide (0≤e.rel)&&decide (e.rel<5))&&decide ((e.names.length:Int)=0)&&decide ((e.kids.length:Int)=0)
   else if e.op=9 then(decide (0≤e.a)&&decide (e.a<lim))&&decide (e.rel=0)&&decide (e.b=0)&&lO e.names&&decide ((e.kids.length:Int)=0)
   else false)):=rfl
  have hk0:(e.kids.length:Int)=0→e.kids=[]:=fun h=>List.length_eq_zero_iff.1 (by omega)
  rcases Bool.eq_false_or_eq_true v with hv|hv
  all_goals
   rw[hv] at hlim
   simp only[Bool.false_eq_true,if_false,if_true] at hlim
   refine fn3 (fn:=Tryz.f200) Tryz.call200 Tryz.func200 rfl Tryz.ntmps200 Tryz.results200 rfl (by rfl) ?_
   refine AW.fact (t:=0) rfl (fun κ w x hr=>nL hr) fun hn=>?_
   by_cases o:e.op=2∨e.op=3∨e.op=4
   ·rw[if_pos o] at hh
    have o8:¬ e.op=8:=by omega
    have o9:¬ e.op=9:=by omega
    repeat'(first|(with_reducible first|apply AW.seq|apply AW.block|apply AW.skip|apply AW.ret|apply ae|apply ar|apply ay|apply aJ|apply y_e|refine ag ?_)|((with_reducible apply ak);first|refine t_v AS.v ?_|refine t_v (by exact ah (hP:=uv _)) ?_|refine t_w AS.w ?_)|((with_reducible apply bt);first|refine t_m (hs:=fun hg=>AS.v) (k:=?_)|refine t_m (hs:=fun hg=>(by exact ah (hP:=ph _ _))) (k:=?_))|((with_reducible refine av ?_);((refine aj (fun hc=>?_) (fun hc=>?_);all_goals(try(exfalso;simp[*] at hc;done)))))|((with_reducible refine aF ?_);refine k_b ?_)|fail)
    all_goals try(rw[hh,eq_comm,Bool.and_eq_false_iff];left;(try simp only[List.length_map] at hc);clear hh ih;grind)
    all_goals
     simp only[List.length_map] at hc
     first
     |(have o2:e.op=2:=by simpa using ‹decide (e.op=2)=true›
       have hq:0<levels∧e.kids.length=1∧mO lim (13 - levels) e.op e.a e.rel e.b e.names e.set e.kids.length=true:=by clear ih;refine⟨?_,?_,?_⟩ <;> grind
       rw[hq.2.2,Bool.true_and]
       have hlen:(e.kids.length:Int)=1:=by omega
       clear hc
       (refine AW.loop (fun m σ=>∃ j,m=e.kids.length - j∧j≤e.kids.length∧(e.kids.take j).all (fy lim (13 - levels+1))=true∧σ=mk [(1,.c (sB v)),(2,.c (sI levels)),(3,.c (.ptr 3 0)),(10,.c (sI 1)),(11,.c (sI j))] [(3,.obj 49 (exC e))]) e.kids.length ?_ ?_
        ·exact⟨_,wkA,0,rfl,Nat.zero_le _,rfl,rfl⟩
        rintro m σ ⟨j,rfl,hj,ha,rfl⟩
        clear hh
        by_cases hlt:j<e.kids.length
        ·obtain ⟨x,hx⟩:∃ x,e.kids[j]? =some x:=⟨_,List.getElem?_eq_getElem hlt⟩
         have hp:=ih x (List.mem_of_getElem? hx) hq.1
         repeat'(first|(with_reducible first|apply AW.seq|apply AW.block|apply AW.skip|apply AW.ret|apply ae|apply ar|apply ay|apply aJ|apply y_e|refine ag ?_)|((with_reducible apply ak);first|refine t_v AS.v ?_|refine t_v (by exact ah (hP:=hp)) ?_)|((with_reducible refine av ?_);((refine aj (fun hc=>?_) (fun hc=>?_);all_goals(try(exfalso;revert hc;simp;omega)))))|((with_reducible refine aF ?_);refine k_b ?_)|fail)
         ·rw[j8 hx (by simpa using hc)]
         ·exact⟨_,_,(show e.kids.length - (j+1)<e.kids.length - j by omega),wkA,j+1,rfl,hlt,ek hx ha (by simpa using hc),rfl⟩
        ·repeat'(first|(with_reducible first|apply AW.seq|apply AW.ret|apply AW.exit|apply ae|apply aG|apply aT|apply y_e|refine ag ?_)|((with_reducible apply ak);refine t_v AS.v ?_)|((with_reducible refine av ?_);((refine aj (fun hc=>?_) (fun hc=>?_);all_goals(try(exfalso;revert hc;simp;omega)))))|((with_reducible refine aF ?_);refine k_b ?_)|fail)
         rw[iu ha (by omega)]))
     |(have o2:¬ e.op=2:=by simpa using ‹decide (e.op=2)=false›
       have hq:0<levels∧e.kids.length=2∧mO lim (13 - levels) e.op e.a e.rel e.b e.names e.set e.kids.length=true:=by clear ih;refine⟨?_,?_,?_⟩ <;> grind
       rw[hq.2.2,Bool.true_and]
       have hlen:(e.kids.length:Int)=2:=by omega
       clear hc
       (refine AW.loop (fun m σ=>∃ j,m=e.kids.length - j∧j≤e.kids.length∧(e.kids.take j).all (fy lim (13 - levels+1))=true∧σ=mk [(1,.c (sB v)),(2,.c (sI levels)),(3,.c (.ptr 3 0)),(10,.c (sI 2)),(11,.c (sI j))] [(3,.obj 49 (exC e))]) e.kids.length ?_ ?_
        ·exact⟨_,wkA,0,rfl,Nat.zero_le _,rfl,rfl⟩
        rintro m σ ⟨j,rfl,hj,ha,rfl⟩
        clear hh
        by_cases hlt:j<e.kids.length
        ·obtain ⟨x,hx⟩:∃ x,e.kids[j]? =some x:=⟨_,List.getElem?_eq_getElem hlt⟩
         have hp:=ih x (List.mem_of_getElem? hx) hq.1
         repeat'(first|(with_reducible first|apply AW.seq|apply AW.block|apply AW.skip|apply AW.ret|apply ae|apply ar|apply ay|apply aJ|apply y_e|refine ag ?_)|((with_reducible apply ak);first|refine t_v AS.v ?_|refine t_v (by exact ah (hP:=hp)) ?_)|((with_reducible refine av ?_);((refine aj (fun hc=>?_) (fun hc=>?_);all_goals(try(exfalso;revert hc;simp;omega)))))|((with_reducible refine aF ?_);refine k_b ?_)|fail)
         ·rw[j8 hx (by simpa using hc)]
         ·exact⟨_,_,(show e.kids.length - (j+1)<e.kids.length - j by omega),wkA,j+1,rfl,hlt,ek hx ha (by simpa using hc),rfl⟩
        ·repeat'(first|(with_reducible first|apply AW.seq|apply AW.ret|apply AW.exit|apply ae|apply aG|apply aT|apply y_e|refine ag ?_)|((with_reducible apply ak);refine t_v AS.v ?_)|((with_reducible refine av ?_);((refine aj (fun hc=>?_) (fun hc=>?_);all_goals(try(exfalso;revert hc;simp;omega)))))|((with_reducible refine aF ?_);refine k_b ?_)|fail)
         rw[iu ha (by omega)]))
   ·rw[if_neg o] at hh
    simp only[not_or] at o
    obtain ⟨o2,o3,o4⟩:=o
    repeat'(first|(with_reducible first|apply AW.seq|apply AW.block|apply AW.skip|apply AW.ret|apply ae|apply ar|apply ay|apply aJ|apply y_e|refine ag ?_)|((with_reducible apply ak);first|refine t_v AS.v ?_|refine t_v (by exact ah (hP:=uv _)) ?_|refine t_w AS.w ?_)|((with_reducible apply bt);first|refine t_m (hs:=fun hg=>AS.v) (k:=?_)|refine t_m (hs:=fun hg=>(by exact ah (hP:=ph _ _))) (k:=?_))|((with_reducible refine av ?_);((refine aj (fun hc=>?_) (fun hc=>?_);all_goals(try(exfalso;simp[*] at hc;done)))))|((with_reducible refine aF ?_);refine k_b ?_)|fail)
    all_goals
     rw[hh]
     try simp only[List.length_map,xK]
     rcases Decidable.em (e.kids.length=0) with hz|hz
     ·have hz2:∀ p:Ex→Bool,e.kids.all p=true:=fun p=>by rw[List.length_eq_zero_iff.1 hz];rfl
      rw[hz2]
      grind
     ·grind
end Am
namespace Am
open Tk
set_option maxRecDepth 100000
set_option maxHeartbeats 4000000
end Am
namespace Am
open Tk
set_option maxRecDepth 100000
set_option maxHeartbeats 4000000
def kl (n:Nat):ByteArray:=⟨(Lib.decDigits n).toArray⟩
theorem xu (n:Nat) (h:n≤9223372036854775807):(kl n).size≤21:=by
 have:=Lib.itoa_length_le (n:Int) (by omega) (by omega)
 have e:Lib.itoa (n:Int)=Lib.decDigits n:=by
  unfold Lib.itoa
  rw[if_neg (by omega)];rfl
 rw[e] at this
 show(Lib.decDigits n).toArray.size≤_
 rw[List.size_toArray];omega
theorem vB {n:Nat} (h:n<10):kl n=⟨[UInt8.ofNat (48+n % 10)].toArray⟩:=by
 unfold kl
 rw[Lib.decDigits,dif_pos h,Nat.mod_eq_of_lt h]
theorem Av {n:Nat} (h:¬ n<10):kl n=kl (n / 10)++⟨[UInt8.ofNat (48+n % 10)].toArray⟩:=by
 unfold kl
 rw[Lib.decDigits,dif_neg h]
 apply ByteArray.ext
 simp[ByteArray.data_append]
theorem qi:∀ (m n:Nat),n<m→n≤9223372036854775807→Pure Tryz.prog 72 [.c (sI n)] (.c (sS (kl n)))
 |0,_,h,_=>absurd h (Nat.not_lt_zero _)
 |m+1,n,h,hn=>by
  have hr:Int.tmod (n:Int) 10=((n % 10:Nat):Int):=by rw[Int.tmod_eq_emod_of_nonneg (by omega)];omega
  have hq:Int.tdiv (n:Int) 10=((n / 10:Nat):Int):=by rw[Int.tdiv_eq_ediv_of_nonneg (by omega)];omega
  obtain ⟨c,hcc⟩:∃ c,c=UInt8.ofNat (48+n % 10):=⟨_,rfl⟩
  have hcv:(48:Int)+((n % 10:Nat):Int)=c.toNat:=by
   rw[hcc,UInt8.toNat_ofNat']
   omega
  have hle:=xu (n / 10) (by omega)
  have h1:ByteArray.size ⟨[c].toArray⟩=1:=rfl
  by_cases h9:n<10
  ·rw[vB h9,←hcc]
   clear hcc h
   refine fn1 (fn:=Tryz.f72) Tryz.call72 Tryz.func72 rfl Tryz.ntmps72 Tryz.results72 rfl (by rfl) ?_
   repeat'(first|(with_reducible first|apply AW.seq|apply AW.skip|apply AW.ret|apply ae|apply y_e|refine ag ?_)|((with_reducible apply ak);refine t_v AS.v ?_)|((with_reducible refine av ?_);((refine aj (fun hc=>?_) (fun hc=>?_);all_goals(try(exfalso;revert hc;simp;omega)))))|((with_reducible refine aF ?_);refine k_s ?_)|fail)
   rfl
  ·have ih:=qi m (n / 10) (by omega) (by omega)
   rw[Av h9,←hcc]
   clear hcc h
   refine fn1 (fn:=Tryz.f72) Tryz.call72 Tryz.func72 rfl Tryz.ntmps72 Tryz.results72 rfl (by rfl) ?_
   repeat'(first|(with_reducible first|apply AW.seq|apply AW.ret|apply ae|apply y_e|refine ag ?_)|((with_reducible apply ak);first|refine t_v AS.v ?_|refine t_v (by exact ah (hP:=ih)) ?_)|((with_reducible refine av ?_);((refine aj (fun hc=>?_) (fun hc=>?_);all_goals(try(exfalso;revert hc;simp;omega)))))|((with_reducible refine aF ?_);refine k_s ?_)|fail)
   rfl
end Am
end Go.Proofs.YtkpodagbefnebaaGreatDoor
