import Derived.Test.YtkpodagbefnebaaGreatDoorYh10
import Derived.Test.YtkpodagbefnebaaGreatDoorYh9
import Derived.Test.YtkpodagbefnebaaGreatDoorYh30
set_option linter.unusedSimpArgs false
set_option linter.unusedVariables false
set_option linter.unusedSectionVars false
namespace Go.Proofs.YtkpodagbefnebaaGreatDoor
namespace Am
open Tk
set_option maxRecDepth 100000
set_option maxHeartbeats 4000000
theorem yf {κ:K} {w:World} {x:Value} {cs:List C} {t:Option Nat} {k:Nat} {α:Type} {f:α→List C} {l:List α} (hr:RepV κ w (.agg cs) x) (hc:C.lst t k (l.map f)∈cs):l.length≤9223372036854775807:=by
 cases hr with|agg h=>
  obtain ⟨v,hv⟩:=Du h hc
  have:=I0 hv
  rwa [List.length_map] at this
theorem tT {κ:K} {w:World} {x:Value} {e:Ex} (hr:RepV κ w (.agg (exC e)) x):e.kids.length≤9223372036854775807:=
 yf hr (t:=none) (k:=10) (f:=exC) (by rw[exC,lW];simp)
theorem ov (l m:List ByteArray):Pure Tryz.prog 126 [.c (bA l),.c (bA m)] (.c (sB (decide (l=m)))):=by
 refine fn2 (fn:=Tryz.f126) Tryz.call126 Tryz.func126 rfl Tryz.ntmps126 Tryz.results126 rfl (by rfl) ?_
 refine AW.fact (t:=0) rfl (fun κ w x hr=>dq hr) fun hn=>?_
 repeat'(first|(with_reducible first|apply AW.seq|apply AW.block|apply AW.skip|apply AW.ret|apply ae|apply aq|apply aw|apply aG|apply y_e|refine ah ?_|refine bb ?_)|((with_reducible apply ak);refine t_v AS.v ?_)|((with_reducible refine au ?_);((refine aj (fun hc=>?_) (fun hc=>?_);all_goals(try(exfalso;revert hc;simp;omega)))))|((with_reducible refine aA ?_);refine k_b ?_)|(refine⟨by decide +kernel,?_⟩)|fail)
 ·rw[eq_comm,decide_eq_false_iff_not]
  rintro rfl
  simp at hc
 have hlen:l.length=m.length:=by
  have:(l.length:Int)=m.length:=by simpa using hc
  omega
 refine AW.loop (fun n σ=>∃ j,n=l.length - j∧j≤l.length∧l.take j=m.take j∧σ=mk [(0,.c (bA l)),(1,.c (bA m)),(5,.c (sI j))] []) l.length ?_ ?_
 ·exact⟨_,wkA,0,rfl,Nat.zero_le _,rfl,rfl⟩
 rintro n σ ⟨j,rfl,hj,ha,rfl⟩
 by_cases hlt:j<l.length
 ·obtain ⟨x,hx⟩:∃ x,l[j]? =some x:=⟨_,List.getElem?_eq_getElem hlt⟩
  obtain ⟨y,hy⟩:∃ y,m[j]? =some y:=⟨_,List.getElem?_eq_getElem (by omega)⟩
  repeat'(first|(with_reducible first|apply AW.seq|apply AW.block|apply AW.skip|apply AW.ret|apply ae|apply aq|apply aw|apply aG|apply y_e|refine ah ?_|refine bb ?_)|((with_reducible apply ak);refine t_v AS.v ?_)|((with_reducible refine au ?_);((refine aj (fun hc=>?_) (fun hc=>?_);all_goals(try(exfalso;revert hc;simp;omega)))))|((with_reducible refine aA ?_);refine k_b ?_)|(refine⟨by decide +kernel,?_⟩)|fail)
  ·rw[eq_comm,decide_eq_false_iff_not]
   exact s9 hx hy (by simpa using hc)
  ·exact⟨_,_,(show l.length - (j+1)<l.length - j by omega),wkA,j+1,rfl,hlt,lV ha hx hy (by simpa using hc),rfl⟩
 ·repeat'(first|(with_reducible first|apply AW.seq|apply AW.ret|apply AW.exit|apply ae|apply aJ|apply aW|apply y_e|refine ah ?_)|((with_reducible apply ak);refine t_v AS.v ?_)|((with_reducible refine au ?_);((refine aj (fun hc=>?_) (fun hc=>?_);all_goals(try(exfalso;revert hc;simp;omega)))))|((with_reducible refine aA ?_);refine k_b ?_)|fail)
  exact(decide_eq_true (om ha (by omega) hlen)).symm
theorem Ah (a b:NS):Pure Tryz.prog 127 [.agg (nsC a),.agg (nsC b)] (.c (sB (cu a b))):=by
 refine fn2 (fn:=Tryz.f127) Tryz.call127 Tryz.func127 rfl Tryz.ntmps127 Tryz.results127 rfl (by rfl) ?_
 repeat'(first|(with_reducible first|apply AW.seq|apply AW.ret|apply ae|apply y_e|refine ah ?_)|((with_reducible apply ak);first|refine t_v AS.v ?_|refine t_w AS.w ?_)|((with_reducible apply bc);first|refine t_m (hs:=fun hg=>AS.v) (k:=?_)|refine t_m (hs:=fun hg=>(by exact ag (hP:=ov _ _))) (k:=?_))|((with_reducible refine aA ?_);refine k_b ?_)|fail)
 simp[cu]
theorem nf (a b:Lv):Pure Tryz.prog 129 [.agg (lvC a),.agg (lvC b)] (.c (sB (dB a b))):=by
 refine fn2 (fn:=Tryz.f129) Tryz.call129 Tryz.func129 rfl Tryz.ntmps129 Tryz.results129 rfl (by rfl) ?_
 refine AW.fact (t:=0) rfl (fun κ w x hr=>yf hr (l:=a.cats) (f:=spC) (.tail _ (.head _))) fun hn=>?_
 repeat'(first|(with_reducible first|apply AW.seq|apply AW.block|apply AW.skip|apply AW.ret|apply ae|apply aq|apply aw|apply aG|apply y_e|refine ah ?_|refine bb ?_)|((with_reducible apply ak);first|refine t_v AS.v ?_|refine t_w AS.w ?_)|((with_reducible apply bc);refine t_m (hs:=fun hg=>AS.v) (k:=?_))|((with_reducible refine au ?_);((refine aj (fun hc=>?_) (fun hc=>?_);all_goals(try(exfalso;revert hc;simp;omega)))))|((with_reducible refine aA ?_);refine k_b ?_)|(refine⟨by decide +kernel,?_⟩)|fail)
 ·rw[eq_comm,dB,Bool.and_eq_false_iff]
  simp only[List.length_map] at hc
  by_cases h1:a.sens=b.sens
  ·right
   rw[decide_eq_false_iff_not]
   intro h2
   rw[h1,h2] at hc
   simp at hc
  ·left;exact decide_eq_false h1
 have hlen:a.sens=b.sens∧a.cats.length=b.cats.length:=by
  simp only[List.length_map] at hc
  simp at hc
  exact⟨hc.1,by omega⟩
 refine AW.loop (fun n σ=>∃ j,n=a.cats.length - j∧j≤a.cats.length∧a.cats.take j=b.cats.take j∧σ=mk [(2,.c (.ptr 2 0)),(3,.c (.ptr 3 0)),(5,.c (sI j))] [(3,.obj 63 (lvC b)),(2,.obj 63 (lvC a))]) a.cats.length ?_ ?_
 ·exact⟨_,wkA,0,rfl,Nat.zero_le _,rfl,rfl⟩
 rintro n σ ⟨j,rfl,hj,ha,rfl⟩
 by_cases hlt:j<a.cats.length
 ·obtain ⟨x,hx⟩:∃ x,a.cats[j]? =some x:=⟨_,List.getElem?_eq_getElem hlt⟩
  obtain ⟨y,hy⟩:∃ y,b.cats[j]? =some y:=⟨_,List.getElem?_eq_getElem (by omega)⟩
  repeat'(first|(with_reducible first|apply AW.seq|apply AW.block|apply AW.skip|apply AW.ret|apply ae|apply aq|apply aw|apply aG|apply y_e|refine ah ?_|refine bb ?_)|((with_reducible apply ak);first|refine t_v AS.v ?_|refine t_w AS.w ?_)|((with_reducible apply bc);refine t_m (hs:=fun hg=>AS.v) (k:=?_))|((with_reducible refine au ?_);((refine aj (fun hc=>?_) (fun hc=>?_);all_goals(try(exfalso;revert hc;simp;omega)))))|((with_reducible refine aA ?_);refine k_b ?_)|(refine⟨by decide +kernel,?_⟩)|fail)
  ·rw[dB,decide_eq_false (s9 hx hy (by simpa using hc)),Bool.and_false]
  ·exact⟨_,_,(show a.cats.length - (j+1)<a.cats.length - j by omega),wkA,j+1,rfl,hlt,lV ha hx hy (by simpa using hc),rfl⟩
 ·repeat'(first|(with_reducible first|apply AW.seq|apply AW.ret|apply AW.exit|apply ae|apply aJ|apply aW|apply y_e|refine ah ?_)|((with_reducible apply ak);refine t_v AS.v ?_)|((with_reducible refine au ?_);((refine aj (fun hc=>?_) (fun hc=>?_);all_goals(try(exfalso;revert hc;simp;omega)))))|((with_reducible refine aA ?_);refine k_b ?_)|fail)
  rw[dB,decide_eq_true hlen.1,decide_eq_true (om ha (by omega) hlen.2)];rfl
theorem rj (a b:Rg):Pure Tryz.prog 130 [.agg (rgC a),.agg (rgC b)] (.c (sB (dR a b))):=by
 refine fn2 (fn:=Tryz.f130) Tryz.call130 Tryz.func130 rfl Tryz.ntmps130 Tryz.results130 rfl (by rfl) ?_
 repeat'(first|(with_reducible first|apply AW.seq|apply AW.ret|apply ae|apply y_e|refine ah ?_)|((with_reducible apply ak);first|refine t_v AS.v ?_|refine t_v (by exact ag (hP:=nf _ _)) ?_|refine t_w AS.w ?_)|((with_reducible apply bc);first|refine t_m (hs:=fun hg=>AS.v) (k:=?_)|refine t_m (hs:=fun hg=>(by exact ag (hP:=nf _ _))) (k:=?_))|((with_reducible refine aA ?_);refine k_b ?_)|fail)
 rfl
def Dz (a b:Ct):Bool:=decide (a.user=b.user)&&decide (a.role=b.role)&&decide (a.type=b.type)&&dR a.rng b.rng
theorem Ag (a b:Ct):Pure Tryz.prog 131 [.agg (cxC a),.agg (cxC b)] (.c (sB (Dz a b))):=by
 refine fn2 (fn:=Tryz.f131) Tryz.call131 Tryz.func131 rfl Tryz.ntmps131 Tryz.results131 rfl (by rfl) ?_
 repeat'(first|(with_reducible first|apply AW.seq|apply AW.ret|apply ae|apply y_e|refine ah ?_)|((with_reducible apply ak);first|refine t_v AS.v ?_|refine t_w AS.w ?_)|((with_reducible apply bc);first|refine t_m (hs:=fun hg=>AS.v) (k:=?_)|refine t_m (hs:=fun hg=>(by exact ag (hP:=rj _ _))) (k:=?_))|((with_reducible refine aA ?_);refine k_b ?_)|fail)
 rfl
theorem vo:∀ (n:Nat) (a b:Ex),SizeOf.sizeOf a<n→Pure Tryz.prog 128 [.agg (exC a),.agg (exC b)] (.c (sB (eG a b)))
 |0,_,_,h=>absurd h (Nat.not_lt_zero _)
 |n+1,a,b,h=>by
  have ih:∀ x∈a.kids,∀ y,Pure Tryz.prog 128 [.agg (exC x),.agg (exC y)] (.c (sB (eG x y))):=fun x hx y=>
   vo n x y (by have:=gi hx;omega)
  rw[jg]
  refine fn2 (fn:=Tryz.f128) Tryz.call128 Tryz.func128 rfl Tryz.ntmps128 Tryz.results128 rfl (by rfl) ?_
  refine AW.fact (t:=0) rfl (fun κ w x hr=>tT hr) fun hn=>?_
  repeat'(first|(with_reducible first|apply AW.seq|apply AW.block|apply AW.skip|apply AW.ret|apply ae|apply aq|apply y_e|refine ah ?_)|((with_reducible apply ak);first|refine t_v AS.v ?_|refine t_w AS.w ?_)|((with_reducible apply bc);first|refine t_m (hs:=fun hg=>AS.v) (k:=?_)|refine t_m (hs:=fun hg=>(by exact ag (hP:=ov _ _))) (k:=?_))|((with_reducible refine au ?_);((refine aj (fun hc=>?_) (fun hc=>?_))))|((with_reducible refine aA ?_);refine k_b ?_)|fail)
  ·simp only[List.length_map] at hc
   rcases Nat.decEq a.kids.length b.kids.length with hn|hn
   ·rw[jS hn,Bool.and_false]
   ·unfold jJ
    rw[eq_comm,Bool.and_eq_false_iff];left
    revert hc;simp[hn]
    grind
  have hlen:a.kids.length=b.kids.length∧jJ a b=true:=by
   simp only[List.length_map] at hc
   unfold jJ
   grind
  rw[hlen.2,Bool.true_and]
  refine AW.loop (fun n σ=>∃ j,n=a.kids.length - j∧j≤a.kids.length∧nJ eG a.kids b.kids j∧σ=mk [(2,.c (.ptr 2 0)),(3,.c (.ptr 3 0)),(5,.c (sI j))] [(3,.obj 49 (exC b)),(2,.obj 49 (exC a))]) a.kids.length ?_ ?_
  ·exact⟨_,wkA,0,rfl,Nat.zero_le _,kz,rfl⟩
  rintro n σ ⟨j,rfl,hj,ha,rfl⟩
  by_cases hlt:j<a.kids.length
  ·obtain ⟨x,hx⟩:∃ x,a.kids[j]? =some x:=⟨_,List.getElem?_eq_getElem hlt⟩
   obtain ⟨y,hy⟩:∃ y,b.kids[j]? =some y:=⟨_,List.getElem?_eq_getElem (by omega)⟩
   have hp:=ih x (List.mem_of_getElem? hx) y
   repeat'(first|(with_reducible first|apply AW.seq|apply AW.block|apply AW.skip|apply AW.ret|apply ae|apply aq|apply aw|apply aG|apply y_e|refine ah ?_|refine bb ?_)|((with_reducible apply ak);first|refine t_v AS.v ?_|refine t_v (by exact ag (hP:=hp)) ?_)|((with_reducible refine au ?_);((refine aj (fun hc=>?_) (fun hc=>?_);all_goals(try(exfalso;revert hc;simp;omega)))))|((with_reducible refine aA ?_);refine k_b ?_)|(refine⟨by decide +kernel,?_⟩)|fail)
   ·rw[lJ hx hy (by simpa using hc)]
   ·exact⟨_,_,(show a.kids.length - (j+1)<a.kids.length - j by omega),wkA,j+1,rfl,hlt,ky ha hx hy (by simpa using hc),rfl⟩
  ·repeat'(first|(with_reducible first|apply AW.seq|apply AW.ret|apply AW.exit|apply ae|apply aJ|apply aW|apply y_e|refine ah ?_)|((with_reducible apply ak);refine t_v AS.v ?_)|((with_reducible refine au ?_);((refine aj (fun hc=>?_) (fun hc=>?_);all_goals(try(exfalso;revert hc;simp;omega)))))|((with_reducible refine aA ?_);refine k_b ?_)|fail)
   rw[jR ha (by omega) hlen.1]
theorem Dl (a b:Ex):Pure Tryz.prog 128 [.agg (exC a),.agg (exC b)] (.c (sB (eG a b))):=vo _ a b (Nat.lt_succ_self _)
theorem ng {l m:List Stm} (h:∀ x∈l,∀ y,Pure Tryz.prog 64 [.agg (stC x),.agg (stC y)] (.c (sB (cE x y)))):Pure Tryz.prog 22 [.c (.lst none 55 (l.map stC)),.c (.lst none 55 (m.map stC))] (.c (sB (fw cE l m))):=by
 refine fn2 (fn:=Tryz.f22) Tryz.call22 Tryz.func22 rfl Tryz.ntmps22 Tryz.results22 rfl (by rfl) ?_
 refine AW.fact (t:=0) rfl (fun κ w x hr=>dq hr) fun hn=>?_
 repeat'(first|(with_reducible first|apply AW.seq|apply AW.block|apply AW.skip|apply AW.ret|apply ae|apply aq|apply y_e|refine ah ?_)|((with_reducible apply ak);refine t_v AS.v ?_)|((with_reducible refine au ?_);((refine aj (fun hc=>?_) (fun hc=>?_))))|((with_reducible refine aA ?_);refine k_b ?_)|fail)
 ·rw[jS (by have h1:¬((l.length:Int)=m.length):=by simpa using hc
            omega)]
 have hlen:l.length=m.length:=by
  have:(l.length:Int)=m.length:=by simpa using hc
  omega
 refine AW.loop (fun n σ=>∃ j,n=l.length - j∧j≤l.length∧nJ cE l m j∧σ=mk [(0,.c (.lst none 55 (l.map stC))),(1,.c (.lst none 55 (m.map stC))),(5,.c (sI j))] []) l.length ?_ ?_
 ·exact⟨_,wkA,0,rfl,Nat.zero_le _,kz,rfl⟩
 rintro n σ ⟨j,rfl,hj,ha,rfl⟩
 by_cases hlt:j<l.length
 ·obtain ⟨x,hx⟩:∃ x,l[j]? =some x:=⟨_,List.getElem?_eq_getElem hlt⟩
  obtain ⟨y,hy⟩:∃ y,m[j]? =some y:=⟨_,List.getElem?_eq_getElem (by omega)⟩
  have hp:=h x (List.mem_of_getElem? hx) y
  repeat'(first|(with_reducible first|apply AW.seq|apply AW.block|apply AW.skip|apply AW.ret|apply ae|apply aq|apply aw|apply aG|apply y_e|refine ah ?_|refine bb ?_)|((with_reducible apply ak);first|refine t_v AS.v ?_|refine t_v (by exact ag (hP:=hp)) ?_)|((with_reducible refine au ?_);((refine aj (fun hc=>?_) (fun hc=>?_);all_goals(try(exfalso;revert hc;simp;omega)))))|((with_reducible refine aA ?_);refine k_b ?_)|(refine⟨by decide +kernel,?_⟩)|fail)
  ·rw[lJ hx hy (by simpa using hc)]
  ·exact⟨_,_,(show l.length - (j+1)<l.length - j by omega),wkA,j+1,rfl,hlt,ky ha hx hy (by simpa using hc),rfl⟩
 ·repeat'(first|(with_reducible first|apply AW.seq|apply AW.ret|apply AW.exit|apply ae|apply aJ|apply aW|apply y_e|refine ah ?_)|((with_reducible apply ak);refine t_v AS.v ?_)|((with_reducible refine au ?_);((refine aj (fun hc=>?_) (fun hc=>?_);all_goals(try(exfalso;revert hc;simp;omega)))))|((with_reducible refine aA ?_);refine k_b ?_)|fail)
  rw[jR ha (by omega) hlen]
theorem pS:∀ (n:Nat) (a b:Stm),SizeOf.sizeOf a<n→Pure Tryz.prog 64 [.agg (stC a),.agg (stC b)] (.c (sB (cE a b)))
 |0,_,_,h=>absurd h (Nat.not_lt_zero _)
 |n+1,a,b,h=>by
  have i1:∀ x∈a.thn,∀ y,Pure Tryz.prog 64 [.agg (stC x),.agg (stC y)] (.c (sB (cE x y))):=fun x hx y=>
   pS n x y (by have:=iU hx;omega)
  have i2:∀ x∈a.els,∀ y,Pure Tryz.prog 64 [.agg (stC x),.agg (stC y)] (.c (sB (cE x y))):=fun x hx y=>
   pS n x y (by have:=iP hx;omega)
  rw[jf]
  refine fn2 (fn:=Tryz.f64) Tryz.call64 Tryz.func64 rfl Tryz.ntmps64 Tryz.results64 rfl (by rfl) ?_
  repeat'(first|(with_reducible first|apply AW.seq|apply AW.skip|apply AW.ret|apply ae|apply aq|apply y_e|refine ah ?_)|((with_reducible apply ak);first|refine t_v AS.v ?_|refine t_v (by first|exact ag (hP:=ov _ _)|exact ag (hP:=Dl _ _)) ?_|refine t_w AS.w ?_)|((with_reducible apply bc);first|refine t_m (hs:=fun hg=>AS.v) (k:=?_)|refine t_m (hs:=fun hg=>(by first|exact ag (hP:=ov _ _)|exact ag (hP:=Ah _ _)|exact ag (hP:=nf _ _)|exact ag (hP:=rj _ _)|exact ag (hP:=Ag _ _)|exact ag (hP:=ng i1)|exact ag (hP:=ng i2))) (k:=?_))|((with_reducible refine au ?_);((refine aj (fun hc=>?_) (fun hc=>?_))))|((with_reducible refine aA ?_);refine k_b ?_)|fail)
  all_goals
   clear i1 i2
   simp only[iH,Dz]
   grind
theorem Dk (a b:Stm):Pure Tryz.prog 64 [.agg (stC a),.agg (stC b)] (.c (sB (cE a b))):=pS _ a b (Nat.lt_succ_self _)
theorem Ai (l m:List Stm):Pure Tryz.prog 22 [.c (.lst none 55 (l.map stC)),.c (.lst none 55 (m.map stC))] (.c (sB (fw cE l m))):=ng fun x _ y=>Dk x y
theorem GK (a b:Mo):Pure Tryz.prog 16 [.agg (moC a),.agg (moC b)] (.c (sB (decide (a.name=b.name)&&decide (a.version=b.version)&&fw cE a.stmts b.stmts))):=by
 refine fn2 (fn:=Tryz.f16) Tryz.call16 Tryz.func16 rfl Tryz.ntmps16 Tryz.results16 rfl (by rfl) ?_
 repeat'(first|(with_reducible first|apply AW.seq|apply AW.ret|apply ae|apply y_e|refine ah ?_)|((with_reducible apply ak);first|refine t_v AS.v ?_|refine t_w AS.w ?_)|((with_reducible apply bc);first|refine t_m (hs:=fun hg=>AS.v) (k:=?_)|refine t_m (hs:=fun hg=>(by exact ag (hP:=Ai _ _))) (k:=?_))|((with_reducible refine aA ?_);refine k_b ?_)|fail)
 rfl
end Am
namespace Am
open Tk
set_option maxRecDepth 100000
set_option maxHeartbeats 4000000
end Am
namespace Am
open Tk
set_option maxRecDepth 100000
set_option maxHeartbeats 4000000
end Am
namespace Am
open Tk
set_option maxRecDepth 100000
set_option maxHeartbeats 4000000
theorem nj (l:List ByteArray):Pure Tryz.prog 157 [.c (bA l)] (.c (sB (smL l))):=by
 refine fn1 (fn:=Tryz.f157) Tryz.call157 Tryz.func157 rfl Tryz.ntmps157 Tryz.results157 rfl (by rfl) ?_
 refine AW.fact (t:=0) rfl (fun κ w x hr=>dq hr) fun hn=>?_
 repeat'(first|(with_reducible first|apply AW.seq|apply AW.block|apply AW.skip|apply AW.ret|apply ae|apply aq|apply aw|apply aG|apply y_e|refine ah ?_)|((with_reducible apply ak);refine t_v AS.v ?_)|((with_reducible apply bc);refine t_m (hs:=fun hg=>AS.v) (k:=?_))|((with_reducible refine au ?_);((refine aj (fun hc=>?_) (fun hc=>?_);all_goals(try(exfalso;revert hc;simp;omega)))))|((with_reducible refine aA ?_);refine k_b ?_)|fail)
 refine AW.loop (fun m σ=>∃ j,m=l.length - j∧j≤l.length∧(l.take j).all (fun s=>decide (s.size≤300))=true∧σ=mk [(0,.c (bA l)),(3,.c (sI j))] []) l.length ?_ ?_
 ·exact⟨_,wkA,0,rfl,Nat.zero_le _,rfl,rfl⟩
 rintro m σ ⟨j,rfl,hj,ha,rfl⟩
 by_cases h40:l.length≤40
 ·by_cases hlt:j<l.length
  ·obtain ⟨x,hx⟩:∃ x,l[j]? =some x:=⟨_,List.getElem?_eq_getElem hlt⟩
   repeat'(first|(with_reducible first|apply AW.seq|apply AW.block|apply AW.skip|apply AW.ret|apply ae|apply aq|apply aw|apply aG|apply y_e|refine ah ?_)|((with_reducible apply ak);refine t_v AS.v ?_)|((with_reducible apply bc);refine t_m (hs:=fun hg=>AS.v) (k:=?_))|((with_reducible refine au ?_);((refine aj (fun hc=>?_) (fun hc=>?_);all_goals(try(exfalso;revert hc;simp;omega)))))|((with_reducible refine aA ?_);refine k_b ?_)|fail)
   ·rw[smL,fF hx (by simp at hc ⊢;omega),Bool.and_false]
   ·exact⟨_,_,(show l.length - (j+1)<l.length - j by omega),wkA,j+1,rfl,hlt,dv hx ha (by simp at hc ⊢;omega),rfl⟩
  ·repeat'(first|(with_reducible first|apply AW.seq|apply AW.ret|apply AW.exit|apply ae|apply aJ|apply aW|apply y_e|refine ah ?_)|((with_reducible apply ak);refine t_v AS.v ?_)|((with_reducible apply bc);first|refine t_f ?_|refine t_m (hs:=fun hg=>AS.v) (k:=?_))|((with_reducible refine au ?_);first|refine cj ?_|(refine aj (fun hc=>?_) (fun hc=>?_);all_goals(try(exfalso;revert hc;simp;omega))))|((with_reducible refine aA ?_);refine k_b ?_)|fail)
   rw[smL,fD ha (by omega),Bool.and_true,List.length_map]
   simp;omega
 ·repeat'(first|(with_reducible first|apply AW.seq|apply AW.ret|apply AW.exit|apply ae|apply aJ|apply aW|apply y_e|refine ah ?_)|((with_reducible apply ak);refine t_v AS.v ?_)|((with_reducible apply bc);first|refine t_f ?_|refine t_m (hs:=fun hg=>AS.v) (k:=?_))|((with_reducible refine au ?_);first|refine cj ?_|(refine aj (fun hc=>?_) (fun hc=>?_);all_goals(try(exfalso;revert hc;simp;omega))))|((with_reducible refine aA ?_);refine k_b ?_)|fail)
  rw[smL,decide_eq_false h40,Bool.false_and,List.length_map]
  simp;omega
theorem JD (n:NS):Pure Tryz.prog 158 [.agg (nsC n)] (.c (sB (smN n))):=by
 refine fn1 (fn:=Tryz.f158) Tryz.call158 Tryz.func158 rfl Tryz.ntmps158 Tryz.results158 rfl (by rfl) ?_
 repeat'(first|(with_reducible first|apply AW.seq|apply AW.ret|apply ae|apply y_e|refine ah ?_)|((with_reducible apply ak);first|refine t_v AS.v ?_|refine t_v (by exact ag (hP:=nj _)) ?_|refine t_w AS.w ?_)|((with_reducible apply bc);first|refine t_m (hs:=fun hg=>AS.v) (k:=?_)|refine t_m (hs:=fun hg=>(by exact ag (hP:=nj _))) (k:=?_))|((with_reducible refine aA ?_);refine k_b ?_)|fail)
 rfl
theorem Dm:∀ (n:Nat) (e:Ex) (levels:Int),SizeOf.sizeOf e<n→-100≤levels→levels≤100→Pure Tryz.prog 159 [.agg (exC e),.c (sI levels)] (.c (sB (smX levels e)))
 |0,_,_,h,_,_=>absurd h (Nat.not_lt_zero _)
 |n+1,e,levels,h,h0,h1=>by
  have ih:∀ x∈e.kids,0<levels→Pure Tryz.prog 159 [.agg (exC x),.c (sI (levels - 1))] (.c (sB (smX (levels - 1) x))):=fun x hx k0=>
   Dm n x (levels - 1) (by have:=gi hx;omega) (by omega) (by omega)
  rw[xH]
  refine fn2 (fn:=Tryz.f159) Tryz.call159 Tryz.func159 rfl Tryz.ntmps159 Tryz.results159 rfl (by rfl) ?_
  refine AW.fact (t:=0) rfl (fun κ w x hr=>tT hr) fun hn=>?_
  repeat'(first|(with_reducible first|apply AW.seq|apply AW.block|apply AW.skip|apply AW.ret|apply ae|apply aq|apply y_e|refine ah ?_)|((with_reducible apply ak);first|refine t_v AS.v ?_|refine t_w AS.w ?_)|((with_reducible apply bc);first|refine t_m (hs:=fun hg=>AS.v) (k:=?_)|refine t_m (hs:=fun hg=>(by exact ag (hP:=nj _))) (k:=?_))|((with_reducible refine au ?_);((refine aj (fun hc=>?_) (fun hc=>?_))))|((with_reducible refine aA ?_);refine k_b ?_)|fail)
  ·rw[eq_comm,Bool.and_eq_false_iff];left
   simp only[List.length_map] at hc
   grind
  have hq:0<levels∧e.kids.length≤4∧smL e.names=true:=by
   simp only[List.length_map] at hc
   grind
  rw[decide_eq_true hq.1,decide_eq_true hq.2.1,hq.2.2]
  obtain ⟨hq,-⟩:=hq
  refine AW.loop (fun m σ=>∃ j,m=e.kids.length - j∧j≤e.kids.length∧(e.kids.take j).all (smX (levels - 1))=true∧σ=mk [(1,.c (sI levels)),(2,.c (.ptr 2 0)),(5,.c (sI j))] [(2,.obj 49 (exC e))]) e.kids.length ?_ ?_
  ·exact⟨_,wkA,0,rfl,Nat.zero_le _,rfl,rfl⟩
  rintro m σ ⟨j,rfl,hj,ha,rfl⟩
  by_cases hlt:j<e.kids.length
  ·obtain ⟨x,hx⟩:∃ x,e.kids[j]? =some x:=⟨_,List.getElem?_eq_getElem hlt⟩
   have hp:=ih x (List.mem_of_getElem? hx) hq
   repeat'(first|(with_reducible first|apply AW.seq|apply AW.block|apply AW.skip|apply AW.ret|apply ae|apply aq|apply aw|apply aG|apply y_e|refine ah ?_)|((with_reducible apply ak);first|refine t_v AS.v ?_|refine t_v (by exact ag (hP:=hp)) ?_)|((with_reducible refine au ?_);((refine aj (fun hc=>?_) (fun hc=>?_);all_goals(try(exfalso;simp[*] at hc;done)))))|((with_reducible refine aA ?_);refine k_b ?_)|fail)
   ·rw[fF hx (by simpa using hc)];rfl
   ·exact⟨_,_,(show e.kids.length - (j+1)<e.kids.length - j by omega),wkA,j+1,rfl,hlt,dv hx ha (by simpa using hc),rfl⟩
  ·repeat'(first|(with_reducible first|apply AW.seq|apply AW.ret|apply AW.exit|apply ae|apply aJ|apply aW|apply y_e|refine ah ?_)|((with_reducible apply ak);refine t_v AS.v ?_)|((with_reducible refine au ?_);((refine aj (fun hc=>?_) (fun hc=>?_);all_goals(try(exfalso;simp[*] at hc;done)))))|((with_reducible refine aA ?_);refine k_b ?_)|fail)
   rw[fD ha (by omega)];rfl
theorem JE (e:Ex):Pure Tryz.prog 159 [.agg (exC e),.c (sI 16)] (.c (sB (smX 16 e))):=Dm _ e 16 (Nat.lt_succ_self _) (by omega) (by omega)
def spS (s:Sp):Bool:=decide (s.frm.size≤300)&&decide (s.to.size≤300)
theorem H2 (l:Lv):smV l=(decide (l.sens.size≤300)&&decide (l.cats.length≤70)&&l.cats.all spS):=rfl
theorem xr (r:Rg):Pure Tryz.prog 160 [.agg (rgC r)] (.c (sB (smR r))):=by
 obtain ⟨L,hL⟩:∃ L,L=[r.lo,r.hi]:=⟨_,rfl⟩
 have hall:smR r=L.all smV:=by rw[hL];simp[smR]
 have hl:L.length=2:=by rw[hL];rfl
 rw[hall]
 refine fn1 (fn:=Tryz.f160) Tryz.call160 Tryz.func160 rfl Tryz.ntmps160 Tryz.results160 rfl (by rfl) ?_
 refine AW.fact (t:=0) rfl (fun κ w x hr=>yf hr (t:=none) (k:=2) (l:=r.lo.cats) (f:=spC) (by simp[rgC,lvC])) fun hn1=>?_
 refine AW.fact (t:=0) rfl (fun κ w x hr=>yf hr (t:=none) (k:=2) (l:=r.hi.cats) (f:=spC) (by simp[rgC,lvC])) fun hn2=>?_
 have hcats:∀ l∈L,l.cats.length≤9223372036854775807:=fun l h=>by rw[hL] at h;simp at h;rcases h with rfl|rfl <;> assumption
 repeat'(first|(with_reducible first|apply AW.seq|apply AW.block|apply AW.skip|apply AW.ret|apply AW.exit|apply ae|apply aq|apply aJ|apply aw|apply aG|apply aW|apply y_e|refine ah ?_)|((with_reducible apply ak);first|refine t_v AS.v ?_|refine t_w AS.w ?_)|((with_reducible apply bc);refine t_m (hs:=fun hg=>AS.v) (k:=?_))|((with_reducible refine au ?_);((refine aj (fun hc=>?_) (fun hc=>?_);all_goals(try(exfalso;simp[*] at hc;done));all_goals(try(exfalso;revert hc;simp;omega)))))|((with_reducible refine aA ?_);refine k_b ?_)|fail)
 rw[← hL]
 clear hL
 refine AW.loop (fun m σ=>∃ i,m=2 - i∧i≤2∧(L.take i).all smV=true∧σ=mk [(3,.c (.lst none 2 (L.map lvC))),(4,.c (sI i))] []) 2 ?_ ?_
 ·exact⟨_,wkA,0,rfl,Nat.zero_le _,rfl,rfl⟩
 rintro m σ ⟨i,rfl,hi,ha,rfl⟩
 by_cases hlt:i<2
 ·obtain ⟨l,hx⟩:∃ l,L[i]? =some l:=⟨_,List.getElem?_eq_getElem (by omega)⟩
  have hcl:=hcats l (List.mem_of_getElem? hx)
  have hsv:=H2 l
  repeat'(first|(with_reducible first|apply AW.seq|apply AW.block|apply AW.skip|apply AW.ret|apply AW.exit|apply ae|apply aq|apply aJ|apply aw|apply aG|apply aW|apply y_e|refine ah ?_)|((with_reducible apply ak);first|refine t_v AS.v ?_|refine t_w AS.w ?_)|((with_reducible apply bc);refine t_m (hs:=fun hg=>AS.v) (k:=?_))|((with_reducible refine au ?_);((refine aj (fun hc=>?_) (fun hc=>?_);all_goals(try(exfalso;simp[*] at hc;done));all_goals(try(exfalso;revert hc;simp;omega)))))|((with_reducible refine aA ?_);refine k_b ?_)|fail)
  ·rw[fF hx (by rw[hsv];simp only[List.length_map] at hc;grind)]
  have hq:decide (l.sens.size≤300)=true∧decide (l.cats.length≤70)=true:=by simp only[List.length_map] at hc;grind
  rw[hq.1,hq.2] at hsv
  clear hc
  refine AW.loop (fun m σ=>∃ j,m=l.cats.length - j∧j≤l.cats.length∧(l.cats.take j).all spS=true∧σ=mk [(3,.c (.lst none 2 (L.map lvC))),(4,.c (sI i)),(5,.c (sI j))] []) l.cats.length ?_ ?_
  ·exact⟨_,wkA,0,rfl,Nat.zero_le _,rfl,rfl⟩
  rintro m σ ⟨j,rfl,hj,hb,rfl⟩
  by_cases hlt2:j<l.cats.length
  ·obtain ⟨x,hy⟩:∃ x,l.cats[j]? =some x:=⟨_,List.getElem?_eq_getElem hlt2⟩
   repeat'(first|(with_reducible first|apply AW.seq|apply AW.block|apply AW.skip|apply AW.ret|apply AW.exit|apply ae|apply aq|apply aJ|apply aw|apply aG|apply aW|apply y_e|refine ah ?_)|((with_reducible apply ak);first|refine t_v AS.v ?_|refine t_w AS.w ?_)|((with_reducible apply bc);refine t_m (hs:=fun hg=>AS.v) (k:=?_))|((with_reducible refine au ?_);((refine aj (fun hc=>?_) (fun hc=>?_);all_goals(try(exfalso;simp[*] at hc;done));all_goals(try(exfalso;revert hc;simp;omega)))))|((with_reducible refine aA ?_);refine k_b ?_)|fail)
   ·have e:spS x=false:=by unfold spS;grind
    rw[fF hx (by rw[hsv,fF hy e];rfl)]
   ·have e:spS x=true:=by unfold spS;grind
    exact⟨_,_,(show l.cats.length - (j+1)<l.cats.length - j by omega),wkA,j+1,rfl,hlt2,dv hy hb e,rfl⟩
  ·rw[fD hb (by omega)] at hsv
   repeat'(first|(with_reducible first|apply AW.seq|apply AW.block|apply AW.skip|apply AW.ret|apply AW.exit|apply ae|apply aq|apply aJ|apply aw|apply aG|apply aW|apply y_e|refine ah ?_)|((with_reducible apply ak);first|refine t_v AS.v ?_|refine t_w AS.w ?_)|((with_reducible apply bc);refine t_m (hs:=fun hg=>AS.v) (k:=?_))|((with_reducible refine au ?_);((refine aj (fun hc=>?_) (fun hc=>?_);all_goals(try(exfalso;simp[*] at hc;done));all_goals(try(exfalso;revert hc;simp;omega)))))|((with_reducible refine aA ?_);refine k_b ?_)|fail)
   exact⟨_,_,(show 2 - (i+1)<2 - i by omega),wkA,i+1,rfl,hlt,dv hx ha hsv,rfl⟩
 ·repeat'(first|(with_reducible first|apply AW.seq|apply AW.ret|apply AW.exit|apply ae|apply aJ|apply aW|apply y_e|refine ah ?_)|((with_reducible apply ak);refine t_v AS.v ?_)|((with_reducible refine au ?_);((refine aj (fun hc=>?_) (fun hc=>?_);all_goals(try(exfalso;revert hc;simp;omega)))))|((with_reducible refine aA ?_);refine k_b ?_)|fail)
  rw[fD ha (by omega)]
theorem JC (c:Ct):Pure Tryz.prog 161 [.agg (cxC c)] (.c (sB (smC c))):=by
 refine fn1 (fn:=Tryz.f161) Tryz.call161 Tryz.func161 rfl Tryz.ntmps161 Tryz.results161 rfl (by rfl) ?_
 repeat'(first|(with_reducible first|apply AW.seq|apply AW.ret|apply ae|apply y_e|refine ah ?_)|((with_reducible apply ak);first|refine t_v AS.v ?_|refine t_v (by exact ag (hP:=nj _)) ?_|refine t_w AS.w ?_)|((with_reducible apply bc);first|refine t_m (hs:=fun hg=>AS.v) (k:=?_)|refine t_m (hs:=fun hg=>(by exact ag (hP:=xr _))) (k:=?_))|((with_reducible refine aA ?_);refine k_b ?_)|fail)
 rfl
theorem pT:∀ (n:Nat) (l:List Stm) (most levels:Int),SizeOf.sizeOf l<n→-100≤levels→levels≤100→Pure Tryz.prog 89 [.c (.lst none 55 (l.map stC)),.c (sI most),.c (sI levels)] (.c (sB (dn l most levels)))
 |0,_,_,_,h,_,_=>absurd h (Nat.not_lt_zero _)
 |n+1,l,most,levels,h,h0,h1=>by
  have it:∀ x∈l,0<levels→Pure Tryz.prog 89 [.c (.lst none 55 (x.thn.map stC)),.c (sI 12),.c (sI (levels - 1))] (.c (sB (dn x.thn 12 (levels - 1)))):=fun x hx k0=>
   pT n x.thn 12 (levels - 1) (by have:=List.sizeOf_lt_of_mem hx;have:=ou x;omega) (by omega) (by omega)
  have ie:∀ x∈l,0<levels→Pure Tryz.prog 89 [.c (.lst none 55 (x.els.map stC)),.c (sI 12),.c (sI (levels - 1))] (.c (sB (dn x.els 12 (levels - 1)))):=fun x hx k0=>
   pT n x.els 12 (levels - 1) (by have:=List.sizeOf_lt_of_mem hx;have:=ot x;omega) (by omega) (by omega)
  unfold dn
  refine fn3 (fn:=Tryz.f89) Tryz.call89 Tryz.func89 rfl Tryz.ntmps89 Tryz.results89 rfl (by rfl) ?_
  refine AW.fact (t:=0) rfl (fun κ w x hr=>dq hr) fun hn=>?_
  repeat'(first|(with_reducible first|apply AW.seq|apply AW.block|apply AW.skip|apply AW.ret|apply ae|apply aq|apply y_e|refine ah ?_)|((with_reducible apply ak);refine t_v AS.v ?_)|((with_reducible apply bc);refine t_m (hs:=fun hg=>AS.v) (k:=?_))|((with_reducible refine au ?_);((refine aj (fun hc=>?_) (fun hc=>?_))))|((with_reducible refine aA ?_);refine k_b ?_)|fail)
  ·rw[eq_comm,Bool.and_eq_false_iff];left
   simp only[List.length_map] at hc
   grind
  have hq:0<levels∧(l.length:Int)≤most:=by
   simp only[List.length_map] at hc
   grind
  rw[decide_eq_true hq.1,decide_eq_true hq.2]
  obtain ⟨hq,-⟩:=hq
  refine AW.loop (fun m σ=>∃ j,m=l.length - j∧j≤l.length∧(l.take j).all (kR levels)=true∧σ=mk [(0,.c (.lst none 55 (l.map stC))),(2,.c (sI levels)),(7,.c (sI j))] []) l.length ?_ ?_
  ·exact⟨_,wkA,0,rfl,Nat.zero_le _,rfl,rfl⟩
  rintro m σ ⟨j,rfl,hj,ha,rfl⟩
  by_cases hlt:j<l.length
  ·obtain ⟨x,hx⟩:∃ x,l[j]? =some x:=⟨_,List.getElem?_eq_getElem hlt⟩
   have it:=it x (List.mem_of_getElem? hx) hq
   have ie:=ie x (List.mem_of_getElem? hx) hq
   have hr:Pure Tryz.prog 160 [.agg (lvC x.level++lvC Lv.zero)] (.c (sB (smR ⟨x.level,Lv.zero⟩))):=xr ⟨x.level,Lv.zero⟩
   have hz:Rg.zero.hi=Lv.zero:=rfl
   have hse:=mB levels x
   have hsh:smH x=(smL [x.name,x.result,x.text]&&smL x.list&&smL x.aliases&&smN x.source&&smN x.target&&smN x.cls&&smN x.perms&&(smX 16 x.cond&&smR x.range&&smR ⟨x.level,Lv.zero⟩&&smC x.ctx)):=rfl
   repeat'(first|(with_reducible first|apply AW.seq|apply AW.block|apply AW.skip|apply AW.ret|apply ae|apply aq|apply aw|apply aG|apply y_e|refine ah ?_)|((with_reducible apply ak);first|refine t_v AS.v ?_|refine t_v (by first|exact ag (hP:=nj _)|exact ag (hP:=JE _)) ?_|refine t_w AS.w ?_)|((with_reducible apply bc);first|refine t_m (hs:=fun hg=>AS.v) (k:=?_)|refine t_m (hs:=fun hg=>(by first|exact ag (hP:=nj _)|exact ag (hP:=JD _)|exact ag (hP:=xr _)|exact ag (hP:=JC _)|exact ag (hP:=it)|exact ag (hP:=ie))) (k:=?_))|((with_reducible apply aV);refine t_s AS.s ?_)|((with_reducible refine au ?_);((refine aj (fun hc=>?_) (fun hc=>?_);all_goals(try(exfalso;simp[*] at hc;done)))))|((with_reducible refine aA ?_);refine k_b ?_)|fail)
   ·rw[fF hx (by(try dsimp only at hc);(try rw[hz] at hc);rw[hse,hsh];grind)];rfl
   ·rw[fF hx (by(try dsimp only at hc);(try rw[hz] at hc);rw[hse,hsh];grind)];rfl
   ·rw[fF hx (by rw[hse,hsh];(try dsimp only at hc);(try rw[hz] at hc);simp only[List.length_map] at hc;grind)];rfl
   ·exact⟨_,_,(show l.length - (j+1)<l.length - j by omega),wkA,j+1,rfl,hlt,dv hx ha (by rw[hse,hsh];(try dsimp only at *);(try simp only[hz] at *);(try simp only[List.length_map] at *);grind),rfl⟩
  ·repeat'(first|(with_reducible first|apply AW.seq|apply AW.ret|apply AW.exit|apply ae|apply aJ|apply aW|apply y_e|refine ah ?_)|((with_reducible apply ak);refine t_v AS.v ?_)|((with_reducible refine au ?_);((refine aj (fun hc=>?_) (fun hc=>?_);all_goals(try(exfalso;simp[*] at hc;done)))))|((with_reducible refine aA ?_);refine k_b ?_)|fail)
   rw[fD ha (by omega)];rfl
theorem Dn (l:List Stm) (most levels:Int) (h0:-100≤levels) (h1:levels≤100):Pure Tryz.prog 89 [.c (.lst none 55 (l.map stC)),.c (sI most),.c (sI levels)] (.c (sB (dn l most levels))):=pT _ l most levels (Nat.lt_succ_self _) h0 h1
end Am
end Go.Proofs.YtkpodagbefnebaaGreatDoor
