import Derived.Test.YtkpodagbefnebaaGreatDoorYh30
import Derived.Test.YtkpodagbefnebaaGreatDoorYh31
import Derived.Laws.IdiomStrings
import Derived.Test.YtkpodagbefnebaaGreatDoorYh10
import Derived.Test.YtkpodagbefnebaaGreatDoorYh22
import Derived.Test.YtkpodagbefnebaaGreatDoorYh19
import Derived.Test.YtkpodagbefnebaaGreatDoorYh20
import Derived.WalkLawsBesides
import Derived.Test.YtkpodagbefnebaaGreatDoorYh23
import Derived.Test.YtkpodagbefnebaaGreatDoorYh18
set_option linter.unusedSimpArgs false
set_option linter.unusedVariables false
set_option linter.unusedSectionVars false
namespace Go.Proofs.YtkpodagbefnebaaGreatDoor
namespace Am
open Tk
set_option maxRecDepth 100000
set_option maxHeartbeats 4000000
def awS:Stm:=⟨2,0,Po.zero,⟨#[97,95,116]⟩,⟨#[]⟩,⟨#[]⟩,[⟨#[120]⟩,⟨#[121]⟩],[⟨#[98,95,116]⟩],NS.zero,NS.zero,NS.zero,NS.zero,Ex.zero,Lv.zero,Rg.zero,Ct.zero,false,[],[]⟩
def awR:Stm:=⟨12,1,Po.zero,⟨#[]⟩,⟨#[]⟩,⟨#[]⟩,[],[],⟨true,false,false,[],[⟨#[99,95,116]⟩]⟩,⟨false,false,true,[],[]⟩,⟨false,false,false,[⟨#[102,105,108,101]⟩],[]⟩,⟨false,false,false,[⟨#[114,101,97,100]⟩,⟨#[119,114,105,116,101]⟩],[]⟩,Ex.zero,Lv.zero,Rg.zero,Ct.zero,false,[],[]⟩
def awM:Mo:=⟨⟨#[109]⟩,10,[awR]⟩
def awN:NS:=⟨false,true,false,[⟨#[97]⟩],[]⟩
def awK:Ex:=⟨8,0,0,5,[],⟨0,0,0,0⟩,[]⟩
def awE:Ex:=⟨2,0,0,0,[],⟨0,0,0,0⟩,[awK]⟩
def IE:ByteArray:=⟨#[116,121,112,101,32,97,95,116,32,97,108,105,97,115,32,123,32,98,95,116,32,125,44,32,120,44,32,121,59]⟩
def KZ:ByteArray:=⟨#[109,111,100,117,108,101,32,109,32,49,48,59,10,97,108,108,111,119,32,123,32,42,32,45,32,99,95,116,32,125,32,115,101,108,102,32,58,32,102,105,108,101,32,123,32,114,101,97,100,32,119,114,105,116,101,32,125,59,10]⟩
theorem KY:Pure Tryz.prog 90 [.agg (stC awS),.c (sI 0)] (.tup [.c (sS IE),.c (sI 0)]):=by
 have hs:okM [awS]=true:=by decide +kernel
 have h:=tQ (s:=awS) (lv:=0) (uu hs) fun h0 h1 hd hf=>LD hs h0 h1 hd hf
 have e:gV awS 0=(IE,0):=by decide +kernel
 rwa [e] at h
theorem KW:Pure Tryz.prog 45 [.agg (moC awM)] (.tup [.c (sS KZ),.c (sI 0)]):=by
 have hs:okM awM.stmts=true:=by decide +kernel
 have h:=oF (m:=awM) (uu hs) fun hc=>xi hs (by decide) hc
 have e:jr awM=(KZ,0):=by decide +kernel
 rwa [e] at h
theorem KX:Pure Tryz.prog 91 [.agg (nsC awN)] (.tup [.c (sS ⟨#[126,32,97]⟩),.c (sI 0)]):=by
 have h:=EX (n:=awN) (by decide +kernel)
 have e:rJ awN=(⟨#[126,32,97]⟩,0):=by decide +kernel
 rwa [e] at h
theorem KV:Pure Tryz.prog 92 [.agg (exC awE),.c (sB false)] (.tup [.c (sS ⟨#[33,40,117,49,32,61,61,32,117,50,41]⟩),.c (sI 0)]):=by
 have h:=rI (e:=awE) (v:=false) fun _=>by decide +kernel
 have e:gv awE false=(⟨#[33,40,117,49,32,61,61,32,117,50,41]⟩,0):=by decide +kernel
 rwa [e] at h
theorem KU:Pure Tryz.prog 46 [.agg (moC Mo.zero)] (.c (sI 10)):=by
 have h:=nX (m:=Mo.zero) (by decide)
 have e:eo Mo.zero=10:=by decide +kernel
 rwa [e] at h
section
variable {ρ:Operand→Option V} {H:Nat→Option HO} {d:Option Nat} {ty:TypeId} {pos:String} {af:Array Edge} {gu:Option (Nat×Bool)}
end
theorem Fc:Pure Tryz.prog 44 [] (.c (sB true)):=by
 refine fn0 (fn:=Tryz.f44) Tryz.call44 Tryz.func44 rfl Tryz.ntmps44 Tryz.results44 rfl (by rfl) ?_
 repeat'((fail_if_success (with_reducible refine ct 3 ?_));(first|(with_reducible first|apply AW.seq|apply ae|apply y_e|refine ah ?_)|((with_reducible apply ak);first|refine t_v AS.v ?_|refine t_v (by exact ag (hP:=KY)) ?_|refine t_w AS.w ?_)|((with_reducible apply aV);refine t_s AS.s ?_)|fail))
 refine AW.weak (σ':=mk [(1,.c (sS IE)),(2,.c (sI 0)),(3,.c (.ptr 3 0))] [(3,.obj 69 (stC awR))]) (wkA) ?_
 repeat'(first|(with_reducible first|apply AW.seq|apply AW.ret|apply ae|apply y_e|refine ah ?_)|((with_reducible apply ak);first|refine t_v AS.v ?_|refine t_v (by first|exact ag (hP:=KW)|exact ag (hP:=KX)|exact ag (hP:=KV)) ?_)|((with_reducible apply bc);first|refine t_m (hs:=fun hg=>AS.v) (k:=?_)|refine t_m (hs:=fun hg=>(by exact ag (hP:=KU))) (k:=?_))|((with_reducible refine aA ?_);refine k_b ?_)|fail)
 decide +kernel
theorem H3 (l:List Stm):Pure Tryz.prog 43 [.c (.lst none 55 (l.map stC))] (.c (sB (okM l))):=by
 have hs:=Dn l 40 14 (by omega) (by omega)
 have hc:Pure Tryz.prog 29 [.agg [sS ⟨#[]⟩,sI 0,.lst none 55 (l.map stC)]] (.c (sI (gX l))):=yc ⟨⟨#[]⟩,0,l⟩
 refine fn1 (fn:=Tryz.f43) Tryz.call43 Tryz.func43 rfl Tryz.ntmps43 Tryz.results43 rfl (by rfl) ?_
 repeat'(first|(with_reducible first|apply AW.seq|apply AW.ret|apply ae|apply y_e|refine ah ?_)|((with_reducible apply ak);first|refine t_v AS.v ?_|refine t_v (by exact ag (hP:=hs)) ?_)|((with_reducible apply bc);first|refine t_m (hs:=fun hg=>AS.v) (k:=?_)|refine t_m (hs:=fun hg=>(by exact ag (hP:=hc))) (k:=?_))|((with_reducible refine aA ?_);refine k_b ?_)|fail)
 rfl
end Am
namespace Am
open Tk
set_option maxRecDepth 100000
set_option maxHeartbeats 4000000
end Am
namespace Am
open Tk
set_option maxRecDepth 100000
set_option maxHeartbeats 4000000
end Am
namespace Am
open Tk
set_option maxRecDepth 100000
set_option maxHeartbeats 4000000
end Am
namespace Am
open Tk
set_option maxRecDepth 100000
set_option maxHeartbeats 4000000
end Am
namespace Am
open Tk
set_option maxRecDepth 100000
set_option maxHeartbeats 4000000
end Am
namespace Am
open Tk
set_option maxRecDepth 100000
set_option maxHeartbeats 4000000
end Am
namespace Am
open Tk
set_option maxRecDepth 100000
set_option maxHeartbeats 4000000
end Am
namespace Am
open Tk
set_option maxRecDepth 100000
set_option maxHeartbeats 4000000
theorem Ck (n:Nat):decide ((0:Int)<(n:Int))=decide (0<n):=decide_eq_decide.2 (by omega)
end Am
namespace Am
open Tk
set_option maxRecDepth 100000
set_option maxHeartbeats 4000000
end Am
namespace Am
open Tk
set_option maxRecDepth 100000
set_option maxHeartbeats 4000000
end Am
namespace Am
open Tk
set_option maxRecDepth 100000
set_option maxHeartbeats 4000000
end Am
namespace Am
open Tk
set_option maxRecDepth 100000
theorem qI {α:Type} {p:α→α→Bool}:∀ l:List α,(∀ x∈l,p x x=true)→fw p l l=true
 |[],_=>rfl
 |x :: l,h=>by rw[fw,h x (.head _),qI l fun y hy=>h y (.tail _ hy)];rfl
theorem vz:∀ (n:Nat) (a:Ex),SizeOf.sizeOf a<n→eG a a=true
 |0,_,h=>absurd h (Nat.not_lt_zero _)
 |n+1,a,h=>by
  rw[jg,qI a.kids fun x hx=>vz n x (by have:=gi hx;omega)]
  simp[jJ,Se.eqB]
theorem GT (a:Ex):eG a a=true:=vz _ a (Nat.lt_succ_self _)
theorem sN {p:Stm→Stm→Bool}:∀ l m:List Stm,(∀ x∈l,∀ y,npS x=npS y→p x y=true)→l.map npS=m.map npS→fw p l m=true
 |[],[],_,_=>rfl
 |[],_ :: _,_,h=>by cases h
 |_ :: _,[],_,h=>by cases h
 |x :: l,y :: m,hp,h=>by
  injection h with h1 h2
  rw[fw,hp x (.head _) y h1,sN l m (fun z hz=>hp z (.tail _ hz)) h2];rfl
theorem pZ:∀ (n:Nat) (a b:Stm),SizeOf.sizeOf a<n→npS a=npS b→cE a b=true
 |0,_,_,h,_=>absurd h (Nat.not_lt_zero _)
 |n+1,a,b,h,e=>by
  have e':=e
  rw[ay,ay] at e'
  injection e' with e1 e2 _ e4 e5 e6 e7 e8 e9 e10 e11 e12 e13 e14 e15 e16 e17 e18 e19
  rw[jf,sN a.thn b.thn (fun x hx y hy=>pZ n x y (by have:=iU hx;omega) hy) e18,sN a.els b.els (fun x hx y hy=>pZ n x y (by have:=iP hx;omega) hy) e19]
  unfold iH
  rw[e1,e2,e4,e5,e6,e7,e8,e9,e10,e11,e12,e13,e14,e15,e16,e17,GT]
  simp[cu,dB,dR]
theorem DC {a b:Stm} (h:npS a=npS b):cE a b=true:=pZ _ a b (Nat.lt_succ_self _) h
theorem DA {a b:Mo} (h:npM a=npM b):(decide (a.name=b.name)&&decide (a.version=b.version)&&fw cE a.stmts b.stmts)=true:=by
 unfold npM at h
 injection h with h1 h2 h3
 rw[decide_eq_true h1,decide_eq_true h2,sN a.stmts b.stmts (fun x _ y hy=>DC hy) h3];rfl
end Am
namespace Am
open Tk Go.RowKit
set_option maxRecDepth 100000
set_option maxHeartbeats 4000000
section
variable {ρ:Operand→Option V} {H:Nat→Option HO} {d:Option Nat} {ty:TypeId} {pos:String} {af:Array Edge} {gu:Option (Nat×Bool)} {x:Operand}
theorem zr {T:TypeId} {u:Value} (hx:Ev ρ x (.c (.sc (.iface T u))):=by exact .pl rfl) (hy:Ev ρ (.const .nilIface) (.c (.sc .nilIface)):=by exact .pl rfl):AS Tryz.prog ρ H ⟨d,.binOp .neq 20 x (.const .nilIface) 20,ty,pos,af,gu⟩ ⟨.c (sB true),[],[]⟩:=by
 refine .still (x:=.bool true) (fun r hr w=>?_) fun _=>.sc rfl
 have h1:=hr x (by simp[Op.operands]) _ _ hx .sc
 have h2:=hr (.const .nilIface) (by simp[Op.operands]) (.c (.sc .nilIface)) _ hy .sc
 have hb:(binOp BinOp.neq 20 (.iface T u) Value.nilIface).run Tryz.prog w= .ok (.bool true) w:=by kernel_rfl
 unfold execOp
 simp[h1,h2,eqGuard,hb]
theorem I7 (hx:Ev ρ x (.c (.sc .nilIface)):=by exact .pl rfl) (hy:Ev ρ (.const .nilIface) (.c (.sc .nilIface)):=by exact .pl rfl):AS Tryz.prog ρ H ⟨d,.binOp .neq 20 x (.const .nilIface) 20,ty,pos,af,gu⟩ ⟨.c (sB false),[],[]⟩:=by
 refine .still (x:=.bool false) (fun r hr w=>?_) fun _=>.sc rfl
 have h1:=hr x (by simp[Op.operands]) _ _ hx .sc
 have h2:=hr (.const .nilIface) (by simp[Op.operands]) (.c (.sc .nilIface)) _ hy .sc
 have hb:(binOp BinOp.neq 20 .nilIface Value.nilIface).run Tryz.prog w= .ok (.bool false) w:=by kernel_rfl
 unfold execOp
 simp[h1,h2,eqGuard,hb]
theorem LK {f:Fa} (hx:Ev ρ x (.c (.sc (pvF 158 f))):=by exact .pl rfl) (hs:(f.name.size≤9223372036854775807):=by assumption):AS Tryz.prog ρ H ⟨d,.typeAssert x 20 158 true,ty,pos,af,gu⟩ ⟨.tup [.agg (faC f),.c (sB true)],[],[]⟩:=
 tR (us:=[.int .i64 f.code,.int .i64 f.pos.line,.int .i64 f.pos.col,.string f.name]) hx (by simp[jG,hs]) (fun w=>by kernel_rfl)
end
abbrev tkB (x:Ex) (n:Int) (f:Fa):List (Nat×HO):=[(2002,.obj 49 (exC x)),(2003,.obj 3 [sI n]),(2004,.obj 30 (faC f))]
theorem vN (x:Ex) (n:Int) (f g:Fa) (hs:f.name.size≤9223372036854775807):MD Tryz.prog 147 [2002,2003,2004] (look (tkB x n g)) (.panicking [{v:=pvF 158 f,recovered:=false}]) (.panicking [{v:=pvF 158 f,recovered:=true}]) (look (tkB Ex.zero 0 f)):=by
 refine MD.of (fn:=Tryz.f147) (t:=6) (s:=3) (.inl ⟨rfl,rfl⟩) Tryz.func147 rfl Tryz.ntmps147 (fun _ _=>rfl) rfl rfl (fun _ _=>rfl) rfl rfl (by decide) (by decide) (by decide) rfl rfl (by simp[jG,hs]) ?_
 repeat'(first|(with_reducible first|apply AW.seq|apply AW.skip|apply ae|apply y_e|refine ah ?_|refine bb ?_)|((with_reducible apply ak);first|refine t_v zr ?_|refine t_v LK ?_|refine t_v AS.v ?_|refine t_w AS.w ?_)|((with_reducible apply aV);refine t_s AS.s ?_)|((with_reducible refine au ?_);first|refine cF ?_|refine cj ?_)|(refine⟨by decide +kernel,?_⟩)|fail)
 all_goals(refine⟨.inr rfl,fun n hn=>?_⟩;simp only[List.mem_cons,List.not_mem_nil,or_false] at hn;rcases hn with rfl|rfl|rfl <;> rfl)
theorem DW (x:Ex) (n:Int) (g:Fa):MD Tryz.prog 147 [2002,2003,2004] (look (tkB x n g)) .returning .returning (look (tkB x n g)):=by
 refine MD.of (fn:=Tryz.f147) (t:=6) (s:=3) (older:=[]) (.inr ⟨rfl,rfl,rfl⟩) Tryz.func147 rfl Tryz.ntmps147 (fun _ _=>rfl) rfl rfl (fun _ _=>rfl) rfl rfl (by decide) (by decide) (by decide) rfl rfl rfl ?_
 repeat'(first|(with_reducible first|apply AW.seq|apply AW.skip|apply ae|apply y_e|refine ah ?_)|((with_reducible apply ak);first|refine t_v I7 ?_|refine t_v AS.v ?_)|((with_reducible refine au ?_);refine cj ?_)|fail)
 all_goals(refine⟨.inr rfl,fun n hn=>?_⟩;simp only[List.mem_cons,List.not_mem_nil,or_false] at hn;rcases hn with rfl|rfl|rfl <;> rfl)
theorem tA {x:Ex} {n:Int} {f:Fa} {h:List (Nat×HO)} (e:∀ m∈[2002,2003,2004],look h m=look (tkB x n f) m):∀ m∈[2002,2003,2004],∃ ob,look h m=some ob∧fq ob=true∧look (tkB x n f) m=some ob:=fun m hn=>by
 rw[e m hn]
 simp only[List.mem_cons,List.not_mem_nil,or_false] at hn
 rcases hn with rfl|rfl|rfl
 ·exact⟨_,rfl,by simp[fq,okA],rfl⟩
 ·exact⟨_,rfl,rfl,rfl⟩
 ·exact⟨_,rfl,by simp[fq,okA],rfl⟩
theorem xR {x:Ex} {n:Int} {f:Fa}:∀ m∈[2002,2003,2004],∃ ob,look (tkB x n f) m=some ob∧fq ob=true:=fun m hm=>by
 obtain ⟨ob,h1,h2,_⟩:=tA (x:=x) (n:=n) (f:=f) (fun n hn=>rfl) m hm
 exact⟨ob,h1,h2⟩
theorem E2 (ts:List Tok) (hl:ts.length≤4294967296):Pure Tryz.prog 78 [.c (.lst none 4 (ts.map tkC))] (xS (tksK ts)):=by
 have hb:=(BP hl (8*ts.length+16) (8*ts.length+16) (Nat.le_refl _)).bi 1 0 0 (by decide) (by decide) (Nat.zero_le _) (by decide) (by omega)
 have ht:tksK ts=ek ts (8*ts.length+16) 1 0 0>>=fun x=>if 12<cD x.1 then .error (flK 4 ts 0) else .ok x:=rfl
 rw[ht]
 refine Pure.of_mn ?_ (by unfold xS;split <;> simp[V.ok,okV,okA,C.ok])
 refine MNL.ofD (fn:=Tryz.f78) (fc:=147) (Nc:=[2002,2003,2004]) (sl:=[(0,.c (.lst none 4 (ts.map tkC)))]) Tryz.call78 Tryz.call147 Tryz.func78 rfl Tryz.ntmps78 Tryz.results78 rfl rfl (by decide) ?_
 refine AWD.seq ?_
 repeat'(first|(with_reducible first|apply ae|apply y_e|refine ah ?_)|((with_reducible apply ak);first|refine t_w (gW 2002 (by rfl) (by exact ba rfl)) ?_|refine t_w (gW 2003 (by rfl) (by exact ba rfl)) ?_|refine t_w (gW 2004 (by rfl) (by exact ba rfl)) ?_)|fail)
 refine AWD.defer (l:=[_]) (by decide) rfl (by decide) ?_
 repeat'(first|(with_reducible apply y_e)|((with_reducible apply ak);refine t_v AS.v ?_)|fail)
 refine⟨.pl rfl,?_⟩
 repeat'((fail_if_success (with_reducible refine ct 4 ?_));(first|(with_reducible first|apply AW.seq|apply ae|apply aE|apply y_e|refine ah ?_)|((with_reducible apply ak);first|refine t_v AS.v ?_|refine t_w AS.w ?_|refine I4 (hP:=hb) (k1:=fun x k h=>?_) (k2:=fun e h=>?_))|((with_reducible apply aV);refine t_s AS.s ?_)|fail))
 ·have hv:=(yk ts _).2.1 h
  have hx:=(lM ts _).2.1 h
  have fl:=p0 (ts:=ts) (i:=0) (d:=0) hl (Nat.zero_le _) 4
  rw[h,aa]
  clear hb ht h
  repeat'(first|(with_reducible first|apply AW.seq|apply AW.skip|apply AW.ret|apply ae|apply aE|apply y_e|refine ah ?_|refine bb ?_)|((with_reducible apply ak);first|refine t_v AS.v ?_|refine t_v (by exact ag (hP:=zI x (by omega))) ?_|refine I4 (hP:=fl) (k1:=fun x k h=>?_) (k2:=fun e h=>?_))|((with_reducible apply aV);refine t_s AS.s ?_)|((with_reducible refine au ?_);((refine aj (fun hc=>?_) (fun hc=>?_))))|(refine⟨by decide +kernel,?_⟩)|fail)
  ·cases h
  ·injection h with h
   subst h
   have hc:12<cD x:=by have:=of_decide_eq_true hc;omega
   dsimp only
   rw[if_pos hc]
   refine RetD.mk (bx:=tkB x 0 Fa.zero) (bx':=tkB Ex.zero 0 (flK 4 ts 0)) (.inr ⟨_,rfl,rfl⟩) rfl (vN _ _ _ _ (show(0:Nat)≤9223372036854775807 by decide)) rfl (tA fun n hn=>?_) xR (CQ ?_ fun n hn=>by cases hn)
   ·simp only[List.mem_cons,List.not_mem_nil,or_false] at hn
    rcases hn with rfl|rfl|rfl <;> rfl
   ·simp only[one,V.un,unV,unA,C.un,xS]
  ·have hc:¬ 12<cD x:=by have:=of_decide_eq_false hc;omega
   dsimp only
   rw[if_neg hc]
   refine RetD.mk (bx:=tkB x k Fa.zero) (bx':=tkB x k Fa.zero) (.inl ⟨.inl rfl,rfl⟩) rfl (DW _ _ _) rfl (tA fun n hn=>?_) xR (CQ ?_ fun n hn=>by cases hn)
   ·simp only[List.mem_cons,List.not_mem_nil,or_false] at hn
    rcases hn with rfl|rfl|rfl <;> rfl
   ·simp only[one,V.un,unV,unA,C.un,xS]
 ·have hs:=(wq ts _).2.1 h
  rw[h]
  refine RetD.mk (bx:=tkB Ex.zero 0 Fa.zero) (bx':=tkB Ex.zero 0 e) (.inr ⟨_,rfl,rfl⟩) rfl (vN _ _ _ _ (by rw[hs];decide)) rfl (tA fun n hn=>?_) xR (CQ ?_ fun n hn=>by cases hn)
  ·simp only[List.mem_cons,List.not_mem_nil,or_false] at hn
   rcases hn with rfl|rfl|rfl <;> rfl
  ·rw[ar];simp only[one,V.un,unV,unA,C.un,xS]
theorem IR {l:List Tok} (hf:Fine l):CndOk l tksK:=⟨fun k=>E2 _ (by have:=hf.le;rw[List.length_drop];omega),fun k e n h=>AB hf k h,fun k f h=>vO h⟩
end Am
namespace Am
open Tk Go.RowKit
set_option maxRecDepth 100000
set_option maxHeartbeats 4000000
section
variable {ρ:Operand→Option V} {H:Nat→Option HO} {d:Option Nat} {ty:TypeId} {pos:String} {af:Array Edge} {gu:Option (Nat×Bool)} {x:Operand}
theorem LL {f:Fa} (hx:Ev ρ x (.c (.sc (pvF 127 f))):=by exact .pl rfl) (hs:(f.name.size≤9223372036854775807):=by assumption):AS Tryz.prog ρ H ⟨d,.typeAssert x 20 127 true,ty,pos,af,gu⟩ ⟨.tup [.agg (faC f),.c (sB true)],[],[]⟩:=
 tR (us:=[.int .i64 f.code,.int .i64 f.pos.line,.int .i64 f.pos.col,.string f.name]) hx (by simp[jG,hs]) (fun w=>by kernel_rfl)
end
abbrev ftB (f:Fa):List (Nat×HO):=[(2004,.obj 30 (faC f))]
theorem vq (f g:Fa) (hs:f.name.size≤9223372036854775807):MD Tryz.prog 101 [2004] (look (ftB g)) (.panicking [{v:=pvS f,recovered:=false}]) (.panicking [{v:=pvS f,recovered:=true}]) (look (ftB f)):=by
 refine MD.of (fn:=Tryz.f101) (t:=4) (s:=1) (.inl ⟨rfl,rfl⟩) Tryz.func101 rfl Tryz.ntmps101 (fun _ _=>rfl) rfl rfl (fun _ _=>rfl) rfl rfl (by decide) (by decide) (by decide) rfl rfl (by simp[jG,hs]) ?_
 repeat'(first|(with_reducible first|apply AW.seq|apply AW.skip|apply ae|apply y_e|refine ah ?_)|((with_reducible apply ak);first|refine t_v zr ?_|refine t_v LL ?_|refine t_v AS.v ?_|refine t_w AS.w ?_)|((with_reducible apply aV);refine t_s AS.s ?_)|((with_reducible refine au ?_);first|refine cF ?_|refine cj ?_)|fail)
 all_goals(refine⟨.inr rfl,fun n hn=>?_⟩;simp only[List.mem_cons,List.not_mem_nil,or_false] at hn;subst hn;rfl)
theorem Dp (g:Fa):MD Tryz.prog 101 [2004] (look (ftB g)) .returning .returning (look (ftB g)):=by
 refine MD.of (fn:=Tryz.f101) (t:=4) (s:=1) (older:=[]) (.inr ⟨rfl,rfl,rfl⟩) Tryz.func101 rfl Tryz.ntmps101 (fun _ _=>rfl) rfl rfl (fun _ _=>rfl) rfl rfl (by decide) (by decide) (by decide) rfl rfl rfl ?_
 repeat'(first|(with_reducible first|apply AW.seq|apply AW.skip|apply ae|apply y_e|refine ah ?_)|((with_reducible apply ak);first|refine t_v I7 ?_|refine t_v AS.v ?_)|((with_reducible refine au ?_);refine cj ?_)|fail)
 all_goals(refine⟨.inr rfl,fun n hn=>?_⟩;simp only[List.mem_cons,List.not_mem_nil,or_false] at hn;subst hn;rfl)
theorem wG {f:Fa} {h:List (Nat×HO)} (e:look h 2004=some (.obj 30 (faC f))):∀ m∈[2004],∃ ob,look h m=some ob∧fq ob=true∧look (ftB f) m=some ob:=fun m hn=>by
 simp only[List.mem_cons,List.not_mem_nil,or_false] at hn
 subst hn
 exact⟨_,e,by simp[fq,okA],rfl⟩
theorem wI {f:Fa}:∀ m∈[2004],∃ ob,look (ftB f) m=some ob∧fq ob=true:=fun m hn=>by
 simp only[List.mem_cons,List.not_mem_nil,or_false] at hn
 subst hn
 exact⟨_,rfl,by simp[fq,okA]⟩
theorem sZ (f:Fa):(one [V.agg (faC f)]).un= .agg (faC f):=rG f
section
variable {α:Type} {bx:HO} {B:α→HO} {sp:∀ l:List Tok,Ix l→Except Fa (α×(Ix l×Nat))} {g:Nat} {src:ByteArray}
def tP (g:Nat) (bx:HO) (B:α→HO) (sp:∀ l:List Tok,Ix l→Except Fa (α×(Ix l×Nat))):Prop:=
 ∀ (l:List Tok) (_:Fine l) (h:0<l.length),MX Tryz.prog g [(0,psO (⟨0,h⟩:Ix l) 0 0),(1001,bx)] [.c (.ptr 0 0),.c (.ptr 1001 0)] (sp l ⟨0,h⟩>>=fun x=>.ok ((),x):Except Fa (Unit×(α×(Ix l×Nat)))) (fun _=>.tup []) (fun b=>[(0,psO b.2.1 b.2.2 0),(1001,B b.1)]) pvS
theorem Dy {f:Fa} (hsc:gf src= .error f):MNL Tryz.prog 48 [(1001,bx)] [.c (sS src),.c (.fn g [.ptr 1001 0])] (.agg (faC f)) [(1001,bx)]:=by
 have sc:=tq src
 rw[hsc] at sc
 have sc:Pure Tryz.prog 77 [.c (sS src)] (.tup [.c .nil,.agg (faC f)]):=sc
 have h0:=(vE src f hsc).1
 refine MNL.ofD (fn:=Tryz.f48) (fc:=101) (Nc:=[2004]) (sl:=[(0,.c (sS src)),(1,.c (.fn g [.ptr 1001 0]))]) Tryz.call48 Tryz.call101 Tryz.func48 rfl Tryz.ntmps48 Tryz.results48 rfl rfl (by decide) ?_
 refine AWD.seq ?_
 repeat'(first|(with_reducible first|apply ae|apply y_e|refine ah ?_)|((with_reducible apply ak);refine t_w (gW 2004 (by rfl) (by exact ba rfl)) ?_)|fail)
 refine AWD.seq ?_
 repeat'(first|(with_reducible first|apply ae|apply y_e|refine ah ?_)|((with_reducible apply ak);first|refine t_v AS.v ?_|refine t_v (by exact ag (hP:=sc)) ?_)|((with_reducible apply aV);refine t_s AS.s ?_)|fail)
 refine AWD.seq ?_
 repeat'(first|(with_reducible first|apply AW.seq|apply AW.ret|apply ae|apply aq|apply y_e|refine ah ?_)|((with_reducible apply ak);refine t_v AS.v ?_)|((with_reducible apply aV);refine t_s AS.s ?_)|((with_reducible refine au ?_);((refine aj (fun hc=>?_) (fun hc=>?_);all_goals(try(exfalso;simp[*] at hc;done)))))|fail)
 exact n_c (sZ _) (fun n hn=>by rw[List.mem_singleton.1 hn];rfl)
theorem JN {l:List Tok} (hsc:gf src= .ok l) (hbx:bx.one=true) (hg:tP g bx B sp) (h:0<l.length) {a:α} {k':Ix l} {c':Nat} (hsp:sp l ⟨0,h⟩= .ok (a,(k',c'))) (h0:(tk k').kind=0) :
 MNL Tryz.prog 48 [(1001,bx)] [.c (sS src),.c (.fn g [.ptr 1001 0])] (.agg (faC Fa.zero)) [(1001,B a)]:=by
 have hf:=ji hsc
 have sc:=tq src
 rw[hsc] at sc
 have sc:Pure Tryz.prog 77 [.c (sS src)] (.tup [.c (.lst none 4 (l.map tkC)),.agg (faC Fa.zero)]):=sc
 have hG:=hg l hf h
 have hsp':(sp l ⟨0,h⟩>>=fun x=>.ok ((),x):Except Fa (Unit×(α×(Ix l×Nat))))= .ok ((),(a,(k',c'))):=by rw[hsp];rfl
 generalize (sp l ⟨0,h⟩>>=fun x=>.ok ((),x):Except Fa (Unit×(α×(Ix l×Nat))))=q at hG hsp'
 subst hsp'
 clear hsp
 refine MNL.ofD (fn:=Tryz.f48) (fc:=101) (Nc:=[2004]) (sl:=[(0,.c (sS src)),(1,.c (.fn g [.ptr 1001 0]))]) Tryz.call48 Tryz.call101 Tryz.func48 rfl Tryz.ntmps48 Tryz.results48 rfl rfl (by decide) ?_
 refine AWD.seq ?_
 repeat'(first|(with_reducible first|apply ae|apply y_e|refine ah ?_)|((with_reducible apply ak);refine t_w (gW 2004 (by rfl) (by exact ba rfl)) ?_)|fail)
 refine AWD.seq ?_
 repeat'(first|(with_reducible first|apply ae|apply y_e|refine ah ?_)|((with_reducible apply ak);first|refine t_v AS.v ?_|refine t_v (by exact ag (hP:=sc)) ?_)|((with_reducible apply aV);refine t_s AS.s ?_)|fail)
 refine AWD.seq ?_
 repeat'(first|(with_reducible first|apply AW.seq|apply AW.skip|apply ae|apply y_e|refine ah ?_)|((with_reducible apply ak);refine t_v AS.v ?_)|((with_reducible refine au ?_);refine cj ?_)|fail)
 refine AWD.defer (l:=[_]) (by decide) rfl (by decide) ?_
 repeat'(first|(with_reducible first|apply AW.seq|apply AW.skip|apply ae|apply y_e|refine ah ?_)|((with_reducible apply ak);refine t_v AS.v ?_)|((with_reducible refine au ?_);refine cj ?_)|fail)
 refine⟨.pl rfl,?_⟩
 repeat'((fail_if_success (with_reducible refine ct 7 ?_));(first|(with_reducible first|apply AW.seq|apply ae|apply aE|apply y_e|refine ah ?_)|((with_reducible apply ak);first|refine t_v AS.v ?_|refine t_w AS.w ?_|refine JZ (hP:=hG) (k1:=fun x k h=>?_) (k2:=fun e h=>?_))|fail))
 ·injection h with h
  injection h with h1 h2
  subst h2
  repeat'(first|(with_reducible first|apply AW.seq|apply AW.skip|apply AW.ret|apply ae|apply y_e|refine ah ?_)|((with_reducible apply ak);first|refine t_v AS.v ?_|refine t_v (by exact bn (hP:=cw)) ?_)|((with_reducible apply aV);refine t_s AS.s ?_)|((with_reducible refine au ?_);((refine aj (fun hc=>?_) (fun hc=>?_);all_goals(try(exfalso;simp[*] at hc;done)))))|fail)
  exact RetD.mk (bx:=ftB Fa.zero) (bx':=ftB Fa.zero) (.inl ⟨.inl rfl,rfl⟩) rfl (Dp _) rfl (wG rfl) wI (n_c (sZ _) fun n hn=>by rw[List.mem_singleton.1 hn];rfl)
 ·cases h
theorem GR {l:List Tok} (hsc:gf src= .ok l) (hbx:bx.one=true) (hg:tP g bx B sp) (h:0<l.length) {a:α} {k':Ix l} {c':Nat} (hsp:sp l ⟨0,h⟩= .ok (a,(k',c'))) (h0:¬ (tk k').kind=0) :
 MNL Tryz.prog 48 [(1001,bx)] [.c (sS src),.c (.fn g [.ptr 1001 0])] (.agg (faC (flt 9 (tk k')))) [(1001,B a)]:=by
 have hf:=ji hsc
 have ht:=zj hsc (tk k') (List.getElem_mem _)
 have sc:=tq src
 rw[hsc] at sc
 have sc:Pure Tryz.prog 77 [.c (sS src)] (.tup [.c (.lst none 4 (l.map tkC)),.agg (faC Fa.zero)]):=sc
 have hG:=hg l hf h
 have hsp':(sp l ⟨0,h⟩>>=fun x=>.ok ((),x):Except Fa (Unit×(α×(Ix l×Nat))))= .ok ((),(a,(k',c'))):=by rw[hsp];rfl
 generalize (sp l ⟨0,h⟩>>=fun x=>.ok ((),x):Except Fa (Unit×(α×(Ix l×Nat))))=q at hG hsp'
 subst hsp'
 clear hsp
 refine MNL.ofD (fn:=Tryz.f48) (fc:=101) (Nc:=[2004]) (sl:=[(0,.c (sS src)),(1,.c (.fn g [.ptr 1001 0]))]) Tryz.call48 Tryz.call101 Tryz.func48 rfl Tryz.ntmps48 Tryz.results48 rfl rfl (by decide) ?_
 refine AWD.seq ?_
 repeat'(first|(with_reducible first|apply ae|apply y_e|refine ah ?_)|((with_reducible apply ak);refine t_w (gW 2004 (by rfl) (by exact ba rfl)) ?_)|fail)
 refine AWD.seq ?_
 repeat'(first|(with_reducible first|apply ae|apply y_e|refine ah ?_)|((with_reducible apply ak);first|refine t_v AS.v ?_|refine t_v (by exact ag (hP:=sc)) ?_)|((with_reducible apply aV);refine t_s AS.s ?_)|fail)
 refine AWD.seq ?_
 repeat'(first|(with_reducible first|apply AW.seq|apply AW.skip|apply ae|apply y_e|refine ah ?_)|((with_reducible apply ak);refine t_v AS.v ?_)|((with_reducible refine au ?_);refine cj ?_)|fail)
 refine AWD.defer (l:=[_]) (by decide) rfl (by decide) ?_
 repeat'(first|(with_reducible first|apply AW.seq|apply AW.skip|apply ae|apply y_e|refine ah ?_)|((with_reducible apply ak);refine t_v AS.v ?_)|((with_reducible refine au ?_);refine cj ?_)|fail)
 refine⟨.pl rfl,?_⟩
 repeat'((fail_if_success (with_reducible refine ct 7 ?_));(first|(with_reducible first|apply AW.seq|apply ae|apply aE|apply y_e|refine ah ?_)|((with_reducible apply ak);first|refine t_v AS.v ?_|refine t_w AS.w ?_|refine JZ (hP:=hG) (k1:=fun x k h=>?_) (k2:=fun e h=>?_))|fail))
 ·injection h with h
  injection h with h1 h2
  subst h2
  repeat'(first|(with_reducible first|apply AW.seq|apply ae|apply aE|apply y_e|refine ah ?_)|((with_reducible apply ak);first|refine t_v AS.v ?_|refine t_v (by exact bn (hP:=cw)) ?_|refine ML (hP:=eH _ _) (k:=?_))|((with_reducible refine au ?_);((refine aj (fun hc=>?_) (fun hc=>?_);all_goals(try(exfalso;simp[*] at hc;done)))))|fail)
  exact RetD.mk (bx:=ftB Fa.zero) (bx':=ftB (flt 9 (tk k'))) (.inr ⟨_,rfl,rfl⟩) rfl (vq _ _ (show(tk k').text.size≤_ by omega)) rfl (wG rfl) wI (n_c (sZ _) fun n hn=>by rw[List.mem_singleton.1 hn];rfl)
 ·cases h
theorem GS {l:List Tok} (hsc:gf src= .ok l) (hbx:bx.one=true) (hg:tP g bx B sp) (h:0<l.length) {f:Fa} (hsp:sp l ⟨0,h⟩= .error f) (hs:f.name.size≤9223372036854775807) :
 MNL Tryz.prog 48 [(1001,bx)] [.c (sS src),.c (.fn g [.ptr 1001 0])] (.agg (faC f)) [(1001,.lost)]:=by
 have hf:=ji hsc
 have sc:=tq src
 rw[hsc] at sc
 have sc:Pure Tryz.prog 77 [.c (sS src)] (.tup [.c (.lst none 4 (l.map tkC)),.agg (faC Fa.zero)]):=sc
 have hG:=hg l hf h
 have hsp':(sp l ⟨0,h⟩>>=fun x=>.ok ((),x):Except Fa (Unit×(α×(Ix l×Nat))))= .error f:=by rw[hsp];rfl
 generalize (sp l ⟨0,h⟩>>=fun x=>.ok ((),x):Except Fa (Unit×(α×(Ix l×Nat))))=q at hG hsp'
 subst hsp'
 clear hsp
 refine MNL.ofD (fn:=Tryz.f48) (fc:=101) (Nc:=[2004]) (sl:=[(0,.c (sS src)),(1,.c (.fn g [.ptr 1001 0]))]) Tryz.call48 Tryz.call101 Tryz.func48 rfl Tryz.ntmps48 Tryz.results48 rfl rfl (by decide) ?_
 refine AWD.seq ?_
 repeat'(first|(with_reducible first|apply ae|apply y_e|refine ah ?_)|((with_reducible apply ak);refine t_w (gW 2004 (by rfl) (by exact ba rfl)) ?_)|fail)
 refine AWD.seq ?_
 repeat'(first|(with_reducible first|apply ae|apply y_e|refine ah ?_)|((with_reducible apply ak);first|refine t_v AS.v ?_|refine t_v (by exact ag (hP:=sc)) ?_)|((with_reducible apply aV);refine t_s AS.s ?_)|fail)
 refine AWD.seq ?_
 repeat'(first|(with_reducible first|apply AW.seq|apply AW.skip|apply ae|apply y_e|refine ah ?_)|((with_reducible apply ak);refine t_v AS.v ?_)|((with_reducible refine au ?_);refine cj ?_)|fail)
 refine AWD.defer (l:=[_]) (by decide) rfl (by decide) ?_
 repeat'(first|(with_reducible first|apply AW.seq|apply AW.skip|apply ae|apply y_e|refine ah ?_)|((with_reducible apply ak);refine t_v AS.v ?_)|((with_reducible refine au ?_);refine cj ?_)|fail)
 refine⟨.pl rfl,?_⟩
 repeat'((fail_if_success (with_reducible refine ct 7 ?_));(first|(with_reducible first|apply AW.seq|apply ae|apply aE|apply y_e|refine ah ?_)|((with_reducible apply ak);first|refine t_v AS.v ?_|refine t_w AS.w ?_|refine JZ (hP:=hG) (k1:=fun x k h=>?_) (k2:=fun e h=>?_))|fail))
 ·cases h
 ·injection h with h
  subst h
  refine RetD.mk (bx:=ftB Fa.zero) (bx':=ftB f) (.inr ⟨_,rfl,rfl⟩) rfl (vq _ _ hs) rfl (wG rfl) wI (n_c (sZ _) fun n hn=>by rw[List.mem_singleton.1 hn];rfl)
theorem JM (hbx:bx.one=true) (hg:tP g bx B sp) (hz:NZs sp):(∀ a,vr src sp= .ok a→MNL Tryz.prog 48 [(1001,bx)] [.c (sS src),.c (.fn g [.ptr 1001 0])] (.agg (faC Fa.zero)) [(1001,B a)])∧
 ∀ f,vr src sp= .error f→f.code≠0∧∃ o:HO,((∀ d,o.within d=true)∧∀ ns,o.ren ns=o)∧MNL Tryz.prog 48 [(1001,bx)] [.c (sS src),.c (.fn g [.ptr 1001 0])] (.agg (faC f)) [(1001,o)]:=by
 refine⟨fun a ha=>?_,fun f hf=>⟨GQ src hz hf,?_⟩⟩
 ·unfold vr at ha
  obtain ⟨l,hsc,ha⟩:=aB.1 ha
  split at ha
  ·rename_i h
   obtain ⟨⟨a',k',c'⟩,hsp,ha⟩:=aB.1 ha
   dsimp only at ha
   split at ha
   ·rename_i h0
    injection ha with ha
    subst ha
    exact JN hsc hbx hg h hsp h0
   ·cases ha
  ·cases ha
 ·unfold vr at hf
  rcases dw hf with hsc|⟨l,hsc,hf⟩
  ·exact⟨_,⟨fun d=>fG hbx,fun ns=>jC hbx⟩,Dy hsc⟩
  ·split at hf
   ·rename_i h
    rcases dw hf with hsp|⟨⟨a',k',c'⟩,hsp,hf⟩
    ·refine⟨_,⟨fun d=>rfl,fun ns=>rfl⟩,GS hsc hbx hg h hsp ?_⟩
     rcases (hz l ⟨0,h⟩ f hsp).2 with e|⟨t,ht,e⟩
     ·rw[e];decide
     ·rw[e];have:=zj hsc t ht;omega
    ·dsimp only at hf
     split at hf
     ·cases hf
     ·rename_i h0
      injection hf with hf
      subst hf
      have ho:(B a').one=true:=by
       have:=((hg l (ji hsc) h).hO (a',(k',c'))).2
       simp only[List.all_cons,List.all_nil,Bool.and_true,Bool.and_eq_true] at this
       exact this.2
      exact⟨_,⟨fun d=>fG ho,fun ns=>jC ho⟩,GR hsc hbx hg h hsp h0⟩
   ·rename_i h
    exact absurd (ji hsc).pos h
end
section
variable {P:Program} {ρ:Operand→Option V} {H:Nat→Option HO} {d:Option Nat} {ty:TypeId} {pos:String} {af:Array Edge} {gu:Option (Nat×Bool)} {x:Operand} {args:Array Operand} {ats:Array TypeId}
theorem I8 {f g n:Nat} {bx o:HO} {src:ByteArray} {r:V} (hP:MNL P f [(1001,bx)] [.c (sS src),.c (.fn g [.ptr 1001 0])] r [(1001,o)]) (hw:(∀ d,o.within d=true)∧∀ ns,o.ren ns=o) (hb:bx.one=true) (hr:V.ok noN r=true) (hx:Ev ρ x (.c (.fn f [])):=by exact az) (hv:EvL ρ args.toList [.c (sS src),.c (.fn g [.ptr n 0])]:=by(first|((repeat(first|exact .nil|((apply EvL.cons);(· (first|(refine .wh rfl ?_;first|assumption|(rw[hp];rfl)|(simp_all;done))|exact .pl rfl)))));done)|fail)) (hn:H n=some bx:=by rfl) :
 AS P ρ H ⟨d,.call {callee:=.value x,args:=args,argTypes:=ats},ty,pos,af,gu⟩ ⟨r,[(n,o)],[n]⟩:=by
 have hk:okB [1001] [(1001,n)]=true:=by simp[okB,byT,swT]
 have hu:RnL [(1001,n)] [1001] ([.c (sS src),.c (.fn g [.ptr n 0])]++([]:List C).map V.c) [.c (sS src),.c (.fn g [.ptr 1001 0])]:=.cl rfl (.fn1 rfl rfl .nil)
 obtain ⟨k1,k2⟩:=hu.ok hk
 have hg:GvL [(1001,n)] H [(1001,bx)]:=.cons hn hb .nil
 exact Is [(1001,n)] hx hv hP hk rfl k1 k2 hg.giv hg.within rfl (by simp[hw.1]) (mm _ hr) (mw _ hr) (by simp[tak,byT,hw.2]) rfl
end
end Am
end Go.Proofs.YtkpodagbefnebaaGreatDoor
