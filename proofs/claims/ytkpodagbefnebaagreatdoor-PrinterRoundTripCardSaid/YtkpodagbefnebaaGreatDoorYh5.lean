import Derived.Test.YtkpodagbefnebaaGreatDoorYh4
import Derived.Test.YtkpodagbefnebaaGreatDoorProg
import Derived.Lib.LaidTab
import Derived.Lib.ItoaNum
import Derived.Test.YtkpodagbefnebaaGreatDoorRows
import Derived.ProofKit
import Derived.OpenShut
import Derived.Deep.Slices
import Derived.Deep.Fields
import Derived.LaidMore
import Derived.LaidHandle
import Derived.Stop.Joined
import Derived.Stop.LaidErr
import Derived.WalkKit
import Derived.WalkLawsBesides
import Derived.Laws.IdiomStrings
import Derived.Test.YtkpodagbefnebaaGreatDoorYh2
set_option linter.unusedSimpArgs false
set_option linter.unusedVariables false
set_option linter.unusedSectionVars false
namespace Go.Proofs.YtkpodagbefnebaaGreatDoor
namespace Am
variable [Tb]
open Go.RowKit
section
variable {P:Program} {nt:Nat} {Q:Exit→St→Prop} {N:St→Prop} {σ:St} {id i:Nat} {y:Code} {l:List Oper}
def Ret (P:Program) (rl:List ResultVar) (r:V):Exit→St→Prop:=fun e σ=>(e= .ret∨e= .normal)∧∃ vs,ARes P σ rl vs∧(one vs).un=r
theorem ae (h:N σ):qk N Q .normal σ:=h
theorem aq (h:Q .ret σ):qk N Q .ret σ:=h
theorem aJ (h:Q (.exit i) σ):qk N Q (.exit i) σ:=h
theorem aw (h:Q .normal σ):jX id Q .normal σ:=h
theorem aG (h:Q .ret σ):jX id Q .ret σ:=h
theorem aW (h:Q .normal σ):jX id Q (.exit id) σ:=by simp only[jX,if_true];exact h
theorem r_b {t:Nat} {a b:Bool} (hx:Ev (evA σ.sl) (.tmp t) (.c (.sc (.bool a)))) (h:a=b):Ret P [.tmp t] (.c (.sc (.bool b))) .ret σ:=h▸⟨.inl rfl,[_],.tmp hx .nil,rfl⟩
theorem r_i {t:Nat} {k:IntKind} {a b:Int} (hx:Ev (evA σ.sl) (.tmp t) (.c (.sc (.int k a)))) (h:a=b):Ret P [.tmp t] (.c (.sc (.int k b))) .ret σ:=h▸⟨.inl rfl,[_],.tmp hx .nil,rfl⟩
theorem r_s {t:Nat} {a b:ByteArray} (hx:Ev (evA σ.sl) (.tmp t) (.c (.sc (.string a)))) (h:a=b):Ret P [.tmp t] (.c (.sc (.string b))) .ret σ:=h▸⟨.inl rfl,[_],.tmp hx .nil,rfl⟩
theorem Ko {a b:Bool} (h:a=b):(V.c (.sc (.bool a))).un= .c (.sc (.bool b)):=h▸rfl
theorem qG {k:IntKind} {a b:Int} (h:a=b):(V.c (.sc (.int k a))).un= .c (.sc (.int k b)):=h▸rfl
theorem qH {a b:ByteArray} (h:a=b):(V.c (.sc (.string a))).un= .c (.sc (.string b)):=h▸rfl
theorem ED {a b:List C} (h:unL a=b):(V.agg a).un= .agg b:=h▸rfl
theorem r_0:Ret P [] (.tup []) .ret σ:=⟨.inl rfl,[],.nil,rfl⟩
theorem xv:Ret P [] (.tup []) .normal σ:=⟨.inr rfl,[],.nil,rfl⟩
theorem r_2 {t u:Nat} {v1 v2 u1 u2:V} (h1:Ev (evA σ.sl) (.tmp t) v1) (h2:Ev (evA σ.sl) (.tmp u) v2) (e1:v1.un=u1) (e2:v2.un=u2):Ret P [.tmp t,.tmp u] (.tup [u1,u2]) .ret σ:=by
 subst e1 e2
 exact⟨.inl rfl,[v1,v2],.tmp h1 (.tmp h2 .nil),rfl⟩
theorem MI {t u ty n off ty0 k:Nat} {cs:List C} {b:Bool} {v1 v2 u1 u2:V} (h1:Ev (evA σ.sl) (.tmp t) v1) (h2:Ev (evA σ.sl) (.tmp u) (.c (.ptr n off))) (hh:σ.hp n=some (.obj ty0 cs)) (ht:tyi P ty=some (k,b)) (hc:aU b cs off k=some v2) (e1:v1.un=u1) (e2:v2.un=u2):Ret P [.tmp t,.cell u ty] (.tup [u1,u2]) .ret σ:=by
 subst e1 e2
 exact⟨.inl rfl,[v1,v2],.tmp h1 (.cell h2 hh ht hc .nil),rfl⟩
theorem m_b {rl:List ResultVar} {r:V} {ty e:TypeId} {bs bs':List Value} {x:Exit} (hh:σ.hp 0=some (.bld ty e bs)) (h:bs=bs') (k:Ret P rl r x σ):EY P rl r (.bld ty e bs') x σ:=⟨k.1,⟨_,hh,by rw[h];rfl⟩,k.2⟩
end
section
variable {P:Program} {f nt:Nat} {fn:Func} {c:Code} {rl:List ResultVar} {r a0 a1 a2 a3 a4:V}
theorem fn0 (hc:bJ P f) (hf:P.funcs[f]? =some fn) (hb:fn.body=some c) (hn:fn.ntmps=nt) (hres:fn.results=rl.toArray) (hl:Nat.ble 0 nt=true) (hr:V.ok noN r=true) (h:AW P nt c (Ret P rl r) (mk [] [])):Pure P f [] r:=
 Pure.of hc hf hb hn (Nat.le_of_ble_eq_true hl) hr (by
  have e:(⟨fun i=>([]:List V)[i]?,fun _=>none⟩:St)=mk [] []:=by congr
  rw[e,hres];exact h)
theorem fn1 (hc:bJ P f) (hf:P.funcs[f]? =some fn) (hb:fn.body=some c) (hn:fn.ntmps=nt) (hres:fn.results=rl.toArray) (hl:Nat.ble 1 nt=true) (hr:V.ok noN r=true) (h:AW P nt c (Ret P rl r) (mk [(0,a0)] [])):Pure P f [a0] r:=
 Pure.of hc hf hb hn (Nat.le_of_ble_eq_true hl) hr (by
  have e:(⟨fun i=>[a0][i]?,fun _=>none⟩:St)=mk [(0,a0)] []:=by
   congr 1
   funext i
   match i with
   |0=>rfl
   |i+1=>rfl
  rw[e,hres];exact h)
theorem fn2 (hc:bJ P f) (hf:P.funcs[f]? =some fn) (hb:fn.body=some c) (hn:fn.ntmps=nt) (hres:fn.results=rl.toArray) (hl:Nat.ble 2 nt=true) (hr:V.ok noN r=true) (h:AW P nt c (Ret P rl r) (mk [(0,a0),(1,a1)] [])):Pure P f [a0,a1] r:=
 Pure.of hc hf hb hn (Nat.le_of_ble_eq_true hl) hr (by
  have e:(⟨fun i=>[a0,a1][i]?,fun _=>none⟩:St)=mk [(0,a0),(1,a1)] []:=by
   congr 1
   funext i
   match i with
   |0=>rfl
   |1=>rfl
   |i+2=>rfl
  rw[e,hres];exact h)
theorem fn3 (hc:bJ P f) (hf:P.funcs[f]? =some fn) (hb:fn.body=some c) (hn:fn.ntmps=nt) (hres:fn.results=rl.toArray) (hl:Nat.ble 3 nt=true) (hr:V.ok noN r=true) (h:AW P nt c (Ret P rl r) (mk [(0,a0),(1,a1),(2,a2)] [])):Pure P f [a0,a1,a2] r:=
 Pure.of hc hf hb hn (Nat.le_of_ble_eq_true hl) hr (by
  have e:(⟨fun i=>[a0,a1,a2][i]?,fun _=>none⟩:St)=mk [(0,a0),(1,a1),(2,a2)] []:=by
   congr 1
   funext i
   match i with
   |0=>rfl
   |1=>rfl
   |2=>rfl
   |i+3=>rfl
  rw[e,hres];exact h)
theorem fm2 {o o':HO} (hc:bJ P f) (hf:P.funcs[f]? =some fn) (hb:fn.body=some c) (hn:fn.ntmps=nt) (hres:fn.results=rl.toArray) (hl:Nat.ble 2 nt=true) (hr:V.ok noN r=true) (h1:o.one=true) (h2:o'.one=true) (h:AW P nt c (EY P rl r o') (mk [(0,.c (.ptr 0 0)),(1,a1)] [(0,o)])):MC P f o [a1] r o':=
 MC.of hc hf hb hn (Nat.le_of_ble_eq_true hl) hr h1 h2 (by
  have e:(⟨fun i=>([V.c (.ptr 0 0),a1]:List V)[i]?,fun n=>if n=0 then some o else none⟩:St)=mk [(0,.c (.ptr 0 0)),(1,a1)] [(0,o)]:=by
   congr 1
   ·funext i
    match i with
    |0=>rfl
    |1=>rfl
    |i+2=>rfl
   ·funext i
    match i with
    |0=>rfl
    |i+1=>rfl
  rw[e,hres];exact h)
theorem fm3 {o o':HO} (hc:bJ P f) (hf:P.funcs[f]? =some fn) (hb:fn.body=some c) (hn:fn.ntmps=nt) (hres:fn.results=rl.toArray) (hl:Nat.ble 3 nt=true) (hr:V.ok noN r=true) (h1:o.one=true) (h2:o'.one=true) (h:AW P nt c (EY P rl r o') (mk [(0,.c (.ptr 0 0)),(1,a1),(2,a2)] [(0,o)])):MC P f o [a1,a2] r o':=
 MC.of hc hf hb hn (Nat.le_of_ble_eq_true hl) hr h1 h2 (by
  have e:(⟨fun i=>([V.c (.ptr 0 0),a1,a2]:List V)[i]?,fun n=>if n=0 then some o else none⟩:St)=mk [(0,.c (.ptr 0 0)),(1,a1),(2,a2)] [(0,o)]:=by
   congr 1
   ·funext i
    match i with
    |0=>rfl
    |1=>rfl
    |2=>rfl
    |i+3=>rfl
   ·funext i
    match i with
    |0=>rfl
    |i+1=>rfl
  rw[e,hres];exact h)
end
section
variable {P:Program} {ρ:Operand→Option V} {H:Nat→Option HO} {d:Option Nat} {ty:TypeId} {pos:String} {af:Array Edge} {gu:Option (Nat×Bool)} {x:Operand}
end
section
variable {P:Program} {ρ:Operand→Option V} {H:Nat→Option HO} {d:Option Nat} {ty:TypeId} {pos:String} {af:Array Edge} {gu:Option (Nat×Bool)} {x:Operand}
theorem KD {args:Array Operand} {ats:Array TypeId} {f:Nat} {caps:List C} {vs us:List V} {r:V} {ns:List Nat} (hx:Ev ρ x (.c (.fn f caps))) (hv:EvL ρ args.toList vs) (hn:(vs++caps.map V.c).flatMap ptV=ns) (hu:(vs++caps.map V.c).map (snV H)=us) (hP:Pure P f us r) (hok:okV noN us=true) (hsc:scO r=true) :
 AS P ρ H ⟨d,.call {callee:=.value x,args:=args,argTypes:=ats},ty,pos,af,gu⟩ ⟨r,[],ns⟩:=.callE rfl hx hv hn hu hok hP hsc
theorem KI {args:Array Operand} {ats:Array TypeId} {f n:Nat} {us:List V} {r:V} {ob ob':HO} (hx:Ev ρ x (.c (.fn f []))) (hv:EvL ρ args.toList (.c (.ptr n 0) :: us)) (hn:H n=some ob) (hP:MC P f ob us r ob') (hok:okV noN us=true) (h1:ob.one=true) (h2:ob'.one=true) :
 AS P ρ H ⟨d,.call {callee:=.value x,args:=args,argTypes:=ats},ty,pos,af,gu⟩ ⟨r,[(n,ob')],[n]⟩:=.callM rfl hx hv (by rw[List.map_nil,List.append_nil]) hn h1 h2 hok hP
theorem IH (a b:Nat):Nat.beq a b=decide (a=b):=by rw[Bool.eq_iff_iff];simp
theorem fP (d:Nat→Bool):∀ a b:List V,okV d (a++b)=(okV d a&&okV d b)
 |[],b=>by rw[List.nil_append,okV,Bool.true_and]
 |x :: a,b=>by rw[List.cons_append,okV,okV,fP d a b,Bool.and_assoc]
theorem fQ (d:Nat→Bool):∀ l:List C,okV d (l.map V.c)=okL d l
 |[]=>rfl
 |x :: l=>by rw[List.map_cons,okV,okL,fQ d l];rfl
end
theorem AW.fact {P:Program} {nt:Nat} {c:Code} {Q:Exit→St→Prop} {σ:St} {F:Prop} {t:Nat} {v:V} (hx:σ.sl t=some v) (hF:∀ (κ:K) (w:World) (x:Value),RepV κ w v x→F) (k:F→AW P nt c Q σ):AW P nt c Q σ:=fun X a w κ hX g=>by
 obtain ⟨x,_,hr⟩:=g.sl t v hx
 exact k (hF κ w x hr) X a w κ hX g
theorem Lr {κ:K} {w:World} {s:ByteArray} {x:Value} (h:Rep κ w (.sc (.string s)) x):s.size≤9223372036854775807:=by
 cases h with|sc h=>exact of_decide_eq_true h
theorem lD {κ:K} {w:World} {s:ByteArray} {x:Value} (h:RepV κ w (.c (.sc (.string s))) x):s.size≤9223372036854775807:=by
 cases h with|c h=>exact Lr h
theorem I0 {κ:K} {w:World} {t:Option Nat} {k:Nat} {xs:List (List C)} {x:Value} (h:Rep κ w (.lst t k xs) x):xs.length≤9223372036854775807:=by
 cases h with|lst cv hn hk h1 h2=>unfold maxLen at h2;omega
theorem JJ {κ:K} {w:World} {t:Option Nat} {k:Nat} {xs:List (List C)} {x:Value} (h:RepV κ w (.c (.lst t k xs)) x):xs.length≤9223372036854775807:=by
 cases h with|c h=>exact I0 h
theorem dq {κ:K} {w:World} {t:Option Nat} {k:Nat} {α:Type} {f:α→List C} {l:List α} {x:Value} (h:RepV κ w (.c (.lst t k (l.map f))) x):l.length≤9223372036854775807:=by
 have:=JJ h;rwa [List.length_map] at this
theorem Du {κ:K} {w:World} {cs:List C} {vs:List Value} (h:Reps κ w cs vs) {c:C} (hc:c∈cs):∃ v,Rep κ w c v:=by
 obtain ⟨j,hj⟩:=List.mem_iff_getElem?.1 hc
 obtain ⟨v,_,hv⟩:=h.get hj
 exact⟨v,hv⟩
theorem Pure.of_calls {P:Program} {f:FuncId} {vs:List Value} {r:V} {x:Value} (hc:bJ P f) (hr:Conc r x) (h:(∀ v∈vs,jG v=true)→∀ w,Calls P f vs.toArray w fun e w'=>e= .returned x∧w=w'):Pure P f (vs.map fun v=>.c (.sc v)) r:=
 ⟨hc,fun w S us _ hS hu=>by
  have hl:us.toList.length=vs.length:=by have:=hu.1;simpa using this.symm
  have he:us=vs.toArray:=by
   apply Array.ext'
   apply List.ext_getElem? 
   intro j
   rcases Nat.lt_or_ge j vs.length with hj|hj
   ·have h1:us.toList[j]? =some us.toList[j]:=List.getElem?_eq_getElem (by omega)
    have h2:=hu.2 j (.c (.sc vs[j])) _ (by rw[List.getElem?_map,List.getElem?_eq_getElem hj];rfl) h1
    have h3:=Cq.uniq .sc h2
    rw[h1,h3]
    simp[hj]
   ·rw[List.getElem?_eq_none (by omega),List.getElem?_eq_none (by simpa using hj)]
  subst he
  refine(h (fun v hv=>?_) w).mono fun e w' he=>?_
  ·obtain ⟨j,hj⟩:=List.mem_iff_getElem?.1 hv
   have h2:=hu.2 j (.c (.sc v)) v (by rw[List.getElem?_map,hj];rfl) (by simpa using hj)
   cases h2 with|c h2=>(cases h2 with|sc h2=>exact h2)
  ·obtain ⟨rfl,rfl⟩:=he
   exact⟨x,rfl,Keep.refl _ _,hr.rep⟩⟩
theorem CM {α β:Type} {f:α→β} {l:List α} {j:Nat} {x:α} (h:l[j]? =some x):(l.map f)[j]? =some (f x):=by rw[List.getElem?_map,h];rfl
theorem er (b:Bool) (cs:List C) (o off k:Nat) (ho:o≤cs.length):aU b (cs.drop o) off k=aU b cs (o+off) k:=by
 unfold aU
 rw[List.length_drop,List.drop_drop,List.getElem?_drop]
 by_cases h:off+k≤cs.length - o
 ·have:o+off+k≤cs.length:=by omega
  simp[h,this]
 ·have:¬ (o+off+k≤cs.length):=by omega
  simp[h,this]
theorem Mk {l l':List (Nat×V)} {h h':List (Nat×HO)} (hs:∀ p∈l',∃ u,look l p.1=some u∧(u=p.2∨u.un=p.2)∧V.ok (fun n=>(look h' n).isSome) p.2=true)
 (hh:∀ p∈h',∃ u,look h p.1=some u∧(u=p.2∨u.un=p.2)∧p.2.ok (fun n=>(look h' n).isSome)=true) (h0:(h.all fun p=>!(Nat.beq p.1 0 || Nat.ble 1000 p.1) || (look h' p.1).isSome)=true):Wk (mk l h) (mk l' h'):=by
 have lm:∀ {α:Type} {l:List (Nat×α)} {n:Nat} {v:α},look l n=some v→(n,v)∈l:=by
  intro α l
  induction l with
  |nil=>intro n v h;cases h
  |cons p l ih=>
   intro n v h
   obtain ⟨k,u⟩:=p
   unfold look at h
   cases hb:Nat.beq k n with
   |true=>rw[hb] at h;injection h with h;rw[h,Nat.eq_of_beq_eq_true hb];exact .head _
   |false=>rw[hb] at h;exact .tail _ (ih h)
 refine Wk.forget (fun t v hv=>hs (t,v) (lm hv)) (fun n o ho=>hh (n,o) (lm ho)) fun n hn hs=>?_
 obtain ⟨o,ho⟩:=Option.isSome_iff_exists.1 hs
 have hm:=List.all_eq_true.1 h0 (n,o) (lm ho)
 have hb:(Nat.beq n 0 || Nat.ble 1000 n)=true:=by
  rcases hn with rfl|hn
  ·rfl
  ·rw[Bool.or_eq_true];exact .inr (by rw[Nat.ble_eq];exact hn)
 simp only[hb,Bool.not_true,Bool.false_or] at hm
 exact hm
theorem wkA {l l':List (Nat×V)} {h h':List (Nat×HO)} (hs:∀ p∈l',∃ u,look l p.1=some u∧(u=p.2∨u.un=p.2)∧V.ok (fun n=>(look h' n).isSome) p.2=true:=by(repeat(first|exact all_nil|((refine all_cons ⟨_,rfl,.inl rfl,?_⟩ ?_);(· (first|rfl|exact HY rfl|exact sT _ _ _ _ rfl rfl|exact D5 _ _ _ rfl|exact D7 _ _ rfl|exact D8 _ _ rfl|exact D9 _ _ rfl|(simp[V.ok,okL,C.ok,okA,HO.ok];done)|(change okL _ _=true;assumption))))));done) (hh:∀ p∈h',∃ u,look h p.1=some u∧(u=p.2∨u.un=p.2)∧p.2.ok (fun n=>(look h' n).isSome)=true:=by(repeat(first|exact all_nil|((refine all_cons ⟨_,rfl,.inl rfl,?_⟩ ?_);(· (first|rfl|exact HY rfl|exact sT _ _ _ _ rfl rfl|exact D5 _ _ _ rfl|exact D7 _ _ rfl|exact D8 _ _ rfl|exact D9 _ _ rfl|(simp[V.ok,okL,C.ok,okA,HO.ok];done)|(change okL _ _=true;assumption))))));done) (h0:(h.all fun p=>!(Nat.beq p.1 0 || Nat.ble 1000 p.1) || (look h' p.1).isSome)=true:=by first|rfl|exact fun h=>h):Wk (mk l h) (mk l' h'):=Mk hs hh h0
theorem all_nil {α:Type} {p:α→Prop}:∀ x∈([]:List α),p x:=fun x h=>by cases h
theorem all_cons {α:Type} {p:α→Prop} {a:α} {l:List α} (h:p a) (hl:∀ x∈l,p x):∀ x∈a :: l,p x:=fun x hx=>by
 rcases List.mem_cons.1 hx with rfl|hx
 ·exact h
 ·exact hl x hx
end Am
namespace Am
set_option maxRecDepth 100000
instance:Tb where
 T w:=Lib.TabIs Tryz.prog w "internal/strconv.uint64pow10" .u64 Lib.pow10Tab
 G b:=Tryz.prog.globalNamed "internal/strconv.uint64pow10" =some b
 lt w b hT hG:=by
  rcases Nat.lt_or_ge b w.heap.size with h|h
  ·exact h
  ·exfalso
   simp[Lib.TabIs,World.var?,hG,Array.getElem?_eq_none h] at hT
 keep w w' hT h:=by
  cases hg:Tryz.prog.globalNamed "internal/strconv.uint64pow10" with
  |none=>simp[Lib.TabIs,World.var?,hg] at hT
  |some b=>
   have e:=h b hg
   simp only[Lib.TabIs,World.var?,hg,Option.bind_some] at hT ⊢
   rw[e];exact hT
def tyT:List (Nat×(Nat×Bool)):=[(2,(1,false)),(3,(1,false)),(4,(1,false)),(5,(1,false)),(9,(1,false)),(20,(1,false)),(21,(1,false)),(23,(1,false)),(25,(3,true)),(26,(1,false)),(28,(2,true)),(30,(4,true)),(35,(1,false)),(36,(1,false)),(43,(1,false)),(44,(1,false)),(46,(4,true)),(47,(1,false)),(49,(10,true)),(60,(5,true)),(61,(1,false)),(63,(2,true)),(65,(4,true)),(67,(7,true)),(69,(55,true)),(84,(1,false)),(87,(1,false)),(88,(1,false)),(99,(4,true)),(101,(1,false)),(116,(1,false)),(117,(1,false)),(119,(2,true)),(121,(2,true)),(125,(1,false)),(127,(4,true)),(130,(4,true)),(134,(1,false)),(139,(7,true)),(152,(1,false)),(154,(4,true)),(158,(4,true)),(160,(1,false)),(162,(3,true)),(165,(1,false)),(170,(2,true)),(181,(1,false)),(183,(1,false)),(189,(1,false)),(200,(1,false)),(205,(1,false)),(208,(1,false)),(226,(1,false)),(234,(1,false)),(241,(1,false)),(243,(24,true)),(249,(1,false)),(253,(1,false)),(255,(3,true)),(263,(1,false)),(265,(20,true)),(266,(1,false)),(267,(65,true)),(273,(1,true)),(283,(32,true)),(284,(64,true))]
def fldT:List (Nat×(Nat×Nat)):=[(2500,(0,9)),(2501,(1,3)),(2502,(2,23)),(2800,(0,3)),(2801,(1,3)),(3000,(0,26)),(3001,(1,28)),(3002,(3,9)),(4900,(0,3)),(4901,(1,3)),(4902,(2,3)),(4903,(3,3)),(4904,(4,43)),(4905,(5,46)),(4906,(9,47)),(6000,(0,4)),(6001,(1,4)),(6002,(2,4)),(6003,(3,43)),(6004,(4,43)),(6300,(0,9)),(6301,(1,61)),(6500,(0,63)),(6501,(2,63)),(6700,(0,9)),(6701,(1,9)),(6702,(2,9)),(6703,(3,65)),(6900,(0,3)),(6901,(1,3)),(6902,(2,28)),(6903,(4,9)),(6904,(5,9)),(6905,(6,9)),(6906,(7,43)),(6907,(8,43)),(6908,(9,60)),(6909,(14,60)),(6910,(19,60)),(6911,(24,60)),(6912,(29,49)),(6913,(39,63)),(6914,(41,65)),(6915,(45,67)),(6916,(52,4)),(6917,(53,23)),(6918,(54,23)),(9900,(0,3)),(9901,(1,9)),(9902,(2,28)),(11900,(0,116)),(11901,(1,117)),(12100,(0,119)),(12700,(0,30)),(13000,(0,36)),(13001,(1,3)),(13002,(2,3)),(13003,(3,3)),(13900,(0,36)),(13901,(1,3)),(13902,(2,30)),(13903,(6,3)),(15400,(0,9)),(15401,(1,3)),(15402,(2,28)),(15800,(0,30)),(16200,(0,36)),(16201,(1,3)),(16202,(2,3)),(17000,(0,9)),(17001,(1,9)),(25500,(0,9)),(25501,(1,9)),(25502,(2,134)),(27300,(0,9))]
def sleT:List (Nat×(Nat×Nat)):=[(23,(69,55)),(36,(99,4)),(43,(9,1)),(47,(49,10)),(61,(170,2)),(117,(5,1)),(208,(63,2)),(234,(3,1))]
theorem j7 {α:Type}:∀ {l:List (Nat×α)} {n:Nat} {v:α},look l n=some v→(n,v)∈l
 |[],_,_,h=>by cases h
 |(k,u) :: l,n,v,h=>by
  unfold look at h
  cases hb:Nat.beq k n with
  |true=>rw[hb] at h;injection h with h;rw[h,Nat.eq_of_beq_eq_true hb];exact .head _
  |false=>rw[hb] at h;exact .tail _ (j7 h)
theorem Hg:tyT.all (fun p=>decide (tyi Tryz.prog p.1=some p.2))=true:=by decide +kernel
theorem Cb:fldT.all (fun p=>decide (fld Tryz.prog (p.1 / 100) (p.1 % 100)=some p.2))=true:=by decide +kernel
theorem DJ:sleT.all (fun p=>decide (sle Tryz.prog p.1=some p.2))=true:=by decide +kernel
theorem dT {t k:Nat} {b:Bool} (h:look tyT t=some (k,b)):tyi Tryz.prog t=some (k,b):=of_decide_eq_true (List.all_eq_true.1 Hg _ (j7 h))
theorem cC {t e k:Nat} (h:look sleT t=some (e,k)):sle Tryz.prog t=some (e,k):=of_decide_eq_true (List.all_eq_true.1 DJ _ (j7 h))
theorem FO {s f o u:Nat} (h:look fldT (s*100+f)=some (o,u)) (hf:f<100):fld Tryz.prog s f=some (o,u):=by
 have:=of_decide_eq_true (List.all_eq_true.1 Cb _ (j7 h))
 have e1:(s*100+f) / 100=s:=by omega
 have e2:(s*100+f) % 100=f:=by omega
 simp only[e1,e2] at this
 exact this
theorem lY {s f o u:Nat} (h:look fldT (s*100+f)=some (o,u)) (hf:Nat.blt f 100=true):fld Tryz.prog s f=some (o,u):=FO h (Nat.le_of_ble_eq_true hf)
def JK:C→Value→Bool
 | .sc (.int k n),.int k' n'=>decide (k=k')&&decide (n=n')
 | .sc (.bool a),.bool b=>decide (a=b)
 | .sc (.string s),.string t=>decide (s.data.toList=t.data.toList)&&decide (s.size≤9223372036854775807)
 | .sc .nilFunc,.nilFunc=>true
 | .sc .nilIface,.nilIface=>true
 | .sc (.pointer none),.pointer none=>true
 | .sc (.map none),.map none=>true
 | .nil,.slice none 0 0=>true
 | .lst none _ [],.slice none 0 0=>true
 |_,_=>false
theorem Ds {κ:K} {w:World} {c:C} {v:Value} (h:JK c v=true):Rep κ w c v:=by
 unfold JK at h
 split at h <;> first|(exact Rep.sc rfl)|(exact .nil)|(cases h;done)|skip
 ·rw[Bool.and_eq_true] at h
  rw[of_decide_eq_true h.1,of_decide_eq_true h.2]
  exact .sc rfl
 ·rw[of_decide_eq_true h];exact .sc rfl
 ·rw[Bool.and_eq_true] at h
  have h1:=of_decide_eq_true h.2
  have h:=of_decide_eq_true h.1
  have:∀ {s t:ByteArray},s.data.toList=t.data.toList→s=t:=fun h=>ByteArray.ext (Array.ext' h)
  rw[← this h];exact .sc (decide_eq_true h1)
 ·exact .lst (fun _ _=>default) rfl (fun x hx=>by cases hx) (Nat.le_refl _) (Nat.zero_le _) (.inl rfl) (fun i j x c hx=>by cases hx) fun τ e=>by cases e
def zb:List C→List Value→Bool
 |[],[]=>true
 |c :: cs,v :: vs=>JK c v&&zb cs vs
 |_,_=>false
theorem rq {κ:K} {w:World}:∀ {cs:List C} {vs:List Value},zb cs vs=true→Reps κ w cs vs
 |[],[],_=>.nil
 |c :: cs,v :: vs,h=>by
  rw[zb,Bool.and_eq_true] at h
  exact .cons (Ds h.1) (rq h.2)
 |[],_ :: _,h=>by cases h
 |_ :: _,[],h=>by cases h
def zwB (P:Program) (t:Nat) (cs:List C):Bool:=match P.info? t with|some i=>(match i.zero with|some z=>zb cs z.cells.toList|none=>false)|none=>false
theorem Zw.of {P:Program} {t:Nat} {cs:List C} (h:zwB P t cs=true):Zw P t cs:=by
 unfold zwB at h
 cases hi:P.info? t with
 |none=>rw[hi] at h;cases h
 |some i=>
  rw[hi] at h
  cases hz:i.zero with
  |none=>simp only[hz] at h;cases h
  |some z=>simp only[hz] at h;exact⟨i,z,hi,hz,fun κ w=>rq h⟩
def zwT:List (Nat×List C):=[(3,[sI 0]),(4,[sB false]),(9,[sS ⟨#[]⟩]),(23,[.nil]),(25,moC Mo.zero),(26,[sI 0]),(28,poC Po.zero),(30,faC Fa.zero),(36,[.nil]),(43,[.nil]),(46,seC Se.zero),(47,[.nil]),(49,exC Ex.zero),(60,nsC NS.zero),(61,[.nil]),(63,lvC Lv.zero),(65,rgC Rg.zero),(67,cxC Ct.zero),(69,stC Stm.zero),(99,tkC Tok.zero),(117,[.nil]),(127,faC Fa.zero),(130,psC Ps.zero),(139,qsC Qs.zero),(154,snR Sc.zero),(158,faC Fa.zero),(162,bsC Bs.zero),(170,spC Sp.zero),(208,[.nil]),(234,[.nil])]
theorem Hy:zwT.all (fun p=>zwB Tryz.prog p.1 p.2)=true:=by decide +kernel
theorem ba {t:Nat} {cs:List C} (h:look zwT t=some cs):Zw Tryz.prog t cs:=Zw.of (List.all_eq_true.1 Hy _ (j7 h))
def plT (t i:Nat):Option (Nat×Nat):=match look fldT (t*100+i) with
 |some (o,u)=>match Nat.blt i 100,look tyT u with
  |true,some (k,_)=>some (o,k)
  |_,_=>none
 |none=>none
theorem qY {p q:Nat→Option (Nat×Nat)} (h:∀ i x,p i=some x→q i=some x):∀ {ps:List (Nat×List C)} {zs cs:List C},gw p zs ps=some cs→gw q zs ps=some cs
 |[],_,_,hf=>hf
 |(i,ds) :: ps,zs,cs,hf=>by
  unfold gw at hf ⊢
  cases hp:p i with
  |none=>rw[hp] at hf;cases hf
  |some x=>
   rw[hp] at hf
   rw[h i x hp]
   simp only at hf ⊢
   split at hf
   ·rename_i hl
    rw[if_pos hl]
    cases hs:aZ zs x.1 ds with
    |none=>rw[hs] at hf;cases hf
    |some c2=>rw[hs] at hf;exact qY h hf
   ·cases hf
theorem bq {ρ:Operand→Option V} {H:Nat→Option HO} {d:Option Nat} {ty:TypeId} {pos:String} {af:Array Edge} {gu:Option (Nat×Bool)} {t:Nat} {parts:Array (Nat×Operand)} {zs cs:List C} {ps:List (Nat×List C)} (hz:Zw Tryz.prog t zs) (hp:(places Tryz.prog t).isSome=true) (hs:(match Tryz.prog.underlying t with|some (.struct _)=>true|_=>false)=true) (hv:EvP ρ parts.toList ps) (hf:gw (plT t) zs ps=some cs) :
 AS Tryz.prog ρ H ⟨d,.build t parts,ty,pos,af,gu⟩ ⟨.agg cs,[],[]⟩:=by
 cases hpl:places Tryz.prog t with
 |none=>rw[hpl] at hp;cases hp
 |some pl=>
  refine .build rfl hz hpl hv (qY (fun i x hx=>?_) hf)
  unfold plT at hx
  split at hx
  ·rename_i o u ho
   split at hx
   ·rename_i k b hi hk
    injection hx with hx
    subst hx
    have h1:=lY ho hi
    obtain ⟨inf,dd,h2,_,h3,_⟩:=kp (dT hk)
    unfold fld at h1
    unfold places at hpl
    split at h1
    ·rename_i fs hu
     rw[hu] at hpl
     simp only at hpl
     split at hpl
     ·injection hpl with hpl
      subst hpl
      split at h1
      ·rename_i q hq
       split at h1
       ·cases h1
       ·injection h1 with h1
        injection h1 with h4 h5
        subst h4 h5
        simp only[hq,Option.map_some,Program.cellsOf,h2,h3,Option.getD_some]
      ·cases h1
     ·cases hpl
    ·cases h1
   ·cases hx
  ·cases hx
theorem zC {ρ:Operand→Option V} {H:Nat→Option HO} {d:Option Nat} {ty:TypeId} {pos:String} {af:Array Edge} {gu:Option (Nat×Bool)} {t:Nat} {zs:List C} (hz:Zw Tryz.prog t zs) (hp:(places Tryz.prog t).isSome=true):AS Tryz.prog ρ H ⟨d,.build t #[],ty,pos,af,gu⟩ ⟨.agg zs,[],[]⟩:=by
 cases hpl:places Tryz.prog t with
 |none=>rw[hpl] at hp;cases hp
 |some pl=>exact .build rfl hz hpl .nil rfl
end Am
namespace Am
open Go.ChangeShapes Go.WideShapes Go.ChangeAt Go.RowKit
set_option maxRecDepth 100000
theorem own:ownKnob Tryz.prog.godebug=none:=by kernel_rfl
theorem laidOut:laidOutB Tryz.prog=true:=by kernel_rfl
section
variable {H:Type} {enc:TypeId×Value→H} {P:Program}
theorem post_grown {f:Func} {s:ChangeSpec} {apart fresh handsOn again:Bool} {W W':World} {args:Array Value} {v:Value} {ds gs:List (DataW H)} {before pa pv:List MemPlace}
 (hW:DataW.Whole enc P f.params.toList s.vars apart W args.toList ds gs before)
 (hres:∀ (b:Nat) (sp:Nat→Bool) (hd:Bool),DataW.TrodAll enc P W' b sp hd f.resultTypes.toList (v.resultList f.resultTypes.size) (s.fn H (ds++gs)).results [])
 (hargs:∀ sp:Nat→Bool,(∀ p∈before,sp p.block=true)→DataW.TrodAll enc P W' 0 sp true f.params.toList args.toList (s.fn H (ds++gs)).args pa)
 (hvars:∀ sp:Nat→Bool,(∀ p∈before,sp p.block=true)→DataW.TrodVars enc P W' sp s.vars (s.fn H (ds++gs)).vars pv)
 (hps:before=pa++pv) (hb:Below W.heap.size W W')
 (hok:∀ (j:Nat) (t:TypeId) (r:Value),f.resultTypes[j]? =some t→(v.resultList f.resultTypes.size)[j]? =some r→Value.okWide P W' .any 0 t r) :
 s.post enc P f apart fresh handsOn again W args v W':=by
 have hlt:∀ p∈before,p.block<W.heap.size:=fun p hp=>hW.lt p hp
 have hold:∀ p∈before,(fun b=>decide (b<W.heap.size)) p.block=true:=fun p hp=>by simpa using hlt p hp
 refine⟨ds,gs,before,[],pa,pv,hW,hres _ _ _,hargs _ hold,hvars _ hold,World.keptBut_mono (fun p hp=>⟨hp,?_⟩) (hb.frame (·∈before)),fun _=>?_⟩
 ·rw[hps,List.mem_append] at hp
  exact Or.inr hp
 ·obtain ⟨_,_,_,_,_,hz,hn⟩:=hW
  refine⟨hok,_,_,([]++pa)++pv,⟨[]++pa,pv,trodAll_append (hargs _ (fun _ _=>rfl)) (hres _ _ _),hvars _ (fun _ _=>rfl),rfl,?_,?_⟩,?_⟩
  ·intro b off hp
   have hin:MemPlace.cell b off∈before:=by rw[hps];simpa using hp
   rw[hb.frozen (hlt _ hin)]
   exact hz b off hin
  ·intro ha
   have:=hn ha
   rw[hps] at this
   simpa using this
  ·intro p hp _
   rw[hps]
   simpa using hp
theorem trod_grown {t:TypeId} (hl:laidOutB P=true) (hr:P.readableRec t=true) (hrow:t<P.types.size) {W W':World} {sp:Nat→Bool} {v:Value} {d:DataW H} {ps:List MemPlace}
 (h:DataW.Trod enc P W 0 (fun _=>true) true t v d ps) (hb:Below W.heap.size W W') (hlt:∀ x∈ps,x.block<W.heap.size) (hs:∀ x∈ps,sp x.block=true):DataW.Trod enc P W' 0 sp true t v d ps:=
 WideElems.Trod_stays hl hr hrow h (fun x hx=>hb.same (hlt x hx)) hs
end
theorem aN {fs:Array Field} {l:List (TypeId×Nat)} (h:fs.toList.map (fun f=>(f.type,f.offset))=l) (i:Nat) (p:TypeId×Nat) (hp:l[i]? =some p):∃ f,fs[i]? =some f∧f.type=p.1∧f.offset=p.2:=by
 subst h
 rw[List.getElem?_map,Array.getElem?_toList] at hp
 cases hf:fs[i]? with
 |none=>rw[hf] at hp;cases hp
 |some f=>rw[hf] at hp;injection hp with hp;subst hp;exact⟨f,rfl,rfl,rfl⟩
theorem aK {α:Type} {xs:List α} {i:Nat} {n:Nat} (h:xs.length=n) (hi:i<n):∃ x,xs[i]? =some x:=⟨_,List.getElem?_eq_getElem (by omega)⟩
theorem add_add (b o i j:Nat):((⟨b,o,none⟩:Addr).add i).add j=⟨b,o+i+j,none⟩:=by
 have e:∀ o j,(⟨b,o,none⟩:Addr).add j=⟨b,o+j,none⟩:=fun o j=>by unfold Addr.add;split <;> simp_all
 rw[e,e]
theorem nv {α:Type} {p:Nat→α→Prop}:∀ (n:Nat),(∀ i,i<n→∃ x,p i x)→∃ xs:List α,xs.length=n∧∀ i x,xs[i]? =some x→p i x
 |0,_=>⟨[],rfl,by simp⟩
 |n+1,h=>by
  obtain ⟨xs,h1,h2⟩:=nv n fun i hi=>h i (by omega)
  obtain ⟨x,hx⟩:=h n (by omega)
  refine⟨xs++[x],by simp[h1],fun i y hy=>?_⟩
  by_cases hi:i<n
  ·rw[List.getElem?_append_left (by omega)] at hy
   exact h2 i y hy
  ·have hlt:=(List.getElem?_eq_some_iff.1 hy).1
   simp only[List.length_append,List.length_cons,List.length_nil] at hlt
   have:i=n:=by omega
   subst this
   rw[List.getElem?_append_right (by omega),h1,Nat.sub_self] at hy
   injection hy with hy
   subst hy;exact hx
abbrev laid5:List (String×DataW Unit):=Rows.syntaxWordsRow.laid
theorem ME:Tryz.prog.globalNamed "internal/strconv.uint64pow10" =some 2:=by kernel_rfl
theorem MK:∃ t e n,(Tryz.prog.globals[2]?).map (·.type)=some t∧Tryz.prog.underlying t=some (.array n e)∧Tryz.prog.underlying e=some (.int .u64)∧Tryz.prog.cellsOf e=1∧Tryz.prog.cellsOf t=n:=⟨_,44,20,rfl,by kernel_rfl,by kernel_rfl,by kernel_rfl,by kernel_rfl⟩
theorem door_met (os:Os) (args:Array Value):laidMetH Tryz.prog laid5 ((World.doorLaid Tryz.prog 200 os).forCall (fun _ _=>0) ⟨#[],args,[]⟩).memory:=
 laidMetH_of_parts3 (fuel:=8) (laidMet_of_run' 8 (by kernel_rfl) (by kernel_rfl)) (by kernel_rfl) (by kernel_rfl)
theorem tab_of_laid {W:World} (h:laidMetH Tryz.prog laid5 W):Tb.T W:=by
 rw[MakeChecks.laidMetH_plain _ _ _ (by kernel_rfl)] at h
 have h3:laidMet Tryz.prog (("internal/strconv.uint64pow10",Lib.tabData .u64 Lib.pow10Tab) :: [("strconv.ErrRange",Rows.laid_strconv_ErrRange),("strconv.ErrSyntax",Rows.laid_strconv_ErrSyntax)]) W:=laidMet.tail (laidMet.tail h)
 obtain ⟨t,e,n,h4,h5,h6,h7,h8⟩:=MK
 exact Lib.tabIs_of_head ME h4 h5 h6 h7 h8 h3
theorem and_t {a b:Bool} (ha:a=true) (hb:b=true):(a&&b)=true:=by rw[ha,hb];rfl
def cm (w:World):K:=cz fun g _=>g<w.heap.size
section
variable {H:Type} {enc:TypeId×Value→H} {W:World}
theorem pure_row {f:FuncId} {args:List V} (hP:Pure Tryz.prog f args (.c (sB true))) (hT:Tb.T W) {vs:Array Value} (hr:RepVs (cm W) W args vs.toList):Calls Tryz.prog f vs W fun e w'=>e= .returned (.bool true)∧Below W.heap.size W w':=
 (hP.2 W (fun g _=>g<W.heap.size) vs hT (fun _ _ h=>h) hr).mono fun e w' h=>by
  obtain ⟨x,rfl,hk,hx⟩:=h
  cases hx with|c hx=>cases hx;exact⟨rfl,hk.below⟩
theorem aC {cs:List Value} {o k:Nat} {A B:List C} (h1:Reps (cm W) W A ((cs.drop o).take k)) (h2:Reps (cm W) W B (cs.drop (o+k))):Reps (cm W) W (A++B) (cs.drop o):=by
 have:=h1.append h2
 rwa [← List.drop_drop,List.take_append_drop] at this
end
end Am
namespace Am
set_option maxRecDepth 100000
set_option maxHeartbeats 1000000
theorem Sp.ext' {a b:Sp} (h1:a.frm=b.frm) (h2:a.to=b.to):a=b:=by cases a;cases b;simp_all
instance:DecidableEq Sp:=fun a b=>if h:a.frm=b.frm∧a.to=b.to then isTrue (Sp.ext' h.1 h.2) else isFalse fun e=>h (e▸⟨rfl,rfl⟩)
theorem mH {a b:ByteArray}:a.toList=b.toList↔a=b:=by rw[ByteArray.toList_eq,ByteArray.toList_eq];exact⟨fun h=>ByteArray.ext (Array.ext' h),fun h=>by rw[h]⟩
theorem IK (a b:Sp) (x y:Operand) (w:World):(do eqGuard .neq 170 x y (.agg #[.string a.frm,.string a.to]) (.agg #[.string b.frm,.string b.to]);binOp .neq 170 (.agg #[.string a.frm,.string a.to]) (.agg #[.string b.frm,.string b.to]):Sem Value).run Tryz.prog w= .ok (.bool (!decide (a=b))) w:=by
 simp[go_sem]
 by_cases h1:a.frm=b.frm
 ·by_cases h2:a.to=b.to
  ·simp[h1,h2,Sp.ext' h1 h2]
  ·have:a≠b:=fun e=>h2 (e▸rfl)
   simp[h1,mH,h2,this]
 ·have:a≠b:=fun e=>h1 (e▸rfl)
  simp[mH,h1,this]
def Se.eqB (a b:Se):Bool:=decide (a.a=b.a)&&(decide (a.b=b.b)&&(decide (a.c=b.c)&&decide (a.d=b.d)))
set_option maxRecDepth 10000 in
theorem DI (n:Nat) (a b c d i j k l:Int) (w:World):(Op.equalIn (n+2) 46 (.agg #[.int .u64 a,.int .u64 b,.int .u64 c,.int .u64 d]) (.agg #[.int .u64 i,.int .u64 j,.int .u64 k,.int .u64 l])).run Tryz.prog w= .ok ((a == i)&&((b == j)&&((c == k)&&(d == l)))) w:=by
 have hS:Tryz.prog.underlying 46=some (.array 4 44):=by kernel_rfl
 have hU:Tryz.prog.underlying 44=some (.int .u64):=by kernel_rfl
 have hz:∀ w,(sizeOf 44).run Tryz.prog w= .ok 1 w:=fun w=>by kernel_rfl
 have p0a:∀ w:World,(part 44 #[.int .u64 a,.int .u64 b,.int .u64 c,.int .u64 d] 0).run Tryz.prog w= .ok (.int .u64 a) w:=fun w=>by go_simp
 have p1a:∀ w:World,(part 44 #[.int .u64 a,.int .u64 b,.int .u64 c,.int .u64 d] 1).run Tryz.prog w= .ok (.int .u64 b) w:=fun w=>by go_simp
 have p2a:∀ w:World,(part 44 #[.int .u64 a,.int .u64 b,.int .u64 c,.int .u64 d] 2).run Tryz.prog w= .ok (.int .u64 c) w:=fun w=>by go_simp
 have p3a:∀ w:World,(part 44 #[.int .u64 a,.int .u64 b,.int .u64 c,.int .u64 d] 3).run Tryz.prog w= .ok (.int .u64 d) w:=fun w=>by go_simp
 have p0b:∀ w:World,(part 44 #[.int .u64 i,.int .u64 j,.int .u64 k,.int .u64 l] 0).run Tryz.prog w= .ok (.int .u64 i) w:=fun w=>by go_simp
 have p1b:∀ w:World,(part 44 #[.int .u64 i,.int .u64 j,.int .u64 k,.int .u64 l] 1).run Tryz.prog w= .ok (.int .u64 j) w:=fun w=>by go_simp
 have p2b:∀ w:World,(part 44 #[.int .u64 i,.int .u64 j,.int .u64 k,.int .u64 l] 2).run Tryz.prog w= .ok (.int .u64 k) w:=fun w=>by go_simp
 have p3b:∀ w:World,(part 44 #[.int .u64 i,.int .u64 j,.int .u64 k,.int .u64 l] 3).run Tryz.prog w= .ok (.int .u64 l) w:=fun w=>by go_simp
 have hi:∀ (a b:Int) (w:World),(Op.equalIn (n+1) 44 (.int .u64 a) (.int .u64 b)).run Tryz.prog w= .ok (a == b) w:=fun a b w=>run_equalIn_int w n _ .u64 .u64 a b hU
 have hr:∀ {β:Type} (f:Nat→β→Sem (ForInStep β)) (b:β),forIn [:4] b f=forIn [0,1,2,3] b f:=fun f b=>by
  rw[Std.Legacy.Range.forIn_eq_forIn_range'];rfl
 unfold Op.equalIn
 simp only[Sem.run_bind,run_underlying hS,Result.andThen_ok,hz,hr,List.forIn_cons,List.forIn_nil,Nat.zero_mul,Nat.mul_one,p0a,p0b,hi]
 by_cases h0:a=i
 ·subst h0;simp only[beq_self_eq_true,Bool.not_true,Bool.false_eq_true,if_false,Sem.run_pure,Result.andThen_ok,Sem.run_bind,p1a,p1b,hi]
  by_cases h1:b=j
  ·subst h1;simp only[beq_self_eq_true,Bool.not_true,Bool.false_eq_true,if_false,Sem.run_pure,Result.andThen_ok,Sem.run_bind,p2a,p2b,hi]
   by_cases h2:c=k
   ·subst h2;simp only[beq_self_eq_true,Bool.not_true,Bool.false_eq_true,if_false,Sem.run_pure,Result.andThen_ok,Sem.run_bind,p3a,p3b,hi]
    by_cases h3:d=l
    ·subst h3;simp
    ·simp[h3]
   ·simp[h2]
  ·simp[h1]
 ·simp[h0]
theorem IJ (a b:Se) (x y:Operand) (w:World):(do eqGuard .eql 46 x y (.agg #[.int .u64 a.a,.int .u64 a.b,.int .u64 a.c,.int .u64 a.d]) (.agg #[.int .u64 b.a,.int .u64 b.b,.int .u64 b.c,.int .u64 b.d]);binOp .eql 46 (.agg #[.int .u64 a.a,.int .u64 a.b,.int .u64 a.c,.int .u64 a.d]) (.agg #[.int .u64 b.a,.int .u64 b.b,.int .u64 b.c,.int .u64 b.d]):Sem Value).run Tryz.prog w= .ok (.bool (Se.eqB a b)) w:=by
 simp[go_sem]
 simp[DI 9998,Se.eqB,BF]
section
variable {ρ:Operand→Option V} {H:Nat→Option HO} {d:Option Nat} {ty t2:TypeId} {pos:String} {af:Array Edge} {gu:Option (Nat×Bool)} {x y:Operand}
theorem Iw {a b:Sp} (hx:Ev ρ x (.agg (spC a))) (hy:Ev ρ y (.agg (spC b))):AS Tryz.prog ρ H ⟨d,.binOp .neq 170 x y t2,ty,pos,af,gu⟩ ⟨.c (sB (!decide (a=b))),[],[]⟩:=by
 refine .still (fun q hq w=>?_) fun _=>.sc rfl
 have h1:=hq x (by simp[Op.operands]) _ _ hx (Cq.agg (vs:=[.string a.frm,.string a.to]))
 have h2:=hq y (by simp[Op.operands]) _ _ hy (Cq.agg (vs:=[.string b.frm,.string b.to]))
 have h3:=IK a b x y w
 unfold execOp
 simp only[h1,h2]
 simp only[Sem.run_bind] at h3 ⊢
 rw[h3]
 simp
theorem Ih {a b:Se} (hx:Ev ρ x (.agg (seC a))) (hy:Ev ρ y (.agg (seC b))):AS Tryz.prog ρ H ⟨d,.binOp .eql 46 x y t2,ty,pos,af,gu⟩ ⟨.c (sB (Se.eqB a b)),[],[]⟩:=by
 refine .still (fun q hq w=>?_) fun _=>.sc rfl
 have h1:=hq x (by simp[Op.operands]) _ _ hx (Cq.agg (vs:=[.int .u64 a.a,.int .u64 a.b,.int .u64 a.c,.int .u64 a.d]))
 have h2:=hq y (by simp[Op.operands]) _ _ hy (Cq.agg (vs:=[.int .u64 b.a,.int .u64 b.b,.int .u64 b.c,.int .u64 b.d]))
 have h3:=IJ a b x y w
 unfold execOp
 simp only[h1,h2]
 simp only[Sem.run_bind] at h3 ⊢
 rw[h3]
 simp
end
section
variable {ρ:Operand→Option V} {H:Nat→Option HO} {d:Option Nat} {ty t2:TypeId} {pos:String} {af:Array Edge} {gu:Option (Nat×Bool)} {x y:Operand}
theorem Iv {a b:Se} (hx:Ev ρ x (.agg (seC a))) (hy:Ev ρ y (.agg (seC b))):AS Tryz.prog ρ H ⟨d,.binOp .neq 46 x y t2,ty,pos,af,gu⟩ ⟨.c (sB (!Se.eqB a b)),[],[]⟩:=by
 refine .still (fun q hq w=>?_) fun _=>.sc rfl
 have h1:=hq x (by simp[Op.operands]) _ _ hx (Cq.agg (vs:=[.int .u64 a.a,.int .u64 a.b,.int .u64 a.c,.int .u64 a.d]))
 have h2:=hq y (by simp[Op.operands]) _ _ hy (Cq.agg (vs:=[.int .u64 b.a,.int .u64 b.b,.int .u64 b.c,.int .u64 b.d]))
 unfold execOp
 simp only[h1,h2]
 simp[go_sem]
 simp[DI 9998,Se.eqB,BF]
end
abbrev cI (s:ByteArray):HO:=.bld 121 5 (Lib.strCells s)
theorem zbT {t:Nat} (h:Nat.beq t 121=true):Zb Tryz.prog t:=by
 have:=Nat.eq_of_beq_eq_true h
 subst this
 exact⟨_,rfl,by kernel_rfl⟩
theorem B3 {ρ:Operand→Option V} {H:Nat→Option HO} {ty:TypeId} {pos:String} {af:Array Edge} {gu:Option (Nat×Bool)} {t:Nat} (hn:H t=none):AS Tryz.prog ρ H ⟨some t,.alloc 121,ty,pos,af,gu⟩ ⟨.c (.ptr t 0),[(t,cI ⟨#[]⟩)],[t]⟩:=B1 hn (zbT rfl)
theorem aM (a:Array UInt8):ByteArray.size ⟨a⟩=a.size:=rfl
section
variable {ρ:Operand→Option V} {H:Nat→Option HO} {d:Option Nat} {ty:TypeId} {pos:String} {af:Array Edge} {gu:Option (Nat×Bool)}
theorem Bo {x0:Operand} {a0:ByteArray} (h0:Ev ρ x0 (.c (sS a0))):AS Tryz.prog ρ H ⟨d,.buildSlice 43 1 #[(0,x0)],ty,pos,af,gu⟩ ⟨.c (bA [a0]),[],[]⟩:=
 fb (zs:=[sS ⟨#[]⟩]) (cC rfl) (ba rfl) rfl (by decide) (by decide) (show EvP ρ _ _ from .cons h0 rfl (.nil)) rfl rfl
theorem Bp {x0 x1:Operand} {a0 a1:ByteArray} (h0:Ev ρ x0 (.c (sS a0))) (h1:Ev ρ x1 (.c (sS a1))):AS Tryz.prog ρ H ⟨d,.buildSlice 43 2 #[(0,x0),(1,x1)],ty,pos,af,gu⟩ ⟨.c (bA [a0,a1]),[],[]⟩:=
 fb (zs:=[sS ⟨#[]⟩]) (cC rfl) (ba rfl) rfl (by decide) (by decide) (show EvP ρ _ _ from .cons h0 rfl (.cons h1 rfl (.nil))) rfl rfl
theorem Bq {x0 x1 x2:Operand} {a0 a1 a2:ByteArray} (h0:Ev ρ x0 (.c (sS a0))) (h1:Ev ρ x1 (.c (sS a1))) (h2:Ev ρ x2 (.c (sS a2))):AS Tryz.prog ρ H ⟨d,.buildSlice 43 3 #[(0,x0),(1,x1),(2,x2)],ty,pos,af,gu⟩ ⟨.c (bA [a0,a1,a2]),[],[]⟩:=
 fb (zs:=[sS ⟨#[]⟩]) (cC rfl) (ba rfl) rfl (by decide) (by decide) (show EvP ρ _ _ from .cons h0 rfl (.cons h1 rfl (.cons h2 rfl (.nil)))) rfl rfl
theorem Br {x0 x1 x2 x3:Operand} {a0 a1 a2 a3:ByteArray} (h0:Ev ρ x0 (.c (sS a0))) (h1:Ev ρ x1 (.c (sS a1))) (h2:Ev ρ x2 (.c (sS a2))) (h3:Ev ρ x3 (.c (sS a3))):AS Tryz.prog ρ H ⟨d,.buildSlice 43 4 #[(0,x0),(1,x1),(2,x2),(3,x3)],ty,pos,af,gu⟩ ⟨.c (bA [a0,a1,a2,a3]),[],[]⟩:=
 fb (zs:=[sS ⟨#[]⟩]) (cC rfl) (ba rfl) rfl (by decide) (by decide) (show EvP ρ _ _ from .cons h0 rfl (.cons h1 rfl (.cons h2 rfl (.cons h3 rfl (.nil))))) rfl rfl
theorem Bt {x0 x1 x2 x3 x4:Operand} {a0 a1 a2 a3 a4:ByteArray} (h0:Ev ρ x0 (.c (sS a0))) (h1:Ev ρ x1 (.c (sS a1))) (h2:Ev ρ x2 (.c (sS a2))) (h3:Ev ρ x3 (.c (sS a3))) (h4:Ev ρ x4 (.c (sS a4))):AS Tryz.prog ρ H ⟨d,.buildSlice 43 5 #[(0,x0),(1,x1),(2,x2),(3,x3),(4,x4)],ty,pos,af,gu⟩ ⟨.c (bA [a0,a1,a2,a3,a4]),[],[]⟩:=
 fb (zs:=[sS ⟨#[]⟩]) (cC rfl) (ba rfl) rfl (by decide) (by decide) (show EvP ρ _ _ from .cons h0 rfl (.cons h1 rfl (.cons h2 rfl (.cons h3 rfl (.cons h4 rfl (.nil)))))) rfl rfl
theorem Bu {x0 x1 x2 x3 x4 x5 x6 x7:Operand} {a0 a1 a2 a3 a4 a5 a6 a7:ByteArray} (h0:Ev ρ x0 (.c (sS a0))) (h1:Ev ρ x1 (.c (sS a1))) (h2:Ev ρ x2 (.c (sS a2))) (h3:Ev ρ x3 (.c (sS a3))) (h4:Ev ρ x4 (.c (sS a4))) (h5:Ev ρ x5 (.c (sS a5))) (h6:Ev ρ x6 (.c (sS a6))) (h7:Ev ρ x7 (.c (sS a7))):AS Tryz.prog ρ H ⟨d,.buildSlice 43 8 #[(0,x0),(1,x1),(2,x2),(3,x3),(4,x4),(5,x5),(6,x6),(7,x7)],ty,pos,af,gu⟩ ⟨.c (bA [a0,a1,a2,a3,a4,a5,a6,a7]),[],[]⟩:=
 fb (zs:=[sS ⟨#[]⟩]) (cC rfl) (ba rfl) rfl (by decide) (by decide) (show EvP ρ _ _ from .cons h0 rfl (.cons h1 rfl (.cons h2 rfl (.cons h3 rfl (.cons h4 rfl (.cons h5 rfl (.cons h6 rfl (.cons h7 rfl (.nil))))))))) rfl rfl
theorem AR (l:List ByteArray):bV (l.map oneS)=l.map oneS:=unA.2.1 l
theorem Ic {x y:Operand} {τ m:Nat} {tg:Option Nat} {l1 l2:List ByteArray} (hx:Ev ρ x (.c (.lst (some τ) 1 (l1.map oneS)))) (hh:H τ=some (.row 9 1 m)) (hm:l1.length=m) (hy:Ev ρ y (.c (.lst tg 1 (l2.map oneS)))) (h1:(l1++l2).length≤8796093022208) :
 AS Tryz.prog ρ H ⟨d,.call {callee:=.builtin .append,args:=#[x,y],argTypes:=#[43,43]},ty,pos,af,gu⟩ ⟨.c (.lst (some τ) 1 ((l1++l2).map oneS)),[(τ,.row 9 1 (l1++l2).length)],[τ]⟩:=by
 have hby:Tryz.prog.bytesOf 9=16:=by kernel_rfl
 have:=ye (P:=Tryz.prog) (ρ:=ρ) (H:=H) (d:=d) (ty:=ty) (pos:=pos) (af:=af) (gu:=gu) (t:=43) (zl:=[sS ⟨#[]⟩]) (zs:=(l1++l2).map oneS) (cC rfl) (by decide) hx hh (by rw[List.length_map];exact hm) (ba rfl) rfl hy (by rw[AR,List.map_append]) (by rw[List.length_map];unfold maxLen;omega) (by rw[List.length_map,hby];omega)
 rw[List.length_map] at this
 exact this
theorem Gh {l:List (Nat×V)} {h:List (Nat×HO)} {P:Program} {nt:Nat} {c:Code} {Q:Exit→St→Prop} (t τ:Nat) (hn:look h τ=none) (ht:look l t=some (.c .nil)) (k:AW P nt c Q (mk ((t,.c (.lst (some τ) 1 (([]:List ByteArray).map oneS))) :: l) ((τ,.row 9 1 ([]:List ByteArray).length) :: h))):AW P nt c Q (mk l h):=
 AW.weak (Wk.nilRow (σ:=mk l h) (e:=9) (k:=1) hn ht) (by
  have:=k
  rw[← ig,←set_mk] at this
  exact this)
end
theorem rh (d:Nat→Bool):∀ l:List ByteArray,bB d (l.map oneS)=true
 |[]=>rfl
 |x :: l=>by
  rw[List.map_cons,bB,rh d l]
  rfl
theorem HY {d:Nat→Bool} {τ:Nat} {l:List ByteArray} (h:d τ=true):V.ok d (.c (.lst (some τ) 1 (l.map oneS)))=true:=by
 rw[V.ok]
 change (d τ&&bB d (l.map oneS))=true
 rw[h,rh];rfl
theorem CvL.un (vs:List V):CvL vs (vs.map V.un):=fun κ w xs h=>⟨by rw[List.length_map];exact h.1,fun j c v hc hv=>by
 rw[List.getElem?_map,Option.map_eq_some_iff] at hc
 obtain ⟨z,hz,rfl⟩:=hc
 exact(h.2 j z v hz hv).un⟩
theorem ct {P:Program} {nt:Nat} {l:List Oper} {b:Bool} {y:Code} {Q:Exit→St→Prop} {σ:St} (id:Nat) (h:AW P nt (.seq (.region id l.toArray b) y) Q σ):AW P nt (.seq (.region id l.toArray b) y) Q σ:=h
section
variable {ρ:Operand→Option V} {H:Nat→Option HO} {d:Option Nat} {ty:TypeId} {pos:String} {af:Array Edge} {gu:Option (Nat×Bool)} {x y:Operand} {n off ty0:Nat} {cs cs':List C}
theorem zE (hx:Ev ρ x (.c (.ptr n off))) (hh:H n=some (.obj ty0 cs)) (hy:ρ y=some (.c .nil)) (hs:aZ cs off [bA ([]:List ByteArray)]=some cs'):AS Tryz.prog ρ H ⟨d,.store 43 x y,ty,pos,af,gu⟩ ⟨jP,[(n,.obj ty0 cs')],[n]⟩:=
 oI hx hh (.nl hy) (dT rfl) hs
theorem zF (hx:Ev ρ x (.c (.ptr n off))) (hh:H n=some (.obj ty0 cs)) (hy:ρ y=some (.c .nil)) (hs:aZ cs off [.lst none 55 (([]:List Stm).map stC)]=some cs'):AS Tryz.prog ρ H ⟨d,.store 23 x y,ty,pos,af,gu⟩ ⟨jP,[(n,.obj ty0 cs')],[n]⟩:=
 oI hx hh (.nl hy) (dT rfl) hs
theorem oB:Tryz.prog.underlying 9=some .string:=by kernel_rfl
theorem KB {i:Operand} {s:ByteArray} {kd:IntKind} {j:Nat} {c:UInt8} (hx:Ev ρ x (.c (.sc (.string s)))) (hi:Ev ρ i (.c (.sc (.int kd j)))) (hc:s.data.toList[j]? =some c):AS Tryz.prog ρ H ⟨d,.index 9 x i,ty,pos,af,gu⟩ ⟨.c (.sc (.int .u8 c.toNat)),[],[]⟩:=by
 refine .still (fun q hq w=>?_) fun _=>.sc rfl
 have h1:=hq x (by simp[Op.operands]) _ _ hx .sc
 have h2:=hq i (by simp[Op.operands]) _ _ hi .sc
 have h3:s[j]? =some c:=by
  have:s.data[j]? =some c:=by simpa using hc
  have e:=(Array.getElem?_eq_some_iff.1 this)
  obtain ⟨hlt,he⟩:=e
  have hlt':j<s.size:=hlt
  rw[getElem?_pos s j hlt']
  exact congrArg some he
 unfold execOp
 simp only[h1,h2]
 simp[Instr.index,asIntOf,run_underlying oB,h3]
end
section
variable {ρ:Operand→Option V} {H:Nat→Option HO} {d:Option Nat} {ty:TypeId} {pos:String} {af:Array Edge} {gu:Option (Nat×Bool)} {x y:Operand}
theorem Kr:Tryz.prog.underlying 5=some (.int .u8):=by kernel_rfl
theorem Hu:Tryz.prog.underlying 21=some (.int .i32):=by kernel_rfl
theorem Iz {c:UInt8} (hx:Ev ρ x (.c (.sc (.int .u8 c.toNat)))):AS Tryz.prog ρ H ⟨d,.convert 5 21 x,ty,pos,af,gu⟩ ⟨.c (.sc (.int .i32 c.toNat)),[],[]⟩:=by
 have hc:=c.toNat_lt
 refine .still (fun q hq w=>?_) fun _=>.sc rfl
 have h1:=hq x (by simp[Op.operands]) _ _ hx .sc
 have h2:IntKind.i32.wrap (c.toNat:Int)=c.toNat:=by
  rw[IntKind.wrap_i32];omega
 unfold execOp
 simp only[h1]
 simp[go_sem,run_underlying Kr,run_underlying Hu,h2]
end
section
variable {P:Program} {ρ:Operand→Option V} {H:Nat→Option HO} {d:Option Nat} {ty:TypeId} {pos:String} {af:Array Edge} {gu:Option (Nat×Bool)} {x y:Operand} {t t2:TypeId} {p q:Int}
theorem Ib (hx:Ev ρ x (.c (.sc (.int .i64 p)))) (hy:Ev ρ y (.c (.sc (.int .i64 q)))):AS P ρ H ⟨d,.binOp .add t x y t2,ty,pos,af,gu⟩ ⟨.c (.sc (.int .i64 (IntKind.i64.wrap (p+q)))),[],[]⟩:=
 fZ hx hy rfl fun w=>by simp[eqGuard,binOp,Op.intArith]
end
section
variable {P:Program} {ρ:Operand→Option V} {H:Nat→Option HO} {d:Option Nat} {ty:TypeId} {pos:String} {af:Array Edge} {gu:Option (Nat×Bool)} {x y z:Operand} {p q r:Int} {t1 t2 t3:TypeId}
theorem Iq {m:Int} (hx:Ev ρ x (.c (.sc (.int .i64 p)))) (hy:Ev ρ y (.c (.sc (.int .i64 q)))) (hz:Ev ρ z (.c (.sc (.int .i64 r)))) (hm:max (max p q) r=m):AS P ρ H ⟨d,.call {callee:=.builtin .max,args:=#[x,y,z],argTypes:=#[t1,t2,t3]},ty,pos,af,gu⟩ ⟨.c (.sc (.int .i64 m)),[],[]⟩:=by
 subst hm
 refine .still (fun g hg w=>?_) fun _=>.sc rfl
 have h1:=hg x (by simp[Op.operands,Call.operands]) _ _ hx .sc
 have h2:=hg y (by simp[Op.operands,Call.operands]) _ _ hy .sc
 have h3:=hg z (by simp[Op.operands,Call.operands]) _ _ hz .sc
 have e1:∀ a b:Int,(Builtin.max2 (.int .i64 a) (.int .i64 b)).run P w= .ok (.int .i64 (max a b)) w:=fun a b=>by
  simp only[Builtin.max2,Sem.run_pure]
  congr 2
  split <;> omega
 unfold execOp
 simp only[resolve,invoke,builtin]
 simp[h1,h2,h3,Builtin.max_,e1]
end
theorem Ik {P:Program} {ρ:Operand→Option V} {H:Nat→Option HO} {d:Option Nat} {ty:TypeId} {pos:String} {af:Array Edge} {gu:Option (Nat×Bool)} {x y:Operand} {t e k j:Nat} {tg:Option Nat} {xs:List (List C)} {kd:IntKind} {z:Int} {cs:List C} (hx:Ev ρ x (.c (.lst tg k xs))) (hi:Ev ρ y (.c (.sc (.int kd z)))) (ht:sle P t=some (e,k)) (hj:xs[j]? =some cs) (hz:z=(j:Nat)):AS P ρ H ⟨d,.indexAddr t x y,ty,pos,af,gu⟩ ⟨.c (.ep cs),[],[]⟩:=Hz hx hi ht hz hj
section
variable {ρ:Operand→Option V} {H:Nat→Option HO} {d:Option Nat} {ty:TypeId} {pos:String} {af:Array Edge} {gu:Option (Nat×Bool)} {x y:Operand} {t t2:TypeId} {p q:Int}
theorem KM {r:Int} (hx:Ev ρ x (.c (.sc (.int .i64 p)))) (hy:Ev ρ y (.c (.sc (.int .i64 q)))) (hq:q≠0) (h1:q≠-1) (hr:Int.tmod p q=r) (hw:IntKind.i64.wrap r=r):AS Tryz.prog ρ H ⟨d,.binOp .rem t x y t2,ty,pos,af,gu⟩ ⟨.c (.sc (.int .i64 r)),[],[]⟩:=by
 subst hr
 exact fZ hx hy rfl fun w=>by simp[eqGuard,binOp,Op.intArith,Op.intDiv,hq,h1,hw]
theorem KL {r:Int} (hx:Ev ρ x (.c (.sc (.int .i64 p)))) (hy:Ev ρ y (.c (.sc (.int .i64 q)))) (hq:q≠0) (h1:q≠-1) (hr:Int.tdiv p q=r) (hw:IntKind.i64.wrap r=r):AS Tryz.prog ρ H ⟨d,.binOp .quo t x y t2,ty,pos,af,gu⟩ ⟨.c (.sc (.int .i64 r)),[],[]⟩:=by
 subst hr
 exact fZ hx hy rfl fun w=>by simp[eqGuard,binOp,Op.intArith,Op.intDiv,hq,h1,hw]
theorem Bn {lo hi:Operand} {s:ByteArray} {i j:Nat} {p q:Int} (hx:Ev ρ x (.c (.sc (.string s)))) (hlo:Ev ρ lo (.c (.sc (.int .i64 p)))) (hhi:Ev ρ hi (.c (.sc (.int .i64 q)))) (hp:p=i) (hq:q=j) (hij:i≤j) (hj:j≤s.size) (hs:s.size≤9223372036854775807):AS Tryz.prog ρ H ⟨d,.slice 9 x (some lo) (some hi) none,ty,pos,af,gu⟩ ⟨.c (.sc (.string (s.extract i j))),[],[]⟩:=by
 subst hp hq
 refine .still (fun g hg w=>?_) fun _=>.sc (decide_eq_true ?_)
 ·have h1:=hg x (by simp[Op.operands]) _ _ hx .sc
  have h2:=hg lo (by simp[Op.operands]) _ _ hlo .sc
  have h3:=hg hi (by simp[Op.operands]) _ _ hhi .sc
  unfold execOp
  simp only[h1,h2,h3,Option.map_some,Option.map_none]
  have e1:((i:Int)≤j):=by omega
  have e2:((j:Int)≤s.size):=by omega
  simp[Instr.sliceAt,Instr.slice,Instr.sliceBounds,Instr.sliceBound,run_underlying oB,asIntOf,e1,e2,hij,hj]
 ·rw[ByteArray.size_extract];omega
end
section
variable {ρ:Operand→Option V} {H:Nat→Option HO} {d:Option Nat} {ty:TypeId} {pos:String} {af:Array Edge} {gu:Option (Nat×Bool)}
end
theorem r_c {P:Program} {σ:St} {u ty n off ty0 k:Nat} {cs cs' ds:List C} {b:Bool} (h2:Ev (evA σ.sl) (.tmp u) (.c (.ptr n off))) (hh:σ.hp n=some (.obj ty0 cs)) (ht:tyi P ty=some (k,b)) (hc:aU b cs off k=some (.agg cs')) (e1:unL cs'=ds):Ret P [.cell u ty] (.agg ds) .ret σ:=by
 subst e1
 exact⟨.inl rfl,[.agg cs'],.cell h2 hh ht hc .nil,rfl⟩
section
variable {ρ:Operand→Option V} {H:Nat→Option HO} {d:Option Nat} {ty:TypeId} {pos:String} {af:Array Edge} {gu:Option (Nat×Bool)}
end
section
variable {ρ:Operand→Option V} {H:Nat→Option HO} {d:Option Nat} {ty:TypeId} {pos:String} {af:Array Edge} {gu:Option (Nat×Bool)} {x:Operand}
end
end Am
namespace Am
variable [Tb]
open Go.RowKit
theorem lP {σ:St} {κ:K} {n:Nat} (h:σ.hp n=none):bl σ κ n=[]:=by unfold bl;rw[h]
theorem j0 {σ τ:St} {κ:K} {n:Nat} (h:σ.hp n=τ.hp n):bl σ κ n=bl τ κ n:=by unfold bl;rw[h]
def tO (P:Program) (rl:List ResultVar) (N:List Nat) (r:V) (h':Nat→Option HO):Exit→St→Prop:=fun e σ=>(e= .ret∨e= .normal)∧(∀ n∈N,σ.hp n=h' n)∧∃ vs,ARes P σ rl vs∧(one vs=r∨(one vs).un=r)
theorem MN.of {P:Program} {f nt:Nat} {fn:Func} {c:Code} {N:List Nat} {h h':Nat→Option HO} {args:List V} {r:V} (hc:bJ P f) (hf:P.funcs[f]? =some fn) (hb:fn.body=some c) (hn:fn.ntmps=nt) (hl:args.length≤nt) (hN:∀ n,n ∉ N→h n=none)
 (hw:AW P nt c (tO P fn.results.toList N r h') ⟨fun i=>args[i]?,h⟩):MN P f N h args r h':=by
 refine⟨hc,fun X0 vs hT hG hS0 hD hO hS hv=>?_⟩
 have hvl:vs.size=args.length:=by have:=hv.1;simp at this;omega
 let X:Cx:={X0 with nt:=nt,dfs:=[]}
 have mem:∀ {n b},b∈bl ⟨fun i=>args[i]?,h⟩ X0.K0 n→n∈N:=fun {n b} hb=>by
  by_cases hm:n∈N
  ·exact hm
  ·rw[lP (hN n hm)] at hb;cases hb
 have g:Gm X ⟨fun i=>args[i]?,h⟩ {tmps:=vs++Array.replicate (fn.ntmps - vs.size) undef,defers:=[]} X0.w0 X0.K0:=by
  refine⟨fun t v hv'=>?_,fun n o ho=>?_,fun n hn=>?_,fun n n' b hne h1 h2=>?_,Keep.refl _ _,fun g i hs _=>.inl (by show X0.S0 g i;rw[hS0];exact hs),fun g i hs=>hS g i (by rw[hS0];exact hs),?_,rfl,Le.refl _ _,hT,hG⟩
  ·obtain ⟨x,hx,hr'⟩:=hv.get hv'
   refine⟨x,?_,hr'⟩
   have hlt:=(List.getElem?_eq_some_iff.1 hx).1
   have e:vs[t]? =some x:=by simpa using hx
   rw[Array.getElem?_append_left (by simpa using hlt)]
   exact e
  ·have ho:h n=some o:=ho
   by_cases hm:n∈N
   ·obtain ⟨o',k1,k2,k3⟩:=hO.ok n hm
    rw[ho] at k1
    injection k1 with k1
    subst k1
    exact⟨k2,k3⟩
   ·rw[hN n hm] at ho;cases ho
  ·obtain ⟨o',k1,_⟩:=hO.ok n ((hD n).1 hn)
   exact⟨o',k1⟩
  ·exact hO.dis n (mem h1) n' (mem h2) b hne h1 h2
  ·simp[X,hn];omega
 refine calls_of_wp hf hb (Go.wp_mono (hw X _ X0.w0 _ rfl g) fun e a' w' hq=>?_)
 obtain ⟨σ',⟨he,hh,us,hres,hun⟩,κ',g'⟩:=hq
 obtain ⟨x,hx,hrx⟩:=iX g' hres
 have hr:RepV κ' w' r x:=by
  rcases hun with rfl|rfl
  ·exact hrx
  ·exact hrx.un
 have hobj:Objs X0 κ' w' N h':=by
  refine⟨fun n hm=>?_,fun n hm n' hm' b hne h1 h2=>?_⟩
  ·have hd:=(g'.m0.D n ((hD n).2 hm)).1
   obtain ⟨o,ho⟩:=g'.D n hd
   exact⟨o,(hh n hm)▸ho,hd,(g'.hp n o ho).2⟩
  ·rw[j0 (τ:=σ') (show h' n=σ'.hp n from(hh n hm).symm)] at h1
   rw[j0 (τ:=σ') (show h' n'=σ'.hp n' from(hh n' hm').symm)] at h2
   exact g'.dis n n' b hne h1 h2
 rcases he with rfl|rfl
 ·exact⟨g'.df,x,hx,x,κ',rfl,g'.only,g'.m0,g'.s0,g'.s1,hobj,hr⟩
 ·exact⟨g'.df,x,hx,x,κ',rfl,g'.only,g'.m0,g'.s0,g'.s1,hobj,hr⟩
end Am
namespace Am
variable [Tb]
open Go.RowKit
def byT:List (Nat×Nat)→Nat→Nat
 |[],n=>n
 |(k,v) :: l,n=>match Nat.beq k n with|true=>v|false=>byT l n
def swT (l:List (Nat×Nat)):List (Nat×Nat):=l.map fun p=>(p.2,p.1)
def okB (N:List Nat) (t:List (Nat×Nat)):Bool:=N.all fun n=>Nat.beq (byT (swT t) (byT t n)) n&&(Nat.beq n 0 || Nat.ble 1000 n)
def jL (N:List Nat) (t:List (Nat×Nat)) (m:Nat):Bool:=N.contains (byT (swT t) m)&&byT t (byT (swT t) m) == m
def giv (t:List (Nat×Nat)) (H:Nat→Option HO):List Nat→Option (List (Nat×HO))
 |[]=>some []
 |n :: l=>match H (byT t n) with
  |some o=>(giv t H l).map fun q=>(n,o.ren (byT (swT t))) :: q
  |none=>none
def tak (t:List (Nat×Nat)) (os:List (Nat×HO)):List (Nat×HO):=os.map fun p=>(byT t p.1,p.2.ren (byT t))
abbrev MNL (P:Program) (f:FuncId) (os:List (Nat×HO)) (args:List V) (r:V) (os':List (Nat×HO)):Prop:=MN P f (os.map (·.1)) (look os) args r (look os')
theorem j8 {α:Type} {n:Nat}:∀ {l:List (Nat×α)},n ∉ l.map (·.1)→look l n=none
 |[],_=>rfl
 |(k,v) :: l,h=>by
  unfold look
  cases hb:Nat.beq k n with
  |true=>exact absurd (by rw[← Nat.eq_of_beq_eq_true hb];exact .head _) h
  |false=>exact j8 fun hm=>h (.tail _ hm)
theorem MNL.of {P:Program} {f nt:Nat} {fn:Func} {c:Code} {rl:List ResultVar} {os os':List (Nat×HO)} {args:List V} {r:V} {sl:List (Nat×V)} (hc:bJ P f) (hf:P.funcs[f]? =some fn) (hb:fn.body=some c) (hn:fn.ntmps=nt) (hres:fn.results=rl.toArray) (hl:Nat.ble args.length nt=true)
 (hs:sl=args.zipIdx.map fun p=>(p.2,p.1)) (hw:AW P nt c (tO P rl (os.map (·.1)) r (look os')) (mk sl os)):MNL P f os args r os':=by
 refine MN.of hc hf hb hn (Nat.le_of_ble_eq_true hl) (fun n hn=>j8 hn) ?_
 have e:(fun i=>args[i]?)=look sl:=by
  subst hs
  have key:∀ (l:List V) (b i:Nat),look ((l.zipIdx b).map fun p=>(p.2,p.1)) (b+i)=l[i]?:=by
   intro l
   induction l with
   |nil=>intro b i;rfl
   |cons v l ih=>
    intro b i
    rw[List.zipIdx_cons,List.map_cons]
    unfold look
    cases i with
    |zero=>simp
    |succ i=>
     have:Nat.beq b (b+(i+1))=false:=by
      cases hb:Nat.beq b (b+(i+1)) with
      |false=>rfl
      |true=>have:=Nat.eq_of_beq_eq_true hb;omega
     simp only[this]
     have:=ih (b+1) i
     rw[show b+(i+1)=b+1+i by omega,this]
     rfl
  funext i
  have:=key args 0 i
  rw[Nat.zero_add] at this
  exact this.symm
 rw[e,hres,List.toList_toArray]
 exact hw
theorem zy (l:List (Nat×V)):∀ (L h:List (Nat×HO)),(mk l h).wr L=mk l (L.reverse++h)
 |[],h=>rfl
 |p :: L,h=>by
  rw[St.wr,set_mk,zy l L,List.reverse_cons,List.append_assoc]
  rfl
theorem pd {t:List (Nat×Nat)} {H:Nat→Option HO}:∀ {N:List Nat} {os:List (Nat×HO)},giv t H N=some os→os.map (·.1)=N∧∀ n∈N,∃ ob,H (byT t n)=some ob∧look os n=some (ob.ren (byT (swT t)))
 |[],os,h=>by injection h with h;subst h;exact⟨rfl,fun n hn=>by cases hn⟩
 |k :: N,os,h=>by
  unfold giv at h
  cases ho:H (byT t k) with
  |none=>rw[ho] at h;cases h
  |some o=>
   rw[ho] at h
   simp only at h
   cases hg:giv t H N with
   |none=>rw[hg] at h;cases h
   |some q=>
    rw[hg] at h
    injection h with h
    subst h
    obtain ⟨h1,h2⟩:=pd hg
    refine⟨by rw[List.map_cons,h1],fun n hn=>?_⟩
    by_cases e:k=n
    ·subst e
     exact⟨o,ho,by unfold look;simp⟩
    ·rcases List.mem_cons.1 hn with e2|hn
     ·exact absurd e2.symm e
     ·obtain ⟨ob,k1,k2⟩:=h2 n hn
      refine⟨ob,k1,?_⟩
      unfold look
      have:Nat.beq k n=false:=by
       cases hb:Nat.beq k n with
       |false=>rfl
       |true=>exact absurd (Nat.eq_of_beq_eq_true hb) e
      simp only[this]
      exact k2
theorem EV {t:List (Nat×Nat)}:∀ {os:List (Nat×HO)} (σ:St),(os.map (·.1)).Nodup→(∀ n∈os.map (·.1),∀ m∈os.map (·.1),byT t n=byT t m→n=m)→∀ n o,look os n=some o→(σ.wr (tak t os)).hp (byT t n)=some (o.ren (byT t))
 |[],_,_,_,n,o,h=>by cases h
 |(k,q) :: os,σ,hd,hi,n,o,h=>by
  rw[List.map_cons,List.nodup_cons] at hd
  show((σ.set (byT t k) (q.ren (byT t))).wr (tak t os)).hp _=_
  unfold look at h
  cases hb:Nat.beq k n with
  |true=>
   rw[hb] at h
   injection h with h
   subst h
   have e:=Nat.eq_of_beq_eq_true hb
   subst e
   rw[qu _ _ _ fun p hp e=>?_]
   ·exact aX _ _ _
   ·obtain ⟨p',hp',rfl⟩:=List.mem_map.1 hp
    have hm:p'.1∈os.map (·.1):=List.mem_map.2 ⟨p',hp',rfl⟩
    have e2:p'.1=k:=hi p'.1 (.tail _ hm) k (.head _) e
    exact hd.1 (e2▸hm)
  |false=>
   rw[hb] at h
   exact EV _ hd.2 (fun a ha b hb=>hi a (.tail _ ha) b (.tail _ hb)) n o h
section
variable {P:Program} {ρ:Operand→Option V} {H:Nat→Option HO} {d:Option Nat} {ty:TypeId} {pos:String} {af:Array Edge} {gu:Option (Nat×Bool)}
theorem Is {x:Operand} {args:Array Operand} {ats:Array TypeId} {f:Nat} {caps:List C} {vs us:List V} {r r2:V} {os os' L:List (Nat×HO)} {rd:List Nat} (t:List (Nat×Nat)) (hx:Ev ρ x (.c (.fn f caps))) (hv:EvL ρ args.toList vs) (hP:MNL P f os us r os')
 (hk:okB (os.map (·.1)) t=true) (hnd:decide (os.map (·.1)).Nodup=true) (hok:okV (jL (os.map (·.1)) t) (vs++caps.map V.c)=true) (hu:jE (byT (swT t)) (vs++caps.map V.c)=us) (hg:giv t H (os.map (·.1))=some os)
 (hw:((os.map (·.1)).all fun n=>match H (byT t n) with|some o=>o.within (jL (os.map (·.1)) t)|none=>false)=true) (hs:os'.map (·.1)=os.map (·.1)) (hw':(os'.all fun p=>p.2.within fun m=>(os.map (·.1)).contains m)=true) (hr:V.ok (fun m=>(os.map (·.1)).contains m) r=true)
 (e1:r.ren (byT t)=r2) (e2:tak t os'=L) (e3:(os.map (·.1)).map (byT t)=rd):AS P ρ H ⟨d,.call {callee:=.value x,args:=args,argTypes:=ats},ty,pos,af,gu⟩ ⟨r2,L,rd⟩:=by
 subst e1 e2 e3
 have hk':∀ n∈os.map (·.1),byT (swT t) (byT t n)=n∧(n=0∨1000≤n):=fun n hn=>by
  have:=List.all_eq_true.1 hk n hn
  rw[Bool.and_eq_true,Bool.or_eq_true] at this
  refine⟨Nat.eq_of_beq_eq_true this.1,this.2.imp Nat.eq_of_beq_eq_true fun h=>?_⟩
  rw[Nat.ble_eq] at h;exact h
 have hinj:∀ n∈os.map (·.1),∀ m∈os.map (·.1),byT t n=byT t m→n=m:=fun n hn m hm e=>by
  rw[← (hk' n hn).1,←(hk' m hm).1,e]
 obtain ⟨_,g2⟩:=pd hg
 refine .callN (N:=os.map fun p:Nat×HO=>p.1) (h:=look os) (h':=look os') (ns:=byT t) (inv:=byT (swT t)) rfl hx hv (fun n hn=>(hk' n hn).1) (fun n hn=>(hk' n hn).2) hok hu (fun n hn=>?_) hP (fun p hp=>?_) (fun n hn=>?_) hr
 ·obtain ⟨ob,k1,k2⟩:=g2 n hn
  have k3:=List.all_eq_true.1 hw n hn
  rw[k1] at k3
  exact⟨ob,k1,k3,k2⟩
 ·obtain ⟨q,hq,rfl⟩:=List.mem_map.1 hp
  exact⟨q.1,hs▸List.mem_map.2 ⟨q,hq,rfl⟩,rfl⟩
 ·have hm:n∈os'.map (·.1):=hs.symm▸hn
  have hlk:∃ o,look os' n=some o∧(n,o)∈os':=by
   clear hP hw' hs hg g2
   induction os' with
   |nil=>cases hm
   |cons p l ih=>
    obtain ⟨k,q⟩:=p
    unfold look
    cases hb:Nat.beq k n with
    |true=>exact⟨q,rfl,by rw[Nat.eq_of_beq_eq_true hb];exact .head _⟩
    |false=>
     rcases List.mem_cons.1 hm with e|hm
     ·subst e;rw[Nat.beq_refl] at hb;cases hb
     ·obtain ⟨o,k1,k2⟩:=ih hm
      exact⟨o,k1,.tail _ k2⟩
  obtain ⟨o,k1,k2⟩:=hlk
  exact⟨o,k1,List.all_eq_true.1 hw' (n,o) k2,fun σ=>EV σ (hs.symm▸of_decide_eq_true hnd) (by rw[hs];exact hinj) n o k1⟩
end
section
variable {P:Program} {ops:Array Oper} {l:List (Nat×V)} {h h2:List (Nat×HO)} {rest:List Oper} {fs:List FP} {K:St→List FP→Prop} {t:Nat} {op:Op} {ty:TypeId} {pos:String} {af:Array Edge} {v:V} {L:List (Nat×HO)} {rd:List Nat}
end
end Am
namespace Am
variable [Tb]
open Go.RowKit
abbrev jM (v:Value):Exit:=.panic [{v:=v,recovered:=false}]
inductive AQ (P:Program) (ρ:Operand→Option V) (H:Nat→Option HO) (o:Oper):Value→List (Nat×HO)→Prop
 |call {x:Operand} {args:Array Operand} {ats:Array TypeId} {f:Nat} {caps:List C} {vs us:List V} {v:Value} {N:List Nat} {h:Nat→Option HO} {ns inv:Nat→Nat}:o.op= .call {callee:=.value x,args:=args,argTypes:=ats}→Ev ρ x (.c (.fn f caps))→EvL ρ args.toList vs→
  (∀ n∈N,inv (ns n)=n)→(∀ n∈N,n=0∨1000≤n)→okV (fun m=>N.contains (inv m)&&ns (inv m) == m) (vs++caps.map V.c)=true→jE inv (vs++caps.map V.c)=us→
  (∀ n∈N,∃ ob,H (ns n)=some ob∧ob.within (fun m=>N.contains (inv m)&&ns (inv m) == m)=true∧h n=some (ob.ren inv))→MQ P f N h us v→AQ P ρ H o v (N.map fun n=>(ns n,.lost))
 |pan {x:Operand} {t:Nat} {u:Value}:o.op= .panic x→Ev ρ x (.c (.sc (.iface t u)))→AQ P ρ H o (.iface t u) []
theorem zx {ns:Nat→Nat}:∀ (N:List Nat) (σ:St),(∀ n∈N,(σ.wr (N.map fun n=>(ns n,HO.lost))).hp (ns n)=some .lost)∧∀ m,σ.hp m=some .lost→(σ.wr (N.map fun n=>(ns n,HO.lost))).hp m=some .lost
 |[],σ=>⟨fun n hn=>(by cases hn),fun m hm=>hm⟩
 |k :: N,σ=>by
  obtain ⟨h1,h2⟩:=zx (ns:=ns) N (σ.set (ns k) .lost)
  have hk:∀ m,σ.hp m=some .lost∨m=ns k→(σ.set (ns k) .lost).hp m=some .lost:=fun m hm=>by
   by_cases e:m=ns k
   ·subst e;exact aX _ _ _
   ·exact(bD _ _ e).trans (hm.resolve_right e)
  refine⟨fun n hn=>?_,fun m hm=>h2 m (hk m (.inl hm))⟩
  rcases List.mem_cons.1 hn with rfl|hn
  ·exact h2 _ (hk _ (.inr rfl))
  ·exact h1 n hn
section
variable {P:Program} {X:Cx} {σ:St} {a:Act} {w:World} {κ:K} {o:Oper} {Q:Exit→Act→World→Prop} {M:Act→World→Prop}
theorem AQ.sound {v:Value} {L:List (Nat×HO)} (h:AQ P (evA σ.sl) σ.hp o v L) (g:Gm X σ a w κ) (hN:∀ w' κ',Gm X (σ.wr L) a w' κ'→Q (jM v) a w'):o.wp P a w M Q:=by
 cases h with
 |call ho hx hv hinv hent hok hu hh hP=>
  refine g.callQ ho hx hv hinv hent hok hu hh hP (vY _ _) (fun n hn=>(zx _ σ).1 n hn) (fun m hm=>qu _ _ _ fun p hp e=>?_) hN
  obtain ⟨n,hn,rfl⟩:=List.mem_map.1 hp
  exact hm n hn e
 |pan ho hx=>
  rename_i x t u
  have he:a.eval x= .iface t u:=Cq.uniq .sc (g.ev hx)
  unfold Oper.wp execOp
  simp only[ho,he]
  exact hN w κ g
end
section
variable {P:Program} {nt:Nat} {Q:Exit→St→Prop} {σ:St}
end
theorem MQ.of {P:Program} {f nt:Nat} {fn:Func} {c:Code} {N:List Nat} {h:Nat→Option HO} {args:List V} {v:Value} (hc:bJ P f) (hf:P.funcs[f]? =some fn) (hb:fn.body=some c) (hn:fn.ntmps=nt) (hl:args.length≤nt) (hN:∀ n,n ∉ N→h n=none)
 (hw:AW P nt c (fun e _=>e=jM v) ⟨fun i=>args[i]?,h⟩):MQ P f N h args v:=by
 refine⟨hc,fun X0 vs hT hG hS0 hD hO hS hv=>?_⟩
 have hvl:vs.size=args.length:=by have:=hv.1;simp at this;omega
 let X:Cx:={X0 with nt:=nt,dfs:=[]}
 have mem:∀ {n b},b∈bl ⟨fun i=>args[i]?,h⟩ X0.K0 n→n∈N:=fun {n b} hb=>by
  by_cases hm:n∈N
  ·exact hm
  ·rw[lP (hN n hm)] at hb;cases hb
 have g:Gm X ⟨fun i=>args[i]?,h⟩ {tmps:=vs++Array.replicate (fn.ntmps - vs.size) undef,defers:=[]} X0.w0 X0.K0:=by
  refine⟨fun t v hv'=>?_,fun n o ho=>?_,fun n hn=>?_,fun n n' b hne h1 h2=>?_,Keep.refl _ _,fun g i hs _=>.inl (by show X0.S0 g i;rw[hS0];exact hs),fun g i hs=>hS g i (by rw[hS0];exact hs),?_,rfl,Le.refl _ _,hT,hG⟩
  ·obtain ⟨x,hx,hr'⟩:=hv.get hv'
   refine⟨x,?_,hr'⟩
   have hlt:=(List.getElem?_eq_some_iff.1 hx).1
   have e:vs[t]? =some x:=by simpa using hx
   rw[Array.getElem?_append_left (by simpa using hlt)]
   exact e
  ·have ho:h n=some o:=ho
   by_cases hm:n∈N
   ·obtain ⟨o',k1,k2,k3⟩:=hO.ok n hm
    rw[ho] at k1
    injection k1 with k1
    subst k1
    exact⟨k2,k3⟩
   ·rw[hN n hm] at ho;cases ho
  ·obtain ⟨o',k1,_⟩:=hO.ok n ((hD n).1 hn)
   exact⟨o',k1⟩
  ·exact hO.dis n (mem h1) n' (mem h2) b hne h1 h2
  ·simp[X,hn];omega
 refine calls_of_wp hf hb (Go.wp_mono (hw X _ X0.w0 _ rfl g) fun e a' w' hq=>?_)
 obtain ⟨σ',rfl,κ',g'⟩:=hq
 exact⟨g'.df,κ',rfl,g'.only,g'.m0,g'.s0,g'.s1⟩
section
variable {P:Program} {ρ:Operand→Option V} {H:Nat→Option HO} {d:Option Nat} {ty:TypeId} {pos:String} {af:Array Edge} {gu:Option (Nat×Bool)}
abbrev MQL (P:Program) (f:FuncId) (os:List (Nat×HO)) (args:List V) (v:Value):Prop:=MQ P f (os.map (·.1)) (look os) args v
theorem KH {x:Operand} {args:Array Operand} {ats:Array TypeId} {f:Nat} {caps:List C} {vs us:List V} {v:Value} {os L:List (Nat×HO)} (t:List (Nat×Nat)) (hx:Ev ρ x (.c (.fn f caps))) (hv:EvL ρ args.toList vs) (hP:MQL P f os us v)
 (hk:okB (os.map (·.1)) t=true) (hok:okV (jL (os.map (·.1)) t) (vs++caps.map V.c)=true) (hu:jE (byT (swT t)) (vs++caps.map V.c)=us) (hg:giv t H (os.map (·.1))=some os)
 (hw:((os.map (·.1)).all fun n=>match H (byT t n) with|some o=>o.within (jL (os.map (·.1)) t)|none=>false)=true) (e:((os.map (·.1)).map fun n=>(byT t n,HO.lost))=L):AQ P ρ H ⟨d,.call {callee:=.value x,args:=args,argTypes:=ats},ty,pos,af,gu⟩ v L:=by
 subst e
 have hk':∀ n∈os.map (·.1),byT (swT t) (byT t n)=n∧(n=0∨1000≤n):=fun n hn=>by
  have:=List.all_eq_true.1 hk n hn
  rw[Bool.and_eq_true,Bool.or_eq_true] at this
  refine⟨Nat.eq_of_beq_eq_true this.1,this.2.imp Nat.eq_of_beq_eq_true fun h=>?_⟩
  rw[Nat.ble_eq] at h;exact h
 obtain ⟨_,g2⟩:=pd hg
 refine .call (N:=os.map fun p:Nat×HO=>p.1) (h:=look os) (ns:=byT t) (inv:=byT (swT t)) rfl hx hv (fun n hn=>(hk' n hn).1) (fun n hn=>(hk' n hn).2) hok hu (fun n hn=>?_) hP
 obtain ⟨ob,k1,k2⟩:=g2 n hn
 have k3:=List.all_eq_true.1 hw n hn
 rw[k1] at k3
 exact⟨ob,k1,k3,k2⟩
end
section
variable {P:Program} {ops:Array Oper} {l:List (Nat×V)} {h h2:List (Nat×HO)} {rest:List Oper} {K:St→Prop} {J:Value→St→Prop} {d:Option Nat} {op:Op} {ty:TypeId} {pos:String} {af:Array Edge} {v:Value} {L:List (Nat×HO)}
end
end Am
namespace Am
variable [Tb]
open Go.RowKit
section
variable {P:Program} {ρ ρ':Operand→Option V} {H H':Nat→Option HO} {o:Oper}
theorem AQ.frame {v:Value} {L:List (Nat×HO)} (h:AQ P ρ H o v L) (hρ:∀ x∈o.op.operands,ρ' x=ρ x) (hH:∀ n∈L.map (·.1),H' n=H n):AQ P ρ' H' o v L:=by
 cases h with
 |call ho hx hv hinv hent hok hu hh hP=>
  rename_i x args ats f caps vs us N h ns inv
  refine .call ho (hx.congr (hρ _ (by simp[ho,Op.operands,Call.operands]))) (hv.congr fun y hy=>hρ _ (by simp[ho,Op.operands,Call.operands];exact .inr (by simpa using hy))) hinv hent hok hu (fun n hn=>?_) hP
  rw[hH _ (by rw[List.map_map];exact List.mem_map.2 ⟨n,hn,rfl⟩)]
  exact hh n hn
 |pan ho hx=>exact .pan ho (hx.congr (hρ _ (by simp[ho,Op.operands])))
end
def AY (P:Program) (ops:Array Oper):List Oper→St→List FP→(St→List FP→Prop)→(Value→St→List FP→List Nat→Prop)→Prop
 |[],σ,fs,K,_=>K σ fs
 |o :: l,σ,fs,K,J=>(∃ e,SE P ops σ.sl σ.hp o e∧AY P ops l (σ.app o.dst e) (fs++[e.fp]) K J)∨∃ v L,gd ops σ.sl o=some true∧AQ P (evA σ.sl) σ.hp o v L∧J v (σ.wr L) fs (L.map (·.1))
def Fu (ops:Array Oper) (fs:List FP) (rd:List Nat):Bool:=
 lU ops&&lu ops (fh ops) (A9 fs)&&((A9 fs).all fun j=>gA ops (fh ops) j (fs.length,(rd,rd)))&&decide (fs.length<ops.size) &&
  ((List.range ops.size).all fun k=>Nat.ble k fs.length || ((fh ops).getD k 0).testBit fs.length) &&
  (ops.toList.take (fs.length+1)).all fun o=>o.after.all fun e=>!Region.binds .any e || Nat.ble e.on fs.length
section
variable {P:Program} {nt:Nat} {Q:Exit→St→Prop} {σ:St}
theorem AY.sound {ops:Array Oper} {X:Cx} (hX:X.nt=nt):∀ (l:List Oper) (σ:St) (fs:List FP) (a:Act) (w:World) (κ:K),(l.all fun o=>match o.dst with|some t=>decide (t<nt)|none=>true)=true→AY P ops l σ fs (fun σ' _=>Q .normal σ') (fun v σ' _ _=>Q (jM v) σ')→Gm X σ a w κ→
 wpList P ops (fun e a' w'=>∃ σ',Q e σ'∧∃ κ',Gm X σ' a' w' κ') l a w
 |[],σ,fs,a,w,κ,_,h,g=>⟨σ,h,κ,g⟩
 |o :: l,σ,fs,a,w,κ,hl,h,g=>by
  rw[List.all_cons,Bool.and_eq_true] at hl
  refine wpList_step fun K hK=>?_
  rcases h with⟨e,hs,h⟩|⟨v,L,hg,hq,h⟩
  ·refine hs.sound g (fun t ht=>?_) fun a' w' κ' g'=>hK _ _ (AY.sound hX l _ _ a' w' κ' hl.2 h g')
   have:=hl.1
   rw[ht] at this
   rw[hX]
   exact of_decide_eq_true this
  ·rw[gT g hg,if_pos rfl]
   exact hq.sound g fun w' κ' g'=>⟨_,h,κ',g'⟩
theorem AW.regionY {id:Nat} {l:List Oper} (hl:(l.all fun o=>match o.dst with|some t=>decide (t<nt)|none=>true)=true) (h:AY P l.toArray l σ [] (fun σ' _=>Q .normal σ') fun v σ' _ _=>Q (jM v) σ'):AW P nt (.region id l.toArray false) Q σ:=
 fun _ a w κ hX g=>wp_region_lit (AY.sound hX l σ [] a w κ hl h g)
end
section
variable {P:Program} {ops:Array Oper} {Q:Exit→Act→World→Prop} {X:Cx}
theorem Ch.pullQ {oi:Oper} {v:Value} {L:List (Nat×HO)}:∀ (c:List (Nat×Eff)) {σ σ':St},(∀ p∈c,∃ oj,ops[p.1]? =some oj∧oi.apart ops oj=true∧zR p.2.fp (L.map (·.1),L.map (·.1))=true)→Ch P ops c σ σ'→AQ P (evA σ'.sl) σ'.hp oi v L→gd ops σ'.sl oi=some true→AQ P (evA σ.sl) σ.hp oi v L∧gd ops σ.sl oi=some true
 |[],σ,σ',_,h,hq,hg=>by cases h;exact⟨hq,hg⟩
 |(j,ej) :: c,σ,σ',hc,h,hq,hg=>by
  cases h with
  |cons ho hs h=>
   obtain ⟨oj,hoj,hap,hf⟩:=hc _ (.head _)
   rw[hoj] at ho
   injection ho with ho
   subst ho
   obtain ⟨h1,hg1⟩:=Ch.pullQ c (fun p hp=>hc p (.tail _ hp)) h hq hg
   obtain ⟨_,_,h3⟩:=Oper.apart_spec hap
   unfold zR Eff.fp at hf
   rw[Bool.and_eq_true] at hf
   have hsl:∀ d∈oi.looksAt ops,σ.sl d=(σ.app oj.dst ej).sl d:=fun d hd=>(rO σ _ _ d fun e=>h3 d e hd).symm
   refine⟨h1.frame (mN (ops:=ops) hsl) fun n hn=>(jT σ _ _ n fun p hp e=>?_).symm,(ma hsl).trans hg1⟩
   have:=List.all_eq_true.1 hf.1 p.1 (List.mem_map.2 ⟨p,hp,rfl⟩)
   simp at this
   obtain ⟨q,hq1,hq2⟩:=List.mem_map.1 hn
   exact this q.2 (by rw[e,←hq2];exact hq1)
theorem tN (hE:lU ops=true) (hd:∀ (i:Nat) (o:Oper),ops[i]? =some o→∀ t,o.dst=some t→t<X.nt) {σf:St} {ip:Nat} {op:Oper} (hop:ops[ip]? =some op) (hgu:gd ops σf.sl op=some true) {v:Value} {L:List (Nat×HO)} (hq:AQ P (evA σf.sl) σf.hp op v L)
 (hbeh:∀ k,k<ops.size→ip<k→((fh ops).getD k 0).testBit ip=true) (hfor:∀ j o,ops[j]? =some o→j≤ip→∀ e∈o.after,Region.binds .any e=true→e.on≤ip)
 (hQ:∀ (σ:St) a w κ,Gm X σ a w κ→Q (jM v) a w) :
 ∀ (m:Nat) (c:List (Nat×Eff)) (listed:Array Bool) (σ:St) (a:Act) (w:World) (κ:K),c.length+(ops.size - ip)=m→listed.size=ops.size→c.Pairwise (fun j i=>gA ops (fh ops) (j.1,j.2.fp) (i.1,i.2.fp)=true)→(∀ x∈c,x.1<ip)→
   (∀ x∈c,gA ops (fh ops) (x.1,x.2.fp) (ip,(L.map (·.1),L.map (·.1)))=true)→
   (∀ i,i<ops.size→(listed.getD i true=false↔(∃ x∈c,x.1=i)∨ip≤i))→(∀ j oj,ops[j]? =some oj→listed.getD j false=true→∀ e∈oj.after,Region.binds .any e=true→listed.getD e.on false=true)→
   Ch P ops c σ σf→Gm X σ a w κ→wpAny P .any ops Q m listed a w:=by
 have hip:ip<ops.size:=(Array.getElem?_eq_some_iff.1 hop).1
 intro m
 induction m with
 |zero=>intro c listed σ a w κ hc;omega
 |succ n ih=>
  intro c listed σ a w κ hc hz hp hlt hpq hl hcl h g
  have hlt':∀ x∈c,x.1<ops.size:=fun x hx=>Nat.lt_trans (hlt x hx) hip
  refine⟨fun hr=>?_,fun i hi=>?_⟩
  ·exfalso
   have key:∃ i o,ops[i]? =some o∧listed.getD i true=false∧∀ e∈o.after,Region.binds .any e=true→listed.getD e.on false=true:=by
    match c,hp,hlt,hlt',hpq,hl,h with
    |[],_,_,_,_,hl,_=>
     refine⟨ip,op,hop,(hl ip hip).2 (.inr (Nat.le_refl _)),fun e he hb=>?_⟩
     obtain ⟨hin,hself⟩:=jt hE hop e he
     have hle:=hfor ip op hop (Nat.le_refl _) e he hb
     have hin':e.on<listed.size:=by omega
     cases hle2:listed.getD e.on true with
     |true=>simp[hin'] at hle2 ⊢;exact hle2
     |false=>
      rcases (hl e.on hin).1 hle2 with⟨y,hy,_⟩|hy
      ·cases hy
      ·omega
    |x :: rest,hp,hlt,hlt',hpq,hl,_=>
     have hxlt:=hlt' x (.head _)
     have hxo:ops[x.1]? =some ops[x.1]:=Array.getElem?_eq_getElem hxlt
     refine⟨x.1,_,hxo,(hl x.1 hxlt).2 (.inl ⟨x,.head _,rfl⟩),fun e he hb=>?_⟩
     obtain ⟨hin,hself⟩:=jt hE hxo e he
     have hin':e.on<listed.size:=by omega
     cases hle:listed.getD e.on true with
     |true=>simp[hin'] at hle ⊢;exact hle
     |false=>
      have hle2:=hfor x.1 _ hxo (Nat.le_of_lt (hlt x (.head _))) e he hb
      have noD:∀ y:Nat×FP,gA ops (fh ops) (x.1,x.2.fp) y=true→y.1≠e.on:=fun y hy hye=>by
       unfold gA at hy
       split at hy
       ·rename_i oj oi h1 h2
        rw[hxo] at h1
        injection h1 with h1
        subst h1
        simp only[Bool.and_eq_true,Bool.not_eq_true'] at hy
        have hno:=hy.1.1
        have hyes:(ops[x.1].after.any fun e'=>Region.binds .any e'&&e'.on == y.1)=true:=Array.any_eq_true'.2 ⟨e,he,by simp[hb,hye]⟩
        rw[hyes] at hno
        cases hno
       ·cases hy
      rcases (hl e.on hin).1 hle with⟨y,hy,hye⟩|hy
      ·rcases List.mem_cons.1 hy with rfl|hy
       ·exact absurd hye.symm hself
       ·exact absurd hye (noD _ (List.rel_of_pairwise_cons hp hy))
      ·have:e.on=ip:=by omega
       exact absurd this.symm (noD _ (hpq x (.head _)))
   obtain ⟨i,o,ho,h0,hall⟩:=key
   have hmem:i∈Region.ready .any ops listed:=mem_ready.2 ⟨h0,o,ho,hall⟩
   rw[hr] at hmem
   cases hmem
  ·obtain ⟨h0,oi,hoi,hall⟩:=mem_ready.1 hi
   have hilt:i<ops.size:=(Array.getElem?_eq_some_iff.1 hoi).1
   rcases (hl i hilt).1 h0 with⟨⟨i',ei⟩,hic,hii⟩|hge
   ·simp only at hii
    subst hii
    obtain ⟨c1,c2,rfl⟩:=List.append_of_mem hic
    have hp':=List.pairwise_append.1 hp
    have hsub:(c1++c2).Sublist (c1++(i',ei) :: c2):=(List.sublist_cons_self _ _).append_left _
    obtain ⟨hs,hch⟩:=Ch.pull hoi c1 (fun p hp1=>by
     have hpj:=hp'.2.2 p hp1 (i',ei) (by simp)
     have hjo:ops[p.1]? =some (ops[p.1]'(hlt' p (by simp[hp1]))):=Array.getElem?_eq_getElem _
     refine⟨_,hjo,?_⟩
     simp only[gA,hjo,hoi,Bool.and_eq_true] at hpj
     have hre:=gJ hoi hall hcl (k:=p.1) ((hl p.1 (hlt' p (by simp[hp1]))).2 (.inl ⟨p,by simp[hp1],rfl⟩))
     rw[hre] at hpj
     simpa using hpj.2) h
    have hxk:∀ y∈c1++c2,y.1≠i':=by
     intro y hy heq
     rcases List.mem_append.1 hy with hy|hy
     ·have hpj:=hp'.2.2 y hy (i',ei) (by simp)
      simp[gA,hoi,heq] at hpj
     ·have hpj:=List.rel_of_pairwise_cons hp'.2.1 hy
      simp[gA,hoi,heq] at hpj
    have hi'lt:i'<ip:=hlt (i',ei) hic
    have nxt:∀ a' w' κ',Gm X (σ.app oi.dst ei) a' w' κ'→wpAny P .any ops Q n (listed.setIfInBounds i' true) a' w':=fun a' w' κ' g'=>by
     refine ih (c1++c2) _ _ a' w' κ' (by simp at hc ⊢;omega) (by simpa using hz) (hp.sublist hsub) (fun y hy=>hlt y (hsub.subset hy)) (fun y hy=>hpq y (hsub.subset hy)) (fun k hk=>?_) (nw hoi hall hcl) hch g'
     by_cases hki:k=i'
     ·subst hki
      constructor
      ·intro hg
       simp[hz,hk] at hg
      ·rintro (⟨y,hy,hye⟩|hge)
       ·exact absurd hye (hxk y hy)
       ·omega
     ·rw[getD_set_ne true (Ne.symm hki),hl k hk]
      constructor
      ·rintro (⟨y,hy,hye⟩|hge)
       ·refine .inl ⟨y,?_,hye⟩
        simp only[List.mem_append,List.mem_cons] at hy ⊢
        rcases hy with hy|rfl|hy
        ·exact .inl hy
        ·exact absurd hye.symm hki
        ·exact .inr hy
       ·exact .inr hge
      ·rintro (⟨y,hy,hye⟩|hge)
       ·exact .inl ⟨y,hsub.subset hy,hye⟩
       ·exact .inr hge
    unfold wpOp
    simp only[hoi]
    have:=hs.sound (Q:=Q) (N:=wpAny P .any ops Q n (listed.setIfInBounds i' true)) g (hd i' oi hoi) nxt
    split
    ·rename_i hw;rw[if_pos hw] at this;exact .inl this
    ·rename_i hw;rw[if_neg hw] at this;exact this
   ·have hnl:listed.getD ip true=false:=(hl ip hip).2 (.inr (Nat.le_refl _))
    have hieq:i=ip:=by
     rcases Nat.lt_or_ge ip i with hlt2|hlt2
     ·exfalso
      have:=gJ hoi hall hcl (k:=ip) hnl
      rw[hbeh i hilt hlt2] at this
      cases this
     ·omega
    subst hieq
    have ho:oi=op:=Option.some.inj (hoi.symm.trans hop)
    subst ho
    obtain ⟨hq0,hgd⟩:=Ch.pullQ (oi:=oi) c (fun p hp1=>by
     have hpj:=hpq p hp1
     have hjo:ops[p.1]? =some (ops[p.1]'(hlt' p hp1)):=Array.getElem?_eq_getElem _
     refine⟨_,hjo,?_⟩
     simp only[gA,hjo,hoi,Bool.and_eq_true] at hpj
     have hre:=gJ hoi hall hcl (k:=p.1) ((hl p.1 (hlt' p hp1)).2 (.inl ⟨p,hp1,rfl⟩))
     rw[hre] at hpj
     simpa using hpj.2) h hq hgu
    unfold wpOp
    simp only[hoi]
    rw[if_pos (gT g hgd)]
    exact .inl (hq0.sound g fun w' κ' g'=>hQ _ _ _ _ g')
theorem AY.chain {ops:Array Oper} {K:St→List FP→Prop} {J:Value→St→List FP→List Nat→Prop}:∀ (l:List Oper) (σ:St) (fs:List FP) (b:Nat),(∀ k,l[k]? =ops[b+k]?)→AY P ops l σ fs K J→
 (∃ (es:List Eff) (σ':St),es.length=l.length∧Ch P ops (es.zipIdx b |>.map fun p=>(p.2,p.1)) σ σ'∧K σ' (fs++es.map Eff.fp))∨
 ∃ (es:List Eff) (σ':St) (o:Oper) (v:Value) (L:List (Nat×HO)),l[es.length]? =some o∧gd ops σ'.sl o=some true∧Ch P ops (es.zipIdx b |>.map fun p=>(p.2,p.1)) σ σ'∧AQ P (evA σ'.sl) σ'.hp o v L∧J v (σ'.wr L) (fs++es.map Eff.fp) (L.map (·.1))
 |[],σ,fs,b,_,h=>.inl ⟨[],σ,rfl,.nil,by rw[List.map_nil,List.append_nil];exact h⟩
 |o :: l,σ,fs,b,hb,h=>by
  rcases h with⟨e,hs,h⟩|⟨v,L,hg,hq,hj⟩
  ·have ho:ops[b]? =some o:=by simpa using (hb 0).symm
   rcases AY.chain l _ _ (b+1) (fun k=>by have:=hb (k+1);simpa [Nat.add_assoc,Nat.add_comm 1 k] using this) h with⟨es,σ',h1,h2,h3⟩|⟨es,σ',o2,v,L,h1,hg,h2,hq,h3⟩
   ·refine .inl ⟨e :: es,σ',by simp[h1],?_,by simpa using h3⟩
    rw[List.zipIdx_cons,List.map_cons]
    exact .cons ho hs h2
   ·refine .inr ⟨e :: es,σ',o2,v,L,by simpa using h1,hg,?_,hq,by simpa using h3⟩
    rw[List.zipIdx_cons,List.map_cons]
    exact .cons ho hs h2
  ·exact .inr ⟨[],σ,o,v,L,rfl,hg,.nil,hq,by simpa using hj⟩
end
section
variable {P:Program} {nt:Nat} {Q:Exit→St→Prop} {σ:St}
theorem AW.drawnY {id:Nat} {l:List Oper} (hl:(l.all fun o=>match o.dst with|some t=>decide (t<nt)|none=>true)=true) (hm:P.follows .mixedOrders=true)
 (h:AY P l.toArray l σ [] (fun σ' fs=>Ft l.toArray fs=true∧Q .normal σ') fun v _ fs rd=>Fu l.toArray fs rd=true∧∀ σ',Q (jM v) σ'):AW P nt (.region id l.toArray true) Q σ:=fun X a w κ hX g=>by
 have hdst:∀ (i:Nat) (o:Oper),l.toArray[i]? =some o→∀ t,o.dst=some t→t<X.nt:=fun i o ho t ht=>by
  have hmem:o∈l:=List.mem_of_getElem? (l:=l) (i:=i) (by simpa using ho)
  have:=List.all_eq_true.1 hl o hmem
  rw[ht] at this
  rw[hX]
  exact of_decide_eq_true this
 have hfps:∀ es:List Eff,lu l.toArray (fh l.toArray) (A9 (es.map Eff.fp))=true→(es.zipIdx 0 |>.map fun p=>(p.2,p.1)).Pairwise (fun j i=>gA l.toArray (fh l.toArray) (j.1,j.2.fp) (i.1,i.2.fp)=true):=fun es hp=>by
  have hpp:=pK.1 hp
  unfold A9 at hpp
  rw[List.pairwise_map] at hpp ⊢
  have e:(es.map Eff.fp).zipIdx=es.zipIdx.map fun p=>(p.1.fp,p.2):=by rw[List.zipIdx_map];rfl
  rw[e,List.pairwise_map] at hpp
  exact hpp
 rcases AY.chain (ops:=l.toArray) l σ [] 0 (fun k=>by simp) h with⟨es,σ',h1,h2,h3,h4⟩|⟨es,σ',o,v,L,h1,hg,h2,hq,h3,h4⟩
 ·refine wp_region_any hm ?_
  simp only[Ft,Bool.and_eq_true,decide_eq_true_eq,List.nil_append] at h3
  obtain ⟨⟨hE,hp⟩,hlen⟩:=h3
  have hsz:l.toArray.size=(es.zipIdx 0 |>.map fun p=>(p.2,p.1)).length:=by simp[h1]
  rw[hsz]
  refine vX (X:=X) (σf:=σ') hE hdst (fun a' w' κ' g'=>⟨σ',h4,κ',g'⟩) _ _ _ σ a w.drew κ rfl (by simp[h1]) (hfps es hp) (fun x hx=>?_) (fun i hi=>?_) (fun j oj ho hli=>?_) h2 g.drew
  ·obtain ⟨p,hp1,rfl⟩:=List.mem_map.1 hx
   have:=List.snd_lt_of_mem_zipIdx hp1
   simp[h1] at this
   simpa using this
  ·have hi2:i<es.length:=by simp at hi;omega
   constructor
   ·intro _
    exact⟨(i,es[i]),List.mem_map.2 ⟨(es[i],i),List.mem_zipIdx_iff_getElem?.2 (by simp[hi2]),rfl⟩,rfl⟩
   ·intro _
    have:i<l.length:=by simpa using hi
    simp[h1,this]
  ·exfalso
   have hj':j<l.length:=by simpa using (Array.getElem?_eq_some_iff.1 ho).1
   simp[h1,hj'] at hli
 ·refine wp_region_any hm ?_
  unfold Fu at h3
  simp only[Bool.and_eq_true,decide_eq_true_eq,List.nil_append,List.length_map] at h3
  obtain ⟨⟨⟨⟨⟨hE,hp⟩,hpq⟩,hlen⟩,hbeh⟩,hfor⟩:=h3
  have hip:es.length<l.toArray.size:=hlen
  have hcl:(es.zipIdx 0 |>.map fun p=>(p.2,p.1)).length=es.length:=by simp
  refine tN (X:=X) (σf:=σ') (ip:=es.length) (op:=o) (v:=v) (L:=L) hE hdst (by simpa using h1) hg hq (fun k hk hlt=>?_) (fun j oj hoj hle e he hb=>?_) (fun σ2 a' w' κ' g'=>⟨σ2,h4 σ2,κ',g'⟩) _ _ _ σ a w.drew κ (by rw[hcl];omega) (by simp) (hfps es hp) (fun x hx=>?_) (fun x hx=>?_) (fun i hi=>?_) (fun j oj ho hli=>?_) h2 g.drew
  ·have:=List.all_eq_true.1 hbeh k (List.mem_range.2 hk)
   rw[Bool.or_eq_true] at this
   rcases this with h|h
   ·rw[Nat.ble_eq] at h;omega
   ·exact h
  ·have hmem:oj∈l.toArray.toList.take (es.length+1):=by
    refine List.mem_of_getElem? (i:=j) ?_
    rw[List.getElem?_take,if_pos (by omega)]
    simpa using hoj
   have h2:=List.all_eq_true.1 hfor oj hmem
   rw[Array.all_eq_true'] at h2
   have h3:=h2 e he
   rw[hb,Bool.not_true,Bool.false_or,Nat.ble_eq] at h3
   exact h3
  ·obtain ⟨p,hp1,rfl⟩:=List.mem_map.1 hx
   have:=List.snd_lt_of_mem_zipIdx hp1
   simpa using this
  ·obtain ⟨p,hp1,rfl⟩:=List.mem_map.1 hx
   refine List.all_eq_true.1 hpq (p.2,p.1.fp) ?_
   unfold A9
   rw[List.zipIdx_map]
   exact List.mem_map.2 ⟨(p.1.fp,p.2),List.mem_map.2 ⟨p,hp1,rfl⟩,rfl⟩
  ·constructor
   ·intro _
    rcases Nat.lt_or_ge i es.length with hlt|hge
    ·exact .inl ⟨(i,es[i]),List.mem_map.2 ⟨(es[i],i),List.mem_zipIdx_iff_getElem?.2 (by simp[hlt]),rfl⟩,rfl⟩
    ·exact .inr hge
   ·intro _
    have:i<l.length:=by simpa using hi
    simp[this]
  ·exfalso
   have hj':j<l.length:=by simpa using (Array.getElem?_eq_some_iff.1 ho).1
   simp[hj'] at hli
end
end Am
end Go.Proofs.YtkpodagbefnebaaGreatDoor
