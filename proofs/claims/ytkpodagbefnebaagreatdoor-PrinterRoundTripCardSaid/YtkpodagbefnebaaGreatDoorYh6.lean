import Derived.Test.YtkpodagbefnebaaGreatDoorYh5
set_option linter.unusedSimpArgs false
set_option linter.unusedVariables false
set_option linter.unusedSectionVars false
namespace Go.Proofs.YtkpodagbefnebaaGreatDoor
namespace Am
variable [Tb]
open Go.RowKit
section
variable {P:Program} {ops:Array Oper} {l:List (Nat×V)} {h:List (Nat×HO)} {rest:List Oper} {fs:List FP} {K:St→List FP→Prop} {J:Value→St→List FP→List Nat→Prop} {t:Nat} {op:Op} {ty:TypeId} {pos:String} {af:Array Edge} {gu:Option (Nat×Bool)} {v:V} {rd:List Nat} {n m:Nat} {ob ob2:HO} {gp:Nat×Bool}
theorem y_v (hs:AS P (evA (look l)) (look h) ⟨some t,op,ty,pos,af,none⟩ ⟨v,[],rd⟩) (k:AY P ops rest (mk ((t,v) :: l) h) (fs++[([],rd)]) K J):AY P ops (⟨some t,op,ty,pos,af,none⟩ :: rest) (mk l h) fs K J:=
 .inl ⟨_,.yes rfl hs,by rw[St.app];rw[← ig] at k;exact k⟩
theorem y_w (hs:AS P (evA (look l)) (look h) ⟨some t,op,ty,pos,af,none⟩ ⟨v,[(n,ob)],rd⟩) (k:AY P ops rest (mk ((t,v) :: l) ((n,ob) :: h)) (fs++[([n],rd)]) K J):AY P ops (⟨some t,op,ty,pos,af,none⟩ :: rest) (mk l h) fs K J:=
 .inl ⟨_,.yes rfl hs,by rw[St.app];rw[← ig,←set_mk] at k;exact k⟩
theorem Mq (hs:AS P (evA (look l)) (look h) ⟨some t,op,ty,pos,af,none⟩ ⟨v,[(n,ob),(m,ob2)],rd⟩) (k:AY P ops rest (mk ((t,v) :: l) ((m,ob2) :: (n,ob) :: h)) (fs++[([n,m],rd)]) K J):AY P ops (⟨some t,op,ty,pos,af,none⟩ :: rest) (mk l h) fs K J:=
 .inl ⟨_,.yes rfl hs,by rw[St.app];rw[← ig,←set_mk,←set_mk] at k;exact k⟩
theorem y_s (hs:AS P (evA (look l)) (look h) ⟨none,op,ty,pos,af,none⟩ ⟨v,[(n,ob)],rd⟩) (k:AY P ops rest (mk l ((n,ob) :: h)) (fs++[([n],rd)]) K J):AY P ops (⟨none,op,ty,pos,af,none⟩ :: rest) (mk l h) fs K J:=
 .inl ⟨_,.yes rfl hs,by rw[St.app];rw[← set_mk] at k;exact k⟩
theorem y_x {L h2:List (Nat×HO)} (hs:AS P (evA (look l)) (look h) ⟨some t,op,ty,pos,af,none⟩ ⟨v,L,rd⟩) (e:L.reverse++h=h2) (k:AY P ops rest (mk ((t,v) :: l) h2) (fs++[(L.map (·.1),rd)]) K J):AY P ops (⟨some t,op,ty,pos,af,none⟩ :: rest) (mk l h) fs K J:=
 .inl ⟨_,.yes rfl hs,by rw[St.app,zy,e,ig];exact k⟩
theorem y_n (hg:gd ops (look l) ⟨some t,op,ty,pos,af,some gp⟩=some false) (k:AY P ops rest (mk ((t,jP) :: l) h) (fs++[([],[])]) K J):AY P ops (⟨some t,op,ty,pos,af,some gp⟩ :: rest) (mk l h) fs K J:=
 .inl ⟨_,.no hg,by rw[St.app];rw[← ig] at k;exact k⟩
theorem y_m {b:Bool} (hg:gd ops (look l) ⟨some t,op,ty,pos,af,some gp⟩=some b) (hs:b=true→AS P (evA (look l)) (look h) ⟨some t,op,ty,pos,af,some gp⟩ ⟨v,[],rd⟩) (k:AY P ops rest (mk ((t,.wh b v) :: l) h) (fs++[([],rd)]) K J):AY P ops (⟨some t,op,ty,pos,af,some gp⟩ :: rest) (mk l h) fs K J:=
 .inl ⟨_,.may hg hs,by rw[St.app];rw[← ig] at k;exact k⟩
theorem y_g {b:Bool} (hg:gd ops (look l) ⟨some t,op,ty,pos,af,some gp⟩=some b) (hs:b=true→AS P (evA (look l)) (look h) ⟨some t,op,ty,pos,af,some gp⟩ ⟨v,[(n,ob)],rd⟩) (k:b=true→AY P ops rest (mk ((t,v) :: l) ((n,ob) :: h)) (fs++[([n],rd)]) K J) (k0:b=false→AY P ops rest (mk ((t,jP) :: l) h) (fs++[([],[])]) K J):AY P ops (⟨some t,op,ty,pos,af,some gp⟩ :: rest) (mk l h) fs K J:=by
 cases b with
 |true=>exact .inl ⟨_,.yes hg (hs rfl),by rw[St.app];have k:=k rfl;rw[← ig,←set_mk] at k;exact k⟩
 |false=>exact y_n hg (k0 rfl)
theorem y_e (k:K (mk l h) fs):AY P ops [] (mk l h) fs K J:=k
theorem y_f {g:Bool} (hg:gd ops (look l) ⟨some t,op,ty,pos,af,some gp⟩=some g) (hf:g=false) (k:AY P ops rest (mk ((t,jP) :: l) h) (fs++[([],[])]) K J):AY P ops (⟨some t,op,ty,pos,af,some gp⟩ :: rest) (mk l h) fs K J:=y_n (hg.trans (by rw[hf])) k
theorem Nf (k:AY P ops rest (mk l h) fs K J):AY P ops rest (mk l h) fs K J:=k
end
section
variable {P:Program} {nt id i:Nat} {Q:Exit→St→Prop} {N:St→Prop} {σ:St} {y:Code} {l:List Oper} {v:Value}
theorem Mp (hl:(l.all fun o=>match o.dst with|some t=>decide (t<nt)|none=>true)=true) (h:AY P l.toArray l σ [] (fun σ' _=>Q .normal σ') fun v σ' _ _=>Q (jM v) σ'):AW P nt (.region id l.toArray false) Q σ:=.regionY hl h
theorem Mn (hl:(l.all fun o=>match o.dst with|some t=>decide (t<nt)|none=>true)=true) (hm:P.follows .mixedOrders=true) (h:AY P l.toArray l σ [] (fun σ' fs=>Ft l.toArray fs=true∧Q .normal σ') fun v _ fs rd=>Fu l.toArray fs rd=true∧∀ σ',Q (jM v) σ'):AW P nt (.region id l.toArray true) Q σ:=.drawnY hl hm h
theorem aE (h:Q (jM v) σ):qk N Q (jM v) σ:=h
theorem cf (h:Q (jM v) σ):jX id Q (jM v) σ:=h
end
mutual
theorem Dr {ns:Nat→Nat}:∀ c:C,C.ok noN c=true→C.ren ns c=c
 | .sc _,_=>by rw[C.ren]
 | .nil,_=>by rw[C.ren]
 | .lst t k xs,h=>by
   cases t with
   |none=>
    have h:(true&&bB noN xs)=true:=h
    rw[Bool.and_eq_true] at h
    rw[C.ren,pW xs h.2];rfl
   |some τ=>
    have h:(false&&bB noN xs)=true:=h
    cases h
 | .ptr n off,h=>by cases h
 | .ep cs,h=>by rw[C.ren,kB cs h]
 | .fn f cs,h=>by rw[C.ren,kB cs h]
theorem kB {ns:Nat→Nat}:∀ cs:List C,okL noN cs=true→je ns cs=cs
 |[],_=>rfl
 |c :: l,h=>by
  rw[okL,Bool.and_eq_true] at h
  rw[je,Dr c h.1,kB l h.2]
theorem pW {ns:Nat→Nat}:∀ xs:List (List C),bB noN xs=true→nK ns xs=xs
 |[],_=>rfl
 |x :: l,h=>by
  rw[bB,Bool.and_eq_true] at h
  rw[nK,kB x h.1,pW l h.2]
end
mutual
theorem mw {ns:Nat→Nat}:∀ v:V,V.ok noN v=true→V.ren ns v=v
 | .c x,h=>by rw[V.ok] at h;rw[V.ren,Dr x h]
 | .agg cs,h=>by rw[V.ok] at h;rw[V.ren,kB cs h]
 | .tup l,h=>by rw[V.ok] at h;rw[V.ren,tj l h]
 | .wh g v,h=>by rw[V.ok] at h;rw[V.ren,mw v h]
theorem tj {ns:Nat→Nat}:∀ l:List V,okV noN l=true→jE ns l=l
 |[],_=>rfl
 |v :: l,h=>by
  rw[okV,Bool.and_eq_true] at h
  rw[jE,mw v h.1,tj l h.2]
end
mutual
theorem yZ {d:Nat→Bool}:∀ c:C,C.ok noN c=true→C.ok d c=true
 | .sc _,_=>rfl
 | .nil,_=>rfl
 | .lst t k xs,h=>by
   cases t with
   |none=>
    have h:(true&&bB noN xs)=true:=h
    rw[Bool.and_eq_true] at h
    show(true&&bB d xs)=true;rw[vi xs h.2];rfl
   |some τ=>
    have h:(false&&bB noN xs)=true:=h
    cases h
 | .ptr n off,h=>by cases h
 | .ep cs,h=>kt cs h
 | .fn f cs,h=>kt cs h
theorem kt {d:Nat→Bool}:∀ cs:List C,okL noN cs=true→okL d cs=true
 |[],_=>rfl
 |c :: l,h=>by
  rw[okL,Bool.and_eq_true] at h
  rw[okL,yZ c h.1,kt l h.2];rfl
theorem vi {d:Nat→Bool}:∀ xs:List (List C),bB noN xs=true→bB d xs=true
 |[],_=>rfl
 |x :: l,h=>by
  rw[bB,Bool.and_eq_true] at h
  rw[bB,kt x h.1,vi l h.2];rfl
end
mutual
theorem mm {d:Nat→Bool}:∀ v:V,V.ok noN v=true→V.ok d v=true
 | .c x,h=>yZ x h
 | .agg cs,h=>kt cs h
 | .tup l,h=>sR l h
 | .wh g v,h=>mm v h
theorem sR {d:Nat→Bool}:∀ l:List V,okV noN l=true→okV d l=true
 |[],_=>rfl
 |v :: l,h=>by
  rw[okV,Bool.and_eq_true] at h
  rw[okV,mm v h.1,sR l h.2];rfl
end
theorem jC {ns:Nat→Nat} {o:HO} (h:o.one=true):o.ren ns=o:=by
 cases o with
 |obj ty cs=>rw[HO.ren,kB cs h]
 |_=>rfl
theorem fG {d:Nat→Bool} {o:HO} (h:o.one=true):o.within d=true:=by
 cases o with
 |obj ty cs=>exact kt cs h
 |_=>rfl
structure MX0 {α β ε:Type} (P:Program) (f:FuncId) (os:List (Nat×HO)) (us:List V) (sp:Except ε (α×β)) (R:α→V) (O:β→List (Nat×HO)) (E:ε→Value):Prop where
 ok:∀ a b,sp= .ok (a,b)→MNL P f os us (R a) (O b)
 no:∀ e,sp= .error e→MQL P f os us (E e)
structure MX {α β ε:Type} (P:Program) (f:FuncId) (os:List (Nat×HO)) (us:List V) (sp:Except ε (α×β)) (R:α→V) (O:β→List (Nat×HO)) (E:ε→Value):Prop where
 ok:∀ a b,sp= .ok (a,b)→MNL P f os us (R a) (O b)
 no:∀ e,sp= .error e→MQL P f os us (E e)
 hR:∀ a,V.ok noN (R a)=true
 hO:∀ b,(O b).map (·.1)=os.map (·.1)∧((O b).all fun p=>p.2.one)=true
def HO.le (o o':HO):Prop:=(∀ (X:Cx) (κ:K) (w:World) (n:Nat),ObjOk X κ w n o→ObjOk X κ w n o')∧∀ (κ:K) (n:Nat) (σ τ:St),σ.hp n=some o→τ.hp n=some o'→bl τ κ n=bl σ κ n
def iL {α β ε:Type} (P:Program) (rl:List ResultVar) (N:List Nat) (sp:Except ε (α×β)) (R:α→V) (O:β→List (Nat×HO)) (E:ε→Value):Exit→St→Prop:=fun e σ=>
 (∃ x,sp= .error x∧e=jM (E x))∨((e= .ret∨e= .normal)∧∃ a b,sp= .ok (a,b)∧(∀ n∈N,∃ o o',σ.hp n=some o∧look (O b) n=some o'∧HO.le o o')∧∃ vs,ARes P σ rl vs∧(one vs).un=R a)
section
variable {κ:K} {w:World}
theorem ObjOk.un {X:Cx} {n:Nat} {o:HO} (h:ObjOk X κ w n o):ObjOk X κ w n o.un:=by
 cases o with
 |obj ty cs=>obtain ⟨vs,h1,h2,h3,h4⟩:=h;exact⟨vs,h1,h2.un,h3,h4⟩
 |_=>exact h
theorem L0 {σ τ:St} {n:Nat} {o:HO} (h1:σ.hp n=some o) (h2:τ.hp n=some o.un):bl τ κ n=bl σ κ n:=by
 unfold bl;rw[h1,h2];cases o <;> rfl
end
theorem aD {o o':HO} (h:o=o'):HO.le o o':=by
 subst h
 exact⟨fun _ _ _ _ h=>h,fun κ n σ τ h1 h2=>by unfold bl;rw[h1,h2]⟩
theorem HU {o o':HO} (h:o.un=o'):HO.le o o':=by
 subst h
 exact⟨fun _ _ _ _ h=>h.un,fun κ n σ τ h1 h2=>L0 h1 h2⟩
theorem MX0.of {α β ε:Type} {P:Program} {f nt:Nat} {fn:Func} {c:Code} {rl:List ResultVar} {os:List (Nat×HO)} {args:List V} {sp:Except ε (α×β)} {R:α→V} {O:β→List (Nat×HO)} {E:ε→Value} {sl:List (Nat×V)} (hc:bJ P f) (hf:P.funcs[f]? =some fn) (hb:fn.body=some c) (hn:fn.ntmps=nt) (hres:fn.results=rl.toArray) (hl:Nat.ble args.length nt=true)
 (hs:sl=args.zipIdx.map fun p=>(p.2,p.1)) (hw:AW P nt c (iL P rl (os.map (·.1)) sp R O E) (Am.mk sl os)):MX0 P f os args sp R O E:=by
 have hw1:AW P nt c (iL P fn.results.toList (os.map (·.1)) sp R O E) ⟨fun i=>args[i]?,look os⟩:=by
  have e:(fun i=>args[i]?)=look sl:=by
   subst hs
   have key:∀ (l:List V) (b i:Nat),look ((l.zipIdx b).map fun p=>(p.2,p.1)) (b+i)=l[i]?:=by
    intro l
    induction l with
    |nil=>intro b i;rfl
    |cons v l ih=>
     intro b i
     rw[List.zipIdx_cons,List.map_cons]
     unfold look
     cases i with
     |zero=>simp
     |succ i=>
      have:Nat.beq b (b+(i+1))=false:=by
       cases hb:Nat.beq b (b+(i+1)) with
       |false=>rfl
       |true=>have:=Nat.eq_of_beq_eq_true hb;omega
      simp only[this]
      have:=ih (b+1) i
      rw[show b+(i+1)=b+1+i by omega,this]
      rfl
   funext i
   have:=key args 0 i
   rw[Nat.zero_add] at this
   exact this.symm
  rw[e,hres,List.toList_toArray]
  exact hw
 have hl':=Nat.le_of_ble_eq_true hl
 have hN:∀ n,n ∉ os.map (·.1)→look os n=none:=fun n hn=>j8 hn
 refine⟨fun a b hab=>⟨hc,fun X0 vs hT hG hS0 hD hOb hS hv=>?_⟩,fun x hx=>?_⟩
 ·have hvl:vs.size=args.length:=by have:=hv.1;simp at this;omega
  let X:Cx:={X0 with nt:=nt,dfs:=[]}
  have mem:∀ {n b},b∈bl ⟨fun i=>args[i]?,look os⟩ X0.K0 n→n∈os.map (·.1):=fun {n b} hb=>by
   by_cases hm:n∈os.map (·.1)
   ·exact hm
   ·rw[lP (hN n hm)] at hb;cases hb
  have g:Gm X ⟨fun i=>args[i]?,look os⟩ {tmps:=vs++Array.replicate (fn.ntmps - vs.size) undef,defers:=[]} X0.w0 X0.K0:=by
   refine⟨fun t v hv'=>?_,fun n o ho=>?_,fun n hn=>?_,fun n n' b hne h1 h2=>?_,Keep.refl _ _,fun g i hs _=>.inl (by show X0.S0 g i;rw[hS0];exact hs),fun g i hs=>hS g i (by rw[hS0];exact hs),?_,rfl,Le.refl _ _,hT,hG⟩
   ·obtain ⟨x,hx,hr'⟩:=hv.get hv'
    refine⟨x,?_,hr'⟩
    have hlt:=(List.getElem?_eq_some_iff.1 hx).1
    have e:vs[t]? =some x:=by simpa using hx
    rw[Array.getElem?_append_left (by simpa using hlt)]
    exact e
   ·have ho:look os n=some o:=ho
    by_cases hm:n∈os.map (·.1)
    ·obtain ⟨o',k1,k2,k3⟩:=hOb.ok n hm
     rw[ho] at k1
     injection k1 with k1
     subst k1
     exact⟨k2,k3⟩
    ·rw[hN n hm] at ho;cases ho
   ·obtain ⟨o',k1,_⟩:=hOb.ok n ((hD n).1 hn)
    exact⟨o',k1⟩
   ·exact hOb.dis n (mem h1) n' (mem h2) b hne h1 h2
   ·simp[X,hn];omega
  refine calls_of_wp hf hb (Go.wp_mono (hw1 X _ X0.w0 _ rfl g) fun e a' w' hq=>?_)
  obtain ⟨σ',hx|⟨he,a2,b2,hsp,hh,us,hres,hun⟩,κ',g'⟩:=hq
  ·obtain ⟨x,hx,_⟩:=hx
   rw[hab] at hx;cases hx
  ·rw[hab] at hsp
   injection hsp with hsp
   injection hsp with h1 h2
   subst h1 h2
   obtain ⟨x,hx,hrx⟩:=iX g' hres
   have hr:RepV κ' w' (R a) x:=hun▸hrx.un
   have hbl:∀ n∈os.map (·.1),bl ⟨fun _=>none,look (O b)⟩ κ' n=bl σ' κ' n:=fun n hm=>by
    obtain ⟨o,o',k1,k2,k3⟩:=hh n hm
    exact k3.2 κ' n σ' _ k1 k2
   have hobj:Objs X0 κ' w' (os.map (·.1)) (look (O b)):=by
    refine⟨fun n hm=>?_,fun n hm n' hm' b' hne h1 h2=>?_⟩
    ·have hd:=(g'.m0.D n ((hD n).2 hm)).1
     obtain ⟨o,o',k1,k2,k3⟩:=hh n hm
     refine⟨o',k2,hd,?_⟩
     exact k3.1 X0 κ' w' n (g'.hp n o k1).2
    ·rw[hbl n hm] at h1
     rw[hbl n' hm'] at h2
     exact g'.dis n n' b' hne h1 h2
   rcases he with rfl|rfl
   ·exact⟨g'.df,x,hx,x,κ',rfl,g'.only,g'.m0,g'.s0,g'.s1,hobj,hr⟩
   ·exact⟨g'.df,x,hx,x,κ',rfl,g'.only,g'.m0,g'.s0,g'.s1,hobj,hr⟩
 ·refine MQ.of hc hf hb hn hl' hN (hw1.mono fun e σ hq=>?_)
  rcases hq with⟨y,hy,he⟩|⟨_,a,b,hsp,_⟩
  ·rw[hx] at hy;injection hy with hy;subst hy;exact he
  ·rw[hx] at hsp;cases hsp
theorem MX.of {α β ε:Type} {P:Program} {f nt:Nat} {fn:Func} {c:Code} {rl:List ResultVar} {os:List (Nat×HO)} {args:List V} {sp:Except ε (α×β)} {R:α→V} {O:β→List (Nat×HO)} {E:ε→Value} {sl:List (Nat×V)} (hc:bJ P f) (hf:P.funcs[f]? =some fn) (hb:fn.body=some c) (hn:fn.ntmps=nt) (hres:fn.results=rl.toArray) (hl:Nat.ble args.length nt=true)
 (hs:sl=args.zipIdx.map fun p=>(p.2,p.1)) (hR:∀ a,V.ok noN (R a)=true) (hO:∀ b,(O b).map (·.1)=os.map (·.1)∧((O b).all fun p=>p.2.one)=true) (hw:AW P nt c (iL P rl (os.map (·.1)) sp R O E) (Am.mk sl os)):MX P f os args sp R O E:=
 have h:=MX0.of hc hf hb hn hres hl hs hw
 ⟨h.ok,h.no,hR,hO⟩
theorem MXA {α β ε:Type} {P:Program} {f nt:Nat} {fn:Func} {c:Code} {rl:List ResultVar} {os:List (Nat×HO)} {args:List V} {sp:Except ε (α×β)} {R:α→V} {O:β→List (Nat×HO)} {E:ε→Value} {sl:List (Nat×V)} (hc:bJ P f) (hf:P.funcs[f]? =some fn) (hb:fn.body=some c) (hn:fn.ntmps=nt) (hres:fn.results=rl.toArray) (hl:Nat.ble args.length nt=true) (hs:sl=args.zipIdx.map fun p=>(p.2,p.1)) (hw:AW P nt c (iL P rl (os.map (·.1)) sp R O E) (Am.mk sl os)) (hR:∀ a,V.ok noN (R a)=true:=by intro a;first|rfl|simp[V.ok,okL,C.ok,okA,okV]) (hO:∀ b,(O b).map (·.1)=os.map (·.1)∧((O b).all fun p=>p.2.one)=true:=by intro b;exact⟨rfl,by simp[HO.one,okL,C.ok,okA]⟩):MX P f os args sp R O E:=MX.of hc hf hb hn hres hl hs hR hO hw
end Am
namespace Am
variable [Tb]
open Go.RowKit
inductive RnL (t:List (Nat×Nat)) (N:List Nat):List V→List V→Prop
 |nil:RnL t N [] []
 |ptr {n m off:Nat} {l l':List V}:byT t m=n→N.contains m=true→RnL t N l l'→RnL t N (.c (.ptr n off) :: l) (.c (.ptr m off) :: l')
 |cl {v:V} {l l':List V}:V.ok noN v=true→RnL t N l l'→RnL t N (v :: l) (v :: l')
 |fn1 {f n m off:Nat} {l l':List V}:byT t m=n→N.contains m=true→RnL t N l l'→RnL t N (.c (.fn f [.ptr n off]) :: l) (.c (.fn f [.ptr m off]) :: l')
 |fn2 {f n m off n2 m2 off2:Nat} {l l':List V}:byT t m=n→N.contains m=true→byT t m2=n2→N.contains m2=true→RnL t N l l'→RnL t N (.c (.fn f [.ptr n off,.ptr n2 off2]) :: l) (.c (.fn f [.ptr m off,.ptr m2 off2]) :: l')
inductive GvL (t:List (Nat×Nat)) (H:Nat→Option HO):List (Nat×HO)→Prop
 |nil:GvL t H []
 |cons {n:Nat} {o:HO} {l:List (Nat×HO)}:H (byT t n)=some o→o.one=true→GvL t H l→GvL t H ((n,o) :: l)
theorem Gy {N:List Nat} {t:List (Nat×Nat)} (h:okB N t=true) {m:Nat} (hm:N.contains m=true):byT (swT t) (byT t m)=m:=by
 have:=List.all_eq_true.1 h m (List.contains_iff_mem.1 hm)
 rw[Bool.and_eq_true] at this
 exact Nat.eq_of_beq_eq_true this.1
theorem oq {N:List Nat} {t:List (Nat×Nat)} (h:okB N t=true) {m n:Nat} (hm:N.contains m=true) (e:byT t m=n):jL N t n=true∧byT (swT t) n=m:=by
 subst e
 have:=Gy h hm
 unfold jL
 rw[this]
 exact⟨by rw[hm];simp,rfl⟩
theorem RnL.ok {N:List Nat} {t:List (Nat×Nat)} (h:okB N t=true) {a b:List V} (r:RnL t N a b):okV (jL N t) a=true∧jE (byT (swT t)) a=b:=by
 induction r with
 |nil=>exact⟨rfl,rfl⟩
 |ptr e hm _ ih=>
  obtain ⟨h1,h2⟩:=oq h hm e
  refine⟨?_,?_⟩
  ·rw[okV,ih.1];show(jL N t _&&true)=true;rw[h1];rfl
  ·rw[jE,ih.2,V.ren,C.ren,h2]
 |cl hv _ ih=>exact⟨by rw[okV,ih.1,mm _ hv];rfl,by rw[jE,ih.2,mw _ hv]⟩
 |fn1 e hm _ ih=>
  obtain ⟨h1,h2⟩:=oq h hm e
  refine⟨?_,?_⟩
  ·rw[okV,ih.1];show((jL N t _&&true)&&true)=true;rw[h1];rfl
  ·rw[jE,ih.2,V.ren,C.ren,je,C.ren,h2];rfl
 |fn2 e hm e' hm' _ ih=>
  obtain ⟨h1,h2⟩:=oq h hm e
  obtain ⟨h1',h2'⟩:=oq h hm' e'
  refine⟨?_,?_⟩
  ·rw[okV,ih.1];show((jL N t _&&(jL N t _&&true))&&true)=true;rw[h1,h1'];rfl
  ·rw[jE,ih.2,V.ren,C.ren,je,je,C.ren,C.ren,h2,h2'];rfl
theorem GvL.giv {t:List (Nat×Nat)} {H:Nat→Option HO} {os:List (Nat×HO)} (h:GvL t H os):giv t H (os.map (·.1))=some os:=by
 induction h with
 |nil=>rfl
 |cons h1 h2 _ ih=>
  rw[List.map_cons]
  unfold Am.giv
  rw[h1]
  simp only[ih,Option.map_some,jC h2]
theorem GvL.within {t:List (Nat×Nat)} {H:Nat→Option HO} {os:List (Nat×HO)} {d:Nat→Bool} (h:GvL t H os):((os.map (·.1)).all fun n=>match H (byT t n) with|some o=>o.within d|none=>false)=true:=by
 induction h with
 |nil=>rfl
 |cons h1 h2 _ ih=>
  rw[List.map_cons,List.all_cons,ih,h1]
  simp only[fG h2];rfl
section
variable {P:Program} {ρ:Operand→Option V} {H:Nat→Option HO} {d:Option Nat} {ty:TypeId} {pos:String} {af:Array Edge} {gu:Option (Nat×Bool)} {x:Operand} {args:Array Operand} {ats:Array TypeId} {f:Nat} {caps:List C} {vs us:List V} {r:V}
theorem Ir {os os' L:List (Nat×HO)} {rd:List Nat} (t:List (Nat×Nat)) (hx:Ev ρ x (.c (.fn f caps))) (hv:EvL ρ args.toList vs) (hP:MNL P f os us r os') (hk:okB (os.map (·.1)) t=true) (hnd:decide (os.map (·.1)).Nodup=true)
 (hu:RnL t (os.map (·.1)) (vs++caps.map V.c) us) (hg:GvL t H os) (hs:os'.map (·.1)=os.map (·.1)) (ho':(os'.all fun p=>p.2.one)=true) (hr:V.ok noN r=true) (e2:(os'.map fun p=>(byT t p.1,p.2))=L) (e3:(os.map (·.1)).map (byT t)=rd) :
 AS P ρ H ⟨d,.call {callee:=.value x,args:=args,argTypes:=ats},ty,pos,af,gu⟩ ⟨r,L,rd⟩:=by
 obtain ⟨k1,k2⟩:=hu.ok hk
 refine Is t hx hv hP hk hnd k1 k2 hg.giv hg.within hs ?_ (mm _ hr) (mw _ hr) ?_ e3
 ·rw[List.all_eq_true] at ho' ⊢
  exact fun p hp=>fG (ho' p hp)
 ·rw[← e2]
  unfold tak
  rw[List.all_eq_true] at ho'
  exact List.map_congr_left fun p hp=>by rw[jC (ho' p hp)]
theorem D3 (n:Nat):okB [0] [(0,n)]=true:=by simp[okB,byT,swT]
theorem vh {n m:Nat} (h:Nat.beq n m=false):okB [0,1001] [(0,n),(1001,m)]=true:=by
 have:¬ n=m:=fun e=>by rw[e] at h;simp at h
 simp[okB,byT,swT,h]
theorem nQ {l:List V} {N:List Nat} {t:List (Nat×Nat)} (h:okV noN l=true):RnL t N l l:=by
 induction l with
 |nil=>exact .nil
 |cons v l ih=>
  rw[okV,Bool.and_eq_true] at h
  exact .cl h.1 (ih h.2)
theorem Io {n:Nat} {o o':HO} (hx:Ev ρ x (.c (.fn f []))) (hv:EvL ρ args.toList (.c (.ptr n 0) :: us)) (hn:H n=some o) (hP:MNL P f [(0,o)] (.c (.ptr 0 0) :: us) r [(0,o')]) (hok:okV noN us=true) (h1:o.one=true) (h2:o'.one=true) (hr:V.ok noN r=true) :
 AS P ρ H ⟨d,.call {callee:=.value x,args:=args,argTypes:=ats},ty,pos,af,gu⟩ ⟨r,[(n,o')],[n]⟩:=
 Ir [(0,n)] hx hv hP (D3 n) rfl (by rw[List.map_nil,List.append_nil];exact .ptr rfl rfl (nQ hok)) (.cons hn h1 .nil) rfl (by simp[h2]) hr rfl rfl
theorem KF {n m:Nat} {o o' s s':HO} (hx:Ev ρ x (.c (.fn f []))) (hv:EvL ρ args.toList (.c (.ptr n 0) :: .c (.ptr m 0) :: us)) (hn:H n=some o) (hm:H m=some s) (hP:MNL P f [(0,o),(1001,s)] (.c (.ptr 0 0) :: .c (.ptr 1001 0) :: us) r [(0,o'),(1001,s')]) (hok:okV noN us=true) (h1:o.one=true) (h2:o'.one=true) (h3:s.one=true) (h4:s'.one=true) (hr:V.ok noN r=true) (hnm:Nat.beq n m=false) :
 AS P ρ H ⟨d,.call {callee:=.value x,args:=args,argTypes:=ats},ty,pos,af,gu⟩ ⟨r,[(n,o'),(m,s')],[n,m]⟩:=
 Ir [(0,n),(1001,m)] hx hv hP (vh hnm) rfl (by rw[List.map_nil,List.append_nil];exact .ptr rfl rfl (.ptr rfl rfl (nQ hok))) (.cons hn h1 (.cons hm h3 .nil)) rfl (by simp[h2,h4]) hr rfl rfl
theorem wc {os L:List (Nat×HO)} {v:Value} (t:List (Nat×Nat)) (hx:Ev ρ x (.c (.fn f caps))) (hv:EvL ρ args.toList vs) (hP:MQL P f os us v) (hk:okB (os.map (·.1)) t=true)
 (hu:RnL t (os.map (·.1)) (vs++caps.map V.c) us) (hg:GvL t H os) (e:((os.map (·.1)).map fun n=>(byT t n,HO.lost))=L) :
 AQ P ρ H ⟨d,.call {callee:=.value x,args:=args,argTypes:=ats},ty,pos,af,gu⟩ v L:=by
 obtain ⟨k1,k2⟩:=hu.ok hk
 exact KH t hx hv hP hk k1 k2 hg.giv hg.within e
end
section
variable {P:Program} {ops:Array Oper} {l:List (Nat×V)} {h:List (Nat×HO)} {rest:List Oper} {fs:List FP} {K:St→List FP→Prop} {J:Value→St→List FP→List Nat→Prop} {t:Nat} {ty:TypeId} {pos:String} {af:Array Edge} {x:Operand} {args:Array Operand} {ats:Array TypeId} {f:Nat} {us:List V} {n m:Nat}
variable {α β ε:Type} {sp:Except ε (α×β)} {R:α→V} {E:ε→Value}
theorem N9 {o:HO} {O:β→HO} (hx:Ev (evA (look l)) x (.c (.fn f []))) (hv:EvL (evA (look l)) args.toList (.c (.ptr n 0) :: us)) (hn:look h n=some o) (hP:MX P f [(0,o)] (.c (.ptr 0 0) :: us) sp R (fun b=>[(0,O b)]) E) (hok:okV noN us=true) (h1:o.one=true)
 (k1:∀ a b,sp= .ok (a,b)→AY P ops rest (mk ((t,R a) :: l) ((n,O b) :: h)) (fs++[([n],[n])]) K J) (k2:∀ e,sp= .error e→∀ σ',J (E e) σ' fs [n]):AY P ops (⟨some t,.call {callee:=.value x,args:=args,argTypes:=ats},ty,pos,af,none⟩ :: rest) (mk l h) fs K J:=by
 cases hsp:sp with
 |ok p=>exact y_w (Io hx hv hn (hP.ok p.1 p.2 hsp) hok h1 (by have:=(hP.hO p.2).2;simpa using this) (hP.hR _)) (k1 p.1 p.2 hsp)
 |error e=>exact .inr ⟨_,[(n,.lost)],rfl,wc [(0,n)] hx hv (hP.no e hsp) (D3 n) (by rw[List.map_nil,List.append_nil];exact .ptr rfl rfl (nQ hok)) (.cons hn h1 .nil) rfl,k2 e hsp _⟩
theorem Na {o s:HO} {O S:β→HO} (hx:Ev (evA (look l)) x (.c (.fn f []))) (hv:EvL (evA (look l)) args.toList (.c (.ptr n 0) :: .c (.ptr m 0) :: us)) (hn:look h n=some o) (hm:look h m=some s) (hP:MX P f [(0,o),(1001,s)] (.c (.ptr 0 0) :: .c (.ptr 1001 0) :: us) sp R (fun b=>[(0,O b),(1001,S b)]) E) (hok:okV noN us=true) (h1:o.one=true) (h2:s.one=true) (hnm:Nat.beq n m=false)
 (k1:∀ a b,sp= .ok (a,b)→AY P ops rest (mk ((t,R a) :: l) ((m,S b) :: (n,O b) :: h)) (fs++[([n,m],[n,m])]) K J) (k2:∀ e,sp= .error e→∀ σ',J (E e) σ' fs [n,m]):AY P ops (⟨some t,.call {callee:=.value x,args:=args,argTypes:=ats},ty,pos,af,none⟩ :: rest) (mk l h) fs K J:=by
 cases hsp:sp with
 |ok p=>
  have:=(hP.hO p.2).2
  simp only[List.all_cons,List.all_nil,Bool.and_true,Bool.and_eq_true] at this
  exact Mq (KF hx hv hn hm (hP.ok p.1 p.2 hsp) hok h1 this.1 h2 this.2 (hP.hR _) hnm) (k1 p.1 p.2 hsp)
 |error e=>exact .inr ⟨_,[(n,.lost),(m,.lost)],rfl,wc [(0,n),(1001,m)] hx hv (hP.no e hsp) (vh hnm) (by rw[List.map_nil,List.append_nil];exact .ptr rfl rfl (.ptr rfl rfl (nQ hok))) (.cons hn h1 (.cons hm h2 .nil)) rfl,k2 e hsp _⟩
theorem Mm {gp:Nat×Bool} {g:Bool} {o s:HO} {O S:β→HO} (hg:gd ops (look l) ⟨some t,.call {callee:=.value x,args:=args,argTypes:=ats},ty,pos,af,some gp⟩=some g) (hx:Ev (evA (look l)) x (.c (.fn f []))) (hv:g=true→EvL (evA (look l)) args.toList (.c (.ptr n 0) :: .c (.ptr m 0) :: us)) (hn:look h n=some o) (hm:look h m=some s) (hP:MX P f [(0,o),(1001,s)] (.c (.ptr 0 0) :: .c (.ptr 1001 0) :: us) sp R (fun b=>[(0,O b),(1001,S b)]) E) (hok:okV noN us=true) (h1:o.one=true) (h2:s.one=true) (hnm:Nat.beq n m=false)
 (k1:g=true→∀ a b,sp= .ok (a,b)→AY P ops rest (mk ((t,R a) :: l) ((m,S b) :: (n,O b) :: h)) (fs++[([n,m],[n,m])]) K J) (k2:g=true→∀ e,sp= .error e→∀ σ',J (E e) σ' fs [n,m]) (k0:g=false→AY P ops rest (mk ((t,jP) :: l) h) (fs++[([],[])]) K J):AY P ops (⟨some t,.call {callee:=.value x,args:=args,argTypes:=ats},ty,pos,af,some gp⟩ :: rest) (mk l h) fs K J:=by
 cases g with
 |false=>exact y_n hg (k0 rfl)
 |true=>
  cases hsp:sp with
  |ok p=>
   have k:=k1 rfl p.1 p.2 hsp
   have:=(hP.hO p.2).2
   simp only[List.all_cons,List.all_nil,Bool.and_true,Bool.and_eq_true] at this
   exact .inl ⟨_,.yes hg (KF hx (hv rfl) hn hm (hP.ok p.1 p.2 hsp) hok h1 this.1 h2 this.2 (hP.hR _) hnm),by rw[St.app];rw[← ig,←set_mk,←set_mk] at k;exact k⟩
  |error e=>exact .inr ⟨_,[(n,.lost),(m,.lost)],hg,wc [(0,n),(1001,m)] hx (hv rfl) (hP.no e hsp) (vh hnm) (by rw[List.map_nil,List.append_nil];exact .ptr rfl rfl (.ptr rfl rfl (nQ hok))) (.cons hn h1 (.cons hm h2 .nil)) rfl,k2 rfl e hsp _⟩
theorem y_q {d:Option Nat} {v:Value} (hx:Ev (evA (look l)) x (.c (.fn f []))) (hv:EvL (evA (look l)) args.toList us) (hP:MQL P f [] us v) (hok:okV noN us=true) (k:∀ σ',J v σ' fs []):AY P ops (⟨d,.call {callee:=.value x,args:=args,argTypes:=ats},ty,pos,af,none⟩ :: rest) (mk l h) fs K J:=
 .inr ⟨v,[],rfl,wc [] hx hv hP rfl (by simp only[List.map_nil,List.append_nil];exact nQ hok) .nil rfl,k _⟩
end
section
variable {P:Program} {α β ε:Type} {sp:Except ε (α×β)} {R:α→V} {E:ε→Value} {rl:List ResultVar} {N:List Nat} {O:β→List (Nat×HO)} {l:List (Nat×V)} {h:List (Nat×HO)} {x:Exit} {σ:St}
theorem aY {e:ε} (hs:sp= .error e):iL P rl N sp R O E (jM (E e)) σ:=.inl ⟨e,hs,rfl⟩
theorem x_1 {O1:β→HO} {o:HO} {v:V} {t:Nat} (hx:Ev (evA (look l)) (.tmp t) v) (ho:look h 0=some o) (k:∃ a b,sp= .ok (a,b)∧v.un=R a∧HO.le o (O1 b)):iL P [.tmp t] [0] sp R (fun b=>[(0,O1 b)]) E .ret (mk l h):=by
 obtain ⟨a,b,h1,h2,h3⟩:=k
 exact .inr ⟨.inl rfl,a,b,h1,fun n hn=>by rw[List.mem_singleton.1 hn];exact⟨o,_,ho,rfl,h3⟩,[v],.tmp hx .nil,h2⟩
theorem N6 {O1:β→HO} {o:HO} {v:V} {t ty n off ty0 z:Nat} {cs:List C} {b:Bool} (hx:Ev (evA (look l)) (.tmp t) (.c (.ptr n off))) (hh:look h n=some (.obj ty0 cs)) (ht:tyi P ty=some (z,b)) (hc:aU b cs off z=some v) (ho:look h 0=some o) (k:∃ a b,sp= .ok (a,b)∧v.un=R a∧HO.le o (O1 b)):iL P [.cell t ty] [0] sp R (fun b=>[(0,O1 b)]) E .ret (mk l h):=by
 obtain ⟨a,b,h1,h2,h3⟩:=k
 exact .inr ⟨.inl rfl,a,b,h1,fun n hn=>by rw[List.mem_singleton.1 hn];exact⟨o,_,ho,rfl,h3⟩,[v],.cell hx hh ht hc .nil,h2⟩
theorem x_0 {O1:β→HO} {o:HO} (hx:x= .ret∨x= .normal) (ho:look h 0=some o) (k:∃ a b,sp= .ok (a,b)∧.tup []=R a∧HO.le o (O1 b)):iL P [] [0] sp R (fun b=>[(0,O1 b)]) E x (mk l h):=by
 obtain ⟨a,b,h1,h2,h3⟩:=k
 exact .inr ⟨hx,a,b,h1,fun n hn=>by rw[List.mem_singleton.1 hn];exact⟨o,_,ho,rfl,h3⟩,[],.nil,h2⟩
theorem x_d {O1 O2:β→HO} {o s:HO} {v:V} {t:Nat} (hx:Ev (evA (look l)) (.tmp t) v) (ho:look h 0=some o) (hs:look h 1001=some s) (k:∃ a b,sp= .ok (a,b)∧v.un=R a∧HO.le o (O1 b)∧HO.le s (O2 b)):iL P [.tmp t] [0,1001] sp R (fun b=>[(0,O1 b),(1001,O2 b)]) E .ret (mk l h):=by
 obtain ⟨a,b,h1,h2,h3,h4⟩:=k
 refine .inr ⟨.inl rfl,a,b,h1,fun n hn=>?_,[v],.tmp hx .nil,h2⟩
 rcases List.mem_cons.1 hn with rfl|hn
 ·exact⟨o,_,ho,rfl,h3⟩
 ·rw[List.mem_singleton.1 hn];exact⟨s,_,hs,rfl,h4⟩
theorem N7 {O1 O2:β→HO} {o s:HO} (hx:x= .ret∨x= .normal) (ho:look h 0=some o) (hs:look h 1001=some s) (k:∃ a b,sp= .ok (a,b)∧.tup []=R a∧HO.le o (O1 b)∧HO.le s (O2 b)):iL P [] [0,1001] sp R (fun b=>[(0,O1 b),(1001,O2 b)]) E x (mk l h):=by
 obtain ⟨a,b,h1,h2,h3,h4⟩:=k
 refine .inr ⟨hx,a,b,h1,fun n hn=>?_,[],.nil,h2⟩
 rcases List.mem_cons.1 hn with rfl|hn
 ·exact⟨o,_,ho,rfl,h3⟩
 ·rw[List.mem_singleton.1 hn];exact⟨s,_,hs,rfl,h4⟩
end
end Am
namespace Am
variable [Tb]
open Go.RowKit
theorem Reps.set {κ:K} {w:World} {cs:List C} {vs:List Value} (h:Reps κ w cs vs) {j:Nat} {c':C} (hc:∀ v,vs[j]? =some v→Rep κ w c' v):Reps κ w (cs.set j c') vs:=
 ⟨by rw[List.length_set];exact h.1,fun i c v hi hv=>by
  rw[List.getElem?_set] at hi
  split at hi
  ·rename_i e
   subst e
   split at hi
   ·injection hi with hi;subst hi;exact hc v hv
   ·cases hi
  ·exact h.2 i c v hi hv⟩
theorem Wk.nilRowH {σ:St} {n j τ e k ty:Nat} {cs:List C} (hn:σ.hp τ=none) (ho:σ.hp n=some (.obj ty cs)) (hj:cs[j]? =some .nil):Wk σ {sl:=σ.sl,hp:=upd (upd σ.hp τ (.row e k 0)) n (.obj ty (cs.set j (.lst (some τ) k [])))}:=fun X a w κ g=>by
 let κ':K:={κ with D:=fun n=>κ.D n∨n=τ,T:=gR κ.T τ (0,none,0)}
 have nD:¬ κ.D τ:=fun hd=>by obtain ⟨o,ho⟩:=g.D τ hd;rw[hn] at ho;cases ho
 have hne:n≠τ:=fun e=>by rw[e,hn] at ho;cases ho
 have T1:κ'.T τ=(0,none,0):=ca _ _ _
 have T2:∀ n,n≠τ→κ'.T n=κ.T n:=fun n hne=>iK _ _ hne
 have l:Le κ w κ' w:=⟨fun n hn=>⟨.inl hn,rfl⟩,fun g i hs hg=>⟨hs,rfl⟩,fun n hd=>.inl (T2 n fun(e:n=τ)=>nD (e▸hd))⟩
 have hbl:∀ m b,b∈bl {sl:=σ.sl,hp:=upd (upd σ.hp τ (.row e k 0)) n (.obj ty (cs.set j (.lst (some τ) k [])))} κ' m→m≠τ∧b∈bl σ κ m:=fun m b hb=>by
  unfold bl at hb ⊢
  by_cases h1:m=n
  ·subst h1
   simp only[aX] at hb
   exact⟨hne,by simp only[ho];exact hb⟩
  ·by_cases h2:m=τ
   ·subst h2
    simp only[bD _ _ h1,aX,T1] at hb
    cases hb
   ·simp only[bD _ _ h1,bD _ _ h2,T2 m h2] at hb
    exact⟨h2,hb⟩
 refine⟨κ',fun s v hv=>?_,fun m o hm=>?_,fun m hm=>?_,fun m m' b hne h1 h2=>g.dis m m' b hne (hbl m b h1).2 (hbl m' b h2).2,g.only,g.s0,g.s1,g.sz,g.df,g.m0.trans l g.only.size,g.tb⟩
 ·obtain ⟨x,hx,hr⟩:=g.sl s v hv
  exact⟨x,hx,hr.mono l⟩
 ·by_cases h1:m=n
  ·subst h1
   have:upd (upd σ.hp τ (.row e k 0)) m (.obj ty (cs.set j (.lst (some τ) k []))) m=some o:=hm
   rw[aX] at this
   injection this with this
   subst this
   obtain ⟨hD,ws,k1,k2,k3,k4⟩:=g.hp m _ ho
   refine⟨.inl hD,ws,k1,(k2.mono l).set fun v hv=>?_,k3,k4⟩
   have:=k2.2 j _ v hj hv
   cases this
   exact .lst (fun _ _=>default) rfl (fun x hx=>by cases hx) (Nat.le_refl _) (Nat.zero_le _) (.inl rfl) (fun i j x c hx=>by cases hx) fun τ' e=>by
    injection e with e
    subst e
    rw[T1]
    exact⟨.inr rfl,Nat.le_refl _,fun _=>rfl⟩
  ·by_cases h2:m=τ
   ·subst h2
    have:upd (upd σ.hp m (.row e k 0)) n (.obj ty (cs.set j (.lst (some m) k []))) m=some o:=hm
    rw[bD _ _ h1,aX] at this
    injection this with this
    subst this
    exact⟨.inr rfl,by rw[T1],.inl (by rw[T1];exact⟨rfl,rfl⟩)⟩
   ·have:upd (upd σ.hp τ (.row e k 0)) n (.obj ty (cs.set j (.lst (some τ) k []))) m=some o:=hm
    rw[bD _ _ h1,bD _ _ h2] at this
    obtain ⟨hD,hO⟩:=g.hp m o this
    refine⟨.inl hD,?_⟩
    cases o with
    |obj ty cs=>obtain ⟨vs,h1,h2,h3,h4⟩:=hO;exact⟨vs,h1,h2.mono l,h3,h4⟩
    |row e' k' q=>
     obtain ⟨p1,p2⟩:=hO
     exact⟨by rw[T2 m h2];exact p1,by rw[T2 m h2];exact p2⟩
    |bld ty e' bs=>exact hO.bld rfl rfl (fun b _ _=>rfl) (Nat.le_refl _) fun b i _ _ hs=>hs
    |lost=>trivial
    |gone=>exact hO
 ·by_cases h1:m=n
  ·exact⟨.obj ty (cs.set j (.lst (some τ) k [])),by subst h1;exact aX _ _ _⟩
  ·by_cases h2:m=τ
   ·exact⟨.row e k 0,(bD _ _ h1).trans (by subst h2;exact aX _ _ _)⟩
   ·rcases hm with hm|hm
    ·obtain ⟨o,ho⟩:=g.D m hm
     exact⟨o,(bD _ _ h1).trans ((bD _ _ h2).trans ho)⟩
    ·exact absurd hm h2
section
variable {P:Program} {nt:Nat} {c:Code} {Q:Exit→St→Prop} {l:List (Nat×V)} {h:List (Nat×HO)}
theorem nilRowH (n j τ e k:Nat) {ty:Nat} {cs cs':List C} (hn:look h τ=none) (ho:look h n=some (.obj ty cs)) (hj:cs[j]? =some .nil) (hc:cs.set j (.lst (some τ) k [])=cs') (K:AW P nt c Q (mk l ((n,.obj ty cs') :: (τ,.row e k 0) :: h))):AW P nt c Q (mk l h):=
 AW.weak (Wk.nilRowH (σ:=mk l h) (e:=e) (k:=k) hn ho hj) (by
  rw[hc,jq,jq]
  exact K)
theorem yT {α:Type} (f:α→List C) (t τ e k:Nat) (hn:look h τ=none) (ht:look l t=some (.c .nil)) (K:AW P nt c Q (mk ((t,.c (.lst (some τ) k (([]:List α).map f))) :: l) ((τ,.row e k 0) :: h))):AW P nt c Q (mk l h):=
 AW.weak (Wk.nilRow (σ:=mk l h) (e:=e) (k:=k) hn ht) (by
  rw[jq,jq]
  exact K)
end
theorem KN {P:Program} {ρ:Operand→Option V} {H:Nat→Option HO} {ty:TypeId} {pos:String} {af:Array Edge} {gu:Option (Nat×Bool)} {d t e k n:Nat} {parts:Array (Nat×Operand)} {zs cs:List C} {ps:List (Nat×List C)} {xs:List (List C)} (hd:H d=none) (ht:sle P t=some (e,k)) (hz:Zw P e zs) (hk:zs.length=k) (h0:0<k) (hn:n*k≤2 ^ 24) (hv:EvP ρ parts.toList ps) (hf:gw (fun i=>some (i*k,k)) ((List.replicate n zs).flatten) ps=some cs) (hx:chunk k n cs=xs) :
 AS P ρ H ⟨some d,.buildSlice t n parts,ty,pos,af,gu⟩ ⟨.c (.lst (some d) k xs),[(d,.row e k n)],[d]⟩:=hx▸.buildRow rfl rfl hd ht hz hk h0 hn hv hf
theorem HO.le.trans {a b c:HO} (h:HO.le a b) (k:HO.le b c) (hb:∃ ty cs,b= .obj ty cs):HO.le a c:=by
 obtain ⟨ty,cs,rfl⟩:=hb
 refine⟨fun X κ w n ho=>k.1 X κ w n (h.1 X κ w n ho),fun κ n σ τ h1 h2=>?_⟩
 have e1:=h.2 κ n σ ⟨σ.sl,fun _=>some (.obj ty cs)⟩ h1 rfl
 have e2:=k.2 κ n ⟨σ.sl,fun _=>some (.obj ty cs)⟩ τ rfl h2
 exact e2.trans e1
end Am
namespace Am
variable [Tb]
open Go.RowKit
abbrev nsR (t1 t2:Nat) (n:NS):List C:=[sB n.all,sB n.nt,sB n.self,.lst (some t1) 1 (n.names.map oneS),.lst (some t2) 1 (n.except.map oneS)]
abbrev elS (T S:TypeId) (q t1 t2:Nat) (n:NS):List (Nat×HO):=[(q,.obj T (nsR t1 t2 n)),(t1,.row S 1 n.names.length),(t2,.row S 1 n.except.length)]
def elO {β:Type} (T S:TypeId) (O:β→HO) (b:NS×β):List (Nat×HO):=(0,O b.2) :: elS T S 1001 1002 1003 b.1
theorem Ak (ns:Nat→Nat) (l:List ByteArray):nK ns (l.map oneS)=l.map oneS:=pW _ (okA.2.1 _ l)
theorem za (ns:Nat→Nat) (t1 t2:Nat) (n:NS):je ns (nsR t1 t2 n)=nsR (ns t1) (ns t2) n:=by
 simp only[je,C.ren,Ak,Option.map_some]
theorem sT (d:Nat→Bool) (t1 t2:Nat) (n:NS) (h1:d t1=true) (h2:d t2=true):okL d (nsR t1 t2 n)=true:=by
 have e:∀ t (l:List ByteArray),d t=true→C.ok d (.lst (some t) 1 (l.map oneS))=true:=fun t l h=>by
  show(d t&&bB d (l.map oneS))=true
  rw[h,okA.2.1 d l];rfl
 rw[okL,okL,okL,okL,okL,okL,e t1 _ h1,e t2 _ h2];rfl
theorem Kq (t1 t2:Nat) (n:NS):unL (nsR t1 t2 n)=nsC n:=by
 simp only[unL,C.un,unA.2.1]
 rfl
theorem EE {cs:List C} {n:NS} {t1 t2:Nat} (h:cs=nsR t1 t2 n):(V.agg cs).un= .agg (nsC n):=by
 subst h
 rw[V.un,Kq]
section
variable {P:Program} {ops:Array Oper} {l:List (Nat×V)} {h:List (Nat×HO)} {rest:List Oper} {fs:List FP} {K:St→List FP→Prop} {J:Value→St→List FP→List Nat→Prop} {t:Nat} {ty:TypeId} {pos:String} {af:Array Edge} {x:Operand} {args:Array Operand} {ats:Array TypeId} {f:Nat} {us:List V} {q T S:Nat}
variable {β ε:Type} {sp:Except ε (NS×β)} {E:ε→Value}
theorem Nd {n:NS} {o:HO} {O:β→HO} (hx:Ev (evA (look l)) x (.c (.fn f []))) (hv:EvL (evA (look l)) args.toList (.c (.ptr 0 0) :: .c (.ptr q 0) :: us)) (hq:(Nat.blt 0 q&&Nat.blt q 1000)=true) (hn:look h 0=some o) (hm:look h q=some (.obj T (nsR 1002 1003 n))) (h2:look h 1002=some (.row S 1 n.names.length)) (h3:look h 1003=some (.row S 1 n.except.length))
 (hP:MX0 P f ((0,o) :: elS T S 1001 1002 1003 n) (.c (.ptr 0 0) :: .c (.ptr 1001 0) :: us) (sp>>=fun x=>.ok ((),x)) (fun _=>.tup []) (elO T S O) E) (hok:okV noN us=true) (h1:o.one=true) (hO:∀ b,(O b).one=true)
 (k1:∀ a b,sp= .ok (a,b)→AY P ops rest (mk ((t,.tup []) :: l) ((1003,.row S 1 a.except.length) :: (1002,.row S 1 a.names.length) :: (q,.obj T (nsR 1002 1003 a)) :: (0,O b) :: h)) (fs++[([0,q,1002,1003],[0,q,1002,1003])]) K J) (k2:∀ e,sp= .error e→∀ σ',J (E e) σ' fs [0,q,1002,1003]):AY P ops (⟨some t,.call {callee:=.value x,args:=args,argTypes:=ats},ty,pos,af,none⟩ :: rest) (mk l h) fs K J:=by
 rw[Bool.and_eq_true] at hq
 have hq1:0<q:=Nat.le_of_ble_eq_true hq.1
 have hq2:q<1000:=Nat.le_of_ble_eq_true hq.2
 have b1:∀ m,byT [(1001,q)] m=if m=1001 then q else m:=fun m=>by
  unfold byT byT
  by_cases e:m=1001
  ·subst e;simp
  ·have:Nat.beq 1001 m=false:=by rw[IH];exact decide_eq_false fun h=>e h.symm
   rw[this,if_neg e]
 have b2:∀ m,byT (swT [(1001,q)]) m=if m=q then 1001 else m:=fun m=>by
  show byT [(q,1001)] m=_
  unfold byT byT
  by_cases e:m=q
  ·subst e;simp
  ·have:Nat.beq q m=false:=by rw[IH];exact decide_eq_false fun h=>e h.symm
   rw[this,if_neg e]
 have q0:¬ 0=q:=by omega
 have q2:¬ 1002=q:=by omega
 have q3:¬ 1003=q:=by omega
 have hkB:okB [0,1001,1002,1003] [(1001,q)]=true:=by
  simp[okB,b1,b2,q0,q2,q3]
 have hi:∀ m,m∈[0,q,1002,1003]→jL [0,1001,1002,1003] [(1001,q)] m=true:=fun m hm=>by
  unfold jL
  simp only[b1,b2]
  simp only[List.mem_cons,List.not_mem_nil,or_false] at hm
  rcases hm with rfl|rfl|rfl|rfl
  ·simp[q0]
  ·simp
  ·simp[q2]
  ·simp[q3]
 have i0:=hi 0 (by simp)
 have iq:=hi q (by simp)
 have i2:=hi 1002 (by simp)
 have i3:=hi 1003 (by simp)
 have hokV:okV (jL [0,1001,1002,1003] [(1001,q)]) ((.c (.ptr 0 0) :: .c (.ptr q 0) :: us)++([]:List C).map V.c)=true:=by
  rw[List.map_nil,List.append_nil]
  show(jL _ _ 0&&(jL _ _ q&&okV _ us))=true
  rw[i0,iq,sR us hok];rfl
 have hu:jE (byT (swT [(1001,q)])) ((.c (.ptr 0 0) :: .c (.ptr q 0) :: us)++([]:List C).map V.c)= .c (.ptr 0 0) :: .c (.ptr 1001 0) :: us:=by
  rw[List.map_nil,List.append_nil]
  simp only[jE,V.ren,C.ren,b2,if_neg q0,if_true,tj us hok]
 have hg:giv [(1001,q)] (look h) [0,1001,1002,1003]=some ((0,o) :: elS T S 1001 1002 1003 n):=by
  simp only[giv,b1,if_neg (show ¬ (0:Nat)=1001 by decide),if_neg (show ¬ (1002:Nat)=1001 by decide),if_neg (show ¬ (1003:Nat)=1001 by decide),if_true,hn,hm,h2,h3,Option.map_some,jC h1]
  have e:(HO.obj T (nsR 1002 1003 n)).ren (byT (swT [(1001,q)]))= .obj T (nsR 1002 1003 n):=by
   show HO.obj T (je _ _)=_
   rw[za,b2,b2,if_neg q2,if_neg q3]
  rw[e];rfl
 have hwi:([0,1001,1002,1003].all fun m=>match look h (byT [(1001,q)] m) with|some o=>o.within (jL [0,1001,1002,1003] [(1001,q)])|none=>false)=true:=by
  simp only[List.all_cons,List.all_nil,b1,if_neg (show ¬ (0:Nat)=1001 by decide),if_neg (show ¬ (1002:Nat)=1001 by decide),if_neg (show ¬ (1003:Nat)=1001 by decide),if_true,hn,hm,h2,h3,fG h1]
  have:(HO.obj T (nsR 1002 1003 n)).within (jL [0,1001,1002,1003] [(1001,q)])=true:=sT _ _ _ _ i2 i3
  rw[this];rfl
 cases hsp:sp with
 |ok p=>
  obtain ⟨m,b⟩:=p
  have hc:=hP.ok () (m,b) (by rw[hsp];rfl)
  have ha:AS P (evA (look l)) (look h) ⟨some t,.call {callee:=.value x,args:=args,argTypes:=ats},ty,pos,af,none⟩ ⟨.tup [],[(0,O b),(q,.obj T (nsR 1002 1003 m)),(1002,.row S 1 m.names.length),(1003,.row S 1 m.except.length)],[0,q,1002,1003]⟩:=by
   refine Is (os:=(0,o) :: elS T S 1001 1002 1003 n) [(1001,q)] hx hv hc hkB rfl hokV hu hg hwi rfl ?_ rfl rfl ?_ ?_
   ·have e1:(O b).within (fun m=>[0,1001,1002,1003].contains m)=true:=fG (hO b)
    have e2:(HO.obj T (nsR 1002 1003 m)).within (fun m=>[0,1001,1002,1003].contains m)=true:=sT _ _ _ _ rfl rfl
    show((O b).within (fun m=>[0,1001,1002,1003].contains m)&&((HO.obj T (nsR 1002 1003 m)).within (fun m=>[0,1001,1002,1003].contains m)&&(true&&(true&&true))))=true
    rw[e1,e2];rfl
   ·have e:(HO.obj T (nsR 1002 1003 m)).ren (byT [(1001,q)])= .obj T (nsR 1002 1003 m):=by
     show HO.obj T (je _ _)=_
     rw[za,b1,b1];rfl
    show[(byT [(1001,q)] 0,(O b).ren (byT [(1001,q)])),(byT [(1001,q)] 1001,(HO.obj T (nsR 1002 1003 m)).ren (byT [(1001,q)])),(byT [(1001,q)] 1002,_),(byT [(1001,q)] 1003,_)]=_
    rw[e,jC (hO b),b1,b1,b1,b1];rfl
   ·show[byT [(1001,q)] 0,byT [(1001,q)] 1001,byT [(1001,q)] 1002,byT [(1001,q)] 1003]=_
    rw[b1,b1,b1,b1];rfl
  exact y_x ha rfl (k1 m b hsp)
 |error e=>
  have hc:=hP.no e (by rw[hsp];rfl)
  refine .inr ⟨E e,[(0,.lost),(q,.lost),(1002,.lost),(1003,.lost)],rfl,KH (os:=(0,o) :: elS T S 1001 1002 1003 n) [(1001,q)] hx hv hc hkB hokV hu hg hwi ?_,k2 e hsp _⟩
  show[(byT [(1001,q)] 0,HO.lost),(byT [(1001,q)] 1001,HO.lost),(byT [(1001,q)] 1002,HO.lost),(byT [(1001,q)] 1003,HO.lost)]=_
  rw[b1,b1,b1,b1];rfl
end
theorem N8 {P:Program} {β ε:Type} {sp:Except ε (NS×β)} {E:ε→Value} {l:List (Nat×V)} {h:List (Nat×HO)} {x:Exit} {T S:Nat} {O:β→HO} {o:HO} {cs:List C} {m1 m2:Nat} (hx:x= .ret∨x= .normal) (h0:look h 0=some o) (h1:look h 1001=some (.obj T cs)) (h2:look h 1002=some (.row S 1 m1)) (h3:look h 1003=some (.row S 1 m2))
 (k:∃ a b,sp= .ok (a,b)∧HO.le o (O b)∧cs=nsR 1002 1003 a∧m1=a.names.length∧m2=a.except.length):iL P [] [0,1001,1002,1003] (sp>>=fun x=>.ok ((),x)) (fun _=>.tup []) (elO T S O) E x (mk l h):=by
 obtain ⟨a,b,e,e0,e1,e2,e3⟩:=k
 subst e1 e2 e3
 refine .inr ⟨hx,(),(a,b),by rw[e];rfl,fun n hn=>?_,[],.nil,rfl⟩
 rcases List.mem_cons.1 hn with rfl|hn
 ·exact⟨_,_,h0,rfl,e0⟩
 rcases List.mem_cons.1 hn with rfl|hn
 ·exact⟨_,_,h1,rfl,aD rfl⟩
 rcases List.mem_cons.1 hn with rfl|hn
 ·exact⟨_,_,h2,rfl,aD rfl⟩
 rcases List.mem_cons.1 hn with rfl|hn
 ·exact⟨_,_,h3,rfl,aD rfl⟩
 cases hn
abbrev lvR (t:Nat) (v:Lv):List C:=[sS v.sens,.lst (some t) 2 (v.cats.map spC)]
theorem D5 (d:Nat→Bool) (t:Nat) (v:Lv) (h:d t=true):okL d (lvR t v)=true:=by
 have e:C.ok d (.lst (some t) 2 (v.cats.map spC))=true:=by
  show(d t&&bB d (v.cats.map spC))=true
  rw[h,bW v.cats fun x _=>dc d x];rfl
 rw[okL,okL,e];rfl
theorem dr (t:Nat) (v:Lv):(V.agg (lvR t v)).un= .agg (lvC v):=by
 simp only[V.un,unL,C.un,bT v.cats fun x _=>da x]
 rfl
theorem zu {cs:List C} {v:Lv} {t:Nat} (h:cs=lvR t v):(V.agg cs).un= .agg (lvC v):=by
 subst h
 exact dr t v
end Am
namespace Am
set_option maxRecDepth 100000
set_option maxHeartbeats 4000000
section
variable {ρ:Operand→Option V} {H:Nat→Option HO} {d:Option Nat} {ty t2:TypeId} {pos:String} {af:Array Edge} {gu:Option (Nat×Bool)} {x y:Operand}
theorem B5 {x0:Operand} {y0:ByteArray} (h0:Ev ρ x0 (.c (sS y0))):AS Tryz.prog ρ H ⟨d,.build 25 #[(0,x0)],ty,pos,af,gu⟩ ⟨.agg (moC {Mo.zero with name:=y0}),[],[]⟩:=bq (zs:=moC Mo.zero) (ba rfl) (by decide +kernel) (by kernel_rfl) (show EvP ρ _ _ from .cons h0 rfl (.nil)) (by kernel_rfl)
theorem rK {x0 x1 x2:Operand} {y0:ByteArray} {y1:Int} {y2:List Stm} (h0:Ev ρ x0 (.c (sS y0))) (h1:Ev ρ x1 (.c (sI y1))) (h2:Ev ρ x2 (.c (.lst none 55 (y2.map stC)))):AS Tryz.prog ρ H ⟨d,.build 25 #[(0,x0),(1,x1),(2,x2)],ty,pos,af,gu⟩ ⟨.agg (moC {Mo.zero with name:=y0,version:=y1,stmts:=y2}),[],[]⟩:=bq (zs:=moC Mo.zero) (ba rfl) (by decide +kernel) (by kernel_rfl) (show EvP ρ _ _ from .cons h0 rfl (.cons h1 rfl (.cons h2 rfl (.nil)))) (by kernel_rfl)
theorem B6 {x0:Operand} {y0:List Stm} (h0:Ev ρ x0 (.c (.lst none 55 (y0.map stC)))):AS Tryz.prog ρ H ⟨d,.build 25 #[(2,x0)],ty,pos,af,gu⟩ ⟨.agg (moC {Mo.zero with stmts:=y0}),[],[]⟩:=bq (zs:=moC Mo.zero) (ba rfl) (by decide +kernel) (by kernel_rfl) (show EvP ρ _ _ from .cons h0 rfl (.nil)) (by kernel_rfl)
theorem vZ {x0 x1:Operand} {y0:Int} {y1:Int} (h0:Ev ρ x0 (.c (sI y0))) (h1:Ev ρ x1 (.c (sI y1))):AS Tryz.prog ρ H ⟨d,.build 28 #[(0,x0),(1,x1)],ty,pos,af,gu⟩ ⟨.agg (poC {Po.zero with line:=y0,col:=y1}),[],[]⟩:=bq (zs:=poC Po.zero) (ba rfl) (by decide +kernel) (by kernel_rfl) (show EvP ρ _ _ from .cons h0 rfl (.cons h1 rfl (.nil))) (by kernel_rfl)
theorem B7 {x0:Operand} {y0:Int} (h0:Ev ρ x0 (.c (sI y0))):AS Tryz.prog ρ H ⟨d,.build 30 #[(0,x0)],ty,pos,af,gu⟩ ⟨.agg (faC {Fa.zero with code:=y0}),[],[]⟩:=bq (zs:=faC Fa.zero) (ba rfl) (by decide +kernel) (by kernel_rfl) (show EvP ρ _ _ from .cons h0 rfl (.nil)) (by kernel_rfl)
theorem w4 {x0 x1:Operand} {y0:Int} {y1:Po} (h0:Ev ρ x0 (.c (sI y0))) (h1:Ev ρ x1 (.agg (poC y1))):AS Tryz.prog ρ H ⟨d,.build 30 #[(0,x0),(1,x1)],ty,pos,af,gu⟩ ⟨.agg (faC {Fa.zero with code:=y0,pos:=y1}),[],[]⟩:=bq (zs:=faC Fa.zero) (ba rfl) (by decide +kernel) (by kernel_rfl) (show EvP ρ _ _ from .cons h0 rfl (.cons h1 rfl (.nil))) (by kernel_rfl)
theorem oG {x0 x1 x2 x3:Operand} {y0:Int} {y1:Int} {y2:Int} {y3:Int} (h0:Ev ρ x0 (.c (sI y0))) (h1:Ev ρ x1 (.c (sI y1))) (h2:Ev ρ x2 (.c (sI y2))) (h3:Ev ρ x3 (.c (sI y3))):AS Tryz.prog ρ H ⟨d,.build 49 #[(0,x0),(1,x1),(2,x2),(3,x3)],ty,pos,af,gu⟩ ⟨.agg (exC {Ex.zero with op:=y0,a:=y1,rel:=y2,b:=y3}),[],[]⟩:=bq (zs:=exC Ex.zero) (ba rfl) (by decide +kernel) (by kernel_rfl) (show EvP ρ _ _ from .cons h0 rfl (.cons h1 rfl (.cons h2 rfl (.cons h3 rfl (.nil))))) (by kernel_rfl)
theorem rL {x0 x1 x2:Operand} {y0:Int} {y1:Int} {y2:List ByteArray} (h0:Ev ρ x0 (.c (sI y0))) (h1:Ev ρ x1 (.c (sI y1))) (h2:Ev ρ x2 (.c (bA y2))):AS Tryz.prog ρ H ⟨d,.build 49 #[(0,x0),(1,x1),(4,x2)],ty,pos,af,gu⟩ ⟨.agg (exC {Ex.zero with op:=y0,a:=y1,names:=y2}),[],[]⟩:=bq (zs:=exC Ex.zero) (ba rfl) (by decide +kernel) (by kernel_rfl) (show EvP ρ _ _ from .cons h0 rfl (.cons h1 rfl (.cons h2 rfl (.nil)))) (by kernel_rfl)
theorem w5 {x0 x1:Operand} {y0:Int} {y1:Int} (h0:Ev ρ x0 (.c (sI y0))) (h1:Ev ρ x1 (.c (sI y1))):AS Tryz.prog ρ H ⟨d,.build 49 #[(0,x0),(3,x1)],ty,pos,af,gu⟩ ⟨.agg (exC {Ex.zero with op:=y0,b:=y1}),[],[]⟩:=bq (zs:=exC Ex.zero) (ba rfl) (by decide +kernel) (by kernel_rfl) (show EvP ρ _ _ from .cons h0 rfl (.cons h1 rfl (.nil))) (by kernel_rfl)
theorem w6 {x0 x1:Operand} {y0:Int} {y1:List ByteArray} (h0:Ev ρ x0 (.c (sI y0))) (h1:Ev ρ x1 (.c (bA y1))):AS Tryz.prog ρ H ⟨d,.build 49 #[(0,x0),(4,x1)],ty,pos,af,gu⟩ ⟨.agg (exC {Ex.zero with op:=y0,names:=y1}),[],[]⟩:=bq (zs:=exC Ex.zero) (ba rfl) (by decide +kernel) (by kernel_rfl) (show EvP ρ _ _ from .cons h0 rfl (.cons h1 rfl (.nil))) (by kernel_rfl)
theorem w7 {x0 x1:Operand} {y0:Int} {y1:List Ex} (h0:Ev ρ x0 (.c (sI y0))) (h1:Ev ρ x1 (.c (.lst none 10 (y1.map exC)))):AS Tryz.prog ρ H ⟨d,.build 49 #[(0,x0),(6,x1)],ty,pos,af,gu⟩ ⟨.agg (exC {Ex.zero with op:=y0,kids:=y1}),[],[]⟩:=bq (zs:=exC Ex.zero) (ba rfl) (by decide +kernel) (by kernel_rfl) (show EvP ρ _ _ from .cons h0 rfl (.cons h1 rfl (.nil))) (by rw[← k9];kernel_rfl)
theorem w8 {x0 x1:Operand} {y0:Bool} {y1:List ByteArray} (h0:Ev ρ x0 (.c (sB y0))) (h1:Ev ρ x1 (.c (bA y1))):AS Tryz.prog ρ H ⟨d,.build 60 #[(0,x0),(4,x1)],ty,pos,af,gu⟩ ⟨.agg (nsC {NS.zero with all:=y0,except:=y1}),[],[]⟩:=bq (zs:=nsC NS.zero) (ba rfl) (by decide +kernel) (by kernel_rfl) (show EvP ρ _ _ from .cons h0 rfl (.cons h1 rfl (.nil))) (by kernel_rfl)
theorem w9 {x0 x1:Operand} {y0:Bool} {y1:List ByteArray} (h0:Ev ρ x0 (.c (sB y0))) (h1:Ev ρ x1 (.c (bA y1))):AS Tryz.prog ρ H ⟨d,.build 60 #[(1,x0),(3,x1)],ty,pos,af,gu⟩ ⟨.agg (nsC {NS.zero with nt:=y0,names:=y1}),[],[]⟩:=bq (zs:=nsC NS.zero) (ba rfl) (by decide +kernel) (by kernel_rfl) (show EvP ρ _ _ from .cons h0 rfl (.cons h1 rfl (.nil))) (by kernel_rfl)
theorem B8 {x0:Operand} {y0:Bool} (h0:Ev ρ x0 (.c (sB y0))):AS Tryz.prog ρ H ⟨d,.build 60 #[(2,x0)],ty,pos,af,gu⟩ ⟨.agg (nsC {NS.zero with self:=y0}),[],[]⟩:=bq (zs:=nsC NS.zero) (ba rfl) (by decide +kernel) (by kernel_rfl) (show EvP ρ _ _ from .cons h0 rfl (.nil)) (by kernel_rfl)
theorem B9 {x0:Operand} {y0:List ByteArray} (h0:Ev ρ x0 (.c (bA y0))):AS Tryz.prog ρ H ⟨d,.build 60 #[(3,x0)],ty,pos,af,gu⟩ ⟨.agg (nsC {NS.zero with names:=y0}),[],[]⟩:=bq (zs:=nsC NS.zero) (ba rfl) (by decide +kernel) (by kernel_rfl) (show EvP ρ _ _ from .cons h0 rfl (.nil)) (by kernel_rfl)
theorem Ba {x0:Operand} {y0:Lv} (h0:Ev ρ x0 (.agg (lvC y0))):AS Tryz.prog ρ H ⟨d,.build 65 #[(0,x0)],ty,pos,af,gu⟩ ⟨.agg (rgC {Rg.zero with lo:=y0}),[],[]⟩:=bq (zs:=rgC Rg.zero) (ba rfl) (by decide +kernel) (by kernel_rfl) (show EvP ρ _ _ from .cons h0 rfl (.nil)) (by kernel_rfl)
theorem Bb {x0:Operand} {y0:ByteArray} (h0:Ev ρ x0 (.c (sS y0))):AS Tryz.prog ρ H ⟨d,.build 67 #[(0,x0)],ty,pos,af,gu⟩ ⟨.agg (cxC {Ct.zero with user:=y0}),[],[]⟩:=bq (zs:=cxC Ct.zero) (ba rfl) (by decide +kernel) (by kernel_rfl) (show EvP ρ _ _ from .cons h0 rfl (.nil)) (by kernel_rfl)
theorem jQ {x0 x1 x2 x3 x4 x5:Operand} {y0:Int} {y1:Int} {y2:NS} {y3:NS} {y4:NS} {y5:NS} (h0:Ev ρ x0 (.c (sI y0))) (h1:Ev ρ x1 (.c (sI y1))) (h2:Ev ρ x2 (.agg (nsC y2))) (h3:Ev ρ x3 (.agg (nsC y3))) (h4:Ev ρ x4 (.agg (nsC y4))) (h5:Ev ρ x5 (.agg (nsC y5))):AS Tryz.prog ρ H ⟨d,.build 69 #[(0,x0),(1,x1),(8,x2),(9,x3),(10,x4),(11,x5)],ty,pos,af,gu⟩ ⟨.agg (stC {Stm.zero with kind:=y0,op:=y1,source:=y2,target:=y3,cls:=y4,perms:=y5}),[],[]⟩:=bq (zs:=stC Stm.zero) (ba rfl) (by decide +kernel) (by kernel_rfl) (show EvP ρ _ _ from .cons h0 rfl (.cons h1 rfl (.cons h2 rfl (.cons h3 rfl (.cons h4 rfl (.cons h5 rfl (.nil))))))) (by kernel_rfl)
theorem oH {x0 x1 x2 x3:Operand} {y0:Int} {y1:ByteArray} {y2:List ByteArray} {y3:List ByteArray} (h0:Ev ρ x0 (.c (sI y0))) (h1:Ev ρ x1 (.c (sS y1))) (h2:Ev ρ x2 (.c (bA y2))) (h3:Ev ρ x3 (.c (bA y3))):AS Tryz.prog ρ H ⟨d,.build 69 #[(0,x0),(3,x1),(7,x2),(6,x3)],ty,pos,af,gu⟩ ⟨.agg (stC {Stm.zero with kind:=y0,name:=y1,aliases:=y2,list:=y3}),[],[]⟩:=bq (zs:=stC Stm.zero) (ba rfl) (by decide +kernel) (by kernel_rfl) (show EvP ρ _ _ from .cons h0 rfl (.cons h1 rfl (.cons h2 rfl (.cons h3 rfl (.nil))))) (by kernel_rfl)
theorem Bc {x0:Operand} {y0:Po} (h0:Ev ρ x0 (.agg (poC y0))):AS Tryz.prog ρ H ⟨d,.build 69 #[(2,x0)],ty,pos,af,gu⟩ ⟨.agg (stC {Stm.zero with pos:=y0}),[],[]⟩:=bq (zs:=stC Stm.zero) (ba rfl) (by decide +kernel) (by kernel_rfl) (show EvP ρ _ _ from .cons h0 rfl (.nil)) (by kernel_rfl)
theorem wa {x0 x1:Operand} {y0:Int} {y1:ByteArray} (h0:Ev ρ x0 (.c (sI y0))) (h1:Ev ρ x1 (.c (sS y1))):AS Tryz.prog ρ H ⟨d,.build 99 #[(0,x0),(1,x1)],ty,pos,af,gu⟩ ⟨.agg (tkC {Tok.zero with kind:=y0,text:=y1}),[],[]⟩:=bq (zs:=tkC Tok.zero) (ba rfl) (by decide +kernel) (by kernel_rfl) (show EvP ρ _ _ from .cons h0 rfl (.cons h1 rfl (.nil))) (by kernel_rfl)
theorem wb {x0 x1:Operand} {y0:Int} {y1:Po} (h0:Ev ρ x0 (.c (sI y0))) (h1:Ev ρ x1 (.agg (poC y1))):AS Tryz.prog ρ H ⟨d,.build 99 #[(0,x0),(2,x1)],ty,pos,af,gu⟩ ⟨.agg (tkC {Tok.zero with kind:=y0,pos:=y1}),[],[]⟩:=bq (zs:=tkC Tok.zero) (ba rfl) (by decide +kernel) (by kernel_rfl) (show EvP ρ _ _ from .cons h0 rfl (.cons h1 rfl (.nil))) (by kernel_rfl)
theorem Be {x0:Operand} {y0:Po} (h0:Ev ρ x0 (.agg (poC y0))):AS Tryz.prog ρ H ⟨d,.build 99 #[(2,x0)],ty,pos,af,gu⟩ ⟨.agg (tkC {Tok.zero with pos:=y0}),[],[]⟩:=bq (zs:=tkC Tok.zero) (ba rfl) (by decide +kernel) (by kernel_rfl) (show EvP ρ _ _ from .cons h0 rfl (.nil)) (by kernel_rfl)
theorem F2 {x0:Operand} {y0:Fa} (h0:Ev ρ x0 (.agg (faC y0))):AS Tryz.prog ρ H ⟨d,.build 127 #[(0,x0)],ty,pos,af,gu⟩ ⟨.agg (faC y0),[],[]⟩:=bq (zs:=faC Fa.zero) (ba rfl) (by decide +kernel) (by kernel_rfl) (show EvP ρ _ _ from .cons h0 rfl .nil) (by kernel_rfl)
theorem zz {x0:Operand} {y0:List Tok} (h0:Ev ρ x0 (.c (.lst none 4 (y0.map tkC)))):AS Tryz.prog ρ H ⟨d,.build 130 #[(0,x0)],ty,pos,af,gu⟩ ⟨.agg (psC {Ps.zero with l:=y0}),[],[]⟩:=bq (zs:=psC Ps.zero) (ba rfl) (by decide +kernel) (by kernel_rfl) (show EvP ρ _ _ from .cons h0 rfl (.nil)) (by kernel_rfl)
theorem tS {x0 x1:Operand} {y0:ByteArray} {y1:Po} (h0:Ev ρ x0 (.c (sS y0))) (h1:Ev ρ x1 (.agg (poC y1))):AS Tryz.prog ρ H ⟨d,.build 154 #[(0,x0),(2,x1)],ty,pos,af,gu⟩ ⟨.agg (snR {Sc.zero with src:=y0,pos:=y1}),[],[]⟩:=bq (zs:=snR Sc.zero) (ba rfl) (by decide +kernel) (by kernel_rfl) (show EvP ρ _ _ from .cons h0 rfl (.cons h1 rfl (.nil))) (by kernel_rfl)
theorem F3 {x0:Operand} {y0:Fa} (h0:Ev ρ x0 (.agg (faC y0))):AS Tryz.prog ρ H ⟨d,.build 158 #[(0,x0)],ty,pos,af,gu⟩ ⟨.agg (faC y0),[],[]⟩:=bq (zs:=faC Fa.zero) (ba rfl) (by decide +kernel) (by kernel_rfl) (show EvP ρ _ _ from .cons h0 rfl .nil) (by kernel_rfl)
theorem zA {x0:Operand} {y0:List Tok} (h0:Ev ρ x0 (.c (.lst none 4 (y0.map tkC)))):AS Tryz.prog ρ H ⟨d,.build 162 #[(0,x0)],ty,pos,af,gu⟩ ⟨.agg (bsC {Bs.zero with l:=y0}),[],[]⟩:=bq (zs:=bsC Bs.zero) (ba rfl) (by decide +kernel) (by kernel_rfl) (show EvP ρ _ _ from .cons h0 rfl (.nil)) (by kernel_rfl)
theorem zB {x0:Operand} {y0:ByteArray} (h0:Ev ρ x0 (.c (sS y0))):AS Tryz.prog ρ H ⟨d,.build 170 #[(0,x0)],ty,pos,af,gu⟩ ⟨.agg (spC {Sp.zero with frm:=y0}),[],[]⟩:=bq (zs:=spC Sp.zero) (ba rfl) (by decide +kernel) (by kernel_rfl) (show EvP ρ _ _ from .cons h0 rfl (.nil)) (by kernel_rfl)
theorem Bh {x0:Operand} {a0:Stm} (h0:Ev ρ x0 (.agg (stC a0))):AS Tryz.prog ρ H ⟨d,.buildSlice 23 1 #[(0,x0)],ty,pos,af,gu⟩ ⟨.c (.lst none 55 ([a0].map stC)),[],[]⟩:=
 fb (zs:=stC Stm.zero) (cC rfl) (ba rfl) rfl (by decide) (by decide) (show EvP ρ _ _ from .cons h0 rfl (.nil)) rfl rfl
theorem Bi {x0:Operand} {a0:Tok} (h0:Ev ρ x0 (.agg (tkC a0))):AS Tryz.prog ρ H ⟨d,.buildSlice 36 1 #[(0,x0)],ty,pos,af,gu⟩ ⟨.c (.lst none 4 ([a0].map tkC)),[],[]⟩:=
 fb (zs:=tkC Tok.zero) (cC rfl) (ba rfl) rfl (by decide) (by decide) (show EvP ρ _ _ from .cons h0 rfl (.nil)) rfl rfl
theorem Bj {x0:Operand} {a0:Ex} (h0:Ev ρ x0 (.agg (exC a0))):AS Tryz.prog ρ H ⟨d,.buildSlice 47 1 #[(0,x0)],ty,pos,af,gu⟩ ⟨.c (.lst none 10 ([a0].map exC)),[],[]⟩:=
 fb (zs:=exC Ex.zero) (cC rfl) (ba rfl) rfl (by decide) (by decide) (show EvP ρ _ _ from .cons h0 rfl (.nil)) rfl rfl
theorem Bk {x0 x1:Operand} {a0 a1:Ex} (h0:Ev ρ x0 (.agg (exC a0))) (h1:Ev ρ x1 (.agg (exC a1))):AS Tryz.prog ρ H ⟨d,.buildSlice 47 2 #[(0,x0),(1,x1)],ty,pos,af,gu⟩ ⟨.c (.lst none 10 ([a0,a1].map exC)),[],[]⟩:=
 fb (zs:=exC Ex.zero) (cC rfl) (ba rfl) rfl (by decide) (by decide) (show EvP ρ _ _ from .cons h0 rfl (.cons h1 rfl (.nil))) rfl rfl
theorem Bl {x0:Operand} {a0:Sp} (h0:Ev ρ x0 (.agg (spC a0))):AS Tryz.prog ρ H ⟨d,.buildSlice 61 1 #[(0,x0)],ty,pos,af,gu⟩ ⟨.c (.lst none 2 ([a0].map spC)),[],[]⟩:=
 fb (zs:=spC Sp.zero) (cC rfl) (ba rfl) rfl (by decide) (by decide) (show EvP ρ _ _ from .cons h0 rfl (.nil)) rfl rfl
theorem zD {x0 x1:Operand} {a0 a1:Lv} (h0:Ev ρ x0 (.agg (lvC a0))) (h1:Ev ρ x1 (.agg (lvC a1))):AS Tryz.prog ρ H ⟨d,.buildSlice 208 2 #[(0,x0),(1,x1)],ty,pos,af,gu⟩ ⟨.c (.lst none 2 ([a0,a1].map lvC)),[],[]⟩:=
 fb (zs:=lvC Lv.zero) (cC rfl) (ba rfl) rfl (by decide) (by decide) (show EvP ρ _ _ from .cons h0 rfl (.cons h1 rfl (.nil))) rfl rfl
theorem Iy {t:Nat} {x0:Operand} {a0:ByteArray} (hn:H t=none) (h0:Ev ρ x0 (.c (sS a0))):AS Tryz.prog ρ H ⟨some t,.buildSlice 43 1 #[(0,x0)],ty,pos,af,gu⟩ ⟨.c (.lst (some t) 1 ([a0].map oneS)),[(t,.row 9 1 [a0].length)],[t]⟩:=
 KN (zs:=[sS ⟨#[]⟩]) hn (cC rfl) (ba rfl) rfl (by decide) (by decide) (show EvP ρ _ _ from .cons h0 rfl .nil) rfl rfl
theorem EZ {τ m:Nat} {tg:Option Nat} {l1 l2:List Stm} (hx:Ev ρ x (.c (.lst (some τ) 55 (l1.map stC)))) (hh:H τ=some (.row 69 55 m)) (hm:l1.length=m) (hy:Ev ρ y (.c (.lst tg 55 (l2.map stC)))) (h1:(l1++l2).length≤4294967296) :
 AS Tryz.prog ρ H ⟨d,.call {callee:=.builtin .append,args:=#[x,y],argTypes:=#[23,23]},ty,pos,af,gu⟩ ⟨.c (.lst (some τ) 55 ((l1++l2).map stC)),[(τ,.row 69 55 (l1++l2).length)],[τ]⟩:=by
 have hby:Tryz.prog.bytesOf 69≤32768:=by decide +kernel
 have:=ye (P:=Tryz.prog) (ρ:=ρ) (H:=H) (d:=d) (ty:=ty) (pos:=pos) (af:=af) (gu:=gu) (t:=23) (zl:=stC Stm.zero) (zs:=(l1++l2).map stC) (cC rfl) (by decide) hx hh (by rw[List.length_map];exact hm) (ba rfl) rfl hy (by rw[bT l2 fun y _=>fW y,List.map_append]) (by rw[List.length_map];unfold maxLen;omega) (by rw[List.length_map];exact Nat.le_trans (Nat.mul_le_mul h1 hby) (by decide))
 rw[List.length_map] at this
 exact this
theorem F0 {τ m:Nat} {tg:Option Nat} {l1 l2:List Tok} (hx:Ev ρ x (.c (.lst (some τ) 4 (l1.map tkC)))) (hh:H τ=some (.row 99 4 m)) (hm:l1.length=m) (hy:Ev ρ y (.c (.lst tg 4 (l2.map tkC)))) (h1:(l1++l2).length≤4294967296) :
 AS Tryz.prog ρ H ⟨d,.call {callee:=.builtin .append,args:=#[x,y],argTypes:=#[36,36]},ty,pos,af,gu⟩ ⟨.c (.lst (some τ) 4 ((l1++l2).map tkC)),[(τ,.row 99 4 (l1++l2).length)],[τ]⟩:=by
 have hby:Tryz.prog.bytesOf 99≤32768:=by decide +kernel
 have:=ye (P:=Tryz.prog) (ρ:=ρ) (H:=H) (d:=d) (ty:=ty) (pos:=pos) (af:=af) (gu:=gu) (t:=36) (zl:=tkC Tok.zero) (zs:=(l1++l2).map tkC) (cC rfl) (by decide) hx hh (by rw[List.length_map];exact hm) (ba rfl) rfl hy (by rw[bT l2 fun y _=>gn y,List.map_append]) (by rw[List.length_map];unfold maxLen;omega) (by rw[List.length_map];exact Nat.le_trans (Nat.mul_le_mul h1 hby) (by decide))
 rw[List.length_map] at this
 exact this
theorem F1 {τ m:Nat} {tg:Option Nat} {l1 l2:List Sp} (hx:Ev ρ x (.c (.lst (some τ) 2 (l1.map spC)))) (hh:H τ=some (.row 170 2 m)) (hm:l1.length=m) (hy:Ev ρ y (.c (.lst tg 2 (l2.map spC)))) (h1:(l1++l2).length≤4294967296) :
 AS Tryz.prog ρ H ⟨d,.call {callee:=.builtin .append,args:=#[x,y],argTypes:=#[61,61]},ty,pos,af,gu⟩ ⟨.c (.lst (some τ) 2 ((l1++l2).map spC)),[(τ,.row 170 2 (l1++l2).length)],[τ]⟩:=by
 have hby:Tryz.prog.bytesOf 170≤32768:=by decide +kernel
 have:=ye (P:=Tryz.prog) (ρ:=ρ) (H:=H) (d:=d) (ty:=ty) (pos:=pos) (af:=af) (gu:=gu) (t:=61) (zl:=spC Sp.zero) (zs:=(l1++l2).map spC) (cC rfl) (by decide) hx hh (by rw[List.length_map];exact hm) (ba rfl) rfl hy (by rw[bT l2 fun y _=>da y,List.map_append]) (by rw[List.length_map];unfold maxLen;omega) (by rw[List.length_map];exact Nat.le_trans (Nat.mul_le_mul h1 hby) (by decide))
 rw[List.length_map] at this
 exact this
end
theorem dt (t:Option Nat) (l:List ByteArray):(V.c (.lst t 1 (l.map oneS))).un= .c (bA l):=by simp only[V.un,C.un,unA]
theorem ee (x:Sp):(V.agg (spC x)).un= .agg (spC x):=by simp only[V.un,unA]
theorem cR (t:Option Nat) (l:List Sp):(V.c (.lst t 2 (l.map spC))).un= .c (.lst none 2 (l.map spC)):=by simp only[V.un,C.un,unA]
theorem dZ (x:NS):(V.agg (nsC x)).un= .agg (nsC x):=by simp only[V.un,unA]
theorem dX (x:Lv):(V.agg (lvC x)).un= .agg (lvC x):=by simp only[V.un,unA]
theorem dG (x:Rg):(V.agg (rgC x)).un= .agg (rgC x):=by simp only[V.un,unA]
theorem dF (x:Ct):(V.agg (cxC x)).un= .agg (cxC x):=by simp only[V.un,unA]
theorem cg (x:Ex):(V.agg (exC x)).un= .agg (exC x):=by simp only[V.un,unA]
theorem cQ (t:Option Nat) (l:List Ex):(V.c (.lst t 10 (l.map exC))).un= .c (.lst none 10 (l.map exC)):=by simp only[V.un,C.un,unA]
theorem dp (x:Stm):(V.agg (stC x)).un= .agg (stC x):=by simp only[V.un,unA]
theorem cS (t:Option Nat) (l:List Stm):(V.c (.lst t 55 (l.map stC))).un= .c (.lst none 55 (l.map stC)):=by simp only[V.un,C.un,unA]
theorem dY (x:Mo):(V.agg (moC x)).un= .agg (moC x):=by simp only[V.un,unA]
theorem ef (x:Tok):(V.agg (tkC x)).un= .agg (tkC x):=by simp only[V.un,unA]
theorem cT (t:Option Nat) (l:List Tok):(V.c (.lst t 4 (l.map tkC))).un= .c (.lst none 4 (l.map tkC)):=by simp only[V.un,C.un,unA]
theorem dW (x:Fa):(V.agg (faC x)).un= .agg (faC x):=by simp only[V.un,unA]
end Am
namespace Am
set_option maxRecDepth 100000
theorem xw {P:Program} {nt:Nat} {l:List Oper} {b:Bool} {Q:Exit→St→Prop} {σ:St} (id:Nat) (h:AW P nt (.region id l.toArray b) Q σ):AW P nt (.region id l.toArray b) Q σ:=h
abbrev pvF (t:Nat) (f:Fa):Value:=.iface t (.agg #[.int .i64 f.code,.int .i64 f.pos.line,.int .i64 f.pos.col,.string f.name])
theorem y_p {P:Program} {ops:Array Oper} {l:List (Nat×V)} {h:List (Nat×HO)} {rest:List Oper} {fs:List FP} {K:St→List FP→Prop} {J:Value→St→List FP→List Nat→Prop} {ty:TypeId} {pos:String} {af:Array Edge} {x:Operand} {d:Option Nat} {t:Nat} {u:Value} (hx:Ev (evA (look l)) x (.c (.sc (.iface t u)))) (k:∀ σ',J (.iface t u) σ' fs []):AY P ops (⟨d,.panic x,ty,pos,af,none⟩ :: rest) (mk l h) fs K J:=
 .inr ⟨_,[],rfl,.pan rfl hx,k _⟩
section
variable {P:Program} {ρ:Operand→Option V} {H:Nat→Option HO} {d:Option Nat} {ty:TypeId} {pos:String} {af:Array Edge} {gu:Option (Nat×Bool)} {x y:Operand} {t t1 t2:TypeId} {p q:Int}
theorem KG {f:Fa} (hx:Ev ρ x (.agg (faC f))) (ht:(match P.underlying t with|some (.struct _)=>true|_=>false)=true):AS P ρ H ⟨d,.makeInterface t x,ty,pos,af,gu⟩ ⟨.c (.sc (pvF t f)),[],[]⟩:=
 .mkI (vs:=[.int .i64 f.code,.int .i64 f.pos.line,.int .i64 f.pos.col,.string f.name]) rfl hx rfl ht
theorem IA {α:Type} {e k i:Nat} {tg:Option Nat} {f:α→List C} {xs:List α} {z:Int} (hx:Ev ρ x (.c (.lst tg k (xs.map f)))) (hi:Ev ρ y (.c (.sc (.int .i64 z)))) (ht:sle P t=some (e,k)) (hz:z=(i:Nat)) (hl:i≤xs.length):AS P ρ H ⟨d,.slice t x (some y) none none,ty,pos,af,gu⟩ ⟨.c (.lst none k ((xs.drop i).map f)),[],[]⟩:=by
 subst hz
 refine .suf (j:=xs.length) rfl ht hx (fun y h=>by injection h with h;subst h;exact hi) (fun h=>by cases h) (fun y h=>by cases h) (fun _=>(List.length_map ..).symm) hl (by rw[List.length_map];exact Nat.le_refl _) ?_
 rw[List.map_drop,List.take_of_length_le (by simp)]
theorem Iu (hx:Ev ρ x (.c (.sc (.int .i64 p)))) (hy:Ev ρ y (.c (.sc (.int .i64 q)))):AS P ρ H ⟨d,.binOp .mul t x y t2,ty,pos,af,gu⟩ ⟨.c (.sc (.int .i64 (IntKind.i64.wrap (p*q)))),[],[]⟩:=
 fZ hx hy rfl fun w=>by simp[eqGuard,binOp,Op.intArith]
theorem Ip (hx:Ev ρ x (.c (.sc (.int .i64 p)))) (hy:Ev ρ y (.c (.sc (.int .i64 q)))):AS P ρ H ⟨d,.call {callee:=.builtin .max,args:=#[x,y],argTypes:=#[t1,t2]},ty,pos,af,gu⟩ ⟨.c (.sc (.int .i64 (max p q))),[],[]⟩:=by
 refine .still (fun g hg w=>?_) fun _=>.sc rfl
 have h1:=hg x (by simp[Op.operands,Call.operands]) _ _ hx .sc
 have h2:=hg y (by simp[Op.operands,Call.operands]) _ _ hy .sc
 have e1:∀ a b:Int,(Builtin.max2 (.int .i64 a) (.int .i64 b)).run P w= .ok (.int .i64 (max a b)) w:=fun a b=>by
  simp only[Builtin.max2,Sem.run_pure]
  congr 2
  split <;> omega
 unfold execOp
 simp only[resolve,invoke,builtin]
 simp[h1,h2,Builtin.max_,e1]
end
section
variable {ρ:Operand→Option V} {H:Nat→Option HO} {d:Option Nat} {ty t2:TypeId} {pos:String} {af:Array Edge} {gu:Option (Nat×Bool)} {x y:Operand}
theorem F6 (hx:Ev ρ x (.c (.sc .nilIface))) (hy:Ev ρ (.const .nilIface) (.c (.sc .nilIface))):AS Tryz.prog ρ H ⟨d,.binOp .neq 134 x (.const .nilIface) t2,ty,pos,af,gu⟩ ⟨.c (sB false),[],[]⟩:=fZ hx hy rfl fun w=>by
 have e:(eqGuard .neq 134 x (.const .nilIface) .nilIface .nilIface).run Tryz.prog w= .ok () w:=by unfold eqGuard;((simp[go_sem];done))
 simp[go_sem,e]
theorem zwN:Zw Tryz.prog 60 [sB false,sB false,sB false,.nil,.nil]:=Zw.of (by decide +kernel)
theorem zwL:Zw Tryz.prog 63 [sS ⟨#[]⟩,.nil]:=Zw.of (by decide +kernel)
theorem B2 {t:Nat} (hn:H t=none):AS Tryz.prog ρ H ⟨some t,.alloc 60,ty,pos,af,gu⟩ ⟨.c (.ptr t 0),[(t,.obj 60 [sB false,sB false,sB false,.nil,.nil])],[t]⟩:=yd hn zwN
theorem Bf {x0:Operand} {y0:ByteArray} (h0:Ev ρ x0 (.c (sS y0))):AS Tryz.prog ρ H ⟨d,.build 63 #[(0,x0)],ty,pos,af,gu⟩ ⟨.agg [sS y0,.nil],[],[]⟩:=bq (zs:=[sS ⟨#[]⟩,.nil]) zwL (by decide +kernel) (by kernel_rfl) (show EvP ρ _ _ from .cons h0 rfl .nil) (by kernel_rfl)
end
end Am
end Go.Proofs.YtkpodagbefnebaaGreatDoor
