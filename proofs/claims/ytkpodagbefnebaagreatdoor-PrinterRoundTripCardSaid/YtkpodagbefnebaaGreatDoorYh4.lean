import Derived.Test.YtkpodagbefnebaaGreatDoorYh3
import Derived.Deep.LoopGhost
import Derived.Scope
import Derived.Laws.BitsLemmas
import Derived.Laws.Closers25
import Derived.Laws.Small
set_option linter.unusedSimpArgs false
set_option linter.unusedVariables false
set_option linter.unusedSectionVars false
namespace Go.Proofs.YtkpodagbefnebaaGreatDoor
namespace Am
variable [Tb]
open Go.RowKit
def qk (N:St→Prop) (Q:Exit→St→Prop):Exit→St→Prop
 | .normal,σ=>N σ
 |e,σ=>Q e σ
def jX (id:Nat) (Q:Exit→St→Prop):Exit→St→Prop
 | .exit i,σ=>if i=id then Q .normal σ else Q (.exit i) σ
 |e,σ=>Q e σ
def AA (Q:Exit→St→Prop):Exit→St→Prop
 | .goto _,_=>False
 |e,σ=>Q e σ
def Wk (σ σ':St):Prop:=∀ (X:Cx) (a:Act) (w:World) (κ:K),Gm X σ a w κ→∃ κ',Gm X σ' a w κ'
section
variable {P:Program} {nt:Nat} {Q Q':Exit→St→Prop} {σ σ':St}
theorem AW.mono {c:Code} (h:AW P nt c Q σ) (hq:∀ e σ,Q e σ→Q' e σ):AW P nt c Q' σ:=fun X a w κ hX g=>Go.wp_mono (h X a w κ hX g) fun e a' w' ⟨σ',hs,k⟩=>⟨σ',hq e σ' hs,k⟩
theorem AW.weak {c:Code} (h:Wk σ σ') (k:AW P nt c Q σ'):AW P nt c Q σ:=fun X a w κ hX g=>by
 obtain ⟨κ',g'⟩:=h X a w κ g
 exact k X a w κ' hX g'
theorem AW.seq {x y:Code} (h:AW P nt x (qk (fun σ'=>AW P nt y Q σ') Q) σ):AW P nt (.seq x y) Q σ:=fun X a w κ hX g=>by
 refine wp_seq (Go.wp_mono (h X a w κ hX g) fun e a' w' hq=>?_)
 obtain ⟨σ',hs,κ',g'⟩:=hq
 cases e with
 |normal=>exact hs X a' w' κ' hX g'
 |_=>exact⟨σ',hs,κ',g'⟩
theorem AW.skip (h:Q .normal σ):AW P nt .skip Q σ:=fun _ _ _ κ _ g=>wp_skip ⟨σ,h,κ,g⟩
theorem AW.label {l:Nat} (h:Q .normal σ):AW P nt (.label l) Q σ:=fun _ _ _ κ _ g=>wp_label ⟨σ,h,κ,g⟩
theorem AW.exit {id:Nat} (h:Q (.exit id) σ):AW P nt (.exit id) Q σ:=fun _ _ _ κ _ g=>wp_exit ⟨σ,h,κ,g⟩
theorem AW.ret (h:Q .ret σ):AW P nt .ret Q σ:=fun _ _ _ κ _ g=>wp_ret ⟨σ,h,κ,g⟩
theorem AW.cond {c:Operand} {x y:Code} {t:Bool} (hc:Ev (evA σ.sl) c (.c (.sc (.bool t)))) (h1:t=true→AW P nt x Q σ) (h2:t=false→AW P nt y Q σ):AW P nt (.cond c x y) Q σ:=fun X a w κ hX g=>by
 have he:a.eval c= .bool t:=Cq.uniq .sc (g.ev hc)
 cases t with
 |true=>exact wp_cond_true he (h1 rfl X a w κ hX g)
 |false=>exact wp_cond_false he (h2 rfl X a w κ hX g)
theorem AW.yes {c:Operand} {x y:Code} (hc:Ev (evA σ.sl) c (.c (.sc (.bool true)))) (h1:AW P nt x Q σ):AW P nt (.cond c x y) Q σ:=.cond hc (fun _=>h1) fun e=>by cases e
theorem AW.no {c:Operand} {x y:Code} (hc:Ev (evA σ.sl) c (.c (.sc (.bool false)))) (h1:AW P nt y Q σ):AW P nt (.cond c x y) Q σ:=.cond hc (fun e=>by cases e) fun _=>h1
theorem AW.block {id:Nat} {c:Code} (h:AW P nt c (jX id Q) σ):AW P nt (.block id c) Q σ:=fun X a w κ hX g=>by
 refine wp_block (Go.wp_mono (h X a w κ hX g) fun e a' w' hq=>?_)
 obtain ⟨σ',hs,k⟩:=hq
 cases e with
 |exit i=>
  by_cases hi:i=id
  ·have hs':Q .normal σ':=by
    have:=hs
    simp only[jX,hi,if_true] at this
    exact this
   show if i=id then _ else _
   rw[if_pos hi]
   exact⟨σ',hs',k⟩
  ·have hs':Q (.exit i) σ':=by
    have:=hs
    simp only[jX,hi,if_false] at this
    exact this
   show if i=id then _ else _
   rw[if_neg hi]
   exact⟨σ',hs',k⟩
 |_=>exact⟨σ',hs,k⟩
theorem AW.scope {c:Code} (h:AW P nt c (AA Q) σ):AW P nt (.scope c) Q σ:=fun X a w κ hX g=>by
 refine wp_scope_straight (Go.wp_mono (h X a w κ hX g) fun e a' w' hq=>?_)
 obtain ⟨σ',hs,k⟩:=hq
 cases e with
 |goto l=>exact hs.elim
 |_=>exact⟨σ',hs,k⟩
theorem AW.loop {c:Code} (I:Nat→St→Prop) (n:Nat) (h0:∃ σ',Wk σ σ'∧I n σ') (round:∀ n σ,I n σ→AW P nt c (qk (fun σ'=>∃ m σ'',m<n∧Wk σ' σ''∧I m σ'') Q) σ):AW P nt (.loop c) Q σ:=fun X a w κ hX g=>by
 obtain ⟨σ1,hw,hI⟩:=h0
 obtain ⟨κ1,g1⟩:=hw X a w κ g
 refine wp_loop_ghost (fun n a w=>∃ σ κ,I n σ∧Gm X σ a w κ) n ⟨σ1,κ1,hI,g1⟩ fun n a w hIa=>?_
 obtain ⟨σ,κ,hI,g⟩:=hIa
 refine Go.wp_mono (round n σ hI X a w κ hX g) fun e a' w' hq=>?_
 obtain ⟨σ',hs,κ',g'⟩:=hq
 cases e with
 |normal=>
  obtain ⟨m,σ'',hm,hwk,hI'⟩:=hs
  obtain ⟨κ'',g''⟩:=hwk X a' w' κ' g'
  exact⟨m,hm,σ'',κ'',hI',g''⟩
 |_=>exact⟨σ',hs,κ',g'⟩
end
theorem Wk.refl (σ:St):Wk σ σ:=fun _ _ _ κ g=>⟨κ,g⟩
theorem Wk.trans {a b c:St} (h:Wk a b) (k:Wk b c):Wk a c:=fun X x w κ g=>by
 obtain ⟨κ',g'⟩:=h X x w κ g
 exact k X x w κ' g'
def HO.ok (d:Nat→Bool):HO→Bool
 | .obj _ cs=>okL d cs
 | .row _ _ _=>true
 | .bld _ _ _=>true
 | .gone=>true
 | .lost=>true
def HO.un:HO→HO
 | .obj t cs=>.obj t (unL cs)
 |o=>o
theorem Reps.only {κ κ':K} {w:World} {d:Nat→Bool} (hS:κ'.S=κ.S) (hd:∀ n,d n=true→κ.D n→κ'.D n∧κ'.μ n=κ.μ n∧κ'.T n=κ.T n) {cs:List C} {vs:List Value} (h:Reps κ w cs vs) (ho:okL d cs=true):Reps κ' w cs vs:=
 ⟨h.1,fun j c v hc hv=>(h.2 j c v hc hv).only hS hd (dO ho c (List.mem_of_getElem? hc))⟩
theorem Wk.forget {σ σ':St} (hs:∀ t v,σ'.sl t=some v→∃ u,σ.sl t=some u∧(u=v∨u.un=v)∧V.ok (fun n=>(σ'.hp n).isSome) v=true)
 (hh:∀ n o,σ'.hp n=some o→∃ u,σ.hp n=some u∧(u=o∨u.un=o)∧o.ok (fun n=>(σ'.hp n).isSome)=true) (h0:∀ n,(n=0∨1000≤n)→(σ.hp n).isSome=true→(σ'.hp n).isSome=true):Wk σ σ':=fun X a w κ g=>by
 let κ':K:={κ with D:=fun n=>κ.D n∧(σ'.hp n).isSome=true}
 have hd:∀ n,(σ'.hp n).isSome=true→κ.D n→κ'.D n∧κ'.μ n=κ.μ n∧κ'.T n=κ.T n:=fun n h k=>⟨⟨k,h⟩,rfl,rfl⟩
 have hbl:∀ n b,b∈bl σ' κ' n→b∈bl σ κ n:=fun n b hb=>by
  unfold bl at hb ⊢
  cases ho:σ'.hp n with
  |none=>rw[ho] at hb;cases hb
  |some o=>
   obtain ⟨u,hu,huo,_⟩:=hh n o ho
   rw[ho] at hb
   rw[hu]
   rcases huo with rfl|rfl
   ·exact hb
   ·cases u <;> exact hb
 refine⟨κ',fun t v hv=>?_,fun n o ho=>?_,fun n hn=>?_,fun n n' b hne h1 h2=>g.dis n n' b hne (hbl n b h1) (hbl n' b h2),g.only,g.s0,g.s1,g.sz,g.df,⟨fun b hb=>?_,g.m0.S,g.m0.T⟩,g.tb⟩
 ·obtain ⟨u,hu,huv,hok⟩:=hs t v hv
  obtain ⟨x,hx,hr⟩:=g.sl t u hu
  refine⟨x,hx,?_⟩
  have hr':RepV κ w v x:=by
   rcases huv with rfl|rfl
   ·exact hr
   ·exact hr.un
  exact RepV.only (κ:=κ) (κ':=κ') rfl hd hr' hok
 ·obtain ⟨u,hu,huo,hok⟩:=hh n o ho
  obtain ⟨hD,hO⟩:=g.hp n u hu
  refine⟨⟨hD,by rw[ho];rfl⟩,?_⟩
  rcases huo with rfl|rfl
  ·cases u with
   |obj ty cs=>obtain ⟨vs,h1,h2,h3,h4⟩:=hO;exact⟨vs,h1,Reps.only (κ:=κ) (κ':=κ') rfl hd h2 hok,h3,h4⟩
   |row e k m=>exact hO
   |bld ty e bs=>exact hO
   |lost=>trivial
   |gone=>exact hO
  ·cases u with
   |obj ty cs=>obtain ⟨vs,h1,h2,h3,h4⟩:=hO;exact⟨vs,h1,Reps.only (κ:=κ) (κ':=κ') rfl hd h2.un hok,h3,h4⟩
   |row e k m=>exact hO
   |bld ty e bs=>exact hO
   |lost=>trivial
   |gone=>exact hO
 ·obtain ⟨_,hn2⟩:=hn
  cases ho:σ'.hp n with
  |none=>rw[ho] at hn2;cases hn2
  |some o=>exact⟨o,rfl⟩
 ·obtain ⟨h1,h2⟩:=g.m0.D b hb
  obtain ⟨o,ho⟩:=g.D b h1
  exact⟨⟨h1,h0 b (X.ent b hb) (by rw[ho];rfl)⟩,h2⟩
theorem Wk.nilRow {σ:St} {t τ e k:Nat} (hn:σ.hp τ=none) (ht:σ.sl t=some (.c .nil)):Wk σ {sl:=upd σ.sl t (.c (.lst (some τ) k [])),hp:=upd σ.hp τ (.row e k 0)}:=fun X a w κ g=>by
 let κ':K:={κ with D:=fun n=>κ.D n∨n=τ,T:=gR κ.T τ (0,none,0)}
 have nD:¬ κ.D τ:=fun hd=>by obtain ⟨o,ho⟩:=g.D τ hd;rw[hn] at ho;cases ho
 have T1:κ'.T τ=(0,none,0):=ca _ _ _
 have T2:∀ n,n≠τ→κ'.T n=κ.T n:=fun n hne=>iK _ _ hne
 have l:Le κ w κ' w:=⟨fun n hn=>⟨.inl hn,rfl⟩,fun g i hs hg=>⟨hs,rfl⟩,fun n hd=>.inl (T2 n fun(e:n=τ)=>nD (e▸hd))⟩
 have hbl:∀ n b,b∈bl {sl:=upd σ.sl t (.c (.lst (some τ) k [])),hp:=upd σ.hp τ (.row e k 0)} κ' n→n≠τ∧b∈bl σ κ n:=fun n b hb=>by
  unfold bl at hb ⊢
  by_cases hne:n=τ
  ·subst hne
   simp only[aX,T1] at hb
   cases hb
  ·simp only[bD _ _ hne,T2 n hne] at hb
   exact⟨hne,hb⟩
 refine⟨κ',fun s v hv=>?_,fun n o ho=>?_,fun n hn'=>?_,fun n n' b hne h1 h2=>g.dis n n' b hne (hbl n b h1).2 (hbl n' b h2).2,g.only,g.s0,g.s1,g.sz,g.df,g.m0.trans l g.only.size,g.tb⟩
 ·by_cases hs:s=t
  ·subst hs
   have:upd σ.sl s (.c (.lst (some τ) k [])) s=some v:=hv
   rw[aX] at this
   injection this with this
   subst this
   obtain ⟨x,hx,hr⟩:=g.sl s _ ht
   refine⟨x,hx,?_⟩
   cases hr with
   |c hr=>
    cases hr
    exact .c (.lst (fun _ _=>default) rfl (fun x hx=>by cases hx) (Nat.le_refl _) (Nat.zero_le _) (.inl rfl) (fun i j x c hx=>by cases hx) fun τ' e=>by
     injection e with e
     subst e
     rw[T1]
     exact⟨.inr rfl,Nat.le_refl _,fun _=>rfl⟩)
  ·have:upd σ.sl t (.c (.lst (some τ) k [])) s=some v:=hv
   rw[bD _ _ hs] at this
   obtain ⟨x,hx,hr⟩:=g.sl s v this
   exact⟨x,hx,hr.mono l⟩
 ·by_cases hne:n=τ
  ·subst hne
   have:upd σ.hp n (.row e k 0) n=some o:=ho
   rw[aX] at this
   injection this with this
   subst this
   exact⟨.inr rfl,by rw[T1],.inl (by rw[T1];exact⟨rfl,rfl⟩)⟩
  ·have:upd σ.hp τ (.row e k 0) n=some o:=ho
   rw[bD _ _ hne] at this
   obtain ⟨hD,hO⟩:=g.hp n o this
   refine⟨.inl hD,?_⟩
   cases o with
   |obj ty cs=>obtain ⟨vs,h1,h2,h3,h4⟩:=hO;exact⟨vs,h1,h2.mono l,h3,h4⟩
   |row e' k' m=>
    obtain ⟨h1,h2⟩:=hO
    exact⟨by rw[T2 n hne];exact h1,by rw[T2 n hne];exact h2⟩
   |bld ty e' bs=>exact hO.bld rfl rfl (fun b _ _=>rfl) (Nat.le_refl _) fun b i _ _ hs=>hs
   |lost=>trivial
   |gone=>exact hO
 ·by_cases hne:n=τ
  ·subst hne;exact⟨_,aX _ _ _⟩
  ·rcases hn' with hn'|hn'
   ·obtain ⟨o,ho⟩:=g.D n hn'
    exact⟨o,by show upd σ.hp τ _ n=_;rw[bD _ _ hne];exact ho⟩
   ·exact absurd hn' hne
inductive ARes (P:Program) (σ:St):List ResultVar→List V→Prop
 |nil:ARes P σ [] []
 |tmp {t:Nat} {v:V} {l:List ResultVar} {vs:List V}:Ev (evA σ.sl) (.tmp t) v→ARes P σ l vs→ARes P σ (.tmp t :: l) (v :: vs)
 |cell {t ty n off ty0 k:Nat} {cs:List C} {b:Bool} {v:V} {l:List ResultVar} {vs:List V}:Ev (evA σ.sl) (.tmp t) (.c (.ptr n off))→σ.hp n=some (.obj ty0 cs)→tyi P ty=some (k,b)→aU b cs off k=some v→ARes P σ l vs→ARes P σ (.cell t ty :: l) (v :: vs)
section
variable {P:Program} {X:Cx} {σ:St} {a:Act} {w:World} {κ:K}
def rv (tmps:Array Value):ResultVar→Sem Value
 | .tmp t=>pure (tmps.getD t undef)
 | .cell p t=>do loadVar t (← asAddr (tmps.getD p undef))
theorem xB (fn:Func) (tmps:Array Value):results fn tmps=(do let vs←fn.results.mapM (rv tmps);pure (if h:vs.size=1 then vs[0] else .tuple vs)):=by
 unfold results
 rfl
theorem ARes.sound (g:Gm X σ a w κ):∀ {l:List ResultVar} {vs:List V},ARes P σ l vs→∃ xs:List Value,(l.mapM (m:=Sem) (rv a.tmps)).run P w= .ok xs w∧RepVs κ w vs xs
 |[],_,.nil=>⟨[],by simp,.nil⟩
 |_ :: _,_,.tmp hx hs=>by
  obtain ⟨xs,h1,h2⟩:=ARes.sound g hs
  refine⟨_ :: xs,?_,.cons (g.ev hx) h2⟩
  rw[List.mapM_cons]
  simp only[rv]
  simp[h1,Act.eval]
 |_,_,@ARes.cell _ _ t ty n off ty0 k cs b v l vs hx hh ht hc hs=>by
  obtain ⟨xs,h1,h2⟩:=ARes.sound g hs
  have hp:=g.ev hx
  obtain ⟨_,ws,b1,b2,_,_⟩:=g.hp _ _ hh
  obtain ⟨y,hy,hy1,hy2⟩:=og b2 hc
  have he:a.tmps.getD t undef= .pointer (some ⟨κ.μ n,off,none⟩):=by
   have he:a.eval (.tmp t)= .pointer (some ⟨κ.μ n,off,none⟩):=by
    cases hp with|c hp=>generalize a.eval (.tmp t)=z at hp;cases hp;rfl
   exact he
  have:=run_load (P:=P) (w:=w) (g:=κ.μ n) (off:=off) ht (fun j u hu=>by rw[b1.cell];simpa using hu) hy1 hy2
  have hl:(loadVar ty ⟨κ.μ n,off,none⟩).run P w= .ok y w:=by simpa [Instr.loadAt,Instr.sureAddr] using this
  refine⟨y :: xs,?_,.cons hy h2⟩
  rw[List.mapM_cons]
  simp only[rv,he]
  simp[asAddr,hl,h1]
def one (l:List V):V:=match l with|[v]=>v|l=>.tup l
theorem iX (g:Gm X σ a w κ) {fn:Func} {vs:List V} (h:ARes P σ fn.results.toList vs):∃ x,(results fn a.tmps).run P w= .ok x w∧RepV κ w (one vs) x:=by
 obtain ⟨xs,h1,h2⟩:=ARes.sound g h
 have hm:(fn.results.mapM (m:=Sem) (rv a.tmps)).run P w= .ok xs.toArray w:=by
  rw[← Array.toArray_toList (xs:=fn.results),List.mapM_toArray]
  simp only[Sem.run_map,h1]
  rfl
 rw[xB,Sem.run_bind,hm]
 simp only[Result.andThen_ok]
 match vs,xs,h2 with
 |[v],[x],h2=>exact⟨x,by simp,h2.2 0 v x rfl rfl⟩
 |[],[],h2=>exact⟨.tuple #[],by simp,.tup rfl fun j x v h=>by cases h⟩
 |v :: u :: l,x :: y :: ys,h2=>
  refine⟨.tuple (x :: y :: ys).toArray,by simp,.tup (by have:=h2.1;simpa using this) fun j z q hz hq=>h2.2 j z q hz (by simpa using hq)⟩
 |[],_ :: _,h2=>exact absurd h2.1 (by simp)
 |_ :: _,[],h2=>exact absurd h2.1 (by simp)
 |[_],_ :: _ :: _,h2=>exact absurd h2.1 (by simp)
 |_ :: _ :: _,[_],h2=>exact absurd h2.1 (by simp)
end
theorem Pure.of {P:Program} {f nt:Nat} {fn:Func} {c:Code} {args:List V} {r:V} (hc:bJ P f) (hf:P.funcs[f]? =some fn) (hb:fn.body=some c) (hn:fn.ntmps=nt) (hl:args.length≤nt) (hr:V.ok noN r=true)
 (h:AW P nt c (fun e σ=>(e= .ret∨e= .normal)∧∃ vs,ARes P σ fn.results.toList vs∧(one vs).un=r) ⟨fun i=>args[i]?,fun _=>none⟩):Pure P f args r:=by
 refine⟨hc,fun w S vs hT hS hv=>?_⟩
 have hvl:vs.size=args.length:=by have:=hv.1;simp at this;omega
 let X:Cx:=cx0 w S [] nt
 have g:Gm X ⟨fun i=>args[i]?,fun _=>none⟩ {tmps:=vs++Array.replicate (fn.ntmps - vs.size) undef,defers:=[]} w (cz S):=by
  refine⟨fun t v hv'=>?_,fun n o ho=>(by cases ho),fun n hn=>False.elim hn,fun n n' b _ h1=>?_,Keep.refl _ _,fun g i hs _=>.inl hs,hS,?_,rfl,⟨fun _ h=>h.elim,fun g i hs _=>⟨hs,rfl⟩,fun _ h=>h.elim⟩,hT,fun b hb=>(by cases hb)⟩
  ·obtain ⟨x,hx,hr'⟩:=hv.get hv'
   refine⟨x,?_,hr'⟩
   have hlt:=(List.getElem?_eq_some_iff.1 hx).1
   have e:vs[t]? =some x:=by simpa using hx
   rw[Array.getElem?_append_left (by simpa using hlt)]
   exact e
  ·unfold bl at h1;cases h1
  ·simp[X,hn];omega
 refine calls_of_wp hf hb (Go.wp_mono (h X _ w _ rfl g) fun e a' w' hq=>?_)
 obtain ⟨σ',⟨he,us,hres,hun⟩,κ',g'⟩:=hq
 obtain ⟨x,hx,hrx⟩:=iX g' hres
 have hfin:RepV (cz fun g i=>S g i∨(w.heap.size≤g∧g<w'.heap.size)) w' r x:=by
  have h1:RepV κ' w' r x:=hun▸hrx.un
  have h2:RepV (cz κ'.S) w' r x:=RepV.only (κ:=κ') (κ':=cz κ'.S) (d:=noN) rfl (fun n hn=>by cases hn) h1 hr
  refine h2.mono (gK fun g i hs=>?_)
  rcases Nat.lt_or_ge g w.heap.size with hlt|hge
  ·exact .inl ((g'.s0 g i hs hlt).resolve_right fun h=>List.not_mem_nil h)
  ·exact .inr ⟨hge,g'.s1 g i hs⟩
 rcases he with rfl|rfl
 ·exact⟨g'.df,x,hx,x,rfl,g'.only,hfin⟩
 ·exact⟨g'.df,x,hx,x,rfl,g'.only,hfin⟩
theorem NewC.of {P:Program} {f nt:Nat} {fn:Func} {c:Code} {args:List V} {ty:Nat} {cs:List C} (hc:bJ P f) (hf:P.funcs[f]? =some fn) (hb:fn.body=some c) (hn:fn.ntmps=nt) (hl:args.length≤nt) (hr:okL noN cs=true)
 (h:AW P nt c (fun e σ=>(e= .ret∨e= .normal)∧∃ n cs0,σ.hp n=some (.obj ty cs0)∧unL cs0=cs∧∃ vs,ARes P σ fn.results.toList vs∧one vs= .c (.ptr n 0)) ⟨fun i=>args[i]?,fun _=>none⟩):NewC P f args ty cs:=by
 refine⟨hc,fun w S vs hT hS hv=>?_⟩
 have hvl:vs.size=args.length:=by have:=hv.1;simp at this;omega
 let X:Cx:=cx0 w S [] nt
 have g:Gm X ⟨fun i=>args[i]?,fun _=>none⟩ {tmps:=vs++Array.replicate (fn.ntmps - vs.size) undef,defers:=[]} w (cz S):=by
  refine⟨fun t v hv'=>?_,fun n o ho=>(by cases ho),fun n hn=>False.elim hn,fun n n' b _ h1=>?_,Keep.refl _ _,fun g i hs _=>.inl hs,hS,?_,rfl,⟨fun _ h=>h.elim,fun g i hs _=>⟨hs,rfl⟩,fun _ h=>h.elim⟩,hT,fun b hb=>(by cases hb)⟩
  ·obtain ⟨x,hx,hr'⟩:=hv.get hv'
   refine⟨x,?_,hr'⟩
   have hlt:=(List.getElem?_eq_some_iff.1 hx).1
   have e:vs[t]? =some x:=by simpa using hx
   rw[Array.getElem?_append_left (by simpa using hlt)]
   exact e
  ·unfold bl at h1;cases h1
  ·simp[X,hn];omega
 refine calls_of_wp hf hb (Go.wp_mono (h X _ w _ rfl g) fun e a' w' hq=>?_)
 obtain ⟨σ',⟨he,n,cs0,hh,hun,us,hres,hone⟩,κ',g'⟩:=hq
 obtain ⟨x,hx,hrx⟩:=iX g' hres
 rw[hone] at hrx
 obtain ⟨_,ws,k1,k2,k3,k4⟩:=g'.hp n _ hh
 have k4:w.heap.size≤κ'.μ n:=k4.resolve_left fun h=>List.not_mem_nil h
 have hfin:Reps (cz fun g i=>S g i∨(w.heap.size≤g∧g<w'.heap.size∧g≠κ'.μ n)) w' cs ws.toList:=by
  have h1:Reps κ' w' cs ws.toList:=hun▸k2.un
  have h2:Reps (cz κ'.S) w' cs ws.toList:=Reps.only (κ:=κ') (κ':=cz κ'.S) (d:=noN) rfl (fun n hn=>by cases hn) h1 hr
  refine h2.mono (gK fun g i hs=>?_)
  rcases Nat.lt_or_ge g w.heap.size with hlt|hge
  ·exact .inl ((g'.s0 g i hs hlt).resolve_right fun h=>List.not_mem_nil h)
  ·exact .inr ⟨hge,g'.s1 g i hs,fun e=>k3 i (e▸hs)⟩
 have hxe:x= .pointer (some ⟨κ'.μ n,0,none⟩):=by
  cases hrx with
  |c h=>cases h with
   |ptr hD=>rfl
 subst hxe
 rcases he with rfl|rfl
 ·exact⟨g'.df,_,hx,κ'.μ n,ws,rfl,g'.only,k4,k1,hfin⟩
 ·exact⟨g'.df,_,hx,κ'.μ n,ws,rfl,g'.only,k4,k1,hfin⟩
def EY (P:Program) (rl:List ResultVar) (r:V) (o':HO):Exit→St→Prop:=fun e σ=>(e= .ret∨e= .normal)∧(∃ o1,σ.hp 0=some o1∧o1.un=o')∧∃ vs,ARes P σ rl vs∧(one vs).un=r
theorem MC.of {P:Program} {f nt:Nat} {fn:Func} {c:Code} {us:List V} {r:V} {o o':HO} (hc:bJ P f) (hf:P.funcs[f]? =some fn) (hb:fn.body=some c) (hn:fn.ntmps=nt) (hl:us.length+1≤nt) (hr:V.ok noN r=true) (h1:o.one=true) (h2:o'.one=true)
 (h:AW P nt c (EY P fn.results.toList r o') ⟨fun i=>(V.c (.ptr 0 0) :: us)[i]?,fun n=>if n=0 then some o else none⟩):MC P f o us r o':=by
 refine⟨hc,fun w S μ B vs hT hG hS hSB hO hv=>?_⟩
 have hvl:vs.size=us.length:=by have:=hv.1;simp at this;omega
 let X:Cx:={cx0 w S (μ :: B.toList) nt with K0:=mn S μ B,ent:=fun n h=>.inl h}
 have lb:Le (cz S) w (mn S μ B) w:=gK fun g i h=>h
 have hhp:∀ n o2,(if n=0 then some o else none)=some o2→n=0∧o2=o:=fun n o2 h=>by
  split at h
  ·injection h with h;exact⟨by assumption,h.symm⟩
  ·cases h
 have g:Gm X ⟨fun i=>(V.c (.ptr 0 0) :: us)[i]?,fun n=>if n=0 then some o else none⟩ {tmps:=(#[Value.pointer (some ⟨μ,0,none⟩)]++vs)++Array.replicate (fn.ntmps - (#[Value.pointer (some ⟨μ,0,none⟩)]++vs).size) undef,defers:=[]} w (mn S μ B):=by
  refine⟨fun t v hv'=>?_,fun n o2 ho=>?_,fun n hn=>?_,fun n n' b hne h1 h2=>?_,Keep.refl _ _,fun g i hs _=>.inl hs,hS,?_,rfl,Le.refl _ _,hT,hG⟩
  ·cases t with
   |zero=>
    have hv':some (V.c (.ptr 0 0))=some v:=hv'
    injection hv' with hv'
    subst hv'
    exact⟨.pointer (some ⟨μ,0,none⟩),by rw[Array.append_assoc,Array.getElem?_append_left (by simp)];rfl,.c (.ptr (κ:=mn S μ B) (n:=0) rfl)⟩
   |succ t=>
    have hv':us[t]? =some v:=hv'
    obtain ⟨x,hx,hr'⟩:=hv.get hv'
    refine⟨x,?_,hr'.mono lb⟩
    have hlt:=(List.getElem?_eq_some_iff.1 hx).1
    have e:vs[t]? =some x:=by simpa using hx
    rw[Array.getElem?_append_left (by simp at hlt ⊢;omega),Array.getElem?_append_right (by simp)]
    simpa using e
  ·obtain ⟨rfl,rfl⟩:=hhp n o2 ho
   exact⟨rfl,hO⟩
  ·have hn:n=0:=hn
   subst hn
   exact⟨o,rfl⟩
  ·have key:∀ m,b∈bl ⟨fun i=>(V.c (.ptr 0 0) :: us)[i]?,fun n=>if n=0 then some o else none⟩ (mn S μ B) m→m=0:=fun m hm=>by
    unfold bl at hm
    by_cases e:m=0
    ·exact e
    ·simp[e] at hm
   exact hne ((key n h1).trans (key n' h2).symm)
  ·simp[X,hn];omega
 refine calls_of_wp hf hb (Go.wp_mono (h X _ w _ rfl g) fun e a' w' hq=>?_)
 obtain ⟨σ',⟨he,⟨o1,ho1,hun1⟩,xs,hres,hun⟩,κ',g'⟩:=hq
 obtain ⟨x,hx,hrx⟩:=iX g' hres
 obtain ⟨hD,hOk⟩:=g'.hp 0 o1 ho1
 have hμ:κ'.μ 0=μ:=(g'.m0.D 0 rfl).2
 have hS2:∀ b,(∀ i,¬ κ'.S b i)→(b∈X.F∨w.heap.size≤b)→∀ i,¬ (S b i∨κ'.S b i):=fun b k1 k2 i hs=>by
  rcases hs with hs|hs
  ·rcases k2 with k2|k2
   ·exact hSB b i hs k2
   ·have:=hS b i hs;omega
  ·exact k1 i hs
 have hK:∀ {c:C} {v:Value},C.ok noN c=true→Rep κ' w' c v→Rep (mn (fun g i=>S g i∨κ'.S g i) μ (κ'.B 0)) w' c v:=fun {c v} hok hr=>by
  have r1:Rep (cz κ'.S) w' c v:=hr.only (κ:=κ') (κ':=cz κ'.S) (d:=noN) rfl (fun n hn=>by cases hn) hok
  exact r1.mono (gK fun g i hs=>Or.inr hs)
 have hO':ObjOk (cx0 w S (μ :: B.toList) 0) (mn (fun g i=>S g i∨κ'.S g i) μ (κ'.B 0)) w' 0 o':=by
  cases o1 with
  |obj ty cs=>
   obtain ⟨ws,k1,k2,k3,k4⟩:=hOk
   subst hun1
   rw[hμ] at k1 k3 k4
   have k2':=k2.un
   exact⟨ws,k1,⟨k2'.1,fun j c v hc hv=>hK (dO h2 c (List.mem_of_getElem? hc)) (k2'.2 j c v hc hv)⟩,hS2 μ k3 k4,k4⟩
  |row e k m=>subst hun1;cases h2
  |lost=>subst hun1;cases h2
  |gone=>
   subst hun1
   obtain ⟨k1,k2,k3⟩:=hOk
   rw[hμ] at k1 k2 k3
   exact⟨k1,hS2 μ k2 k3,k3⟩
  |bld ty e bs=>
   subst hun1
   obtain ⟨p,v,k1,k2,k3,k4,k5,k6⟩:=hOk
   rw[hμ] at k1 k2 k5 k6
   exact⟨p,v,k1,k2,k3,k4,k5,fun b hb=>⟨hS2 b (k6 b hb).1 (k6 b hb).2,(k6 b hb).2⟩⟩
 have hrr:RepV (cz fun g i=>S g i∨κ'.S g i) w' r x:=by
  have r1:RepV κ' w' r x:=hun▸hrx.un
  have r2:RepV (cz κ'.S) w' r x:=RepV.only (κ:=κ') (κ':=cz κ'.S) (d:=noN) rfl (fun n hn=>by cases hn) r1 hr
  exact r2.mono (gK fun g i hs=>Or.inr hs)
 have hall:∀ e,e=Ending.returned x→∃ x S' B',e= .returned x∧Keep (μ :: B.toList) w w'∧(∀ g i,S g i→S' g i)∧(∀ g i,S' g i→g<w.heap.size→S g i)∧(∀ g i,S' g i→g<w'.heap.size)∧
  ObjOk (cx0 w S (μ :: B.toList) 0) (mn S' μ B') w' 0 o'∧RepV (cz S') w' r x:=fun e he=>by
  refine⟨x,fun g i=>S g i∨κ'.S g i,κ'.B 0,he,g'.only,fun g i hs=>.inl hs,fun g i hs hg=>?_,fun g i hs=>?_,hO',hrr⟩
  ·rcases hs with hs|hs
   ·exact hs
   ·exact(g'.s0 g i hs hg).resolve_right fun h=>List.not_mem_nil h
  ·rcases hs with hs|hs
   ·exact Nat.lt_of_lt_of_le (hS g i hs) g'.only.size
   ·exact g'.s1 g i hs
 rcases he with rfl|rfl
 ·exact⟨g'.df,x,hx,hall _ rfl⟩
 ·exact⟨g'.df,x,hx,hall _ rfl⟩
end Am
namespace Am
variable [Tb]
open Go.RowKit
def look {α:Type}:List (Nat×α)→Nat→Option α
 |[],_=>none
 |(k,v) :: l,n=>match Nat.beq k n with
  |true=>some v
  |false=>look l n
abbrev mk (l:List (Nat×V)) (h:List (Nat×HO)):St:=⟨look l,look h⟩
theorem jq {α:Type} (l:List (Nat×α)) (t:Nat) (v:α):upd (look l) t v=look ((t,v) :: l):=by
 funext n
 unfold look upd
 by_cases h:n=t
 ·subst h;simp
 ·have:Nat.beq t n=false:=by
   cases hb:Nat.beq t n with
   |false=>rfl
   |true=>exact absurd (Nat.eq_of_beq_eq_true hb).symm h
  rw[if_neg h,this]
theorem ig (l:List (Nat×V)) (h:List (Nat×HO)) (t:Nat) (v:V):(mk l h).put (some t) v=mk ((t,v) :: l) h:=by
 show(⟨upd (look l) t v,look h⟩:St)=_
 rw[jq]
theorem set_mk (l:List (Nat×V)) (h:List (Nat×HO)) (n:Nat) (o:HO):(mk l h).set n o=mk l ((n,o) :: h):=by
 show(⟨look l,upd (look h) n o⟩:St)=_
 rw[jq]
section
variable {P:Program} {ops:Array Oper} {l:List (Nat×V)} {h:List (Nat×HO)} {rest:List Oper} {fs:List FP} {K:St→List FP→Prop} {t:Nat} {op:Op} {ty:TypeId} {pos:String} {af:Array Edge} {gu:Option (Nat×Bool)} {v:V} {rd:List Nat} {n:Nat} {ob:HO} {gp:Nat×Bool}
end
section
variable {ops:Array Oper} {sl:Nat→Option V} {d:Option Nat} {op:Op} {ty:TypeId} {pos:String} {af:Array Edge} {j t:Nat} {want b g:Bool}
theorem g_p (h1:(ops[j]?).bind (·.dst)=some t) (h2:sl t=some (.c (.sc (.bool b)))):gd ops sl ⟨d,op,ty,pos,af,some (j,want)⟩=some (b == want):=by
 unfold gd;simp only[h1,h2]
theorem g_w (h1:(ops[j]?).bind (·.dst)=some t) (h2:sl t=some (.wh g (.c (.sc (.bool b))))):gd ops sl ⟨d,op,ty,pos,af,some (j,want)⟩=some (g&&(b == want)):=by
 unfold gd;simp only[h1,h2]
end
theorem BF {α:Type} [BEq α] [LawfulBEq α] [DecidableEq α] (a b:α):(a == b)=decide (a=b):=by rw[Bool.eq_iff_iff];simp
section
variable {P:Program} {ρ:Operand→Option V} {H:Nat→Option HO} {d:Option Nat} {ty:TypeId} {pos:String} {af:Array Edge} {gu:Option (Nat×Bool)} {x y:Operand} {v:V} {t e n off k i:Nat} {cs ds cs':List C} {b:Bool}
theorem It (hx:Ev ρ x v):AS P ρ H ⟨d,.move x,ty,pos,af,gu⟩ ⟨v,[],[]⟩:=.move (.inl rfl) hx
theorem B4 (hx:Ev ρ x v):AS P ρ H ⟨d,.assign x,ty,pos,af,gu⟩ ⟨v,[],[]⟩:=.move (.inr rfl) hx
theorem yd (hn:H t=none) (hz:Zw P e cs):AS P ρ H ⟨some t,.alloc e,ty,pos,af,gu⟩ ⟨.c (.ptr t 0),[(t,.obj e cs)],[t]⟩:=.alloc rfl hn hz
theorem Ig {c:C} (hn:H t=none) (hx:Ev ρ x (.c c)):AS P ρ H ⟨some t,.box e x,ty,pos,af,gu⟩ ⟨.c (.ptr t 0),[(t,.obj e [c])],[t]⟩:=.box rfl hn hx rfl
theorem Ie (hn:H t=none) (hx:Ev ρ x (.agg cs)):AS P ρ H ⟨some t,.box e x,ty,pos,af,gu⟩ ⟨.c (.ptr t 0),[(t,.obj e cs)],[t]⟩:=.box rfl hn hx rfl
theorem F5 {ty0:Nat} (hx:Ev ρ x (.c (.ptr n off))) (hh:H n=some (.obj ty0 cs)) (ht:tyi P e=some (k,b)) (hc:aU b cs off k=some v):AS P ρ H ⟨d,.load e x,ty,pos,af,gu⟩ ⟨v,[],[n]⟩:=.load rfl hx hh ht hc
theorem F4 (hx:Ev ρ x (.c (.ep cs))) (ht:tyi P e=some (k,b)) (hc:aU b cs 0 k=some v):AS P ρ H ⟨d,.load e x,ty,pos,af,gu⟩ ⟨v,[],[]⟩:=.loadE rfl hx ht hc
theorem oI {ty0:Nat} {c:C} (hx:Ev ρ x (.c (.ptr n off))) (hh:H n=some (.obj ty0 cs)) (hy:Ev ρ y (.c c)) (ht:tyi P e=some (1,b)) (hs:aZ cs off [c]=some cs'):AS P ρ H ⟨d,.store e x y,ty,pos,af,gu⟩ ⟨jP,[(n,.obj ty0 cs')],[n]⟩:=.store rfl hx hh hy rfl ht hs
theorem Bm {ty0:Nat} (hx:Ev ρ x (.c (.ptr n off))) (hh:H n=some (.obj ty0 cs)) (hy:Ev ρ y (.agg ds)) (ht:tyi P e=some (k,b)) (hl:ds.length=k) (hs:aZ cs off ds=some cs'):AS P ρ H ⟨d,.store e x y,ty,pos,af,gu⟩ ⟨jP,[(n,.obj ty0 cs')],[n]⟩:=.store rfl hx hh hy rfl (hl▸ht) hs
theorem KJ (hx:Ev ρ x v) (hv:xd v=true):AS P ρ H ⟨d,.nilCheck x,ty,pos,af,gu⟩ ⟨v,[],[]⟩:=.nilCheck rfl hx hv
theorem Ij {s f o2 ft q:Nat} (hx:Ev ρ x (.c (.ptr n off))) (hf:fld P s f=some (o2,ft)) (he:off+o2=q):AS P ρ H ⟨d,.fieldAddr s x f,ty,pos,af,gu⟩ ⟨.c (.ptr n q),[],[]⟩:=.fieldP rfl hx hf he
theorem Ii {s f o2 ft:Nat} (hx:Ev ρ x (.c (.ep cs))) (hf:fld P s f=some (o2,ft)) (he:cs.drop o2=ds):AS P ρ H ⟨d,.fieldAddr s x f,ty,pos,af,gu⟩ ⟨.c (.ep ds),[],[]⟩:=.fieldE rfl hx hf he
theorem KE {s f o2 ft:Nat} (hx:Ev ρ x (.agg cs)) (hf:fld P s f=some (o2,ft)) (ht:tyi P ft=some (k,b)) (hc:aU b cs o2 k=some v):AS P ρ H ⟨d,.field s x f,ty,pos,af,gu⟩ ⟨v,[],[]⟩:=.field rfl hx hf ht hc
theorem Hz {j:Nat} {ix:Operand} {tg:Option Nat} {xs:List (List C)} {kd:IntKind} {z:Int} (hx:Ev ρ x (.c (.lst tg k xs))) (hi:Ev ρ ix (.c (.sc (.int kd z)))) (ht:sle P t=some (e,k)) (hz:z=(j:Nat)) (hg:xs[j]? =some cs) :
 AS P ρ H ⟨d,.indexAddr t x ix,ty,pos,af,gu⟩ ⟨.c (.ep cs),[],[]⟩:=.indexL rfl hx hi ht hz hg
theorem KC {l:List V} (hx:Ev ρ x (.tup l)) (hl:l[i]? =some v):AS P ρ H ⟨d,.extract x i,ty,pos,af,gu⟩ ⟨v,[],[]⟩:=.extract rfl hx hl
theorem Il {tg:Option Nat} {xs:List (List C)} (hx:Ev ρ x (.c (.lst tg k xs))) (ht:sle P t=some (e,k)):AS P ρ H ⟨d,.call {callee:=.builtin .len,args:=#[x],argTypes:=#[t]},ty,pos,af,gu⟩ ⟨.c (.sc (.int .i64 xs.length)),[],[]⟩:=.lenL rfl ht hx
inductive EvCs (ρ:Operand→Option V):List Operand→List C→Prop
 |nil:EvCs ρ [] []
 |cons {x:Operand} {c:C} {l:List Operand} {cs:List C}:Ev ρ x (.c c)→EvCs ρ l cs→EvCs ρ (x :: l) (c :: cs)
theorem EvCs.evl {ρ:Operand→Option V}:∀ {l:List Operand} {cs:List C},EvCs ρ l cs→EvL ρ l (cs.map V.c)
 |[],_,.nil=>.nil
 |_ :: _,_,.cons h hs=>.cons h hs.evl
theorem Mu {f:Nat} {caps:Array Operand} {cs:List C} (hv:EvCs ρ caps.toList cs):AS P ρ H ⟨d,.makeFunc (.func f) #[] caps,ty,pos,af,gu⟩ ⟨.c (.fn f cs),[],[]⟩:=.makeFunc rfl hv.evl rfl
theorem fb {parts:Array (Nat×Operand)} {zs:List C} {ps:List (Nat×List C)} {xs:List (List C)} (ht:sle P t=some (e,k)) (hz:Zw P e zs) (hk:zs.length=k) (h0:0<k) (hn:n*k≤2 ^ 24) (hv:EvP ρ parts.toList ps) (hf:gw (fun i=>some (i*k,k)) ((List.replicate n zs).flatten) ps=some cs) (hx:chunk k n cs=xs) :
 AS P ρ H ⟨d,.buildSlice t n parts,ty,pos,af,gu⟩ ⟨.c (.lst none k xs),[],[]⟩:=hx▸.buildSlice rfl ht hz hk h0 hn hv hf
theorem ye {τ m:Nat} {tg:Option Nat} {xs ys zs:List (List C)} {zl:List C} (ht:sle P t=some (e,k)) (h0:0<k) (hx:Ev ρ x (.c (.lst (some τ) k xs))) (hh:H τ=some (.row e k m)) (hm:xs.length=m) (hz:Zw P e zl) (hl:zl.length=k) (hy:Ev ρ y (.c (.lst tg k ys))) (hzs:xs++bV ys=zs) (h1:zs.length≤maxLen) (h2:zs.length*P.bytesOf e≤140737488355328) :
 AS P ρ H ⟨d,.call {callee:=.builtin .append,args:=#[x,y],argTypes:=#[t,t]},ty,pos,af,gu⟩ ⟨.c (.lst (some τ) k zs),[(τ,.row e k zs.length)],[τ]⟩:=.append rfl ht h0 hx hh hm ⟨zl,hz,hl⟩ (.inl hy) hzs h1 h2
theorem Kx {c a:Operand} {p q:Bool} (hc:Ev ρ c (.c (.sc (.bool p)))) (h0:ρ (.const (.bool false))=some (.c (.sc (.bool false)))) (ha:p=true→Ev ρ a (.c (.sc (.bool q)))):AS P ρ H ⟨d,.pick c a (.const (.bool false)),ty,pos,af,gu⟩ ⟨.c (.sc (.bool (p&&q))),[],[]⟩:=by
 cases p with
 |true=>exact .pick rfl hc (fun _=>ha rfl) fun e=>by cases e
 |false=>exact .pick rfl hc (fun e=>by cases e) fun _=>.pl h0
theorem MA {c a:Operand} {p q:Bool} (hc:Ev ρ c (.c (.sc (.bool p)))) (h0:ρ (.const (.bool true))=some (.c (.sc (.bool true)))) (ha:p=false→Ev ρ a (.c (.sc (.bool q)))):AS P ρ H ⟨d,.pick c (.const (.bool true)) a,ty,pos,af,gu⟩ ⟨.c (.sc (.bool (p || q))),[],[]⟩:=by
 cases p with
 |true=>exact .pick rfl hc (fun _=>.pl h0) fun e=>by cases e
 |false=>exact .pick rfl hc (fun e=>by cases e) fun _=>ha rfl
theorem fZ {op:BinOp} {t2:TypeId} {a b r:Value} (hx:Ev ρ x (.c (.sc a))) (hy:Ev ρ y (.c (.sc b))) (hr:jG r=true) (h:∀ w,(do eqGuard op t x y a b;binOp op t a b:Sem Value).run P w= .ok r w) :
 AS P ρ H ⟨d,.binOp op t x y t2,ty,pos,af,gu⟩ ⟨.c (.sc r),[],[]⟩:=by
 refine .still (fun q hq w=>?_) fun _=>.sc hr
 have h1:=hq x (by simp[Op.operands]) _ _ hx .sc
 have h2:=hq y (by simp[Op.operands]) _ _ hy .sc
 have h3:=h w
 unfold execOp
 simp only[h1,h2]
 simp only[Sem.run_bind] at h3 ⊢
 rw[h3]
 simp
theorem wrap64 {n:Int} (h0:-9223372036854775808≤n) (h1:n<9223372036854775808):IntKind.i64.wrap n=n:=by rw[IntKind.wrap_i64];omega
variable {t2:TypeId} {kd:IntKind} {p q:Int} {s u:ByteArray} {f g:Bool}
theorem Kw (hx:Ev ρ x (.c (.sc (.int .i64 p)))) (hy:Ev ρ y (.c (.sc (.int .i64 q)))) (h0:-9223372036854775808≤p+q) (h1:p+q<9223372036854775808):AS P ρ H ⟨d,.binOp .add t x y t2,ty,pos,af,gu⟩ ⟨.c (.sc (.int .i64 (p+q))),[],[]⟩:=
 fZ hx hy rfl fun w=>by simp[eqGuard,binOp,Op.intArith,wrap64 h0 h1]
theorem KQ (hx:Ev ρ x (.c (.sc (.int .i64 p)))) (hy:Ev ρ y (.c (.sc (.int .i64 q)))) (h0:-9223372036854775808≤p - q) (h1:p - q<9223372036854775808):AS P ρ H ⟨d,.binOp .sub t x y t2,ty,pos,af,gu⟩ ⟨.c (.sc (.int .i64 (p - q))),[],[]⟩:=
 fZ hx hy rfl fun w=>by simp[eqGuard,binOp,Op.intArith,wrap64 h0 h1]
theorem Mt (hx:Ev ρ x (.c (.sc (.int kd p)))) (hy:Ev ρ y (.c (.sc (.int kd q)))):AS P ρ H ⟨d,.binOp .eql t x y t2,ty,pos,af,gu⟩ ⟨.c (.sc (.bool (decide (p=q)))),[],[]⟩:=
 fZ hx hy rfl fun w=>by simp[eqGuard,binOp,Op.intCmp,BF]
theorem Mz (hx:Ev ρ x (.c (.sc (.int kd p)))) (hy:Ev ρ y (.c (.sc (.int kd q)))):AS P ρ H ⟨d,.binOp .neq t x y t2,ty,pos,af,gu⟩ ⟨.c (.sc (.bool (!decide (p=q)))),[],[]⟩:=
 fZ hx hy rfl fun w=>by simp[eqGuard,binOp,Op.intCmp,bne,BF]
theorem My (hx:Ev ρ x (.c (.sc (.int kd p)))) (hy:Ev ρ y (.c (.sc (.int kd q)))):AS P ρ H ⟨d,.binOp .lss t x y t2,ty,pos,af,gu⟩ ⟨.c (.sc (.bool (decide (p<q)))),[],[]⟩:=
 fZ hx hy rfl fun w=>by simp[eqGuard,binOp,Op.intCmp]
theorem Mx (hx:Ev ρ x (.c (.sc (.int kd p)))) (hy:Ev ρ y (.c (.sc (.int kd q)))):AS P ρ H ⟨d,.binOp .leq t x y t2,ty,pos,af,gu⟩ ⟨.c (.sc (.bool (decide (p≤q)))),[],[]⟩:=
 fZ hx hy rfl fun w=>by simp[eqGuard,binOp,Op.intCmp]
theorem Mw (hx:Ev ρ x (.c (.sc (.int kd p)))) (hy:Ev ρ y (.c (.sc (.int kd q)))):AS P ρ H ⟨d,.binOp .gtr t x y t2,ty,pos,af,gu⟩ ⟨.c (.sc (.bool (decide (q<p)))),[],[]⟩:=
 fZ hx hy rfl fun w=>by simp[eqGuard,binOp,Op.intCmp]
theorem Mv (hx:Ev ρ x (.c (.sc (.int kd p)))) (hy:Ev ρ y (.c (.sc (.int kd q)))):AS P ρ H ⟨d,.binOp .geq t x y t2,ty,pos,af,gu⟩ ⟨.c (.sc (.bool (decide (q≤p)))),[],[]⟩:=
 fZ hx hy rfl fun w=>by simp[eqGuard,binOp,Op.intCmp]
theorem BC (s u:ByteArray):(s.toList == u.toList)=decide (s=u):=by
 rw[ByteArray.toList_eq,ByteArray.toList_eq,BF]
 congr 1
 exact propext ⟨fun h=>ByteArray.ext (Array.ext' h),fun h=>by rw[h]⟩
theorem KA (hx:Ev ρ x (.c (.sc (.string s)))) (hy:Ev ρ y (.c (.sc (.string u)))) (h:s.size+u.size≤9223372036854775807):AS P ρ H ⟨d,.binOp .add t x y t2,ty,pos,af,gu⟩ ⟨.c (.sc (.string (s++u))),[],[]⟩:=
 fZ hx hy (by simp only[jG,ByteArray.size_append];exact decide_eq_true h) fun w=>by
  have:¬ (((s.size+u.size:Nat):Int) > IntKind.i64.max):=by simp[IntKind.max,IntKind.signed,IntKind.bits];omega
  simp only[eqGuard,binOp,Op.stringOp,if_neg this]
  simp
theorem KO (hx:Ev ρ x (.c (.sc (.string s)))) (hy:Ev ρ y (.c (.sc (.string u)))):AS P ρ H ⟨d,.binOp .eql t x y t2,ty,pos,af,gu⟩ ⟨.c (.sc (.bool (decide (s=u)))),[],[]⟩:=
 fZ hx hy rfl fun w=>by simp only[eqGuard,binOp,Op.stringOp,BC];simp
theorem KP (hx:Ev ρ x (.c (.sc (.string s)))) (hy:Ev ρ y (.c (.sc (.string u)))):AS P ρ H ⟨d,.binOp .neq t x y t2,ty,pos,af,gu⟩ ⟨.c (.sc (.bool (!decide (s=u)))),[],[]⟩:=
 fZ hx hy rfl fun w=>by simp only[eqGuard,binOp,Op.stringOp,BC];simp
theorem Ky (hx:Ev ρ x (.c (.sc (.bool f)))) (hy:Ev ρ y (.c (.sc (.bool g)))) (ht:P.underlying t=some .bool):AS P ρ H ⟨d,.binOp .eql t x y t2,ty,pos,af,gu⟩ ⟨.c (.sc (.bool (f == g))),[],[]⟩:=
 fZ hx hy rfl fun w=>by simp[eqGuard,run_eql_bool w t f g ht]
theorem Kz (hx:Ev ρ x (.c (.sc (.bool f)))) (hy:Ev ρ y (.c (.sc (.bool g)))) (ht:P.underlying t=some .bool):AS P ρ H ⟨d,.binOp .neq t x y t2,ty,pos,af,gu⟩ ⟨.c (.sc (.bool (f != g))),[],[]⟩:=
 fZ hx hy rfl fun w=>by simp[eqGuard,run_neq_bool w t f g ht,bne]
theorem KK (hx:Ev ρ x (.c (.sc (.bool f)))):AS P ρ H ⟨d,.unOp .not t x,ty,pos,af,gu⟩ ⟨.c (.sc (.bool (!f))),[],[]⟩:=by
 refine .still (fun q hq w=>?_) fun _=>.sc rfl
 have h1:=hq x (by simp[Op.operands]) _ _ hx .sc
 unfold execOp
 simp only[h1]
 simp[Op.unary]
theorem Im (hx:Ev ρ x (.c (.sc (.string s)))) (ht:P.underlying t=some .string):AS P ρ H ⟨d,.call {callee:=.builtin .len,args:=#[x],argTypes:=#[t]},ty,pos,af,gu⟩ ⟨.c (.sc (.int .i64 s.size)),[],[]⟩:=by
 refine .still (fun q hq w=>?_) fun _=>.sc rfl
 have h1:=hq x (by simp[Op.operands,Call.operands]) _ _ hx .sc
 unfold execOp
 simp only[resolve,invoke,builtin]
 simp[h1,Builtin.len_,run_underlying ht,goInt]
end
theorem F7 {P:Program} {ρ:Operand→Option V} {H:Nat→Option HO} {d:Option Nat} {ty:TypeId} {pos:String} {af:Array Edge} {gu:Option (Nat×Bool)} {v:V} {c a b:Operand} {p:Bool} (hc:Ev ρ c (.c (.sc (.bool p)))) (hp:p=false) (hb:Ev ρ b v):AS P ρ H ⟨d,.pick c a b,ty,pos,af,gu⟩ ⟨v,[],[]⟩:=.pick rfl hc (fun e=>by rw[hp] at e;cases e) fun _=>hb
theorem F8 {P:Program} {ρ:Operand→Option V} {H:Nat→Option HO} {d:Option Nat} {ty:TypeId} {pos:String} {af:Array Edge} {gu:Option (Nat×Bool)} {v:V} {c a b:Operand} {p:Bool} (hc:Ev ρ c (.c (.sc (.bool p)))) (hp:p=true) (hb:Ev ρ a v):AS P ρ H ⟨d,.pick c a b,ty,pos,af,gu⟩ ⟨v,[],[]⟩:=.pick rfl hc (fun _=>hb) (fun e=>by rw[hp] at e;cases e)
theorem B1 {P:Program} {ρ:Operand→Option V} {H:Nat→Option HO} {ty:TypeId} {pos:String} {af:Array Edge} {gu:Option (Nat×Bool)} {t u e:Nat} (hn:H t=none) (hz:Zb P u):AS P ρ H ⟨some t,.alloc u,ty,pos,af,gu⟩ ⟨.c (.ptr t 0),[(t,.bld u e [])],[t]⟩:=.allocB rfl rfl hn hz
end Am
namespace Am
variable [Tb]
abbrev sI (n:Int):C:=.sc (.int .i64 n)
abbrev sU (n:Int):C:=.sc (.int .u64 n)
abbrev sB (b:Bool):C:=.sc (.bool b)
abbrev sS (s:ByteArray):C:=.sc (.string s)
def oneS (s:ByteArray):List C:=[sS s]
abbrev bA (l:List ByteArray):C:=.lst none 1 (l.map oneS)
structure Sp where
 frm:ByteArray
 to:ByteArray
def spC (x:Sp):List C:=[sS x.frm,sS x.to]
def Sp.zero:Sp:=⟨⟨#[]⟩,⟨#[]⟩⟩
theorem zm (x:Sp):(spC x).length=2:=rfl
structure NS where
 all:Bool
 nt:Bool
 self:Bool
 names:List ByteArray
 except:List ByteArray
def nsC (x:NS):List C:=[sB x.all,sB x.nt,sB x.self,bA x.names,bA x.except]
def NS.zero:NS:=⟨false,false,false,[],[]⟩
theorem Gx (x:NS):(nsC x).length=5:=rfl
structure Lv where
 sens:ByteArray
 cats:List Sp
def lvC (x:Lv):List C:=[sS x.sens,.lst none 2 (x.cats.map spC)]
def Lv.zero:Lv:=⟨⟨#[]⟩,[]⟩
theorem Gc (x:Lv):(lvC x).length=2:=rfl
structure Rg where
 lo:Lv
 hi:Lv
def rgC (x:Rg):List C:=lvC x.lo++lvC x.hi
def Rg.zero:Rg:=⟨⟨⟨#[]⟩,[]⟩,⟨⟨#[]⟩,[]⟩⟩
theorem GN (x:Rg):(rgC x).length=4:=rfl
structure Ct where
 user:ByteArray
 role:ByteArray
 type:ByteArray
 rng:Rg
def cxC (x:Ct):List C:=[sS x.user,sS x.role,sS x.type]++rgC x.rng
def Ct.zero:Ct:=⟨⟨#[]⟩,⟨#[]⟩,⟨#[]⟩,⟨⟨⟨#[]⟩,[]⟩,⟨⟨#[]⟩,[]⟩⟩⟩
theorem FA (x:Ct):(cxC x).length=7:=rfl
structure Se where
 a:Int
 b:Int
 c:Int
 d:Int
def seC (x:Se):List C:=[sU x.a,sU x.b,sU x.c,sU x.d]
def Se.zero:Se:=⟨0,0,0,0⟩
theorem GX (x:Se):(seC x).length=4:=rfl
structure Ex where
 op:Int
 a:Int
 rel:Int
 b:Int
 names:List ByteArray
 set:Se
 kids:List Ex
mutual
def fL:Ex→List (List C)
 |⟨_,_,_,_,_,_,kids⟩=>mO kids
def mO:List Ex→List (List C)
 |[]=>[]
 |x :: l=>([sI x.op,sI x.a,sI x.rel,sI x.b,bA x.names]++seC x.set++[.lst none 10 (fL x)]) :: mO l
end
def exC (x:Ex):List C:=[sI x.op,sI x.a,sI x.rel,sI x.b,bA x.names]++seC x.set++[.lst none 10 (fL x)]
theorem k9:∀ l:List Ex,mO l=l.map exC
 |[]=>by rw[mO];rfl
 |x :: l=>by rw[mO,k9 l];rfl
theorem lW (x:Ex):fL x=x.kids.map exC:=by cases x;rw[fL,k9]
def Ex.zero:Ex:=⟨0,0,0,0,[],⟨0,0,0,0⟩,[]⟩
theorem yG (x:Ex):(exC x).length=10:=rfl
structure Po where
 line:Int
 col:Int
def poC (x:Po):List C:=[sI x.line,sI x.col]
def Po.zero:Po:=⟨0,0⟩
theorem GH (x:Po):(poC x).length=2:=rfl
structure Stm where
 kind:Int
 op:Int
 pos:Po
 name:ByteArray
 result:ByteArray
 text:ByteArray
 list:List ByteArray
 aliases:List ByteArray
 source:NS
 target:NS
 cls:NS
 perms:NS
 cond:Ex
 level:Lv
 range:Rg
 ctx:Ct
 value:Bool
 thn:List Stm
 els:List Stm
mutual
def gP:Stm→List (List C)
 |⟨_,_,_,_,_,_,_,_,_,_,_,_,_,_,_,_,_,thn,_⟩=>lG thn
def gO:Stm→List (List C)
 |⟨_,_,_,_,_,_,_,_,_,_,_,_,_,_,_,_,_,_,els⟩=>lG els
def lG:List Stm→List (List C)
 |[]=>[]
 |x :: l=>([sI x.kind,sI x.op]++poC x.pos++[sS x.name,sS x.result,sS x.text,bA x.list,bA x.aliases]++nsC x.source++nsC x.target++nsC x.cls++nsC x.perms++exC x.cond++lvC x.level++rgC x.range++cxC x.ctx++[sB x.value,.lst none 55 (gP x),.lst none 55 (gO x)]) :: lG l
end
def stC (x:Stm):List C:=[sI x.kind,sI x.op]++poC x.pos++[sS x.name,sS x.result,sS x.text,bA x.list,bA x.aliases]++nsC x.source++nsC x.target++nsC x.cls++nsC x.perms++exC x.cond++lvC x.level++rgC x.range++cxC x.ctx++[sB x.value,.lst none 55 (gP x),.lst none 55 (gO x)]
theorem iu:∀ l:List Stm,lG l=l.map stC
 |[]=>by rw[lG];rfl
 |x :: l=>by rw[lG,iu l];rfl
theorem vJ (x:Stm):gP x=x.thn.map stC:=by cases x;rw[gP,iu]
theorem vI (x:Stm):gO x=x.els.map stC:=by cases x;rw[gO,iu]
def Stm.zero:Stm:=⟨0,0,⟨0,0⟩,⟨#[]⟩,⟨#[]⟩,⟨#[]⟩,[],[],⟨false,false,false,[],[]⟩,⟨false,false,false,[],[]⟩,⟨false,false,false,[],[]⟩,⟨false,false,false,[],[]⟩,⟨0,0,0,0,[],⟨0,0,0,0⟩,[]⟩,⟨⟨#[]⟩,[]⟩,⟨⟨⟨#[]⟩,[]⟩,⟨⟨#[]⟩,[]⟩⟩,⟨⟨#[]⟩,⟨#[]⟩,⟨#[]⟩,⟨⟨⟨#[]⟩,[]⟩,⟨⟨#[]⟩,[]⟩⟩⟩,false,[],[]⟩
theorem oy (x:Stm):(stC x).length=55:=rfl
structure Mo where
 name:ByteArray
 version:Int
 stmts:List Stm
def moC (x:Mo):List C:=[sS x.name,sI x.version,.lst none 55 (x.stmts.map stC)]
def Mo.zero:Mo:=⟨⟨#[]⟩,0,[]⟩
theorem Gd (x:Mo):(moC x).length=3:=rfl
structure Tok where
 kind:Int
 text:ByteArray
 pos:Po
def tkC (x:Tok):List C:=[sI x.kind,sS x.text]++poC x.pos
def Tok.zero:Tok:=⟨0,⟨#[]⟩,⟨0,0⟩⟩
theorem Hc (x:Tok):(tkC x).length=4:=rfl
structure Fa where
 code:Int
 pos:Po
 name:ByteArray
def faC (x:Fa):List C:=[sI x.code]++poC x.pos++[sS x.name]
def Fa.zero:Fa:=⟨0,⟨0,0⟩,⟨#[]⟩⟩
theorem FJ (x:Fa):(faC x).length=4:=rfl
structure Pa where
 names:NS
 cond:Ex
 validate:Bool
 range:Rg
 context:Ct
def paC (x:Pa):List C:=nsC x.names++exC x.cond++[sB x.validate]++rgC x.range++cxC x.context
def Pa.zero:Pa:=⟨⟨false,false,false,[],[]⟩,⟨0,0,0,0,[],⟨0,0,0,0⟩,[]⟩,false,⟨⟨⟨#[]⟩,[]⟩,⟨⟨#[]⟩,[]⟩⟩,⟨⟨#[]⟩,⟨#[]⟩,⟨#[]⟩,⟨⟨⟨#[]⟩,[]⟩,⟨⟨#[]⟩,[]⟩⟩⟩⟩
theorem GA (x:Pa):(paC x).length=27:=rfl
structure Sy where
 kind:Int
 name:ByteArray
 req:Bool
 perms:List ByteArray
 pos:Po
def syC (x:Sy):List C:=[sI x.kind,sS x.name,sB x.req,bA x.perms]++poC x.pos
def Sy.zero:Sy:=⟨0,⟨#[]⟩,false,[],⟨0,0⟩⟩
theorem H9 (x:Sy):(syC x).length=6:=rfl
structure Ps where
 l:List Tok
 at_:Int
 count:Int
 depth:Int
def psC (x:Ps):List C:=[.lst none 4 (x.l.map tkC),sI x.at_,sI x.count,sI x.depth]
def Ps.zero:Ps:=⟨[],0,0,0⟩
theorem GI (x:Ps):(psC x).length=4:=rfl
structure Qs where
 l:List Tok
 at_:Int
 bad:Fa
 stmts:Int
def qsC (x:Qs):List C:=[.lst none 4 (x.l.map tkC),sI x.at_]++faC x.bad++[sI x.stmts]
def Qs.zero:Qs:=⟨[],0,⟨0,⟨0,0⟩,⟨#[]⟩⟩,0⟩
theorem GJ (x:Qs):(qsC x).length=7:=rfl
structure Bs where
 l:List Tok
 at_:Int
 deep:Int
def bsC (x:Bs):List C:=[.lst none 4 (x.l.map tkC),sI x.at_,sI x.deep]
def Bs.zero:Bs:=⟨[],0,0⟩
theorem Fp (x:Bs):(bsC x).length=3:=rfl
structure Sc where
 src:ByteArray
 at_:Int
 pos:Po
def snR (x:Sc):List C:=[sS x.src,sI x.at_]++poC x.pos
def Sc.zero:Sc:=⟨⟨#[]⟩,0,⟨0,0⟩⟩
theorem H4 (x:Sc):(snR x).length=4:=rfl
theorem fK:(∀ x:Sp,aU false (spC x) 0 1=some (.c (sS x.frm)))∧
 (∀ x:Sp,aU false (spC x) 1 1=some (.c (sS x.to)))∧
 (∀ x:Sp,aU true (spC x) 0 2=some (.agg (spC x)))∧
 (∀ x:NS,aU false (nsC x) 0 1=some (.c (sB x.all)))∧
 (∀ x:NS,aU false (nsC x) 1 1=some (.c (sB x.nt)))∧
 (∀ x:NS,aU false (nsC x) 2 1=some (.c (sB x.self)))∧
 (∀ x:NS,aU false (nsC x) 3 1=some (.c (bA x.names)))∧
 (∀ x:NS,aU false (nsC x) 4 1=some (.c (bA x.except)))∧
 (∀ x:NS,aU true (nsC x) 0 5=some (.agg (nsC x)))∧
 (∀ x:Lv,aU false (lvC x) 0 1=some (.c (sS x.sens)))∧
 (∀ x:Lv,aU false (lvC x) 1 1=some (.c (.lst none 2 (x.cats.map spC))))∧
 (∀ x:Lv,aU true (lvC x) 0 2=some (.agg (lvC x)))∧
 (∀ x:Rg,aU true (rgC x) 0 2=some (.agg (lvC x.lo)))∧
 (∀ x:Rg,aU true (rgC x) 2 2=some (.agg (lvC x.hi)))∧
 (∀ x:Rg,aU true (rgC x) 0 4=some (.agg (rgC x)))∧
 (∀ x:Ct,aU false (cxC x) 0 1=some (.c (sS x.user)))∧
 (∀ x:Ct,aU false (cxC x) 1 1=some (.c (sS x.role)))∧
 (∀ x:Ct,aU false (cxC x) 2 1=some (.c (sS x.type)))∧
 (∀ x:Ct,aU true (cxC x) 3 4=some (.agg (rgC x.rng)))∧
 (∀ x:Ct,aU true (cxC x) 0 7=some (.agg (cxC x)))∧
 (∀ x:Se,aU false (seC x) 0 1=some (.c (sU x.a)))∧
 (∀ x:Se,aU false (seC x) 1 1=some (.c (sU x.b)))∧
 (∀ x:Se,aU false (seC x) 2 1=some (.c (sU x.c)))∧
 (∀ x:Se,aU false (seC x) 3 1=some (.c (sU x.d)))∧
 (∀ x:Se,aU true (seC x) 0 4=some (.agg (seC x)))∧
 (∀ x:Ex,aU false (exC x) 0 1=some (.c (sI x.op)))∧
 (∀ x:Ex,aU false (exC x) 1 1=some (.c (sI x.a)))∧
 (∀ x:Ex,aU false (exC x) 2 1=some (.c (sI x.rel)))∧
 (∀ x:Ex,aU false (exC x) 3 1=some (.c (sI x.b)))∧
 (∀ x:Ex,aU false (exC x) 4 1=some (.c (bA x.names)))∧
 (∀ x:Ex,aU true (exC x) 5 4=some (.agg (seC x.set)))∧
 (∀ x:Ex,aU false (exC x) 9 1=some (.c (.lst none 10 (x.kids.map exC))))∧
 (∀ x:Ex,aU true (exC x) 0 10=some (.agg (exC x)))∧
 (∀ x:Po,aU false (poC x) 0 1=some (.c (sI x.line)))∧
 (∀ x:Po,aU false (poC x) 1 1=some (.c (sI x.col)))∧
 (∀ x:Po,aU true (poC x) 0 2=some (.agg (poC x)))∧
 (∀ x:Stm,aU false (stC x) 0 1=some (.c (sI x.kind)))∧
 (∀ x:Stm,aU false (stC x) 1 1=some (.c (sI x.op)))∧
 (∀ x:Stm,aU true (stC x) 2 2=some (.agg (poC x.pos)))∧
 (∀ x:Stm,aU false (stC x) 4 1=some (.c (sS x.name)))∧
 (∀ x:Stm,aU false (stC x) 5 1=some (.c (sS x.result)))∧
 (∀ x:Stm,aU false (stC x) 6 1=some (.c (sS x.text)))∧
 (∀ x:Stm,aU false (stC x) 7 1=some (.c (bA x.list)))∧
 (∀ x:Stm,aU false (stC x) 8 1=some (.c (bA x.aliases)))∧
 (∀ x:Stm,aU true (stC x) 9 5=some (.agg (nsC x.source)))∧
 (∀ x:Stm,aU true (stC x) 14 5=some (.agg (nsC x.target)))∧
 (∀ x:Stm,aU true (stC x) 19 5=some (.agg (nsC x.cls)))∧
 (∀ x:Stm,aU true (stC x) 24 5=some (.agg (nsC x.perms)))∧
 (∀ x:Stm,aU true (stC x) 29 10=some (.agg (exC x.cond)))∧
 (∀ x:Stm,aU true (stC x) 39 2=some (.agg (lvC x.level)))∧
 (∀ x:Stm,aU true (stC x) 41 4=some (.agg (rgC x.range)))∧
 (∀ x:Stm,aU true (stC x) 45 7=some (.agg (cxC x.ctx)))∧
 (∀ x:Stm,aU false (stC x) 52 1=some (.c (sB x.value)))∧
 (∀ x:Stm,aU false (stC x) 53 1=some (.c (.lst none 55 (x.thn.map stC))))∧
 (∀ x:Stm,aU false (stC x) 54 1=some (.c (.lst none 55 (x.els.map stC))))∧
 (∀ x:Stm,aU true (stC x) 0 55=some (.agg (stC x)))∧
 (∀ x:Mo,aU false (moC x) 0 1=some (.c (sS x.name)))∧
 (∀ x:Mo,aU false (moC x) 1 1=some (.c (sI x.version)))∧
 (∀ x:Mo,aU false (moC x) 2 1=some (.c (.lst none 55 (x.stmts.map stC))))∧
 (∀ x:Mo,aU true (moC x) 0 3=some (.agg (moC x)))∧
 (∀ x:Tok,aU false (tkC x) 0 1=some (.c (sI x.kind)))∧
 (∀ x:Tok,aU false (tkC x) 1 1=some (.c (sS x.text)))∧
 (∀ x:Tok,aU true (tkC x) 2 2=some (.agg (poC x.pos)))∧
 (∀ x:Tok,aU true (tkC x) 0 4=some (.agg (tkC x)))∧
 (∀ x:Fa,aU false (faC x) 0 1=some (.c (sI x.code)))∧
 (∀ x:Fa,aU true (faC x) 1 2=some (.agg (poC x.pos)))∧
 (∀ x:Fa,aU false (faC x) 3 1=some (.c (sS x.name)))∧
 (∀ x:Fa,aU true (faC x) 0 4=some (.agg (faC x)))∧
 (∀ x:Pa,aU true (paC x) 0 5=some (.agg (nsC x.names)))∧
 (∀ x:Pa,aU true (paC x) 5 10=some (.agg (exC x.cond)))∧
 (∀ x:Pa,aU false (paC x) 15 1=some (.c (sB x.validate)))∧
 (∀ x:Pa,aU true (paC x) 16 4=some (.agg (rgC x.range)))∧
 (∀ x:Pa,aU true (paC x) 20 7=some (.agg (cxC x.context)))∧
 (∀ x:Pa,aU true (paC x) 0 27=some (.agg (paC x)))∧
 (∀ x:Sy,aU false (syC x) 0 1=some (.c (sI x.kind)))∧
 (∀ x:Sy,aU false (syC x) 1 1=some (.c (sS x.name)))∧
 (∀ x:Sy,aU false (syC x) 2 1=some (.c (sB x.req)))∧
 (∀ x:Sy,aU false (syC x) 3 1=some (.c (bA x.perms)))∧
 (∀ x:Sy,aU true (syC x) 4 2=some (.agg (poC x.pos)))∧
 (∀ x:Sy,aU true (syC x) 0 6=some (.agg (syC x)))∧
 (∀ x:Ps,aU false (psC x) 0 1=some (.c (.lst none 4 (x.l.map tkC))))∧
 (∀ x:Ps,aU false (psC x) 1 1=some (.c (sI x.at_)))∧
 (∀ x:Ps,aU false (psC x) 2 1=some (.c (sI x.count)))∧
 (∀ x:Ps,aU false (psC x) 3 1=some (.c (sI x.depth)))∧
 (∀ x:Ps,aU true (psC x) 0 4=some (.agg (psC x)))∧
 (∀ x:Qs,aU false (qsC x) 0 1=some (.c (.lst none 4 (x.l.map tkC))))∧
 (∀ x:Qs,aU false (qsC x) 1 1=some (.c (sI x.at_)))∧
 (∀ x:Qs,aU true (qsC x) 2 4=some (.agg (faC x.bad)))∧
 (∀ x:Qs,aU false (qsC x) 6 1=some (.c (sI x.stmts)))∧
 (∀ x:Qs,aU true (qsC x) 0 7=some (.agg (qsC x)))∧
 (∀ x:Bs,aU false (bsC x) 0 1=some (.c (.lst none 4 (x.l.map tkC))))∧
 (∀ x:Bs,aU false (bsC x) 1 1=some (.c (sI x.at_)))∧
 (∀ x:Bs,aU false (bsC x) 2 1=some (.c (sI x.deep)))∧
 (∀ x:Bs,aU true (bsC x) 0 3=some (.agg (bsC x)))∧
 (∀ x:Sc,aU false (snR x) 0 1=some (.c (sS x.src)))∧
 (∀ x:Sc,aU false (snR x) 1 1=some (.c (sI x.at_)))∧
 (∀ x:Sc,aU true (snR x) 2 2=some (.agg (poC x.pos)))∧
 (∀ x:Sc,aU true (snR x) 0 4=some (.agg (snR x))):=by
 refine⟨?_,?_,?_,?_,?_,?_,?_,?_,?_,?_,?_,?_,?_,?_,?_,?_,?_,?_,?_,?_,?_,?_,?_,?_,?_,?_,?_,?_,?_,?_,?_,?_,?_,?_,?_,?_,?_,?_,?_,?_,?_,?_,?_,?_,?_,?_,?_,?_,?_,?_,?_,?_,?_,?_,?_,?_,?_,?_,?_,?_,?_,?_,?_,?_,?_,?_,?_,?_,?_,?_,?_,?_,?_,?_,?_,?_,?_,?_,?_,?_,?_,?_,?_,?_,?_,?_,?_,?_,?_,?_,?_,?_,?_,?_,?_,?_,?_,?_⟩
 ·intros;kernel_rfl
 ·intros;kernel_rfl
 ·intros;kernel_rfl
 ·intros;kernel_rfl
 ·intros;kernel_rfl
 ·intros;kernel_rfl
 ·intros;kernel_rfl
 ·intros;kernel_rfl
 ·intros;kernel_rfl
 ·intros;kernel_rfl
 ·intros;kernel_rfl
 ·intros;kernel_rfl
 ·intros;kernel_rfl
 ·intros;kernel_rfl
 ·intros;kernel_rfl
 ·intros;kernel_rfl
 ·intros;kernel_rfl
 ·intros;kernel_rfl
 ·intros;kernel_rfl
 ·intros;kernel_rfl
 ·intros;kernel_rfl
 ·intros;kernel_rfl
 ·intros;kernel_rfl
 ·intros;kernel_rfl
 ·intros;kernel_rfl
 ·intros;kernel_rfl
 ·intros;kernel_rfl
 ·intros;kernel_rfl
 ·intros;kernel_rfl
 ·intros;kernel_rfl
 ·intros;kernel_rfl
 ·intros;rw[← lW];kernel_rfl
 ·intros;kernel_rfl
 ·intros;kernel_rfl
 ·intros;kernel_rfl
 ·intros;kernel_rfl
 ·intros;kernel_rfl
 ·intros;kernel_rfl
 ·intros;kernel_rfl
 ·intros;kernel_rfl
 ·intros;kernel_rfl
 ·intros;kernel_rfl
 ·intros;kernel_rfl
 ·intros;kernel_rfl
 ·intros;kernel_rfl
 ·intros;kernel_rfl
 ·intros;kernel_rfl
 ·intros;kernel_rfl
 ·intros;kernel_rfl
 ·intros;kernel_rfl
 ·intros;kernel_rfl
 ·intros;kernel_rfl
 ·intros;kernel_rfl
 ·intros;rw[← vJ];kernel_rfl
 ·intros;rw[← vI];kernel_rfl
 ·intros;kernel_rfl
 ·intros;kernel_rfl
 ·intros;kernel_rfl
 ·intros;kernel_rfl
 ·intros;kernel_rfl
 ·intros;kernel_rfl
 ·intros;kernel_rfl
 ·intros;kernel_rfl
 ·intros;kernel_rfl
 ·intros;kernel_rfl
 ·intros;kernel_rfl
 ·intros;kernel_rfl
 ·intros;kernel_rfl
 ·intros;kernel_rfl
 ·intros;kernel_rfl
 ·intros;kernel_rfl
 ·intros;kernel_rfl
 ·intros;kernel_rfl
 ·intros;kernel_rfl
 ·intros;kernel_rfl
 ·intros;kernel_rfl
 ·intros;kernel_rfl
 ·intros;kernel_rfl
 ·intros;kernel_rfl
 ·intros;kernel_rfl
 ·intros;kernel_rfl
 ·intros;kernel_rfl
 ·intros;kernel_rfl
 ·intros;kernel_rfl
 ·intros;kernel_rfl
 ·intros;kernel_rfl
 ·intros;kernel_rfl
 ·intros;kernel_rfl
 ·intros;kernel_rfl
 ·intros;kernel_rfl
 ·intros;kernel_rfl
 ·intros;kernel_rfl
 ·intros;kernel_rfl
 ·intros;kernel_rfl
 ·intros;kernel_rfl
 ·intros;kernel_rfl
 ·intros;kernel_rfl
 ·intros;kernel_rfl
theorem GZ:(∀ (x:Sp) (y:ByteArray),aZ (spC x) 0 ([sS y])=some (spC {x with frm:=y}))∧
 (∀ (x:Sp) (y:ByteArray),aZ (spC x) 1 ([sS y])=some (spC {x with to:=y}))∧
 (∀ x y:Sp,aZ (spC x) 0 (spC y)=some (spC y))∧
 (∀ (x:NS) (y:Bool),aZ (nsC x) 0 ([sB y])=some (nsC {x with all:=y}))∧
 (∀ (x:NS) (y:Bool),aZ (nsC x) 1 ([sB y])=some (nsC {x with nt:=y}))∧
 (∀ (x:NS) (y:Bool),aZ (nsC x) 2 ([sB y])=some (nsC {x with self:=y}))∧
 (∀ (x:NS) (y:List ByteArray),aZ (nsC x) 3 ([bA y])=some (nsC {x with names:=y}))∧
 (∀ (x:NS) (y:List ByteArray),aZ (nsC x) 4 ([bA y])=some (nsC {x with except:=y}))∧
 (∀ x y:NS,aZ (nsC x) 0 (nsC y)=some (nsC y))∧
 (∀ (x:Lv) (y:ByteArray),aZ (lvC x) 0 ([sS y])=some (lvC {x with sens:=y}))∧
 (∀ (x:Lv) (y:List Sp),aZ (lvC x) 1 ([.lst none 2 (y.map spC)])=some (lvC {x with cats:=y}))∧
 (∀ x y:Lv,aZ (lvC x) 0 (lvC y)=some (lvC y))∧
 (∀ (x:Rg) (y:Lv),aZ (rgC x) 0 (lvC y)=some (rgC {x with lo:=y}))∧
 (∀ (x:Rg) (y:Lv),aZ (rgC x) 2 (lvC y)=some (rgC {x with hi:=y}))∧
 (∀ x y:Rg,aZ (rgC x) 0 (rgC y)=some (rgC y))∧
 (∀ (x:Ct) (y:ByteArray),aZ (cxC x) 0 ([sS y])=some (cxC {x with user:=y}))∧
 (∀ (x:Ct) (y:ByteArray),aZ (cxC x) 1 ([sS y])=some (cxC {x with role:=y}))∧
 (∀ (x:Ct) (y:ByteArray),aZ (cxC x) 2 ([sS y])=some (cxC {x with type:=y}))∧
 (∀ (x:Ct) (y:Rg),aZ (cxC x) 3 (rgC y)=some (cxC {x with rng:=y}))∧
 (∀ x y:Ct,aZ (cxC x) 0 (cxC y)=some (cxC y))∧
 (∀ (x:Se) (y:Int),aZ (seC x) 0 ([sU y])=some (seC {x with a:=y}))∧
 (∀ (x:Se) (y:Int),aZ (seC x) 1 ([sU y])=some (seC {x with b:=y}))∧
 (∀ (x:Se) (y:Int),aZ (seC x) 2 ([sU y])=some (seC {x with c:=y}))∧
 (∀ (x:Se) (y:Int),aZ (seC x) 3 ([sU y])=some (seC {x with d:=y}))∧
 (∀ x y:Se,aZ (seC x) 0 (seC y)=some (seC y))∧
 (∀ (x:Ex) (y:Int),aZ (exC x) 0 ([sI y])=some (exC {x with op:=y}))∧
 (∀ (x:Ex) (y:Int),aZ (exC x) 1 ([sI y])=some (exC {x with a:=y}))∧
 (∀ (x:Ex) (y:Int),aZ (exC x) 2 ([sI y])=some (exC {x with rel:=y}))∧
 (∀ (x:Ex) (y:Int),aZ (exC x) 3 ([sI y])=some (exC {x with b:=y}))∧
 (∀ (x:Ex) (y:List ByteArray),aZ (exC x) 4 ([bA y])=some (exC {x with names:=y}))∧
 (∀ (x:Ex) (y:Se),aZ (exC x) 5 (seC y)=some (exC {x with set:=y}))∧
 (∀ (x:Ex) (y:List Ex),aZ (exC x) 9 ([.lst none 10 (y.map exC)])=some (exC {x with kids:=y}))∧
 (∀ x y:Ex,aZ (exC x) 0 (exC y)=some (exC y))∧
 (∀ (x:Po) (y:Int),aZ (poC x) 0 ([sI y])=some (poC {x with line:=y}))∧
 (∀ (x:Po) (y:Int),aZ (poC x) 1 ([sI y])=some (poC {x with col:=y}))∧
 (∀ x y:Po,aZ (poC x) 0 (poC y)=some (poC y))∧
 (∀ (x:Stm) (y:Int),aZ (stC x) 0 ([sI y])=some (stC {x with kind:=y}))∧
 (∀ (x:Stm) (y:Int),aZ (stC x) 1 ([sI y])=some (stC {x with op:=y}))∧
 (∀ (x:Stm) (y:Po),aZ (stC x) 2 (poC y)=some (stC {x with pos:=y}))∧
 (∀ (x:Stm) (y:ByteArray),aZ (stC x) 4 ([sS y])=some (stC {x with name:=y}))∧
 (∀ (x:Stm) (y:ByteArray),aZ (stC x) 5 ([sS y])=some (stC {x with result:=y}))∧
 (∀ (x:Stm) (y:ByteArray),aZ (stC x) 6 ([sS y])=some (stC {x with text:=y}))∧
 (∀ (x:Stm) (y:List ByteArray),aZ (stC x) 7 ([bA y])=some (stC {x with list:=y}))∧
 (∀ (x:Stm) (y:List ByteArray),aZ (stC x) 8 ([bA y])=some (stC {x with aliases:=y}))∧
 (∀ (x:Stm) (y:NS),aZ (stC x) 9 (nsC y)=some (stC {x with source:=y}))∧
 (∀ (x:Stm) (y:NS),aZ (stC x) 14 (nsC y)=some (stC {x with target:=y}))∧
 (∀ (x:Stm) (y:NS),aZ (stC x) 19 (nsC y)=some (stC {x with cls:=y}))∧
 (∀ (x:Stm) (y:NS),aZ (stC x) 24 (nsC y)=some (stC {x with perms:=y}))∧
 (∀ (x:Stm) (y:Ex),aZ (stC x) 29 (exC y)=some (stC {x with cond:=y}))∧
 (∀ (x:Stm) (y:Lv),aZ (stC x) 39 (lvC y)=some (stC {x with level:=y}))∧
 (∀ (x:Stm) (y:Rg),aZ (stC x) 41 (rgC y)=some (stC {x with range:=y}))∧
 (∀ (x:Stm) (y:Ct),aZ (stC x) 45 (cxC y)=some (stC {x with ctx:=y}))∧
 (∀ (x:Stm) (y:Bool),aZ (stC x) 52 ([sB y])=some (stC {x with value:=y}))∧
 (∀ (x:Stm) (y:List Stm),aZ (stC x) 53 ([.lst none 55 (y.map stC)])=some (stC {x with thn:=y}))∧
 (∀ (x:Stm) (y:List Stm),aZ (stC x) 54 ([.lst none 55 (y.map stC)])=some (stC {x with els:=y}))∧
 (∀ x y:Stm,aZ (stC x) 0 (stC y)=some (stC y))∧
 (∀ (x:Mo) (y:ByteArray),aZ (moC x) 0 ([sS y])=some (moC {x with name:=y}))∧
 (∀ (x:Mo) (y:Int),aZ (moC x) 1 ([sI y])=some (moC {x with version:=y}))∧
 (∀ (x:Mo) (y:List Stm),aZ (moC x) 2 ([.lst none 55 (y.map stC)])=some (moC {x with stmts:=y}))∧
 (∀ x y:Mo,aZ (moC x) 0 (moC y)=some (moC y))∧
 (∀ (x:Tok) (y:Int),aZ (tkC x) 0 ([sI y])=some (tkC {x with kind:=y}))∧
 (∀ (x:Tok) (y:ByteArray),aZ (tkC x) 1 ([sS y])=some (tkC {x with text:=y}))∧
 (∀ (x:Tok) (y:Po),aZ (tkC x) 2 (poC y)=some (tkC {x with pos:=y}))∧
 (∀ x y:Tok,aZ (tkC x) 0 (tkC y)=some (tkC y))∧
 (∀ (x:Fa) (y:Int),aZ (faC x) 0 ([sI y])=some (faC {x with code:=y}))∧
 (∀ (x:Fa) (y:Po),aZ (faC x) 1 (poC y)=some (faC {x with pos:=y}))∧
 (∀ (x:Fa) (y:ByteArray),aZ (faC x) 3 ([sS y])=some (faC {x with name:=y}))∧
 (∀ x y:Fa,aZ (faC x) 0 (faC y)=some (faC y))∧
 (∀ (x:Pa) (y:NS),aZ (paC x) 0 (nsC y)=some (paC {x with names:=y}))∧
 (∀ (x:Pa) (y:Ex),aZ (paC x) 5 (exC y)=some (paC {x with cond:=y}))∧
 (∀ (x:Pa) (y:Bool),aZ (paC x) 15 ([sB y])=some (paC {x with validate:=y}))∧
 (∀ (x:Pa) (y:Rg),aZ (paC x) 16 (rgC y)=some (paC {x with range:=y}))∧
 (∀ (x:Pa) (y:Ct),aZ (paC x) 20 (cxC y)=some (paC {x with context:=y}))∧
 (∀ x y:Pa,aZ (paC x) 0 (paC y)=some (paC y))∧
 (∀ (x:Sy) (y:Int),aZ (syC x) 0 ([sI y])=some (syC {x with kind:=y}))∧
 (∀ (x:Sy) (y:ByteArray),aZ (syC x) 1 ([sS y])=some (syC {x with name:=y}))∧
 (∀ (x:Sy) (y:Bool),aZ (syC x) 2 ([sB y])=some (syC {x with req:=y}))∧
 (∀ (x:Sy) (y:List ByteArray),aZ (syC x) 3 ([bA y])=some (syC {x with perms:=y}))∧
 (∀ (x:Sy) (y:Po),aZ (syC x) 4 (poC y)=some (syC {x with pos:=y}))∧
 (∀ x y:Sy,aZ (syC x) 0 (syC y)=some (syC y))∧
 (∀ (x:Ps) (y:List Tok),aZ (psC x) 0 ([.lst none 4 (y.map tkC)])=some (psC {x with l:=y}))∧
 (∀ (x:Ps) (y:Int),aZ (psC x) 1 ([sI y])=some (psC {x with at_:=y}))∧
 (∀ (x:Ps) (y:Int),aZ (psC x) 2 ([sI y])=some (psC {x with count:=y}))∧
 (∀ (x:Ps) (y:Int),aZ (psC x) 3 ([sI y])=some (psC {x with depth:=y}))∧
 (∀ x y:Ps,aZ (psC x) 0 (psC y)=some (psC y))∧
 (∀ (x:Qs) (y:List Tok),aZ (qsC x) 0 ([.lst none 4 (y.map tkC)])=some (qsC {x with l:=y}))∧
 (∀ (x:Qs) (y:Int),aZ (qsC x) 1 ([sI y])=some (qsC {x with at_:=y}))∧
 (∀ (x:Qs) (y:Fa),aZ (qsC x) 2 (faC y)=some (qsC {x with bad:=y}))∧
 (∀ (x:Qs) (y:Int),aZ (qsC x) 6 ([sI y])=some (qsC {x with stmts:=y}))∧
 (∀ x y:Qs,aZ (qsC x) 0 (qsC y)=some (qsC y))∧
 (∀ (x:Bs) (y:List Tok),aZ (bsC x) 0 ([.lst none 4 (y.map tkC)])=some (bsC {x with l:=y}))∧
 (∀ (x:Bs) (y:Int),aZ (bsC x) 1 ([sI y])=some (bsC {x with at_:=y}))∧
 (∀ (x:Bs) (y:Int),aZ (bsC x) 2 ([sI y])=some (bsC {x with deep:=y}))∧
 (∀ x y:Bs,aZ (bsC x) 0 (bsC y)=some (bsC y))∧
 (∀ (x:Sc) (y:ByteArray),aZ (snR x) 0 ([sS y])=some (snR {x with src:=y}))∧
 (∀ (x:Sc) (y:Int),aZ (snR x) 1 ([sI y])=some (snR {x with at_:=y}))∧
 (∀ (x:Sc) (y:Po),aZ (snR x) 2 (poC y)=some (snR {x with pos:=y}))∧
 (∀ x y:Sc,aZ (snR x) 0 (snR y)=some (snR y)):=by
 refine⟨?_,?_,?_,?_,?_,?_,?_,?_,?_,?_,?_,?_,?_,?_,?_,?_,?_,?_,?_,?_,?_,?_,?_,?_,?_,?_,?_,?_,?_,?_,?_,?_,?_,?_,?_,?_,?_,?_,?_,?_,?_,?_,?_,?_,?_,?_,?_,?_,?_,?_,?_,?_,?_,?_,?_,?_,?_,?_,?_,?_,?_,?_,?_,?_,?_,?_,?_,?_,?_,?_,?_,?_,?_,?_,?_,?_,?_,?_,?_,?_,?_,?_,?_,?_,?_,?_,?_,?_,?_,?_,?_,?_,?_,?_,?_,?_,?_,?_⟩
 ·intros;kernel_rfl
 ·intros;kernel_rfl
 ·intros;kernel_rfl
 ·intros;kernel_rfl
 ·intros;kernel_rfl
 ·intros;kernel_rfl
 ·intros;kernel_rfl
 ·intros;kernel_rfl
 ·intros;kernel_rfl
 ·intros;kernel_rfl
 ·intros;kernel_rfl
 ·intros;kernel_rfl
 ·intros;kernel_rfl
 ·intros;kernel_rfl
 ·intros;kernel_rfl
 ·intros;kernel_rfl
 ·intros;kernel_rfl
 ·intros;kernel_rfl
 ·intros;kernel_rfl
 ·intros;kernel_rfl
 ·intros;kernel_rfl
 ·intros;kernel_rfl
 ·intros;kernel_rfl
 ·intros;kernel_rfl
 ·intros;kernel_rfl
 ·intro x y;cases x;kernel_rfl
 ·intro x y;cases x;kernel_rfl
 ·intro x y;cases x;kernel_rfl
 ·intro x y;cases x;kernel_rfl
 ·intro x y;cases x;kernel_rfl
 ·intro x y;cases x;kernel_rfl
 ·intro x y;cases x;rw[← k9];kernel_rfl
 ·intros;kernel_rfl
 ·intros;kernel_rfl
 ·intros;kernel_rfl
 ·intros;kernel_rfl
 ·intro x y;cases x;kernel_rfl
 ·intro x y;cases x;kernel_rfl
 ·intro x y;cases x;kernel_rfl
 ·intro x y;cases x;kernel_rfl
 ·intro x y;cases x;kernel_rfl
 ·intro x y;cases x;kernel_rfl
 ·intro x y;cases x;kernel_rfl
 ·intro x y;cases x;kernel_rfl
 ·intro x y;cases x;kernel_rfl
 ·intro x y;cases x;kernel_rfl
 ·intro x y;cases x;kernel_rfl
 ·intro x y;cases x;kernel_rfl
 ·intro x y;cases x;kernel_rfl
 ·intro x y;cases x;kernel_rfl
 ·intro x y;cases x;kernel_rfl
 ·intro x y;cases x;kernel_rfl
 ·intro x y;cases x;kernel_rfl
 ·intro x y;cases x;rw[← iu];kernel_rfl
 ·intro x y;cases x;rw[← iu];kernel_rfl
 ·intros;kernel_rfl
 ·intros;kernel_rfl
 ·intros;kernel_rfl
 ·intros;kernel_rfl
 ·intros;kernel_rfl
 ·intros;kernel_rfl
 ·intros;kernel_rfl
 ·intros;kernel_rfl
 ·intros;kernel_rfl
 ·intros;kernel_rfl
 ·intros;kernel_rfl
 ·intros;kernel_rfl
 ·intros;kernel_rfl
 ·intros;kernel_rfl
 ·intros;kernel_rfl
 ·intros;kernel_rfl
 ·intros;kernel_rfl
 ·intros;kernel_rfl
 ·intros;kernel_rfl
 ·intros;kernel_rfl
 ·intros;kernel_rfl
 ·intros;kernel_rfl
 ·intros;kernel_rfl
 ·intros;kernel_rfl
 ·intros;kernel_rfl
 ·intros;kernel_rfl
 ·intros;kernel_rfl
 ·intros;kernel_rfl
 ·intros;kernel_rfl
 ·intros;kernel_rfl
 ·intros;kernel_rfl
 ·intros;kernel_rfl
 ·intros;kernel_rfl
 ·intros;kernel_rfl
 ·intros;kernel_rfl
 ·intros;kernel_rfl
 ·intros;kernel_rfl
 ·intros;kernel_rfl
 ·intros;kernel_rfl
 ·intros;kernel_rfl
 ·intros;kernel_rfl
 ·intros;kernel_rfl
 ·intros;kernel_rfl
theorem dA (d:Nat→Bool) (l:List ByteArray):C.ok d (bA l)=true:=by
 show(true&&bB d _)=true
 rw[Bool.true_and]
 induction l with
 |nil=>rfl
 |cons x l ih=>rw[List.map_cons,bB,ih];rfl
theorem dE (l:List ByteArray):C.un (bA l)=bA l:=by
 rw[C.un,fC,List.map_map]
 rfl
theorem bW {α:Type} {f:α→List C} {d:Nat→Bool}:∀ l:List α,(∀ x∈l,okL d (f x)=true)→bB d (l.map f)=true
 |[],_=>rfl
 |x :: l,h=>by rw[List.map_cons,bB,h x (.head _),bW l fun y hy=>h y (.tail _ hy)];rfl
theorem bT {α:Type} {f:α→List C}:∀ l:List α,(∀ x∈l,unL (f x)=f x)→bV (l.map f)=l.map f
 |[],_=>rfl
 |x :: l,h=>by rw[List.map_cons,bV,h x (.head _),bT l fun y hy=>h y (.tail _ hy)]
theorem dz (d:Nat→Bool):∀ a b:List C,okL d (a++b)=(okL d a&&okL d b)
 |[],b=>by rw[List.nil_append,okL,Bool.true_and]
 |x :: a,b=>by rw[List.cons_append,okL,okL,dz d a b,Bool.and_assoc]
theorem dC:∀ a b:List C,unL (a++b)=unL a++unL b
 |[],b=>rfl
 |x :: a,b=>by rw[List.cons_append,unL,unL,dC a b];rfl
theorem dP (d:Nat→Bool) (k:Nat) (xs:List (List C)):C.ok d (.lst none k xs)=bB d xs:=by rw[C.ok];simp
theorem dU (k:Nat) (xs:List (List C)):C.un (.lst none k xs)= .lst none k (bV xs):=by rw[C.un]
theorem fI (d:Nat→Bool) (v:Value):C.ok d (.sc v)=true:=rfl
theorem fJ (v:Value):C.un (.sc v)= .sc v:=rfl
theorem ok_one (d:Nat→Bool) (l:List ByteArray):bB d (l.map oneS)=true:=bW l fun x _=>rfl
theorem dD (l:List ByteArray):bV (l.map oneS)=l.map oneS:=bT l fun x _=>rfl
theorem dc (d:Nat→Bool) (x:Sp):okL d (spC x)=true:=by simp[spC,ok_one,dz,dA,dP,fI,okL,bB]
theorem da (x:Sp):unL (spC x)=spC x:=by simp[spC,dD,dC,dE,dU,fJ,unL,bV]
theorem dQ (d:Nat→Bool) (x:NS):okL d (nsC x)=true:=by simp[nsC,ok_one,dz,dA,dP,fI,okL,bB,dc]
theorem dV (x:NS):unL (nsC x)=nsC x:=by simp[nsC,dD,dC,dE,dU,fJ,unL,bV,da]
theorem ew (d:Nat→Bool) (x:Lv):okL d (lvC x)=true:=by simp[lvC,ok_one,dz,dA,dP,fI,okL,bB,dc,dQ,bW x.cats fun y _=>dc d y]
theorem eA (x:Lv):unL (lvC x)=lvC x:=by simp[lvC,dD,dC,dE,dU,fJ,unL,bV,da,dV,bT x.cats fun y _=>da y]
theorem eJ (d:Nat→Bool) (x:Rg):okL d (rgC x)=true:=by simp[rgC,ok_one,dz,dA,dP,fI,okL,bB,dc,dQ,ew]
theorem eL (x:Rg):unL (rgC x)=rgC x:=by simp[rgC,dD,dC,dE,dU,fJ,unL,bV,da,dV,eA]
theorem eV (d:Nat→Bool) (x:Ct):okL d (cxC x)=true:=by simp[cxC,ok_one,dz,dA,dP,fI,okL,bB,dc,dQ,ew,eJ]
theorem fa (x:Ct):unL (cxC x)=cxC x:=by simp[cxC,dD,dC,dE,dU,fJ,unL,bV,da,dV,eA,eL]
theorem fo (d:Nat→Bool) (x:Se):okL d (seC x)=true:=by simp[seC,ok_one,dz,dA,dP,fI,okL,bB,dc,dQ,ew,eJ,eV]
theorem fv (x:Se):unL (seC x)=seC x:=by simp[seC,dD,dC,dE,dU,fJ,unL,bV,da,dV,eA,eL,fa]
mutual
theorem nH (d:Nat→Bool):∀ x:Ex,bB d (fL x)=true
 |⟨_,_,_,_,_,_,kids⟩=>by rw[fL];exact z7 d kids
theorem z7 (d:Nat→Bool):∀ l:List Ex,bB d (mO l)=true
 |[]=>by rw[mO,bB]
 |x :: l=>by rw[mO,bB,z7 d l];simp[ok_one,dz,dA,dP,fI,okL,bB,dc,dQ,ew,eJ,eV,fo,nH d x]
end
theorem fR (d:Nat→Bool) (x:Ex):okL d (exC x)=true:=by simp[exC,ok_one,dz,dA,dP,fI,okL,bB,dc,dQ,ew,eJ,eV,fo,nH d x]
mutual
theorem nR:∀ x:Ex,bV (fL x)=fL x
 |⟨_,_,_,_,_,_,kids⟩=>by rw[fL];exact zv kids
theorem zv:∀ l:List Ex,bV (mO l)=mO l
 |[]=>by rw[mO,bV]
 |x :: l=>by rw[mO,bV,zv l];simp[dD,dC,dE,dU,fJ,unL,bV,da,dV,eA,eL,fa,fv,nR x]
end
theorem fV (x:Ex):unL (exC x)=exC x:=by simp[exC,dD,dC,dE,dU,fJ,unL,bV,da,dV,eA,eL,fa,fv,nR x]
theorem gj (d:Nat→Bool) (x:Po):okL d (poC x)=true:=by simp[poC,ok_one,dz,dA,dP,fI,okL,bB,dc,dQ,ew,eJ,eV,fo,fR]
theorem gm (x:Po):unL (poC x)=poC x:=by simp[poC,dD,dC,dE,dU,fJ,unL,bV,da,dV,eA,eL,fa,fv,fV]
mutual
theorem pG (d:Nat→Bool):∀ x:Stm,bB d (gP x)=true
 |⟨_,_,_,_,_,_,_,_,_,_,_,_,_,_,_,_,_,thn,_⟩=>by rw[gP];exact sW d thn
theorem pF (d:Nat→Bool):∀ x:Stm,bB d (gO x)=true
 |⟨_,_,_,_,_,_,_,_,_,_,_,_,_,_,_,_,_,_,els⟩=>by rw[gO];exact sW d els
theorem sW (d:Nat→Bool):∀ l:List Stm,bB d (lG l)=true
 |[]=>by rw[lG,bB]
 |x :: l=>by rw[lG,bB,sW d l];simp[ok_one,dz,dA,dP,fI,okL,bB,dc,dQ,ew,eJ,eV,fo,fR,gj,pG d x,pF d x]
end
theorem fS (d:Nat→Bool) (x:Stm):okL d (stC x)=true:=by simp[stC,ok_one,dz,dA,dP,fI,okL,bB,dc,dQ,ew,eJ,eV,fo,fR,gj,pG d x,pF d x]
mutual
theorem qq:∀ x:Stm,bV (gP x)=gP x
 |⟨_,_,_,_,_,_,_,_,_,_,_,_,_,_,_,_,_,thn,_⟩=>by rw[gP];exact tJ thn
theorem qp:∀ x:Stm,bV (gO x)=gO x
 |⟨_,_,_,_,_,_,_,_,_,_,_,_,_,_,_,_,_,_,els⟩=>by rw[gO];exact tJ els
theorem tJ:∀ l:List Stm,bV (lG l)=lG l
 |[]=>by rw[lG,bV]
 |x :: l=>by rw[lG,bV,tJ l];simp[dD,dC,dE,dU,fJ,unL,bV,da,dV,eA,eL,fa,fv,fV,gm,qq x,qp x]
end
theorem fW (x:Stm):unL (stC x)=stC x:=by simp[stC,dD,dC,dE,dU,fJ,unL,bV,da,dV,eA,eL,fa,fv,fV,gm,qq x,qp x]
theorem iQ (d:Nat→Bool) (x:Mo):okL d (moC x)=true:=by simp[moC,ok_one,dz,dA,dP,fI,okL,bB,dc,dQ,ew,eJ,eV,fo,fR,gj,fS,bW x.stmts fun y _=>fS d y]
theorem iV (x:Mo):unL (moC x)=moC x:=by simp[moC,dD,dC,dE,dU,fJ,unL,bV,da,dV,eA,eL,fa,fv,fV,gm,fW,bT x.stmts fun y _=>fW y]
theorem gk (d:Nat→Bool) (x:Tok):okL d (tkC x)=true:=by simp[tkC,ok_one,dz,dA,dP,fI,okL,bB,dc,dQ,ew,eJ,eV,fo,fR,gj,fS,iQ]
theorem gn (x:Tok):unL (tkC x)=tkC x:=by simp[tkC,dD,dC,dE,dU,fJ,unL,bV,da,dV,eA,eL,fa,fv,fV,gm,fW,iV]
theorem kh (d:Nat→Bool) (x:Fa):okL d (faC x)=true:=by simp[faC,ok_one,dz,dA,dP,fI,okL,bB,dc,dQ,ew,eJ,eV,fo,fR,gj,fS,iQ,gk]
theorem kr (x:Fa):unL (faC x)=faC x:=by simp[faC,dD,dC,dE,dU,fJ,unL,bV,da,dV,eA,eL,fa,fv,fV,gm,fW,iV,gn]
theorem lr (d:Nat→Bool) (x:Pa):okL d (paC x)=true:=by simp[paC,ok_one,dz,dA,dP,fI,okL,bB,dc,dQ,ew,eJ,eV,fo,fR,gj,fS,iQ,gk,kh]
theorem lI (x:Pa):unL (paC x)=paC x:=by simp[paC,dD,dC,dE,dU,fJ,unL,bV,da,dV,eA,eL,fa,fv,fV,gm,fW,iV,gn,kr]
theorem n7 (d:Nat→Bool) (x:Sy):okL d (syC x)=true:=by simp[syC,ok_one,dz,dA,dP,fI,okL,bB,dc,dQ,ew,eJ,eV,fo,fR,gj,fS,iQ,gk,kh,lr]
theorem nq (x:Sy):unL (syC x)=syC x:=by simp[syC,dD,dC,dE,dU,fJ,unL,bV,da,dV,eA,eL,fa,fv,fV,gm,fW,iV,gn,kr,lI]
theorem pE (d:Nat→Bool) (x:Ps):okL d (psC x)=true:=by simp[psC,ok_one,dz,dA,dP,fI,okL,bB,dc,dQ,ew,eJ,eV,fo,fR,gj,fS,iQ,gk,kh,lr,n7,bW x.l fun y _=>gk d y]
theorem qo (x:Ps):unL (psC x)=psC x:=by simp[psC,dD,dC,dE,dU,fJ,unL,bV,da,dV,eA,eL,fa,fv,fV,gm,fW,iV,gn,kr,lI,nq,bT x.l fun y _=>gn y]
theorem sV (d:Nat→Bool) (x:Qs):okL d (qsC x)=true:=by simp[qsC,ok_one,dz,dA,dP,fI,okL,bB,dc,dQ,ew,eJ,eV,fo,fR,gj,fS,iQ,gk,kh,lr,n7,pE,bW x.l fun y _=>gk d y]
theorem tI (x:Qs):unL (qsC x)=qsC x:=by simp[qsC,dD,dC,dE,dU,fJ,unL,bV,da,dV,eA,eL,fa,fv,fV,gm,fW,iV,gn,kr,lI,nq,qo,bT x.l fun y _=>gn y]
theorem xn (d:Nat→Bool) (x:Bs):okL d (bsC x)=true:=by simp[bsC,ok_one,dz,dA,dP,fI,okL,bB,dc,dQ,ew,eJ,eV,fo,fR,gj,fS,iQ,gk,kh,lr,n7,pE,sV,bW x.l fun y _=>gk d y]
theorem ya (x:Bs):unL (bsC x)=bsC x:=by simp[bsC,dD,dC,dE,dU,fJ,unL,bV,da,dV,eA,eL,fa,fv,fV,gm,fW,iV,gn,kr,lI,nq,qo,tI,bT x.l fun y _=>gn y]
theorem D6 (d:Nat→Bool) (x:Sc):okL d (snR x)=true:=by simp[snR,ok_one,dz,dA,dP,fI,okL,bB,dc,dQ,ew,eJ,eV,fo,fR,gj,fS,iQ,gk,kh,lr,n7,pE,sV,xn]
theorem EF (x:Sc):unL (snR x)=snR x:=by simp[snR,dD,dC,dE,dU,fJ,unL,bV,da,dV,eA,eL,fa,fv,fV,gm,fW,iV,gn,kr,lI,nq,qo,tI,ya]
theorem okA:(∀ d l,C.ok d (bA l)=true)∧
 (∀ d (l:List ByteArray),bB d (l.map oneS)=true)∧
 (∀ d x,okL d (spC x)=true)∧
 (∀ d x,okL d (nsC x)=true)∧
 (∀ d x,okL d (lvC x)=true)∧
 (∀ d x,okL d (rgC x)=true)∧
 (∀ d x,okL d (cxC x)=true)∧
 (∀ d x,okL d (seC x)=true)∧
 (∀ d x,okL d (exC x)=true)∧
 (∀ d x,okL d (poC x)=true)∧
 (∀ d x,okL d (stC x)=true)∧
 (∀ d x,okL d (moC x)=true)∧
 (∀ d x,okL d (tkC x)=true)∧
 (∀ d x,okL d (faC x)=true)∧
 (∀ d x,okL d (paC x)=true)∧
 (∀ d x,okL d (syC x)=true)∧
 (∀ d x,okL d (psC x)=true)∧
 (∀ d x,okL d (qsC x)=true)∧
 (∀ d x,okL d (bsC x)=true)∧
 (∀ d x,okL d (snR x)=true)∧
 (∀ d (l:List Sp),bB d (l.map spC)=true)∧
 (∀ d (l:List NS),bB d (l.map nsC)=true)∧
 (∀ d (l:List Lv),bB d (l.map lvC)=true)∧
 (∀ d (l:List Rg),bB d (l.map rgC)=true)∧
 (∀ d (l:List Ct),bB d (l.map cxC)=true)∧
 (∀ d (l:List Se),bB d (l.map seC)=true)∧
 (∀ d (l:List Ex),bB d (l.map exC)=true)∧
 (∀ d (l:List Po),bB d (l.map poC)=true)∧
 (∀ d (l:List Stm),bB d (l.map stC)=true)∧
 (∀ d (l:List Mo),bB d (l.map moC)=true)∧
 (∀ d (l:List Tok),bB d (l.map tkC)=true)∧
 (∀ d (l:List Fa),bB d (l.map faC)=true)∧
 (∀ d (l:List Pa),bB d (l.map paC)=true)∧
 (∀ d (l:List Sy),bB d (l.map syC)=true)∧
 (∀ d (l:List Ps),bB d (l.map psC)=true)∧
 (∀ d (l:List Qs),bB d (l.map qsC)=true)∧
 (∀ d (l:List Bs),bB d (l.map bsC)=true)∧
 (∀ d (l:List Sc),bB d (l.map snR)=true):=
 ⟨dA,ok_one,dc,dQ,ew,eJ,eV,fo,fR,gj,fS,iQ,gk,kh,lr,n7,pE,sV,xn,D6,fun d l=>bW l fun x _=>dc d x,fun d l=>bW l fun x _=>dQ d x,fun d l=>bW l fun x _=>ew d x,fun d l=>bW l fun x _=>eJ d x,fun d l=>bW l fun x _=>eV d x,fun d l=>bW l fun x _=>fo d x,fun d l=>bW l fun x _=>fR d x,fun d l=>bW l fun x _=>gj d x,fun d l=>bW l fun x _=>fS d x,fun d l=>bW l fun x _=>iQ d x,fun d l=>bW l fun x _=>gk d x,fun d l=>bW l fun x _=>kh d x,fun d l=>bW l fun x _=>lr d x,fun d l=>bW l fun x _=>n7 d x,fun d l=>bW l fun x _=>pE d x,fun d l=>bW l fun x _=>sV d x,fun d l=>bW l fun x _=>xn d x,fun d l=>bW l fun x _=>D6 d x⟩
theorem unA:(∀ l,C.un (bA l)=bA l)∧
 (∀ l:List ByteArray,bV (l.map oneS)=l.map oneS)∧
 (∀ x,unL (spC x)=spC x)∧
 (∀ x,unL (nsC x)=nsC x)∧
 (∀ x,unL (lvC x)=lvC x)∧
 (∀ x,unL (rgC x)=rgC x)∧
 (∀ x,unL (cxC x)=cxC x)∧
 (∀ x,unL (seC x)=seC x)∧
 (∀ x,unL (exC x)=exC x)∧
 (∀ x,unL (poC x)=poC x)∧
 (∀ x,unL (stC x)=stC x)∧
 (∀ x,unL (moC x)=moC x)∧
 (∀ x,unL (tkC x)=tkC x)∧
 (∀ x,unL (faC x)=faC x)∧
 (∀ x,unL (paC x)=paC x)∧
 (∀ x,unL (syC x)=syC x)∧
 (∀ x,unL (psC x)=psC x)∧
 (∀ x,unL (qsC x)=qsC x)∧
 (∀ x,unL (bsC x)=bsC x)∧
 (∀ x,unL (snR x)=snR x)∧
 (∀ l:List Sp,bV (l.map spC)=l.map spC)∧
 (∀ l:List NS,bV (l.map nsC)=l.map nsC)∧
 (∀ l:List Lv,bV (l.map lvC)=l.map lvC)∧
 (∀ l:List Rg,bV (l.map rgC)=l.map rgC)∧
 (∀ l:List Ct,bV (l.map cxC)=l.map cxC)∧
 (∀ l:List Se,bV (l.map seC)=l.map seC)∧
 (∀ l:List Ex,bV (l.map exC)=l.map exC)∧
 (∀ l:List Po,bV (l.map poC)=l.map poC)∧
 (∀ l:List Stm,bV (l.map stC)=l.map stC)∧
 (∀ l:List Mo,bV (l.map moC)=l.map moC)∧
 (∀ l:List Tok,bV (l.map tkC)=l.map tkC)∧
 (∀ l:List Fa,bV (l.map faC)=l.map faC)∧
 (∀ l:List Pa,bV (l.map paC)=l.map paC)∧
 (∀ l:List Sy,bV (l.map syC)=l.map syC)∧
 (∀ l:List Ps,bV (l.map psC)=l.map psC)∧
 (∀ l:List Qs,bV (l.map qsC)=l.map qsC)∧
 (∀ l:List Bs,bV (l.map bsC)=l.map bsC)∧
 (∀ l:List Sc,bV (l.map snR)=l.map snR):=
 ⟨dE,dD,da,dV,eA,eL,fa,fv,fV,gm,fW,iV,gn,kr,lI,nq,qo,tI,ya,EF,fun l=>bT l fun x _=>da x,fun l=>bT l fun x _=>dV x,fun l=>bT l fun x _=>eA x,fun l=>bT l fun x _=>eL x,fun l=>bT l fun x _=>fa x,fun l=>bT l fun x _=>fv x,fun l=>bT l fun x _=>fV x,fun l=>bT l fun x _=>gm x,fun l=>bT l fun x _=>fW x,fun l=>bT l fun x _=>iV x,fun l=>bT l fun x _=>gn x,fun l=>bT l fun x _=>kr x,fun l=>bT l fun x _=>lI x,fun l=>bT l fun x _=>nq x,fun l=>bT l fun x _=>qo x,fun l=>bT l fun x _=>tI x,fun l=>bT l fun x _=>ya x,fun l=>bT l fun x _=>EF x⟩
theorem kO:(∀ x,(spC x).length=2)∧(∀ x,(nsC x).length=5)∧(∀ x,(lvC x).length=2)∧(∀ x,(rgC x).length=4)∧(∀ x,(cxC x).length=7)∧(∀ x,(seC x).length=4)∧(∀ x,(exC x).length=10)∧(∀ x,(poC x).length=2)∧(∀ x,(stC x).length=55)∧(∀ x,(moC x).length=3)∧(∀ x,(tkC x).length=4)∧(∀ x,(faC x).length=4)∧(∀ x,(paC x).length=27)∧(∀ x,(syC x).length=6)∧(∀ x,(psC x).length=4)∧(∀ x,(qsC x).length=7)∧(∀ x,(bsC x).length=3)∧(∀ x,(snR x).length=4):=
 ⟨zm,Gx,Gc,GN,FA,GX,yG,GH,oy,Gd,Hc,FJ,GA,H9,GI,GJ,Fp,H4⟩
end Am
end Go.Proofs.YtkpodagbefnebaaGreatDoor
