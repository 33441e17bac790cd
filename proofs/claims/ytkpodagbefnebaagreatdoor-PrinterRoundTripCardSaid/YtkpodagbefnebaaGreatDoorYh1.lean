import Derived.Below
import Derived.Laws.OwnMore
import Derived.Laws.Rows
import Derived.Deep.Draws
import Derived.Orders
import Derived.Tactics
import Derived.Laws.Panics
import Derived.Maps.AppendAt
set_option linter.unusedSimpArgs false
set_option linter.unusedVariables false
set_option linter.unusedSectionVars false
namespace Go.Proofs.YtkpodagbefnebaaGreatDoor
open Go.RowKit
def Blk (w:World) (g:Nat) (t:TypeId) (cs:Array Value):Prop:=w.heap[g]? =some (.cells cs t (0,0))
structure But (b:Nat) (w w':World):Prop where
 os:w'.os=w.os
 tape:w'.tape=w.tape
 output:w'.output=w.output
 size:w.heap.size≤w'.heap.size
 block:∀ k,k<w.heap.size→k≠b→w'.heap[k]? =w.heap[k]?
section
variable {w w' w2:World} {g b:Nat} {t:TypeId} {cs:Array Value}
theorem Blk.lt (h:Blk w g t cs):g<w.heap.size:=by
 rcases Nat.lt_or_ge g w.heap.size with hlt|hge
 ·exact hlt
 ·unfold Blk at h;rw[Array.getElem?_eq_none hge] at h;cases h
theorem Blk.cell (h:Blk w g t cs) (i:Nat):w.cell? ⟨g,i,none⟩=cs[i]?:=by
 unfold Blk at h;simp[World.cell?,h]
theorem Blk.free (h:Blk w g t cs) (i:Nat):w.frozen? ⟨g,i,none⟩=false:=by
 unfold Blk at h;simp[World.frozen?,h]
theorem Blk.fresh (w:World) (t:TypeId) (cs:Array Value):Blk (w.alloc (.cells cs t)) w.heap.size t cs:=by
 unfold Blk World.alloc;simp
theorem Blk.drew (h:Blk w g t cs):Blk w.drew g t cs:=h
theorem Blk.of (h:Blk w g t cs) (he:w'.heap[g]? =w.heap[g]?):Blk w' g t cs:=he.trans h
theorem Blk.alloc (h:Blk w g t cs) (o:Obj):Blk (w.alloc o) g t cs:=h.of (Below.heap_alloc w o g h.lt)
theorem Blk.set (h:Blk w g t cs) (i:Nat) (u:Value):Blk (w.setCell ⟨g,i,none⟩ u) g t (cs.setIfInBounds i u):=by
 unfold Blk at h ⊢;simp[World.setCell,Array.getElem?_modify,h]
theorem Blk.below {B:Nat} (h:Blk w g t cs) (hb:Below B w w') (hg:g<B):Blk w' g t cs:=h.of (hb.block g hg)
theorem Blk.grown {row:Option Nat} (h:Blk w g t cs) (hb:w.grownBy w' row) (hg:some g≠row):Blk w' g t cs:=h.of (hb.block g h.lt hg)
theorem But.refl (b:Nat) (w:World):But b w w:=⟨rfl,rfl,rfl,Nat.le_refl _,fun _ _ _=>rfl⟩
theorem But.trans (h:But b w w') (k:But b w' w2):But b w w2:=
 ⟨k.os.trans h.os,k.tape.trans h.tape,k.output.trans h.output,Nat.le_trans h.size k.size,fun i hi hn=>(k.block i (Nat.lt_of_lt_of_le hi h.size) hn).trans (h.block i hi hn)⟩
theorem But.of_below (h:Below w.heap.size w w'):But b w w':=⟨h.os,h.tape,h.output,h.size,fun k hk _=>h.block k hk⟩
theorem But.below {B:Nat} (h:But b w w') (hb:B≤b) (hB:B≤w.heap.size):Below B w w':=⟨h.os,h.tape,h.output,h.size,fun k hk=>h.block k (by omega) (by omega)⟩
theorem But.then_ (h:But b w w') (k:Below w'.heap.size w' w2):But b w w2:=h.trans (But.of_below k)
theorem But.drew (h:But b w w'):But b w w'.drew:=⟨h.os,h.tape,h.output,h.size,h.block⟩
theorem But.alloc (h:But b w w') (o:Obj):But b w (w'.alloc o):=h.then_ ((Below.refl _ _).alloc (Nat.le_refl _) o)
theorem But.set (h:But b w w') {p:Addr} (hp:p.block=b∨w.heap.size≤p.block) (u:Value):But b w (w'.setCell p u):=
 ⟨h.os,h.tape,h.output,by simpa [World.setCell] using h.size,fun i hi hn=>(Below.heap_setCell w' p u i (by rcases hp with hp|hp <;> omega)).trans (h.block i hi hn)⟩
theorem But.cell (h:But b w w') {p:Addr} (hp:p.block<w.heap.size) (hn:p.block≠b):w'.cell? p=w.cell? p:=World.cell?_of_block (w:=w) (h.block p.block hp hn)
theorem But.free (h:But b w w') {p:Addr} (hp:p.block<w.heap.size) (hn:p.block≠b):w'.frozen? p=w.frozen? p:=World.frozen?_of_block (w:=w) (h.block p.block hp hn)
end
end Go.Proofs.YtkpodagbefnebaaGreatDoor
namespace Go.Proofs.YtkpodagbefnebaaGreatDoor
open Go.RowKit
def isW (o:Oper):Bool:=
 match o.op with
 | .store ..| .alloc _| .box ..| .buildSlice ..| .insert ..| .makeMap ..| .makeChan ..| .makeSlice ..| .mapUpdate ..| .mapEntry ..
 | .entryStore ..| .panic _| .send ..| .recv ..| .select ..| .go _| .defer _| .ready _| .waits _| .range ..| .next ..| .entry _=>true
 | .call c=>match c.callee with
   | .builtin .len=>false
   | .builtin .cap=>false
   |_=>true
 |_=>false
section
variable {P:Program}
end
section
variable {P:Program} {ops:Array Oper} {Kp:World→World→Prop} {N:Act→World→Prop} {O:Prop}
def CO (T:List Nat) (o:Oper):Nat:=o.after.toList.foldl (fun s e=>if Region.binds .any e=true then s ||| 2 ^ e.on ||| T.getD e.on 0 else s) 0
def DV:List Oper→List Nat→List Nat
 |[],T=>T
 |o :: l,T=>DV l (T++[CO T o])
def fh (ops:Array Oper):List Nat:=DV ops.toList []
theorem v7 (T:List Nat) (j:Nat):∀ (l:List Edge) (s:Nat),(l.foldl (fun s e=>if Region.binds .any e=true then s ||| 2 ^ e.on ||| T.getD e.on 0 else s) s).testBit j=true→
 s.testBit j=true∨∃ e∈l,Region.binds .any e=true∧(e.on=j∨(T.getD e.on 0).testBit j=true)
 |[],s,h=>.inl h
 |e :: l,s,h=>by
  simp only[List.foldl_cons] at h
  rcases v7 T j l _ h with h1|⟨e',he',h2⟩
  ·split at h1
   ·rename_i hb
    rw[Nat.testBit_or,Nat.testBit_or,Nat.testBit_two_pow] at h1
    simp only[Bool.or_eq_true,decide_eq_true_eq] at h1
    rcases h1 with(h1|h1)|h1
    ·exact .inl h1
    ·exact .inr ⟨e,by simp,hb,.inl h1⟩
    ·exact .inr ⟨e,by simp,hb,.inr h1⟩
   ·exact .inl h1
  ·exact .inr ⟨e',by simp[he'],h2⟩
def lU (ops:Array Oper):Bool:=
 (List.range ops.size).all fun i=>match ops[i]? with
  |some o=>o.after.all fun e=>decide (e.on<ops.size)&&e.on != i
  |none=>true
theorem jt (h:lU ops=true) {j:Nat} {oj:Oper} (hj:ops[j]? =some oj):∀ e∈oj.after,e.on<ops.size∧e.on≠j:=by
 intro e he
 have hlt:j<ops.size:=(Array.getElem?_eq_some_iff.1 hj).1
 have h1:=List.all_eq_true.1 h j (List.mem_range.2 hlt)
 simp only[hj] at h1
 have h2:=Array.all_eq_true_iff_forall_mem.1 h1 e he
 simpa using h2
theorem qi {listed:Array Bool} (closed:∀ j oj,ops[j]? =some oj→listed.getD j false=true→∀ e∈oj.after,Region.binds .any e=true→listed.getD e.on false=true) :
 ∀ (l:List Oper) (T:List Nat),(∀ k,l[k]? =ops[T.length+k]?)→
   (∀ x y ox,ops[x]? =some ox→(∀ e∈ox.after,Region.binds .any e=true→listed.getD e.on false=true)→(T.getD x 0).testBit y=true→listed.getD y false=true)→
   ∀ x y ox,ops[x]? =some ox→(∀ e∈ox.after,Region.binds .any e=true→listed.getD e.on false=true)→((DV l T).getD x 0).testBit y=true→listed.getD y false=true
 |[],T,_,hT=>hT
 |o :: l,T,hl,hT=>by
  have h0:ops[T.length]? =some o:=by simpa using (hl 0).symm
  refine qi closed l (T++[CO T o]) (fun k=>by have:=hl (k+1);simpa [Nat.add_assoc,Nat.add_comm 1 k] using this) (fun x y ox hx hall h=>?_)
  rcases Nat.lt_trichotomy x T.length with hlt|heq|hgt
  ·rw[List.getD_eq_getElem?_getD,List.getElem?_append_left hlt,←List.getD_eq_getElem?_getD] at h
   exact hT x y ox hx hall h
  ·subst heq
   have:ox=o:=Option.some.inj (hx.symm.trans h0)
   subst this
   rw[List.getD_eq_getElem?_getD,List.getElem?_append_right (Nat.le_refl _)] at h
   simp only[Nat.sub_self,List.getElem?_cons_zero,Option.getD_some] at h
   rcases v7 T y _ 0 h with h1|⟨e,he,hb,h1⟩
   ·simp at h1
   ·have he':e∈ox.after:=by simpa using he
    have hon:=hall e he' hb
    rcases h1 with h1|h1
    ·rw[← h1];exact hon
    ·cases hoe:ops[e.on]? with
     |none=>
      exfalso
      have hsz:ops.size≤e.on:=by
       rcases Nat.lt_or_ge e.on ops.size with hh|hh
       ·rw[Array.getElem?_eq_getElem hh] at hoe;cases hoe
       ·exact hh
      have hTl:T.length<ops.size:=(Array.getElem?_eq_some_iff.1 h0).1
      rw[List.getD_eq_getElem?_getD,List.getElem?_eq_none (by omega)] at h1
      simp at h1
     |some oe=>exact hT e.on y oe hoe (fun e' he' hb'=>closed e.on oe hoe hon e' he' hb') h1
  ·rw[List.getD_eq_getElem?_getD,List.getElem?_eq_none (by simp;omega)] at h
   simp at h
end
section
variable {P:Program} {Q:Exit→Act→World→Prop} {a:Act} {w:World}
variable {ops:Array Oper} {Kp:World→World→Prop} {N:Act→World→Prop} {O:Prop} {rest:List (Nat×Oper)} {o:Oper}
variable {l:List Oper}
variable {ts:List Nat}
end
end Go.Proofs.YtkpodagbefnebaaGreatDoor
namespace Go.Proofs.YtkpodagbefnebaaGreatDoor
namespace Am
open Go.RowKit
inductive C where
 |sc (v:Value)
 |nil
 |lst (t:Option Nat) (k:Nat) (xs:List (List C))
 |ptr (n off:Nat)
 |ep (cs:List C)
 |fn (f:Nat) (caps:List C)
instance:Inhabited C:=⟨.nil⟩
inductive V where
 |c (x:C)
 |agg (cs:List C)
 |tup (vs:List V)
 |wh (g:Bool) (v:V)
instance:Inhabited V:=⟨.tup []⟩
def jG:Value→Bool
 | .string s=>decide (s.size≤9223372036854775807)
 | .bool _| .int _ _| .float _ _| .complex _ _ _| .pointer none| .map none| .chan none| .nilFunc| .nilIface=>true
 | .iface _ (.agg vs)=>vs.toList.all fun v=>match v with
   | .string s=>decide (s.size≤9223372036854775807)
   | .bool _| .int _ _=>true
   |_=>false
 |_=>false
class Tb where
 T:World→Prop
 G:Nat→Prop
 lt:∀ w b,T w→G b→b<w.heap.size
 keep:∀ w w',T w→(∀ b,G b→w'.heap[b]? =w.heap[b]?)→T w'
structure K where
 D:Nat→Prop
 μ:Nat→Nat
 S:Nat→Nat→Prop
 T:Nat→Nat×Option Addr×Nat
 B:Nat→Option Nat
inductive Rep (κ:K) (w:World):C→Value→Prop
 |sc {v:Value}:jG v=true→Rep κ w (.sc v) v
 |nil:Rep κ w .nil (.slice none 0 0)
 |lst {t:Option Nat} {k:Nat} {xs:List (List C)} {a:Option Addr} {n cap:Nat} (cv:Nat→Nat→Value):n=xs.length→(∀ x∈xs,x.length=k)→n≤cap→cap≤maxLen→
  (xs.length=0∨∃ g o,a=some ⟨g,o,none⟩∧∀ i j,i<xs.length→j<k→κ.S g (o+i*k+j)∧w.cell? ⟨g,o+i*k+j,none⟩=some (cv i j))→
  (∀ i j x c,xs[i]? =some x→x[j]? =some c→Rep κ w c (cv i j))→
  (∀ τ,t=some τ→κ.D τ∧xs.length≤(κ.T τ).1∧(xs.length=(κ.T τ).1→(a,cap)=(κ.T τ).2))→Rep κ w (.lst t k xs) (.slice a n cap)
 |ptr {n off:Nat}:κ.D n→Rep κ w (.ptr n off) (.pointer (some ⟨κ.μ n,off,none⟩))
 |ep {cs:List C} {g o:Nat} (cv:Nat→Value):(∀ j,j<cs.length→κ.S g (o+j)∧w.cell? ⟨g,o+j,none⟩=some (cv j))→(∀ j c,cs[j]? =some c→Rep κ w c (cv j))→Rep κ w (.ep cs) (.pointer (some ⟨g,o,none⟩))
 |fn {f:Nat} {caps:List C} {vs:Array Value} (cv:Nat→Value):vs.size=caps.length→(∀ j,j<caps.length→vs[j]? =some (cv j))→(∀ j c,caps[j]? =some c→Rep κ w c (cv j))→Rep κ w (.fn f caps) (.func (.func f) #[] vs)
def Reps (κ:K) (w:World) (cs:List C) (vs:List Value):Prop:=cs.length=vs.length∧∀ (j:Nat) (c:C) (v:Value),cs[j]? =some c→vs[j]? =some v→Rep κ w c v
inductive RepV (κ:K) (w:World):V→Value→Prop
 |c {x:C} {v:Value}:Rep κ w x v→RepV κ w (.c x) v
 |agg {cs:List C} {vs:Array Value}:Reps κ w cs vs.toList→RepV κ w (.agg cs) (.agg vs)
 |tup {l:List V} {vs:Array Value}:l.length=vs.size→(∀ (j:Nat) (x:V) (v:Value),l[j]? =some x→vs[j]? =some v→RepV κ w x v)→RepV κ w (.tup l) (.tuple vs)
 |wh {g:Bool} {v:V} {x:Value}:(g=true→RepV κ w v x)→(g=false→x=undef)→RepV κ w (.wh g v) x
def RepVs (κ:K) (w:World) (l:List V) (vs:List Value):Prop:=l.length=vs.length∧∀ (j:Nat) (x:V) (v:Value),l[j]? =some x→vs[j]? =some v→RepV κ w x v
structure Le (κ:K) (w:World) (κ':K) (w':World):Prop where
 D:∀ n,κ.D n→κ'.D n∧κ'.μ n=κ.μ n
 S:∀ g i,κ.S g i→g<w.heap.size→κ'.S g i∧w'.cell? ⟨g,i,none⟩=w.cell? ⟨g,i,none⟩
 T:∀ n,κ.D n→κ'.T n=κ.T n∨(κ.T n).1<(κ'.T n).1
theorem Le.refl (κ:K) (w:World):Le κ w κ w:=⟨fun _ h=>⟨h,rfl⟩,fun _ _ h _=>⟨h,rfl⟩,fun _ _=>.inl rfl⟩
theorem Le.trans {κ0 κ κ':K} {w0 w w':World} (h:Le κ0 w0 κ w) (l:Le κ w κ' w') (hs:w0.heap.size≤w.heap.size):Le κ0 w0 κ' w':=⟨fun n hn=>by
 obtain ⟨a,b⟩:=h.D n hn
 obtain ⟨c,d⟩:=l.D n a
 exact⟨c,d.trans b⟩,fun g i hS hg=>by
 obtain ⟨a,b⟩:=h.S g i hS hg
 obtain ⟨c,d⟩:=l.S g i a (Nat.lt_of_lt_of_le hg hs)
 exact⟨c,d.trans b⟩,fun n hn=>by
 obtain ⟨a,b⟩:=h.D n hn
 rcases l.T n a with t|t
 ·rw[t];exact h.T n hn
 ·rcases h.T n hn with c|c
  ·right;rw[← c];exact t
  ·right;omega⟩
theorem rW {w:World} {g i:Nat} {v:Value} (h:w.cell? ⟨g,i,none⟩=some v):g<w.heap.size:=by
 rcases Nat.lt_or_ge g w.heap.size with h1|h1
 ·exact h1
 ·rw[World.cell?,Array.getElem?_eq_none h1] at h;cases h
section
variable {κ κ':K} {w w':World}
theorem Rep.mono (l:Le κ w κ' w') {c:C} {v:Value} (h:Rep κ w c v):Rep κ' w' c v:=by
 induction h with
 |sc h=>exact .sc h
 |nil=>exact .nil
 |lst cv hn hk h1 h2 hr hc ht ih=>
  refine .lst cv hn hk h1 h2 ?_ ih fun τ e=>?_
  ·rcases hr with h|⟨g,o,e,h⟩
   ·exact .inl h
   ·refine .inr ⟨g,o,e,fun i j hi hj=>?_⟩
    obtain ⟨a1,a2⟩:=h i j hi hj
    obtain ⟨b1,b2⟩:=l.S _ _ a1 (rW a2)
    exact⟨b1,b2.trans a2⟩
  ·obtain ⟨a1,a2,a3⟩:=ht τ e
   refine⟨(l.D _ a1).1,?_⟩
   rcases l.T _ a1 with b|b
   ·rw[b];exact⟨a2,a3⟩
   ·exact⟨by omega,fun h=>by omega⟩
 |ptr h=>rw[← (l.D _ h).2];exact .ptr (l.D _ h).1
 |ep cv h _ ih=>
  refine .ep cv (fun j hj=>?_) ih
  obtain ⟨a1,a2⟩:=h j hj
  obtain ⟨b1,b2⟩:=l.S _ _ a1 (rW a2)
  exact⟨b1,b2.trans a2⟩
 |fn cv h1 h2 _ ih=>exact .fn cv h1 h2 ih
theorem Reps.mono (l:Le κ w κ' w') {cs:List C} {vs:List Value} (h:Reps κ w cs vs):Reps κ' w' cs vs:=⟨h.1,fun j c v a b=>(h.2 j c v a b).mono l⟩
theorem RepV.mono (l:Le κ w κ' w') {x:V} {v:Value} (h:RepV κ w x v):RepV κ' w' x v:=by
 induction h with
 |c h=>exact .c (h.mono l)
 |agg h=>exact .agg (h.mono l)
 |tup h _ ih=>exact .tup h ih
 |wh _ h2 ih=>exact .wh ih h2
theorem RepVs.mono (l:Le κ w κ' w') {x:List V} {v:List Value} (h:RepVs κ w x v):RepVs κ' w' x v:=⟨h.1,fun j c v a b=>(h.2 j c v a b).mono l⟩
theorem Rep.one {c:C} {v:Value} (h:Rep κ w c v):Value.oneCell' v=true:=by
 cases h with
 |sc h=>cases v <;> first|rfl|(simp[jG] at h)
 |_=>rfl
theorem Rep.cells {c:C} {v:Value} (h:Rep κ w c v):v.cells= #[v]:=by
 have:=h.one
 cases v <;> first|rfl|(simp[Value.oneCell'] at this)
theorem Reps.nil:Reps κ w [] []:=⟨rfl,fun j c v h=>by cases h⟩
theorem Reps.cons {c:C} {v:Value} {cs:List C} {vs:List Value} (h:Rep κ w c v) (hs:Reps κ w cs vs):Reps κ w (c :: cs) (v :: vs):=
 ⟨by simp[hs.1],fun j c' v' a b=>by
  cases j with
  |zero=>injection a with a;injection b with b;subst a b;exact h
  |succ j=>exact hs.2 j c' v' a b⟩
theorem Reps.get {cs:List C} {vs:List Value} (h:Reps κ w cs vs) {j:Nat} {c:C} (hc:cs[j]? =some c):∃ v,vs[j]? =some v∧Rep κ w c v:=by
 have hj:=(List.getElem?_eq_some_iff.1 hc).1
 rw[h.1] at hj
 exact⟨vs[j],List.getElem?_eq_getElem hj,h.2 j c _ hc (List.getElem?_eq_getElem hj)⟩
theorem Reps.append {a b:List C} {u v:List Value} (h:Reps κ w a u) (k:Reps κ w b v):Reps κ w (a++b) (u++v):=
 ⟨by simp[h.1,k.1],fun j c x hc hx=>by
  rcases Nat.lt_or_ge j a.length with hj|hj
  ·rw[List.getElem?_append_left hj] at hc
   rw[List.getElem?_append_left (by rw[← h.1];exact hj)] at hx
   exact h.2 j c x hc hx
  ·rw[List.getElem?_append_right hj] at hc
   rw[List.getElem?_append_right (by rw[← h.1];exact hj),←h.1] at hx
   exact k.2 _ c x hc hx⟩
theorem Reps.take {a:List C} {u:List Value} (h:Reps κ w a u) (n:Nat):Reps κ w (a.take n) (u.take n):=
 ⟨by simp[h.1],fun j c x hc hx=>by
  rw[List.getElem?_take] at hc hx
  split at hc
  ·rename_i hj;rw[if_pos hj] at hx;exact h.2 j c x hc hx
  ·cases hc⟩
theorem Reps.drop {a:List C} {u:List Value} (h:Reps κ w a u) (n:Nat):Reps κ w (a.drop n) (u.drop n):=
 ⟨by simp[h.1],fun j c x hc hx=>by
  rw[List.getElem?_drop] at hc hx
  exact h.2 _ c x hc hx⟩
theorem Reps.one {cs:List C} {vs:List Value} (h:Reps κ w cs vs):∀ v∈vs,Value.oneCell' v=true:=fun v hv=>by
 obtain ⟨j,hj⟩:=List.mem_iff_getElem?.1 hv
 have hj':=(List.getElem?_eq_some_iff.1 hj).1
 rw[← h.1] at hj'
 exact(h.2 j _ v (List.getElem?_eq_getElem hj') hj).one
theorem RepVs.nil:RepVs κ w [] []:=⟨rfl,fun j c v h=>by cases h⟩
theorem RepVs.cons {c:V} {v:Value} {cs:List V} {vs:List Value} (h:RepV κ w c v) (hs:RepVs κ w cs vs):RepVs κ w (c :: cs) (v :: vs):=
 ⟨by simp[hs.1],fun j c' v' a b=>by
  cases j with
  |zero=>injection a with a;injection b with b;subst a b;exact h
  |succ j=>exact hs.2 j c' v' a b⟩
theorem RepVs.get {cs:List V} {vs:List Value} (h:RepVs κ w cs vs) {j:Nat} {c:V} (hc:cs[j]? =some c):∃ v,vs[j]? =some v∧RepV κ w c v:=by
 have hj:=(List.getElem?_eq_some_iff.1 hc).1
 rw[h.1] at hj
 exact⟨vs[j],List.getElem?_eq_getElem hj,h.2 j c _ hc (List.getElem?_eq_getElem hj)⟩
def V.cells:V→Option (List C)
 | .c x=>some [x]
 | .agg cs=>some cs
 | .tup _=>none
 | .wh _ _=>none
theorem RepV.cells {x:V} {v:Value} {cs:List C} (h:RepV κ w x v) (hc:x.cells=some cs):Reps κ w cs v.cells.toList:=by
 cases h with
 |c h=>injection hc with hc;subst hc;rw[h.cells];exact .cons h .nil
 |agg h=>injection hc with hc;subst hc;exact h
 |tup h _=>cases hc
 |wh _ _=>cases hc
end
end Am
namespace Am
open Go.RowKit
variable [Tb]
structure Keep (F:List Nat) (w w':World):Prop where
 os:w'.os=w.os
 tape:w'.tape=w.tape
 output:w'.output=w.output
 size:w.heap.size≤w'.heap.size
 block:∀ k,k<w.heap.size→k ∉ F→w'.heap[k]? =w.heap[k]?
section
variable {F F':List Nat} {w w1 w2:World}
theorem Keep.refl (F:List Nat) (w:World):Keep F w w:=⟨rfl,rfl,rfl,Nat.le_refl _,fun _ _ _=>rfl⟩
theorem Keep.trans (h:Keep F w w1) (k:Keep F' w1 w2) (hF:∀ x∈F',x∈F∨w.heap.size≤x):Keep F w w2:=
 ⟨k.os.trans h.os,k.tape.trans h.tape,k.output.trans h.output,Nat.le_trans h.size k.size,fun i hi hn=>(k.block i (Nat.lt_of_lt_of_le hi h.size) fun hm=>by
  rcases hF i hm with h1|h1
  ·exact hn h1
  ·omega).trans (h.block i hi hn)⟩
theorem Keep.of_below (h:Below w.heap.size w w1):Keep F w w1:=⟨h.os,h.tape,h.output,h.size,fun k hk _=>h.block k hk⟩
theorem Keep.of_but {b:Nat} (h:But b w w1) (hb:b∈F):Keep F w w1:=⟨h.os,h.tape,h.output,h.size,fun k hk hn=>h.block k hk fun e=>hn (e▸hb)⟩
theorem Keep.below (h:Keep [] w w1):Below w.heap.size w w1:=⟨h.os,h.tape,h.output,h.size,fun k hk=>h.block k hk (by simp)⟩
theorem Keep.blk (h:Keep F w w1) {g:Nat} {t:TypeId} {cs:Array Value} (b:Blk w g t cs) (hg:g ∉ F):Blk w1 g t cs:=b.of (h.block g b.lt hg)
theorem Keep.cell (h:Keep F w w1) {g i:Nat} (hg:g<w.heap.size) (hF:g ∉ F):w1.cell? ⟨g,i,none⟩=w.cell? ⟨g,i,none⟩:=World.cell?_of_block (h.block g hg hF)
end
inductive HO where
 |obj (ty:TypeId) (cs:List C)
 |row (e:TypeId) (k n:Nat)
 |bld (ty e:TypeId) (bs:List Value)
 |gone
 |lost
structure St where
 sl:Nat→Option V
 hp:Nat→Option HO
def upd {α:Type} (f:Nat→Option α) (t:Nat) (v:α):Nat→Option α:=fun n=>if n=t then some v else f n
theorem aX {α:Type} (f:Nat→Option α) (t:Nat) (v:α):upd f t v t=some v:=if_pos rfl
theorem bD {α:Type} (f:Nat→Option α) {t n:Nat} (v:α) (h:n≠t):upd f t v n=f n:=if_neg h
def St.put (σ:St) (d:Option Nat) (v:V):St:=match d with|some t=>{σ with sl:=upd σ.sl t v}|none=>σ
def St.set (σ:St) (n:Nat) (o:HO):St:={σ with hp:=upd σ.hp n o}
structure Cx where
 w0:World
 S0:Nat→Nat→Prop
 F:List Nat
 nt:Nat
 K0:K
 ent:∀ n,K0.D n→n=0∨1000≤n
 R:List Nat
 sub:∀ b∈R,b∈F
 dfs:List Deferred
abbrev cx0 (w:World) (S:Nat→Nat→Prop) (F:List Nat) (nt:Nat):Cx:=⟨w,S,F,nt,⟨fun _=>False,fun _=>0,S,fun _=>(0,none,0),fun _=>none⟩,fun _ h=>h.elim,[],(fun _ h=>nomatch h),[]⟩
def ObjOk (X:Cx) (κ:K) (w:World) (n:Nat):HO→Prop
 | .obj ty cs=>∃ vs,Blk w (κ.μ n) ty vs∧Reps κ w cs vs.toList∧(∀ i,¬ κ.S (κ.μ n) i)∧(κ.μ n∈X.F∨X.w0.heap.size≤κ.μ n)
 | .row e k m=>(κ.T n).1=m∧(((κ.T n).2=(none,0)∧m=0)∨
  ∃ b cap cur,(κ.T n).2=(some ⟨b,0,none⟩,cap)∧Blk w b e cur∧cur.size=cap*k∧m≤cap∧cap≤maxLen∧(∀ i,κ.S b i→i<m*k)∧(b∈X.R∨X.w0.heap.size≤b))
 | .bld ty e bs=>∃ p v,Blk w (κ.μ n) ty #[p,v]∧(p= .pointer none∨p= .pointer (some ⟨κ.μ n,0,none⟩))∧w.ownsRow 0 e 1 v bs.length bs∧v.ownBlock=κ.B n∧(∀ b,κ.B n=some b→b<w.heap.size∧b≠κ.μ n)∧
  ∀ b,b=κ.μ n∨κ.B n=some b→(∀ i,¬ κ.S b i)∧(b∈X.F∨X.w0.heap.size≤b)
 | .lost=>True
 | .gone=>κ.μ n<w.heap.size∧(∀ i,¬ κ.S (κ.μ n) i)∧(κ.μ n∈X.F∨X.w0.heap.size≤κ.μ n)
def bl (σ:St) (κ:K) (n:Nat):List Nat:=match σ.hp n with
 |some (.obj _ _)=>[κ.μ n]
 |some (.row _ _ _)=>((κ.T n).2.1.map (·.block)).toList
 |some (.bld _ _ _)=>κ.μ n :: (κ.B n).toList
 |some .gone=>[κ.μ n]
 |some .lost=>[]
 |none=>[]
theorem ObjOk.bld {X:Cx} {κ κ':K} {w w':World} {n:Nat} {ty e:TypeId} {bs:List Value} (h:ObjOk X κ w n (.bld ty e bs)) (hm:κ'.μ n=κ.μ n) (hB:κ'.B n=κ.B n) (hw:∀ b,b=κ.μ n∨κ.B n=some b→b<w.heap.size→w'.heap[b]? =w.heap[b]?)
 (hs:w.heap.size≤w'.heap.size) (hS:∀ b i,b<w.heap.size→b=κ.μ n∨κ.B n=some b→κ'.S b i→κ.S b i):ObjOk X κ' w' n (.bld ty e bs):=by
 obtain ⟨p,v,h1,h2,h3,h4,h5,h6⟩:=h
 have hlt:∀ b,b=κ.μ n∨κ.B n=some b→b<w.heap.size:=fun b hb=>by
  rcases hb with rfl|hb
  ·exact h1.lt
  ·exact(h5 b hb).1
 refine⟨p,v,?_,by rw[hm];exact h2,⟨h3.1,?_⟩,by rw[hB];exact h4,fun b hb=>?_,fun b hb=>?_⟩
 ·rw[hm];exact h1.of (hw _ (.inl rfl) h1.lt)
 ·rcases h3.2 with h|⟨g,cap,cur,e1,e2,e3,e4⟩
  ·exact .inl h
  ·have hg:κ.B n=some g:=by rw[← h4,e1];rfl
   exact .inr ⟨g,cap,cur,e1,e2,(hw g (.inr hg) (hlt g (.inr hg))).trans e3,e4⟩
 ·rw[hB] at hb
  rw[hm]
  exact⟨Nat.lt_of_lt_of_le (h5 b hb).1 hs,(h5 b hb).2⟩
 ·rw[hm,hB] at hb
  exact⟨fun i hi=>(h6 b hb).1 i (hS b i (hlt b hb) hb hi),(h6 b hb).2⟩
theorem fO {σ:St} {κ:K} {n:Nat} {ty e:TypeId} {bs:List Value} (h:σ.hp n=some (.bld ty e bs)) {b:Nat}:b∈bl σ κ n↔b=κ.μ n∨κ.B n=some b:=by
 unfold bl;simp only[h,List.mem_cons,Option.mem_toList,Option.mem_def]
structure Gm (X:Cx) (σ:St) (a:Act) (w:World) (κ:K):Prop where
 sl:∀ t v,σ.sl t=some v→∃ x,a.tmps[t]? =some x∧RepV κ w v x
 hp:∀ n o,σ.hp n=some o→κ.D n∧ObjOk X κ w n o
 D:∀ n,κ.D n→∃ o,σ.hp n=some o
 dis:∀ n n' b,n≠n'→b∈bl σ κ n→b ∉ bl σ κ n'
 only:Keep X.F X.w0 w
 s0:∀ g i,κ.S g i→g<X.w0.heap.size→X.S0 g i∨g∈X.R
 s1:∀ g i,κ.S g i→g<w.heap.size
 sz:a.tmps.size=X.nt
 df:a.defers=X.dfs
 m0:Le X.K0 X.w0 κ w
 tb:Tb.T X.w0∧∀ b∈X.F,¬ Tb.G b
section
variable {X:Cx} {σ:St} {a:Act} {w w':World} {κ κ':K}
theorem Gm.put (h:Gm X σ a w κ) {v:V} {x:Value} (hv:RepV κ w v x) {d:Option Nat} (hd:∀ t,d=some t→t<X.nt):Gm X (σ.put d v) (a.put d x) w κ:=by
 cases d with
 |none=>exact h
 |some d=>
  have hd:=hd d rfl
  refine⟨fun t u hu=>?_,h.hp,h.D,h.dis,h.only,h.s0,h.s1,by simp[Act.put,h.sz],by simp[Act.put,h.df],h.m0,h.tb⟩
  simp only[St.put] at hu
  by_cases ht:t=d
  ·subst ht
   rw[aX] at hu
   injection hu with hu
   subst hu
   exact⟨x,by simp[Act.put,h.sz,hd],hv⟩
  ·rw[bD _ _ ht] at hu
   obtain ⟨y,hy,hr⟩:=h.sl t u hu
   exact⟨y,by simp only[Act.put];rw[Array.getElem?_setIfInBounds_ne (Ne.symm ht)];exact hy,hr⟩
theorem Gm.blk (h:Gm X σ a w κ) {n b:Nat} (hb:b∈bl σ κ n):b<w.heap.size∧(b∈X.F∨X.w0.heap.size≤b):=by
 unfold bl at hb
 split at hb
 ·rename_i ty cs e
  have hb:=List.mem_singleton.1 hb
  subst hb
  obtain ⟨_,vs,h1,_,_,h2⟩:=h.hp n _ e
  exact⟨h1.lt,h2⟩
 ·rename_i e
  obtain ⟨_,h1,h2|⟨b',cap,cur,e1,h2,_,_,_,_,h3⟩⟩:=h.hp n _ e
  ·rw[h2.1] at hb;cases hb
  ·rw[e1] at hb
   have hb:=List.mem_singleton.1 hb
   subst hb;exact⟨h2.lt,h3.imp (X.sub _) id⟩
 ·rename_i e
  obtain ⟨_,p,v,h1,_,_,_,h5,h6⟩:=h.hp n _ e
  have hb':=(fO (κ:=κ) e).1 (by unfold bl;simp only[e];exact hb)
  refine⟨?_,(h6 b hb').2⟩
  rcases hb' with rfl|hb'
  ·exact h1.lt
  ·exact(h5 b hb').1
 ·rename_i e
  have hb:=List.mem_singleton.1 hb
  subst hb
  obtain ⟨_,h1,_,h2⟩:=h.hp n _ e
  exact⟨h1,h2⟩
 ·cases hb
 ·cases hb
theorem Gm.tw (h:Gm X σ a w κ):Tb.T w:=Tb.keep X.w0 w h.tb.1 fun b hb=>h.only.block b (Tb.lt _ _ h.tb.1 hb) fun hm=>h.tb.2 b hm hb
theorem Gm.tG (h:Gm X σ a w κ) {n:Nat}:∀ b∈bl σ κ n,¬ Tb.G b:=fun b hb hG=>by
 rcases (h.blk hb).2 with h1|h1
 ·exact h.tb.2 b h1 hG
 ·have:=Tb.lt _ _ h.tb.1 hG;omega
theorem Gm.free (h:Gm X σ a w κ) {n:Nat} {ty:TypeId} {cs:List C} (hn:σ.hp n=some (.obj ty cs)) {g i:Nat} (hS:κ.S g i):g≠κ.μ n:=fun e=>by
 obtain ⟨_,vs,_,_,h3,_⟩:=h.hp n _ hn
 exact h3 i (e▸hS)
theorem Gm.grow (h:Gm X σ a w κ) (hw:Keep [] w w') {κ':K} (e1:κ'.D=κ.D) (e2:κ'.μ=κ.μ) (e3:κ'.T=κ.T) (e4:κ'.B=κ.B) (hS:∀ g i,κ'.S g i↔κ.S g i∨(w.heap.size≤g∧g<w'.heap.size)):Gm X σ a w' κ'∧Le κ w κ' w':=by
 have l:Le κ w κ' w':=⟨fun n hn=>⟨by rw[e1];exact hn,by rw[e2]⟩,fun g i hs hg=>⟨(hS g i).2 (.inl hs),hw.cell hg (by simp)⟩,fun n _=>.inl (by rw[e3])⟩
 refine⟨⟨fun t v hv=>?_,fun n o ho=>?_,fun n hn=>h.D n (by rw[← e1];exact hn),fun n n' b hne=>?_,h.only.trans hw (by simp),fun g i hs hg=>?_,fun g i hs=>?_,h.sz,h.df,h.m0.trans l h.only.size,h.tb⟩,l⟩
 ·obtain ⟨x,hx,hr⟩:=h.sl t v hv
  exact⟨x,hx,hr.mono l⟩
 ·obtain ⟨hd,ho'⟩:=h.hp n o ho
  refine⟨by rw[e1];exact hd,?_⟩
  cases o with
  |obj ty cs=>
   obtain ⟨vs,h1,h2,h3,h4⟩:=ho'
   refine⟨vs,by rw[e2];exact hw.blk h1 (by simp),h2.mono l,fun i hs=>?_,by rw[e2];exact h4⟩
   rw[e2] at hs
   rcases (hS _ _).1 hs with hs|hs
   ·exact h3 i hs
   ·have:=h1.lt;omega
  |row e k m=>
   obtain ⟨h1,h2⟩:=ho'
   refine⟨by rw[e3];exact h1,?_⟩
   rw[e3]
   rcases h2 with h2|⟨b,cap,cur,g1,g2,g3,g4,g5,g6,g7⟩
   ·exact .inl h2
   ·refine .inr ⟨b,cap,cur,g1,hw.blk g2 (by simp),g3,g4,g5,fun i hs=>?_,g7⟩
    rcases (hS _ _).1 hs with hs|hs
    ·exact g6 i hs
    ·have:=g2.lt;omega
  |bld ty e bs=>
   refine ho'.bld (by rw[e2]) (by rw[e4]) (fun b _ hb=>hw.block b hb (by simp)) hw.size fun b i hb _ hs=>?_
   rcases (hS _ _).1 hs with hs|hs
   ·exact hs
   ·omega
  |lost=>trivial
  |gone=>
   obtain ⟨h1,h2,h3⟩:=ho'
   refine⟨by rw[e2];exact Nat.lt_of_lt_of_le h1 hw.size,fun i hs=>?_,by rw[e2];exact h3⟩
   rw[e2] at hs
   rcases (hS _ _).1 hs with hs|hs
   ·exact h2 i hs
   ·omega
 ·have e:∀ n,bl σ κ' n=bl σ κ n:=fun n=>by unfold bl;rw[e2,e3,e4]
  rw[e,e]
  exact h.dis n n' b hne
 ·rcases (hS _ _).1 hs with hs|hs
  ·exact h.s0 g i hs hg
  ·have:=h.only.size;omega
 ·rcases (hS _ _).1 hs with hs|hs
  ·exact Nat.lt_of_lt_of_le (h.s1 g i hs) hw.size
  ·exact hs.2
theorem Gm.drew (h:Gm X σ a w κ):Gm X σ a w.drew κ:=by
 have l:Le κ w κ w.drew:=⟨fun n hn=>⟨hn,rfl⟩,fun g i hs hg=>⟨hs,rfl⟩,fun n _=>.inl rfl⟩
 refine⟨fun t v hv=>?_,fun n o ho=>?_,h.D,h.dis,⟨h.only.os,h.only.tape,h.only.output,h.only.size,h.only.block⟩,h.s0,h.s1,h.sz,h.df,h.m0.trans l h.only.size,h.tb⟩
 ·obtain ⟨x,hx,hr⟩:=h.sl t v hv
  exact⟨x,hx,hr.mono l⟩
 ·obtain ⟨hd,ho'⟩:=h.hp n o ho
  refine⟨hd,?_⟩
  cases o with
  |obj ty cs=>obtain ⟨vs,h1,h2,h3,h4⟩:=ho';exact⟨vs,h1,h2.mono l,h3,h4⟩
  |row e k m=>exact ho'
  |bld ty e bs=>exact ho'
  |lost=>trivial
  |gone=>exact ho'
theorem Keep.alloc (w:World) (o:Obj):Keep [] w (w.alloc o):=Keep.of_below ((Below.refl _ _).alloc (Nat.le_refl _) o)
def gR {α:Type} (f:Nat→α) (t:Nat) (v:α):Nat→α:=fun n=>if n=t then v else f n
theorem ca {α:Type} (f:Nat→α) (t:Nat) (v:α):gR f t v t=v:=if_pos rfl
theorem iK {α:Type} (f:Nat→α) {t n:Nat} (v:α) (h:n≠t):gR f t v n=f n:=if_neg h
theorem Gm.new (h:Gm X σ a w κ) {t:Nat} (ht:σ.hp t=none) {ty:TypeId} {cs:List C} {vs:Array Value} (hr:Reps κ w cs vs.toList) :
 ∃ κ',Gm X (σ.set t (.obj ty cs)) a (w.alloc (.cells vs ty)) κ'∧Le κ w κ' (w.alloc (.cells vs ty))∧κ'.D t∧κ'.μ t=w.heap.size:=by
 let κ':K:={κ with D:=fun n=>κ.D n∨n=t,μ:=gR κ.μ t w.heap.size}
 have nD:¬ κ.D t:=fun hd=>by obtain ⟨o,ho⟩:=h.D t hd;rw[ht] at ho;cases ho
 have hw:=Keep.alloc w (.cells vs ty)
 have μe:∀ n,κ.D n→κ'.μ n=κ.μ n:=fun n hn=>iK _ _ fun e=>nD (e▸hn)
 have l:Le κ w κ' (w.alloc (.cells vs ty)):=⟨fun n hn=>⟨.inl hn,μe n hn⟩,fun g i hs hg=>⟨hs,hw.cell hg (by simp)⟩,fun n _=>.inl rfl⟩
 have hb:=Blk.fresh w ty vs
 have hold:∀ n o,n≠t→σ.hp n=some o→bl (σ.set t (.obj ty cs)) κ' n=bl σ κ n:=fun n o hne ho=>by
  unfold bl St.set
  simp only[bD _ _ hne,ho]
  cases o
  ·simp only[μe n (h.hp n _ ho).1]
  ·rfl
  ·simp only[μe n (h.hp n _ ho).1];rfl
  ·simp only[μe n (h.hp n _ ho).1]
  ·rfl
 have hnone:∀ n,n≠t→σ.hp n=none→bl (σ.set t (.obj ty cs)) κ' n=[]:=fun n hne ho=>by
  unfold bl St.set
  simp only[bD _ _ hne,ho]
 have hnew:bl (σ.set t (.obj ty cs)) κ' t=[w.heap.size]:=by
  unfold bl St.set
  simp only[aX]
  exact congrArg (fun x=>[x]) (ca _ _ _)
 have hlt:∀ n b,n≠t→b∈bl (σ.set t (.obj ty cs)) κ' n→b∈bl σ κ n:=fun n b hne hb=>by
  cases ho:σ.hp n with
  |none=>rw[hnone n hne ho] at hb;cases hb
  |some o=>rwa [hold n o hne ho] at hb
 refine⟨κ',⟨fun s v hv=>?_,fun n o ho=>?_,fun n hn=>?_,fun n n' b hne hbn hbn'=>?_,h.only.trans hw (by simp),h.s0,fun g i hs=>Nat.lt_of_lt_of_le (h.s1 g i hs) hw.size,h.sz,h.df,h.m0.trans l h.only.size,h.tb⟩,l,.inr rfl,ca _ _ _⟩
 ·obtain ⟨x,hx,hrv⟩:=h.sl s v hv
  exact⟨x,hx,hrv.mono l⟩
 ·simp only[St.set] at ho
  by_cases hn:n=t
  ·subst hn
   rw[aX] at ho
   injection ho with ho
   subst ho
   refine⟨.inr rfl,vs,?_,hr.mono l,fun i hs=>?_,.inr ?_⟩
   ·show Blk _ (gR κ.μ n w.heap.size n) _ _
    rw[ca];exact hb
   ·have:κ.S (gR κ.μ n w.heap.size n) i:=hs
    rw[ca] at this
    exact absurd (h.s1 _ _ this) (Nat.lt_irrefl _)
   ·show _≤gR κ.μ n w.heap.size n
    rw[ca];exact h.only.size
  ·rw[bD _ _ hn] at ho
   obtain ⟨hd,ho'⟩:=h.hp n o ho
   refine⟨.inl hd,?_⟩
   cases o with
   |obj ty' cs'=>
    obtain ⟨vs',h1,h2,h3,h4⟩:=ho'
    refine⟨vs',?_,h2.mono l,?_,?_⟩
    ·rw[μe n hd];exact hw.blk h1 (by simp)
    ·rw[μe n hd];exact h3
    ·rw[μe n hd];exact h4
   |row e k m=>
    obtain ⟨h1,h2⟩:=ho'
    refine⟨h1,?_⟩
    rcases h2 with h2|⟨b,cap,cur,g1,g2,g3,g4,g5,g6,g7⟩
    ·exact .inl h2
    ·exact .inr ⟨b,cap,cur,g1,hw.blk g2 (by simp),g3,g4,g5,g6,g7⟩
   |bld ty' e bs=>exact ho'.bld (μe n hd) rfl (fun b _ hb=>hw.block b hb (by simp)) hw.size fun b i _ _ hs=>hs
   |lost=>trivial
   |gone=>
    obtain ⟨h1,h2,h3⟩:=ho'
    exact⟨by rw[μe n hd];exact Nat.lt_of_lt_of_le h1 hw.size,fun i hs=>h2 i (by rw[μe n hd] at hs;exact hs),by rw[μe n hd];exact h3⟩
 ·rcases hn with hn|rfl
  ·obtain ⟨o,ho⟩:=h.D n hn
   exact⟨o,by simp only[St.set];rw[bD _ _ (fun(e:n=t)=>nD (e▸hn))];exact ho⟩
  ·exact⟨_,aX _ _ _⟩
 ·by_cases h1:n=t
  ·subst h1
   rw[hnew] at hbn
   have hbn:=List.mem_singleton.1 hbn
   subst hbn
   have:=(h.blk (hlt n' _ (Ne.symm hne) hbn')).1
   omega
  ·have k1:=hlt n b h1 hbn
   by_cases h2:n'=t
   ·subst h2
    rw[hnew] at hbn'
    have hbn':=List.mem_singleton.1 hbn'
    have:=(h.blk k1).1
    omega
   ·exact h.dis n n' b hne k1 (hlt n' b h2 hbn')
theorem Gm.store (h:Gm X σ a w κ) {n:Nat} {ty:TypeId} {cs cs':List C} (hn:σ.hp n=some (.obj ty cs)) {vs':Array Value} (hb:Blk w' (κ.μ n) ty vs') (hw:But (κ.μ n) w w') (hr:Reps κ w cs' vs'.toList) :
 Gm X (σ.set n (.obj ty cs')) a w' κ:=by
 have hK:Keep [κ.μ n] w w':=Keep.of_but hw (by simp)
 have l:Le κ w κ w':=⟨fun m hm=>⟨hm,rfl⟩,fun g i hs hg=>⟨hs,hK.cell hg (by simpa using h.free hn hs)⟩,fun m _=>.inl rfl⟩
 have hbn:κ.μ n∈bl σ κ n:=by unfold bl;rw[hn];exact List.mem_singleton.2 rfl
 have hbl:∀ m,bl (σ.set n (.obj ty cs')) κ m=bl σ κ m:=fun m=>by
  by_cases hm:m=n
  ·subst hm;unfold bl St.set;simp only[aX,hn]
  ·unfold bl St.set;simp only[bD _ _ hm]
 obtain ⟨hd,vs,h1,h2,h3,h4⟩:=h.hp n _ hn
 refine⟨fun s v hv=>?_,fun m o ho=>?_,fun m hm=>?_,fun m m' b hne=>?_,h.only.trans hK (fun x hx=>by rw[List.mem_singleton.1 hx];exact h4),h.s0,fun g i hs=>Nat.lt_of_lt_of_le (h.s1 g i hs) hK.size,h.sz,h.df,h.m0.trans l h.only.size,h.tb⟩
 ·obtain ⟨x,hx,hrv⟩:=h.sl s v hv
  exact⟨x,hx,hrv.mono l⟩
 ·simp only[St.set] at ho
  by_cases hm:m=n
  ·subst hm
   rw[aX] at ho
   injection ho with ho
   subst ho
   exact⟨hd,vs',hb,hr.mono l,h3,h4⟩
  ·rw[bD _ _ hm] at ho
   obtain ⟨hd',ho'⟩:=h.hp m o ho
   refine⟨hd',?_⟩
   cases o with
   |obj ty' cs2=>
    obtain ⟨vs2,g1,g2,g3,g4⟩:=ho'
    refine⟨vs2,hK.blk g1 ?_,g2.mono l,g3,g4⟩
    have:κ.μ m∈bl σ κ m:=by unfold bl;rw[ho];exact List.mem_singleton.2 rfl
    intro hx
    rw[List.mem_singleton] at hx
    exact h.dis m n _ hm this (hx▸hbn)
   |row e k q=>
    obtain ⟨g0,h5⟩:=ho'
    refine⟨g0,?_⟩
    rcases h5 with h5|⟨b,cap,cur,g1,g2,g3,g4,g5,g6,g7⟩
    ·exact .inl h5
    ·refine .inr ⟨b,cap,cur,g1,hK.blk g2 ?_,g3,g4,g5,g6,g7⟩
     have:b∈bl σ κ m:=by unfold bl;simp only[ho,g1];exact List.mem_singleton.2 rfl
     intro hx
     rw[List.mem_singleton] at hx
     exact h.dis m n _ hm this (hx▸hbn)
   |bld ty' e bs=>
    refine ho'.bld rfl rfl (fun b hb hlt=>hK.block b hlt fun hx=>?_) hK.size fun b i _ _ hs=>hs
    rw[List.mem_singleton] at hx
    exact h.dis m n _ hm ((fO ho).2 hb) (hx▸hbn)
   |lost=>trivial
   |gone=>exact⟨Nat.lt_of_lt_of_le ho'.1 hK.size,ho'.2⟩
 ·obtain ⟨o,ho⟩:=h.D m hm
  by_cases e:m=n
  ·subst e;exact⟨_,aX _ _ _⟩
  ·exact⟨o,by simp only[St.set];rw[bD _ _ e];exact ho⟩
 ·rw[hbl,hbl];exact h.dis m m' b hne
end
end Am
namespace Am
open Go.RowKit
variable [Tb]
theorem oo {k:Nat}:∀ {xs:List (List C)},(∀ x∈xs,x.length=k)→∀ {i j:Nat} {x:List C} {c:C},xs[i]? =some x→x[j]? =some c→xs.flatten[i*k+j]? =some c∧i*k+j<xs.length*k∧j<k
 |[],_,i,j,x,c,h,_=>by cases h
 |y :: xs,hk,0,j,x,c,h,hc=>by
  injection h with h
  subst h
  have hy:=hk y (.head _)
  have hj:=(List.getElem?_eq_some_iff.1 hc).1
  refine⟨?_,?_,by omega⟩
  ·rw[List.flatten_cons,Nat.zero_mul,Nat.zero_add,List.getElem?_append_left hj];exact hc
  ·rw[List.length_cons,Nat.succ_mul];omega
 |y :: xs,hk,i+1,j,x,c,h,hc=>by
  have hy:=hk y (.head _)
  obtain ⟨h1,h2,h3⟩:=oo (fun z hz=>hk z (.tail _ hz)) (show xs[i]? =some x from h) hc
  refine⟨?_,?_,h3⟩
  ·rw[List.flatten_cons,List.getElem?_append_right (by rw[hy,Nat.succ_mul];omega),hy,show(i+1)*k+j - k=i*k+j by rw[Nat.succ_mul];omega];exact h1
  ·rw[List.length_cons,Nat.succ_mul,Nat.succ_mul];omega
theorem iz {k:Nat}:∀ {xs:List (List C)},(∀ x∈xs,x.length=k)→xs.flatten.length=xs.length*k
 |[],_=>by simp
 |y :: xs,hk=>by rw[List.flatten_cons,List.length_append,iz fun z hz=>hk z (.tail _ hz),hk y (.head _),List.length_cons,Nat.succ_mul];omega
section
variable {X:Cx} {σ:St} {a:Act} {w w':World} {κ κ':K}
theorem tm {b:Nat} {e:TypeId} {cur:Array Value} {k cap:Nat} {xs:List (List C)} {t:Option Nat} (hb:Blk w b e cur) (hk:∀ x∈xs,x.length=k) (hS:∀ i,i<xs.length*k→κ.S b i)
 (hr:Reps κ w xs.flatten (cur.toList.take (xs.length*k))) (hsz:cur.size=cap*k) (hn:xs.length≤cap) (hc:cap≤maxLen)
 (ht:∀ τ,t=some τ→κ.D τ∧xs.length≤(κ.T τ).1∧(xs.length=(κ.T τ).1→((some ⟨b,0,none⟩:Option Addr),cap)=(κ.T τ).2)):Rep κ w (.lst t k xs) (.slice (some ⟨b,0,none⟩) xs.length cap):=by
 have hle:xs.length*k≤cur.size:=by rw[hsz];exact Nat.mul_le_mul_right _ hn
 refine .lst (fun i j=>cur.getD (i*k+j) default) rfl hk hn hc (.inr ⟨b,0,rfl,fun i j hi hj=>?_⟩) (fun i j x c hx hc'=>?_) ht
 ·have hlt:i*k+j<xs.length*k:=by
   have:(i+1)*k≤xs.length*k:=Nat.mul_le_mul_right k hi
   rw[Nat.succ_mul] at this;omega
  rw[Nat.zero_add]
  refine⟨hS _ hlt,?_⟩
  rw[hb.cell]
  have:i*k+j<cur.size:=by omega
  simp[this]
 ·obtain ⟨h1,h2,h3⟩:=oo hk hx hc'
  refine hr.2 _ c _ h1 ?_
  have:i*k+j<cur.size:=by omega
  rw[List.getElem?_take,if_pos h2]
  simp[this]
theorem Gm.row_new (h:Gm X σ a w κ) {t:Nat} {e:TypeId} {k cap:Nat} {xs:List (List C)} (ht:σ.hp t=none∨∃ m,σ.hp t=some (.row e k m)∧m<xs.length) {cur:Array Value} (hk:∀ x∈xs,x.length=k)
 (hr:Reps κ w xs.flatten (cur.toList.take (xs.length*k))) (hsz:cur.size=cap*k) (hn:xs.length≤cap) (hc:cap≤maxLen) :
 ∃ κ',Gm X (σ.set t (.row e k xs.length)) a (w.alloc (.cells cur e)) κ'∧Le κ w κ' (w.alloc (.cells cur e))∧Rep κ' (w.alloc (.cells cur e)) (.lst (some t) k xs) (.slice (some ⟨w.heap.size,0,none⟩) xs.length cap):=by
 let b:=w.heap.size
 let κ':K:={κ with D:=fun n=>κ.D n∨n=t,T:=gR κ.T t (xs.length,some ⟨b,0,none⟩,cap),S:=fun g i=>κ.S g i∨(g=b∧i<xs.length*k)}
 have hw:=Keep.alloc w (.cells cur e)
 have hb:=Blk.fresh w e cur
 have T1:κ'.T t=(xs.length,some ⟨b,0,none⟩,cap):=ca _ _ _
 have T2:∀ n,n≠t→κ'.T n=κ.T n:=fun n hne=>iK _ _ hne
 have nT:κ.D t→∃ m,σ.hp t=some (.row e k m)∧m<xs.length:=fun hd=>by
  obtain ⟨o,ho⟩:=h.D t hd
  rcases ht with h1|h1
  ·rw[h1] at ho;cases ho
  ·exact h1
 have l:Le κ w κ' (w.alloc (.cells cur e)):=⟨fun n hn=>⟨.inl hn,rfl⟩,fun g i hs hg=>⟨.inl hs,hw.cell hg (by simp)⟩,fun n hd=>by
  by_cases hne:n=t
  ·subst hne
   obtain ⟨m,h1,h2⟩:=nT hd
   have h3:=(h.hp n _ h1).2.1
   rw[T1,h3]
   exact .inr h2
  ·exact .inl (T2 n hne)⟩
 have hbl:∀ n,n≠t→bl (σ.set t (.row e k xs.length)) κ' n=bl σ κ n:=fun n hne=>by
  unfold bl St.set
  simp only[bD _ _ hne,T2 n hne]
  rfl
 have hbt:bl (σ.set t (.row e k xs.length)) κ' t=[b]:=by
  unfold bl St.set
  simp only[aX,T1]
  rfl
 refine⟨κ',⟨fun s v hv=>?_,fun n o ho=>?_,fun n hn=>?_,fun n n' q hne hbn hbn'=>?_,h.only.trans hw (by simp),fun g i hs hg=>?_,fun g i hs=>?_,h.sz,h.df,h.m0.trans l h.only.size,h.tb⟩,l,?_⟩
 ·obtain ⟨x,hx,hrv⟩:=h.sl s v hv
  exact⟨x,hx,hrv.mono l⟩
 ·simp only[St.set] at ho
  by_cases hne:n=t
  ·subst hne
   rw[aX] at ho
   injection ho with ho
   subst ho
   refine⟨.inr rfl,by rw[T1],.inr ⟨b,cap,cur,by rw[T1],hb,hsz,hn,hc,fun i hs=>?_,.inr h.only.size⟩⟩
   rcases hs with hs|hs
   ·exact absurd (h.s1 _ _ hs) (Nat.lt_irrefl _)
   ·exact hs.2
  ·rw[bD _ _ hne] at ho
   obtain ⟨hd,ho'⟩:=h.hp n o ho
   refine⟨.inl hd,?_⟩
   cases o with
   |obj ty' cs'=>
    obtain ⟨vs',h1,h2,h3,h4⟩:=ho'
    refine⟨vs',hw.blk h1 (by simp),h2.mono l,fun i hs=>?_,h4⟩
    rcases hs with hs|hs
    ·exact h3 i hs
    ·have:=h1.lt;have e1:κ.μ n=w.heap.size:=hs.1;omega
   |row e' k' m=>
    obtain ⟨h1,h2⟩:=ho'
    refine⟨by rw[T2 n hne];exact h1,?_⟩
    rw[T2 n hne]
    rcases h2 with h2|⟨q,cap',cur',g1,g2,g3,g4,g5,g6,g7⟩
    ·exact .inl h2
    ·refine .inr ⟨q,cap',cur',g1,hw.blk g2 (by simp),g3,g4,g5,fun i hs=>?_,g7⟩
     rcases hs with hs|hs
     ·exact g6 i hs
     ·have:=g2.lt;have e1:q=w.heap.size:=hs.1;omega
   |bld ty' e' bs=>
    refine ho'.bld rfl rfl (fun b _ hb=>hw.block b hb (by simp)) hw.size fun b' i hb _ hs=>?_
    rcases hs with hs|hs
    ·exact hs
    ·have e1:b'=w.heap.size:=hs.1;omega
   |lost=>trivial
   |gone=>
    obtain ⟨h1,h2,h3⟩:=ho'
    refine⟨Nat.lt_of_lt_of_le h1 hw.size,fun i hs=>?_,h3⟩
    rcases hs with hs|hs
    ·exact h2 i hs
    ·have e1:κ.μ n=w.heap.size:=hs.1;omega
 ·by_cases e1:n=t
  ·subst e1;exact⟨_,aX _ _ _⟩
  ·rcases hn with hn|hn
   ·obtain ⟨o,ho⟩:=h.D n hn
    exact⟨o,by simp only[St.set];rw[bD _ _ e1];exact ho⟩
   ·exact absurd hn e1
 ·by_cases h1:n=t
  ·subst h1
   rw[hbt] at hbn
   have hbn:=List.mem_singleton.1 hbn
   rw[hbl n' (Ne.symm hne)] at hbn'
   have:=(h.blk hbn').1
   omega
  ·rw[hbl n h1] at hbn
   by_cases h2:n'=t
   ·subst h2
    rw[hbt] at hbn'
    have hbn':=List.mem_singleton.1 hbn'
    have:=(h.blk hbn).1
    omega
   ·rw[hbl n' h2] at hbn'
    exact h.dis n n' q hne hbn hbn'
 ·rcases hs with hs|hs
  ·exact h.s0 g i hs hg
  ·have:=h.only.size;have e1:g=w.heap.size:=hs.1;omega
 ·rcases hs with hs|hs
  ·exact Nat.lt_of_lt_of_le (h.s1 g i hs) hw.size
  ·rw[hs.1];exact hb.lt
 ·refine tm hb hk (fun i hi=>.inr ⟨rfl,hi⟩) (hr.mono l) hsz hn hc fun τ e=>?_
  injection e with e
  subst e
  rw[T1]
  exact⟨.inr rfl,Nat.le_refl _,fun _=>rfl⟩
theorem Gm.row_in (h:Gm X σ a w κ) {t:Nat} {e:TypeId} {k m b cap:Nat} {cur cur':Array Value} {xs:List (List C)} (ht:σ.hp t=some (.row e k m)) (hT:(κ.T t).2=(some ⟨b,0,none⟩,cap)) (hcur:Blk w b e cur)
 (hb:Blk w' b e cur') (hw:But b w w') (hpre:∀ i,i<m*k→cur'[i]? =cur[i]?) (hm:m<xs.length) (hk:∀ x∈xs,x.length=k)
 (hr:Reps κ w xs.flatten (cur'.toList.take (xs.length*k))) (hsz:cur'.size=cap*k) (hn:xs.length≤cap) :
 ∃ κ',Gm X (σ.set t (.row e k xs.length)) a w' κ'∧Le κ w κ' w'∧Rep κ' w' (.lst (some t) k xs) (.slice (some ⟨b,0,none⟩) xs.length cap):=by
 obtain ⟨hdt,hm0,hrow⟩:=h.hp t _ ht
 obtain ⟨hc,hS,hb0⟩:cap≤maxLen∧(∀ i,κ.S b i→i<m*k)∧(b∈X.R∨X.w0.heap.size≤b):=by
  rcases hrow with h2|⟨b',cap',cur2,g1,g2,g3,g4,g5,g6,g7⟩
  ·rw[h2.1] at hT;cases hT
  ·rw[g1] at hT
   injection hT with e1 e2
   injection e1 with e1
   injection e1 with e1
   subst e1 e2
   exact⟨g5,g6,g7⟩
 let κ':K:={κ with T:=gR κ.T t (xs.length,some ⟨b,0,none⟩,cap),S:=fun g i=>κ.S g i∨(g=b∧i<xs.length*k)}
 have hKp:Keep [b] w w':=Keep.of_but hw (by simp)
 have T1:κ'.T t=(xs.length,some ⟨b,0,none⟩,cap):=ca _ _ _
 have T2:∀ n,n≠t→κ'.T n=κ.T n:=fun n hne=>iK _ _ hne
 have l:Le κ w κ' w':=⟨fun n hn=>⟨hn,rfl⟩,fun g i hs hg=>⟨.inl hs,by
  by_cases hgb:g=b
  ·subst hgb
   rw[hb.cell,hcur.cell]
   exact hpre i (hS i hs)
  ·exact hKp.cell hg (by simpa using hgb)⟩,fun n hd=>by
  by_cases hne:n=t
  ·subst hne;rw[T1,hm0];exact .inr hm
  ·exact .inl (T2 n hne)⟩
 have hbt0:bl σ κ t=[b]:=by unfold bl;simp only[ht,hT];rfl
 have hbl:∀ n,bl (σ.set t (.row e k xs.length)) κ' n=bl σ κ n:=fun n=>by
  by_cases hne:n=t
  ·subst hne
   rw[hbt0]
   unfold bl St.set
   simp only[aX,T1]
   rfl
  ·unfold bl St.set
   simp only[bD _ _ hne,T2 n hne]
   rfl
 refine⟨κ',⟨fun s v hv=>?_,fun n o ho=>?_,fun n hn=>?_,fun n n' q hne=>?_,h.only.trans hKp (fun x hx=>by rw[List.mem_singleton.1 hx];exact hb0.imp (X.sub _) id),fun g i hs hg=>?_,fun g i hs=>?_,h.sz,h.df,h.m0.trans l h.only.size,h.tb⟩,l,?_⟩
 ·obtain ⟨x,hx,hrv⟩:=h.sl s v hv
  exact⟨x,hx,hrv.mono l⟩
 ·simp only[St.set] at ho
  by_cases hne:n=t
  ·subst hne
   rw[aX] at ho
   injection ho with ho
   subst ho
   refine⟨hdt,by rw[T1],.inr ⟨b,cap,cur',by rw[T1],hb,hsz,hn,hc,fun i hs=>?_,hb0⟩⟩
   rcases hs with hs|hs
   ·have:=hS i hs
    have:m*k≤xs.length*k:=Nat.mul_le_mul_right _ (Nat.le_of_lt hm)
    omega
   ·exact hs.2
  ·rw[bD _ _ hne] at ho
   obtain ⟨hd,ho'⟩:=h.hp n o ho
   refine⟨hd,?_⟩
   cases o with
   |obj ty' cs'=>
    obtain ⟨vs',h1,h2,h3,h4⟩:=ho'
    have hnb:κ.μ n≠b:=fun hx=>by
     have:κ.μ n∈bl σ κ n:=by unfold bl;rw[ho];exact List.mem_singleton.2 rfl
     exact h.dis n t _ hne this (by rw[hbt0,hx];exact List.mem_singleton.2 rfl)
    refine⟨vs',hKp.blk h1 (by simpa using hnb),h2.mono l,fun i hs=>?_,h4⟩
    rcases hs with hs|hs
    ·exact h3 i hs
    ·exact hnb hs.1
   |row e' k' m'=>
    obtain ⟨h1,h2⟩:=ho'
    refine⟨by rw[T2 n hne];exact h1,?_⟩
    rw[T2 n hne]
    rcases h2 with h2|⟨q,cap',cur2,g1,g2,g3,g4,g5,g6,g7⟩
    ·exact .inl h2
    ·have hnb:q≠b:=fun hx=>by
      have:q∈bl σ κ n:=by unfold bl;simp only[ho,g1];exact List.mem_singleton.2 rfl
      exact h.dis n t _ hne this (by rw[hbt0,hx];exact List.mem_singleton.2 rfl)
     refine .inr ⟨q,cap',cur2,g1,hKp.blk g2 (by simpa using hnb),g3,g4,g5,fun i hs=>?_,g7⟩
     rcases hs with hs|hs
     ·exact g6 i hs
     ·exact absurd hs.1 hnb
   |bld ty' e' bs=>
    have hnb:∀ q,q=κ.μ n∨κ.B n=some q→q≠b:=fun q hq hx=>
     h.dis n t _ hne ((fO ho).2 hq) (by rw[hbt0,hx];exact List.mem_singleton.2 rfl)
    refine ho'.bld rfl rfl (fun q hq hlt=>hKp.block q hlt (by simpa using hnb q hq)) hKp.size fun q i _ hq hs=>?_
    rcases hs with hs|hs
    ·exact hs
    ·exact absurd hs.1 (hnb q hq)
   |lost=>trivial
   |gone=>
    obtain ⟨h1,h2,h3⟩:=ho'
    have hnb:κ.μ n≠b:=fun hx=>by
     have:κ.μ n∈bl σ κ n:=by unfold bl;rw[ho];exact List.mem_singleton.2 rfl
     exact h.dis n t _ hne this (by rw[hbt0,hx];exact List.mem_singleton.2 rfl)
    refine⟨Nat.lt_of_lt_of_le h1 hKp.size,fun i hs=>?_,h3⟩
    rcases hs with hs|hs
    ·exact h2 i hs
    ·exact absurd hs.1 hnb
 ·by_cases e1:n=t
  ·subst e1;exact⟨_,aX _ _ _⟩
  ·obtain ⟨o,ho⟩:=h.D n hn
   exact⟨o,by simp only[St.set];rw[bD _ _ e1];exact ho⟩
 ·rw[hbl,hbl];exact h.dis n n' q hne
 ·rcases hs with hs|hs
  ·exact h.s0 g i hs hg
  ·rcases hb0 with hb0|hb0
   ·exact .inr (hs.1▸hb0)
   ·have:=hs.1;omega
 ·rcases hs with hs|hs
  ·exact Nat.lt_of_lt_of_le (h.s1 g i hs) hKp.size
  ·rw[hs.1];exact hb.lt
 ·refine tm hb hk (fun i hi=>.inr ⟨rfl,hi⟩) (hr.mono l) hsz hn hc fun τ e=>?_
  injection e with e
  subst e
  rw[T1]
  exact⟨hdt,Nat.le_refl _,fun _=>rfl⟩
end
end Am
namespace Am
variable [Tb]
open Go.RowKit
def pf:TypeDesc→Bool
 | .struct _=>true
 | .array _ _=>true
 |_=>false
def tyi (P:Program) (t:TypeId):Option (Nat×Bool):=match P.info? t,P.underlying t with
 |some i,some d=>some (i.size,pf d)
 |_,_=>none
def fld (P:Program) (s f:Nat):Option (Nat×Nat):=match P.underlying s with
 |some (.struct fs)=>match fs[f]? with
  |some q=>if P.cellsOf q.type=0 then none else some (q.offset,q.type)
  |none=>none
 |_=>none
def sle (P:Program) (t:TypeId):Option (Nat×Nat):=match P.underlying t with
 |some (.slice e)=>(P.info? e).map fun i=>(e,i.size)
 |_=>none
def cOf (v:Value):Option C:=if jG v then some (.sc v) else match v with| .slice none 0 0=>some .nil|_=>none
def Zw (P:Program) (t:TypeId) (zs:List C):Prop:=∃ i z,P.info? t=some i∧i.zero=some z∧∀ (κ:K) (w:World),Reps κ w zs z.cells.toList
def aU (b:Bool) (cs:List C) (off k:Nat):Option V:=if b then(if off+k≤cs.length then some (.agg ((cs.drop off).take k)) else none) else(cs[off]?).map V.c
def aZ (cs:List C) (off:Nat) (ds:List C):Option (List C):=if off+ds.length≤cs.length then some (cs.take off++ds++cs.drop (off+ds.length)) else none
inductive Ev (ρ:Operand→Option V):Operand→V→Prop
 |pl {x:Operand} {v:V}:ρ x=some v→Ev ρ x v
 |wh {x:Operand} {g:Bool} {v:V}:ρ x=some (.wh g v)→g=true→Ev ρ x v
 |nl {x:Operand} {k:Nat}:ρ x=some (.c .nil)→Ev ρ x (.c (.lst none k []))
def evA (sl:Nat→Option V):Operand→Option V
 | .tmp t=>sl t
 | .const v=>(cOf v).map .c
 | .func f=>some (.c (.fn f []))
 | .global _=>none
inductive Conc:V→Value→Prop
 |sc {v:Value}:jG v=true→Conc (.c (.sc v)) v
 |agg {vs:List Value}:(∀ v∈vs,jG v=true)→Conc (.agg (vs.map .sc)) (.agg vs.toArray)
 |ab {vs:List Value} {b:Bool}:(∀ v∈vs,jG v=true)→Conc (.tup [.agg (vs.map .sc),.c (.sc (.bool b))]) (.tuple #[.agg vs.toArray,.bool b])
def CvL (vs us:List V):Prop:=∀ (κ:K) (w:World) (xs:List Value),RepVs κ w vs xs→RepVs κ w us xs
theorem CvL.refl (vs:List V):CvL vs vs:=fun _ _ _ h=>h
inductive Cq:V→Value→Prop
 |sc {v:Value}:Cq (.c (.sc v)) v
 |agg {vs:List Value}:Cq (.agg (vs.map .sc)) (.agg vs.toArray)
abbrev jP:V:=.wh false (.tup [])
structure Eff where
 val:V
 wr:List (Nat×HO):=[]
 rd:List Nat:=[]
def xd:V→Bool
 | .c (.ptr _ _)| .c (.ep _)| .c (.fn _ _)=>true
 |_=>false
section
variable {κ:K} {w:World}
theorem Fs {v:Value} {c:C} (h:cOf v=some c):Rep κ w c v:=by
 unfold cOf at h
 split at h
 ·rename_i hs;injection h with h;subst h;exact .sc hs
 ·split at h
  ·injection h with h;subst h;exact .nil
  ·cases h
theorem rA {vs:List Value} (h:∀ v∈vs,jG v=true):RepV κ w (.agg (vs.map .sc)) (.agg vs.toArray):=by
 refine .agg ⟨by simp,fun j c v hc hv=>?_⟩
 simp only at hv
 rw[List.getElem?_map,hv] at hc
 injection hc with hc
 subst hc
 exact .sc (h v (List.mem_of_getElem? hv))
theorem Conc.rep {v:V} {x:Value} (h:Conc v x):RepV κ w v x:=by
 cases h with
 |sc h=>exact .c (.sc h)
 |agg h=>exact rA h
 |ab h=>
  refine .tup rfl fun j x v hx hv=>?_
  match j with
  |0=>injection hx with hx;injection hv with hv;subst hx hv;exact rA h
  |1=>injection hx with hx;injection hv with hv;subst hx hv;exact .c (.sc rfl)
  |j+2=>cases hx
theorem Cq.uniq {v:V} {x y:Value} (h:Cq v x) (r:RepV κ w v y):y=x:=by
 cases h with
 |sc=>cases r with|c r=>cases r;rfl
 |agg=>
  rename_i vs
  cases r with
  |agg r=>
   rename_i us
   congr 1
   have hl:us.toList.length=vs.length:=by rw[← r.1,List.length_map]
   apply Array.ext (by simpa using hl)
   intro j h1 h2
   have h1':j<us.toList.length:=by simpa using h1
   have h2':j<vs.length:=by simpa using h2
   have:=r.2 j (.sc vs[j]) us.toList[j] (by rw[List.getElem?_map,List.getElem?_eq_getElem h2'];rfl) (List.getElem?_eq_getElem h1')
   have e:us.toList[j]=vs[j]:=by
    generalize us.toList[j]=q at this
    cases this
    rfl
   simpa using e
end
section
variable {X:Cx} {σ:St} {a:Act} {w:World} {κ:K}
theorem Gm.ev0 (g:Gm X σ a w κ) {x:Operand} {v:V} (h:evA σ.sl x=some v):RepV κ w v (a.eval x):=by
 cases x with
 |tmp t=>
  obtain ⟨y,hy,hr⟩:=g.sl t v h
  have:a.eval (.tmp t)=y:=by simp[Act.eval,hy]
  rw[this];exact hr
 |const c=>
  simp only[evA] at h
  cases hc:cOf c with
  |none=>rw[hc] at h;cases h
  |some q=>rw[hc] at h;injection h with h;subst h;exact .c (Fs hc)
 |func f=>injection h with h;subst h;exact .c (.fn (fun _=>default) rfl (fun j hj=>by cases hj) (fun j c hc=>by cases hc))
 |«global» n=>cases h
theorem Gm.ev (g:Gm X σ a w κ) {x:Operand} {v:V} (h:Ev (evA σ.sl) x v):RepV κ w v (a.eval x):=by
 cases h with
 |pl h=>exact g.ev0 h
 |wh h hg=>have:=g.ev0 h;cases this with|wh r _=>exact r hg
 |nl h=>
  have:=g.ev0 h
  generalize a.eval x=y at this
  cases this with
  |c h=>
   cases h with
   |nil=>exact .c (.lst (fun _ _=>default) rfl (fun x hx=>by cases hx) (Nat.le_refl _) (by unfold maxLen;omega) (.inl rfl) (fun i j x c hx=>by simp at hx) fun τ e=>by cases e)
end
theorem kp {P:Program} {t:TypeId} {k:Nat} {b:Bool} (h:tyi P t=some (k,b)):∃ i d,P.info? t=some i∧P.underlying t=some d∧i.size=k∧pf d=b:=by
 unfold tyi at h
 split at h
 ·rename_i i d h1 h2
  injection h with h
  injection h with h3 h4
  exact⟨i,d,h1,h2,h3,h4⟩
 ·cases h
end Am
namespace Am
variable [Tb]
open Go.RowKit
section
variable {P:Program} {κ:K} {w:World}
theorem we (g o n:Nat):(⟨g,o,none⟩:Addr).add n=⟨g,o+n,none⟩:=by unfold Addr.add;split <;> simp_all
theorem og {b:Bool} {cs:List C} {vs:List Value} {off k:Nat} {v:V} (h:Reps κ w cs vs) (hc:aU b cs off k=some v) :
 ∃ x,RepV κ w v x∧(b=true→x= .agg ((vs.drop off).take k).toArray∧off+k≤vs.length)∧(b=false→vs[off]? =some x):=by
 unfold aU at hc
 cases b with
 |true=>
  rw[if_pos rfl] at hc
  split at hc
  ·rename_i hl
   injection hc with hc
   subst hc
   exact⟨_,.agg (vs:=((vs.drop off).take k).toArray) ((h.drop off).take k),fun _=>⟨rfl,by rw[← h.1];exact hl⟩,fun e=>by cases e⟩
  ·cases hc
 |false=>
  rw[if_neg (by simp)] at hc
  cases hcc:cs[off]? with
  |none=>rw[hcc] at hc;cases hc
  |some c=>
   rw[hcc] at hc
   injection hc with hc
   subst hc
   obtain ⟨x,hx,hr⟩:=h.get hcc
   exact⟨x,.c hr,fun e=>by(cases e),fun _=>hx⟩
theorem run_load {ty g off k:Nat} {b:Bool} {x:Value} {vs:List Value} (ht:tyi P ty=some (k,b)) (hb:∀ j u,vs[j]? =some u→w.cell? ⟨g,j,none⟩=some u)
 (h1:b=true→x= .agg ((vs.drop off).take k).toArray∧off+k≤vs.length) (h2:b=false→vs[off]? =some x) :
 (Instr.loadAt ty (.pointer (some ⟨g,off,none⟩))).run P w= .ok x w:=by
 obtain ⟨i,d,hi,hu,hk,hd⟩:=kp ht
 have hagg:(isAgg ty).run P w= .ok b w:=by
  unfold isAgg
  rw[Sem.run_bind,run_underlying hu w]
  cases d <;> simp_all[pf]
 cases b with
 |true=>
  obtain ⟨rfl,hl⟩:=h1 rfl
  have hlc:((vs.drop off).take k).length=k:=by rw[List.length_take,List.length_drop];omega
  have:=run_loadCells_list (P:=P) w ⟨g,off,none⟩ ((vs.drop off).take k) (fun j v hv=>by
   rw[we]
   rw[List.getElem?_take] at hv
   split at hv
   ·rw[List.getElem?_drop] at hv;exact hb _ _ hv
   ·cases hv)
  rw[hlc] at this
  simp[Instr.loadAt,Instr.sureAddr,loadVar,hagg,sizeOf,typeInfo,hi,hk,this]
 |false=>
  have hx:=hb _ _ (h2 rfl)
  simp[Instr.loadAt,Instr.sureAddr,loadVar,hagg,load,Sem.run,hx]
theorem nM {s f g off d ft:Nat} (h:fld P s f=some (d,ft)):(Instr.fieldAt s (.pointer (some ⟨g,off,none⟩)) f).run P w= .ok (.pointer (some ⟨g,off+d,none⟩)) w:=by
 unfold fld at h
 split at h
 ·rename_i fs hu
  split at h
  ·rename_i q hq
   split at h
   ·cases h
   ·rename_i hc
    injection h with h
    injection h with h1 h2
    subst h1 h2
    cases hi:P.info? q.type with
    |none=>simp[Program.cellsOf,hi] at hc
    |some i=>
     have hz:i.size≠0:=by simpa [Program.cellsOf,hi] using hc
     simp[Instr.fieldAt,run_underlying hu,hq,Instr.sureAddr,fieldPlace,sizeOf,typeInfo,hi,hz,we]
  ·cases h
 ·cases h
theorem An {xt f d ft k:Nat} {b:Bool} {x:Value} {vs:List Value} (h:fld P xt f=some (d,ft)) (ht:tyi P ft=some (k,b))
 (h1:b=true→x= .agg ((vs.drop d).take k).toArray∧d+k≤vs.length) (h2:b=false→vs[d]? =some x) :
 (Instr.field xt (.agg vs.toArray) f).run P w= .ok x w:=by
 obtain ⟨i,ds,hi,hud,hk,hd⟩:=kp ht
 have hagg:(isAgg ft).run P w= .ok b w:=by
  unfold isAgg
  rw[Sem.run_bind,run_underlying hud w]
  cases ds <;> simp_all[pf]
 unfold fld at h
 split at h
 ·rename_i fs hu
  split at h
  ·rename_i q hq
   split at h
   ·cases h
   ·rename_i hc
    injection h with h
    injection h with e1 e2
    subst e1 e2
    cases b with
    |true=>
     obtain ⟨rfl,hl⟩:=h1 rfl
     simp[Instr.field,run_underlying hu,hq,asAgg,part,hagg,sizeOf,typeInfo,hi,hk]
    |false=>
     have hx:=h2 rfl
     simp[Instr.field,run_underlying hu,hq,asAgg,part,hagg,hx]
  ·cases h
 ·cases h
theorem vt {t e k g o i n cap:Nat} {kd:IntKind} (h:sle P t=some (e,k)) (hi:i<n):(Instr.indexAt t (.slice (some ⟨g,o,none⟩) n cap) (.int kd (i:Nat))).run P w= .ok (.pointer (some ⟨g,o+i*k,none⟩)) w:=by
 unfold sle at h
 split at h
 ·rename_i e' hu
  cases hq:P.info? e' with
  |none=>rw[hq] at h;cases h
  |some inf=>
   rw[hq] at h
   injection h with h
   injection h with h1 h2
   subst h1 h2
   have h0:¬ ((i:Int)<0):=by omega
   have hlt:(i:Int)<(n:Int):=by omega
   simp[Instr.indexAt,asIntOf,run_underlying hu,sizeOf,typeInfo,hq,hi,we]
 ·cases h
end
end Am
end Go.Proofs.YtkpodagbefnebaaGreatDoor
