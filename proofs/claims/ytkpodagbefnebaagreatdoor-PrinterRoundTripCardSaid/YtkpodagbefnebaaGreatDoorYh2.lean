import Derived.Test.YtkpodagbefnebaaGreatDoorYh1
set_option linter.unusedSimpArgs false
set_option linter.unusedVariables false
set_option linter.unusedSectionVars false
namespace Go.Proofs.YtkpodagbefnebaaGreatDoor
namespace Am
variable [Tb]
open Go.RowKit
def cz (S:Nat→Nat→Prop):K:=⟨fun _=>False,fun _=>0,S,fun _=>(0,none,0),fun _=>none⟩
def bJ (P:Program) (f:FuncId):Prop:=∀ (args:Array Value) (w:World),(callFunc f args).run P w= .ok (.enter f args) w
def Pure (P:Program) (f:FuncId) (args:List V) (r:V):Prop:=bJ P f∧∀ (w:World) (S:Nat→Nat→Prop) (vs:Array Value),Tb.T w→(∀ g i,S g i→g<w.heap.size)→RepVs (cz S) w args vs.toList→
 Calls P f vs w fun e w'=>∃ x,e= .returned x∧Keep [] w w'∧RepV (cz fun g i=>S g i∨(w.heap.size≤g∧g<w'.heap.size)) w' r x
def NewC (P:Program) (f:FuncId) (args:List V) (ty:TypeId) (cs:List C):Prop:=bJ P f∧∀ (w:World) (S:Nat→Nat→Prop) (vs:Array Value),Tb.T w→(∀ g i,S g i→g<w.heap.size)→RepVs (cz S) w args vs.toList→
 Calls P f vs w fun e w'=>∃ b ws,e= .returned (.pointer (some ⟨b,0,none⟩))∧Keep [] w w'∧w.heap.size≤b∧Blk w' b ty ws∧Reps (cz fun g i=>S g i∨(w.heap.size≤g∧g<w'.heap.size∧g≠b)) w' cs ws.toList
mutual
def C.ok (d:Nat→Bool):C→Bool
 | .sc _=>true
 | .nil=>true
 | .lst t _ xs=>(match t with|none=>true|some τ=>d τ)&&bB d xs
 | .ptr n _=>d n
 | .ep cs=>okL d cs
 | .fn _ cs=>okL d cs
def okL (d:Nat→Bool):List C→Bool
 |[]=>true
 |c :: l=>C.ok d c&&okL d l
def bB (d:Nat→Bool):List (List C)→Bool
 |[]=>true
 |x :: l=>okL d x&&bB d l
end
theorem dO {d:Nat→Bool}:∀ {l:List C},okL d l=true→∀ c∈l,C.ok d c=true
 |[],_,c,h=>by cases h
 |x :: l,ho,c,h=>by
  rw[okL,Bool.and_eq_true] at ho
  rcases List.mem_cons.1 h with rfl|h
  ·exact ho.1
  ·exact dO ho.2 c h
theorem pD {d:Nat→Bool}:∀ {l:List (List C)},bB d l=true→∀ x∈l,okL d x=true
 |[],_,c,h=>by cases h
 |x :: l,ho,c,h=>by
  rw[bB,Bool.and_eq_true] at ho
  rcases List.mem_cons.1 h with rfl|h
  ·exact ho.1
  ·exact pD ho.2 c h
mutual
def V.ok (d:Nat→Bool):V→Bool
 | .c x=>C.ok d x
 | .agg cs=>okL d cs
 | .tup l=>okV d l
 | .wh _ v=>V.ok d v
def okV (d:Nat→Bool):List V→Bool
 |[]=>true
 |v :: l=>V.ok d v&&okV d l
end
theorem gM {d:Nat→Bool}:∀ {l:List V},okV d l=true→∀ c∈l,V.ok d c=true
 |[],_,c,h=>by cases h
 |x :: l,ho,c,h=>by
  rw[okV,Bool.and_eq_true] at ho
  rcases List.mem_cons.1 h with rfl|h
  ·exact ho.1
  ·exact gM ho.2 c h
section
variable {κ κ':K} {w:World}
theorem Rep.only {d:Nat→Bool} (hS:κ'.S=κ.S) (hd:∀ n,d n=true→κ.D n→κ'.D n∧κ'.μ n=κ.μ n∧κ'.T n=κ.T n) {c:C} {v:Value} (h:Rep κ w c v) (ho:C.ok d c=true):Rep κ' w c v:=by
 induction h with
 |sc h=>exact .sc h
 |nil=>exact .nil
 |lst cv hn hk h1 h2 hr hc ht ih=>
  change (_&&bB d _)=true at ho
  rw[Bool.and_eq_true] at ho
  refine .lst cv hn hk h1 h2 (by rw[hS];exact hr) (fun i j x c hx hcc=>ih i j x c hx hcc (dO (pD ho.2 x (List.mem_of_getElem? hx)) c (List.mem_of_getElem? hcc))) fun τ e=>?_
  obtain ⟨a1,a2,a3⟩:=ht τ e
  subst e
  obtain ⟨b1,b2,b3⟩:=hd τ ho.1 a1
  exact⟨b1,by rw[b3];exact a2,by rw[b3];exact a3⟩
 |ptr h=>
  change d _=true at ho
  obtain ⟨b1,b2,b3⟩:=hd _ ho h
  rw[← b2];exact .ptr b1
 |ep cv h _ ih=>
  change okL d _=true at ho
  exact .ep cv (by rw[hS];exact h) fun j c hc=>ih j c hc (dO ho c (List.mem_of_getElem? hc))
 |fn cv h1 h2 _ ih=>
  change okL d _=true at ho
  exact .fn cv h1 h2 fun j c hc=>ih j c hc (dO ho c (List.mem_of_getElem? hc))
theorem RepV.only {d:Nat→Bool} (hS:κ'.S=κ.S) (hd:∀ n,d n=true→κ.D n→κ'.D n∧κ'.μ n=κ.μ n∧κ'.T n=κ.T n) {c:V} {v:Value} (h:RepV κ w c v) (ho:V.ok d c=true):RepV κ' w c v:=by
 induction h with
 |c h=>rw[V.ok] at ho;exact .c (h.only hS hd ho)
 |agg h=>rw[V.ok] at ho;exact .agg ⟨h.1,fun j c v hc hv=>(h.2 j c v hc hv).only hS hd (dO ho c (List.mem_of_getElem? hc))⟩
 |tup h _ ih=>rw[V.ok] at ho;exact .tup h fun j x v hx hv=>ih j x v hx hv (gM ho x (List.mem_of_getElem? hx))
 |wh _ h2 ih=>rw[V.ok] at ho;exact .wh (fun g=>ih g ho) h2
end
abbrev noN:Nat→Bool:=fun _=>false
mutual
def C.un:C→C
 | .lst _ k xs=>.lst none k (bV xs)
 | .ep cs=>.ep (unL cs)
 | .fn f cs=>.fn f (unL cs)
 |c=>c
def unL:List C→List C
 |[]=>[]
 |c :: l=>C.un c :: unL l
def bV:List (List C)→List (List C)
 |[]=>[]
 |x :: l=>unL x :: bV l
end
mutual
def V.un:V→V
 | .c x=>.c (C.un x)
 | .agg cs=>.agg (unL cs)
 | .tup l=>.tup (unV l)
 | .wh g v=>.wh g (V.un v)
def unV:List V→List V
 |[]=>[]
 |v :: l=>V.un v :: unV l
end
theorem fg:∀ l:List C,unL l=l.map C.un
 |[]=>rfl
 |c :: l=>by rw[unL,fg l];rfl
theorem fC:∀ l:List (List C),bV l=l.map unL
 |[]=>rfl
 |c :: l=>by rw[bV,fC l];rfl
theorem tH:∀ l:List V,unV l=l.map V.un
 |[]=>rfl
 |c :: l=>by rw[unV,tH l];rfl
section
variable {κ:K} {w:World}
theorem Rep.un {c:C} {v:Value} (h:Rep κ w c v):Rep κ w c.un v:=by
 induction h with
 |sc h=>exact .sc h
 |nil=>exact .nil
 |lst cv hn hk h1 h2 hr hc ht ih=>
  rw[C.un]
  have e:∀ xs,(bV xs).length=xs.length:=fun xs=>by rw[fC,List.length_map]
  refine .lst cv (hn.trans (e _).symm) (fun x hx=>?_) h1 h2 (by rw[e];exact hr) (fun i j x c hx hcc=>?_) fun τ e=>by cases e
  ·rw[fC,List.mem_map] at hx
   obtain ⟨y,hy,rfl⟩:=hx
   rw[fg,List.length_map]
   exact hk y hy
  ·rw[fC,List.getElem?_map,Option.map_eq_some_iff] at hx
   obtain ⟨y,hy,rfl⟩:=hx
   rw[fg,List.getElem?_map,Option.map_eq_some_iff] at hcc
   obtain ⟨z,hz,rfl⟩:=hcc
   exact ih i j y z hy hz
 |ptr h=>exact .ptr h
 |ep cv h _ ih=>
  rw[C.un]
  refine .ep cv (by rw[fg,List.length_map];exact h) fun j c hc=>?_
  rw[fg,List.getElem?_map,Option.map_eq_some_iff] at hc
  obtain ⟨z,hz,rfl⟩:=hc
  exact ih j z hz
 |fn cv h1 h2 _ ih=>
  rw[C.un]
  refine .fn cv (by rw[fg,List.length_map];exact h1) (by rw[fg,List.length_map];exact h2) fun j c hc=>?_
  rw[fg,List.getElem?_map,Option.map_eq_some_iff] at hc
  obtain ⟨z,hz,rfl⟩:=hc
  exact ih j z hz
theorem Reps.un {cs:List C} {vs:List Value} (h:Reps κ w cs vs):Reps κ w (unL cs) vs:=⟨by rw[fg,List.length_map];exact h.1,fun j c v hc hv=>by
 rw[fg,List.getElem?_map,Option.map_eq_some_iff] at hc
 obtain ⟨z,hz,rfl⟩:=hc
 exact(h.2 j z v hz hv).un⟩
theorem RepV.un {c:V} {v:Value} (h:RepV κ w c v):RepV κ w c.un v:=by
 induction h with
 |c h=>exact .c h.un
 |agg h=>exact .agg h.un
 |tup h _ ih=>
  rw[V.un]
  refine .tup (by rw[tH,List.length_map];exact h) fun j x v hx hv=>?_
  rw[tH,List.getElem?_map,Option.map_eq_some_iff] at hx
  obtain ⟨z,hz,rfl⟩:=hx
  exact ih j z v hz hv
 |wh _ h2 ih=>exact .wh ih h2
end
def HO.one:HO→Bool
 | .obj _ cs=>okL noN cs
 | .row _ _ _=>false
 | .bld _ _ _=>true
 | .gone=>true
 | .lost=>false
def mn (S:Nat→Nat→Prop) (μ:Nat) (B:Option Nat):K:=⟨fun n=>n=0,fun _=>μ,S,fun _=>(0,none,0),fun _=>B⟩
def MC (P:Program) (f:FuncId) (o:HO) (us:List V) (r:V) (o':HO):Prop:=bJ P f∧∀ (w:World) (S:Nat→Nat→Prop) (μ:Nat) (B:Option Nat) (vs:Array Value),
 Tb.T w→(∀ b∈μ :: B.toList,¬ Tb.G b)→(∀ g i,S g i→g<w.heap.size)→(∀ b i,S b i→b ∉ μ :: B.toList)→ObjOk (cx0 w S (μ :: B.toList) 0) (mn S μ B) w 0 o→RepVs (cz S) w us vs.toList→
 Calls P f (#[.pointer (some ⟨μ,0,none⟩)]++vs) w fun e w'=>∃ x S' B',e= .returned x∧Keep (μ :: B.toList) w w'∧(∀ g i,S g i→S' g i)∧(∀ g i,S' g i→g<w.heap.size→S g i)∧(∀ g i,S' g i→g<w'.heap.size)∧
  ObjOk (cx0 w S (μ :: B.toList) 0) (mn S' μ B') w' 0 o'∧RepV (cz S') w' r x
def Zb (P:Program) (t:TypeId):Prop:=∃ i,P.info? t=some i∧i.zero=some (.agg #[.pointer none,.slice none 0 0])
end Am
namespace Am
variable [Tb]
open Go.RowKit
mutual
def C.ren (ns:Nat→Nat):C→C
 | .lst t k xs=>.lst (t.map ns) k (nK ns xs)
 | .ptr n off=>.ptr (ns n) off
 | .ep cs=>.ep (je ns cs)
 | .fn f cs=>.fn f (je ns cs)
 | .sc v=>.sc v
 | .nil=>.nil
def je (ns:Nat→Nat):List C→List C
 |[]=>[]
 |c :: l=>C.ren ns c :: je ns l
def nK (ns:Nat→Nat):List (List C)→List (List C)
 |[]=>[]
 |x :: l=>je ns x :: nK ns l
end
mutual
def V.ren (ns:Nat→Nat):V→V
 | .c x=>.c (C.ren ns x)
 | .agg cs=>.agg (je ns cs)
 | .tup l=>.tup (jE ns l)
 | .wh g v=>.wh g (V.ren ns v)
def jE (ns:Nat→Nat):List V→List V
 |[]=>[]
 |v :: l=>V.ren ns v :: jE ns l
end
theorem di (ns:Nat→Nat):∀ l:List C,je ns l=l.map (C.ren ns)
 |[]=>rfl
 |c :: l=>by rw[je,di ns l];rfl
theorem kA (ns:Nat→Nat):∀ l:List (List C),nK ns l=l.map (je ns)
 |[]=>rfl
 |c :: l=>by rw[nK,kA ns l];rfl
theorem ij (ns:Nat→Nat):∀ l:List V,jE ns l=l.map (V.ren ns)
 |[]=>rfl
 |c :: l=>by rw[jE,ij ns l];rfl
section
variable {κ κ':K} {w:World} {ns:Nat→Nat}
theorem Rep.ren {d:Nat→Bool} (hS:∀ g i,κ.S g i→κ'.S g i) (hd:∀ n,d n=true→κ.D n→κ'.D (ns n)∧κ'.μ (ns n)=κ.μ n∧κ'.T (ns n)=κ.T n) {c:C} {v:Value} (h:Rep κ w c v) (ho:C.ok d c=true):Rep κ' w (c.ren ns) v:=by
 induction h with
 |sc h=>exact .sc h
 |nil=>exact .nil
 |lst cv hn hk h1 h2 hr hc ht ih=>
  change (_&&bB d _)=true at ho
  rw[Bool.and_eq_true] at ho
  have e:∀ xs,(nK ns xs).length=xs.length:=fun xs=>by rw[kA,List.length_map]
  rw[C.ren]
  refine .lst cv (hn.trans (e _).symm) (fun x hx=>?_) h1 h2 (by rw[e];exact hr.imp id fun⟨g,o,ha,hh⟩=>⟨g,o,ha,fun i j hi hj=>⟨hS _ _ (hh i j hi hj).1,(hh i j hi hj).2⟩⟩) (fun i j x c hx hcc=>?_) fun τ' et=>?_
  ·rw[kA,List.mem_map] at hx
   obtain ⟨y,hy,rfl⟩:=hx
   rw[di,List.length_map]
   exact hk y hy
  ·rw[kA,List.getElem?_map,Option.map_eq_some_iff] at hx
   obtain ⟨y,hy,rfl⟩:=hx
   rw[di,List.getElem?_map,Option.map_eq_some_iff] at hcc
   obtain ⟨q,hq,rfl⟩:=hcc
   exact ih i j y q hy hq (dO (pD ho.2 y (List.mem_of_getElem? hy)) q (List.mem_of_getElem? hq))
  ·rw[Option.map_eq_some_iff] at et
   obtain ⟨τ,e1,rfl⟩:=et
   obtain ⟨a1,a2,a3⟩:=ht τ e1
   subst e1
   obtain ⟨b1,b2,b3⟩:=hd τ ho.1 a1
   exact⟨b1,by rw[b3,e];exact a2,by rw[b3,e];exact a3⟩
 |ptr h=>
  change d _=true at ho
  obtain ⟨b1,b2,b3⟩:=hd _ ho h
  rw[C.ren,←b2];exact .ptr b1
 |ep cv h _ ih=>
  change okL d _=true at ho
  rw[C.ren]
  have e:∀ xs,(je ns xs).length=xs.length:=fun xs=>by rw[di,List.length_map]
  refine .ep cv (fun j hj=>?_) fun j c hc=>?_
  ·rw[e] at hj
   exact⟨hS _ _ (h j hj).1,(h j hj).2⟩
  ·rw[di,List.getElem?_map,Option.map_eq_some_iff] at hc
   obtain ⟨q,hq,rfl⟩:=hc
   exact ih j q hq (dO ho q (List.mem_of_getElem? hq))
 |fn cv h1 h2 _ ih=>
  change okL d _=true at ho
  rw[C.ren]
  have e:∀ xs,(je ns xs).length=xs.length:=fun xs=>by rw[di,List.length_map]
  refine .fn cv (by rw[e];exact h1) (fun j hj=>h2 j (by rw[e] at hj;exact hj)) fun j c hc=>?_
  rw[di,List.getElem?_map,Option.map_eq_some_iff] at hc
  obtain ⟨q,hq,rfl⟩:=hc
  exact ih j q hq (dO ho q (List.mem_of_getElem? hq))
theorem RepV.ren {d:Nat→Bool} (hS:∀ g i,κ.S g i→κ'.S g i) (hd:∀ n,d n=true→κ.D n→κ'.D (ns n)∧κ'.μ (ns n)=κ.μ n∧κ'.T (ns n)=κ.T n) {c:V} {v:Value} (h:RepV κ w c v) (ho:V.ok d c=true):RepV κ' w (c.ren ns) v:=by
 induction h with
 |c h=>rw[V.ok] at ho;rw[V.ren];exact .c (h.ren hS hd ho)
 |agg h=>
  rw[V.ok] at ho;rw[V.ren]
  refine .agg ⟨by rw[di,List.length_map];exact h.1,fun j c v hc hv=>?_⟩
  rw[di,List.getElem?_map,Option.map_eq_some_iff] at hc
  obtain ⟨q,hq,rfl⟩:=hc
  exact(h.2 j q v hq hv).ren hS hd (dO ho q (List.mem_of_getElem? hq))
 |tup h _ ih=>
  rw[V.ok] at ho;rw[V.ren]
  refine .tup (by rw[ij,List.length_map];exact h) fun j x v hx hv=>?_
  rw[ij,List.getElem?_map,Option.map_eq_some_iff] at hx
  obtain ⟨q,hq,rfl⟩:=hx
  exact ih j q v hq hv (gM ho q (List.mem_of_getElem? hq))
 |wh _ h2 ih=>rw[V.ok] at ho;rw[V.ren];exact .wh (fun g=>ih g ho) h2
end
def HO.ren (ns:Nat→Nat):HO→HO
 | .obj t cs=>.obj t (je ns cs)
 |o=>o
def HO.within (d:Nat→Bool):HO→Bool
 | .obj _ cs=>okL d cs
 |_=>true
structure Objs (X:Cx) (κ:K) (w:World) (N:List Nat) (h:Nat→Option HO):Prop where
 ok:∀ n∈N,∃ o,h n=some o∧κ.D n∧ObjOk X κ w n o
 dis:∀ n∈N,∀ n'∈N,∀ b,n≠n'→b∈bl ⟨fun _=>none,h⟩ κ n→b ∉ bl ⟨fun _=>none,h⟩ κ n'
def MN (P:Program) (f:FuncId) (N:List Nat) (h:Nat→Option HO) (args:List V) (r:V) (h':Nat→Option HO):Prop:=bJ P f∧∀ (X:Cx) (vs:Array Value),
 Tb.T X.w0→(∀ b∈X.F,¬ Tb.G b)→X.S0=X.K0.S→(∀ n,X.K0.D n↔n∈N)→Objs X X.K0 X.w0 N h→(∀ g i,X.S0 g i→g<X.w0.heap.size)→RepVs X.K0 X.w0 args vs.toList→
 Calls P f vs X.w0 fun e w'=>∃ x κ',e= .returned x∧Keep X.F X.w0 w'∧Le X.K0 X.w0 κ' w'∧(∀ g i,κ'.S g i→g<X.w0.heap.size→X.S0 g i∨g∈X.R)∧(∀ g i,κ'.S g i→g<w'.heap.size)∧Objs X κ' w' N h'∧RepV κ' w' r x
def MQ (P:Program) (f:FuncId) (N:List Nat) (h:Nat→Option HO) (args:List V) (v:Value):Prop:=bJ P f∧∀ (X:Cx) (vs:Array Value),
 Tb.T X.w0→(∀ b∈X.F,¬ Tb.G b)→X.S0=X.K0.S→(∀ n,X.K0.D n↔n∈N)→Objs X X.K0 X.w0 N h→(∀ g i,X.S0 g i→g<X.w0.heap.size)→RepVs X.K0 X.w0 args vs.toList→
 Calls P f vs X.w0 fun e w'=>∃ κ',e= .panicked [{v:=v,recovered:=false}]∧Keep X.F X.w0 w'∧Le X.K0 X.w0 κ' w'∧(∀ g i,κ'.S g i→g<X.w0.heap.size→X.S0 g i∨g∈X.R)∧(∀ g i,κ'.S g i→g<w'.heap.size)
end Am
namespace Am
variable [Tb]
open Go.RowKit
inductive EvL (ρ:Operand→Option V):List Operand→List V→Prop
 |nil:EvL ρ [] []
 |cons {x:Operand} {v:V} {l:List Operand} {vs:List V}:Ev ρ x v→EvL ρ l vs→EvL ρ (x :: l) (v :: vs)
def gw (place:Nat→Option (Nat×Nat)) (cs:List C):List (Nat×List C)→Option (List C)
 |[]=>some cs
 |(i,ds) :: rest=>match place i with
  |none=>none
  |some (off,size)=>if ds.length=size then match aZ cs off ds with|some cs'=>gw place cs' rest|none=>none else none
inductive EvP (ρ:Operand→Option V):List (Nat×Operand)→List (Nat×List C)→Prop
 |nil:EvP ρ [] []
 |cons {i:Nat} {x:Operand} {v:V} {cs:List C} {l:List (Nat×Operand)} {vs:List (Nat×List C)}:Ev ρ x v→v.cells=some cs→EvP ρ l vs→EvP ρ ((i,x) :: l) ((i,cs) :: vs)
def places (P:Program) (t:TypeId):Option (Nat→Option (Nat×Nat)):=match P.underlying t with
 |some (.struct fs)=>if fs.all (fun f=>(P.info? f.type).isSome) then some fun i=>(fs[i]?).map fun f=>(f.offset,P.cellsOf f.type) else none
 |some (.array _ e)=>match P.info? e with|some q=>some fun i=>some (i*q.size,q.size)|none=>none
 |_=>none
def chunk (k:Nat):Nat→List C→List (List C)
 |0,_=>[]
 |n+1,cs=>cs.take k :: chunk k n (cs.drop k)
def sn1 (H:Nat→Option HO):C→C
 | .ptr n off=>match H n with|some (.obj _ cs)=>.ep (cs.drop off)|_=>.ptr n off
 |c=>c
def snC (H:Nat→Option HO):C→C
 | .fn f cs=>.fn f (cs.map (sn1 H))
 |c=>sn1 H c
def snV (H:Nat→Option HO):V→V
 | .c c=>.c (snC H c)
 |v=>v
def pt1:C→List Nat
 | .ptr n _=>[n]
 |_=>[]
def ptC:C→List Nat
 | .fn _ cs=>cs.flatMap pt1
 |c=>pt1 c
def ptV:V→List Nat
 | .c c=>ptC c
 |_=>[]
def scC:C→Bool
 | .sc _=>true
 |_=>false
def scO:V→Bool
 | .c c=>scC c
 | .agg cs=>cs.all scC
 | .tup l=>l.all fun v=>match v with| .c c=>scC c| .agg cs=>cs.all scC|_=>false
 | .wh _ _=>false
def St.wr (σ:St):List (Nat×HO)→St
 |[]=>σ
 |p :: l=>St.wr (σ.set p.1 p.2) l
inductive AS (P:Program) (ρ:Operand→Option V) (H:Nat→Option HO) (o:Oper):Eff→Prop
 |move {x:Operand} {v:V}:(o.op= .move x∨o.op= .assign x)→Ev ρ x v→AS P ρ H o ⟨v,[],[]⟩
 |still {v:V} {x:Value}:(∀ r:Operand→Value,(∀ y∈o.op.operands,∀ u z,Ev ρ y u→Cq u z→r y=z)→∀ w,(execOp r o).run P w= .ok (.value x) w)→((∀ y∈o.op.operands,∀ z,Ev ρ y (.c (.sc z))→jG z=true)→Conc v x)→AS P ρ H o ⟨v,[],[]⟩
 |view {v:V} {x:Value}:(∀ (κ:K) (w:World) (r:Operand→Value),(∀ y∈o.op.operands,∀ u,Ev ρ y u→RepV κ w u (r y))→(execOp r o).run P w= .ok (.value x) w)→Conc v x→AS P ρ H o ⟨v,[],[]⟩
 |nilCheck {x:Operand} {v:V}:o.op= .nilCheck x→Ev ρ x v→xd v=true→AS P ρ H o ⟨v,[],[]⟩
 |mkI {t:Nat} {x:Operand} {vs:List Value}:o.op= .makeInterface t x→Ev ρ x (.agg (vs.map C.sc))→(vs.all fun v=>match v with| .string _| .bool _| .int _ _=>true|_=>false)=true→(match P.underlying t with|some (.struct _)=>true|_=>false)=true→AS P ρ H o ⟨.c (.sc (.iface t (.agg vs.toArray))),[],[]⟩
 |pick {c a b:Operand} {t:Bool} {v:V}:o.op= .pick c a b→Ev ρ c (.c (.sc (.bool t)))→(t=true→Ev ρ a v)→(t=false→Ev ρ b v)→AS P ρ H o ⟨v,[],[]⟩
 |pickB {c a b:Operand} {t p q:Bool}:o.op= .pick c a b→Ev ρ c (.c (.sc (.bool t)))→(t=true→Ev ρ a (.c (.sc (.bool p))))→(t=false→Ev ρ b (.c (.sc (.bool q))))→AS P ρ H o ⟨.c (.sc (.bool (bif t then p else q))),[],[]⟩
 |alloc {ty t:Nat} {cs:List C}:o.op= .alloc ty→H t=none→Zw P ty cs→AS P ρ H o ⟨.c (.ptr t 0),[(t,.obj ty cs)],[t]⟩
 |box {ty t:Nat} {x:Operand} {v:V} {cs:List C}:o.op= .box ty x→H t=none→Ev ρ x v→v.cells=some cs→AS P ρ H o ⟨.c (.ptr t 0),[(t,.obj ty cs)],[t]⟩
 |load {ty n off ty0 k:Nat} {x:Operand} {cs:List C} {b:Bool} {v:V}:o.op= .load ty x→Ev ρ x (.c (.ptr n off))→H n=some (.obj ty0 cs)→tyi P ty=some (k,b)→aU b cs off k=some v→AS P ρ H o ⟨v,[],[n]⟩
 |loadE {ty k:Nat} {x:Operand} {cs:List C} {b:Bool} {v:V}:o.op= .load ty x→Ev ρ x (.c (.ep cs))→tyi P ty=some (k,b)→aU b cs 0 k=some v→AS P ρ H o ⟨v,[],[]⟩
 |store {ty n off ty0:Nat} {x y:Operand} {cs ds cs':List C} {b:Bool} {v:V}:o.op= .store ty x y→Ev ρ x (.c (.ptr n off))→H n=some (.obj ty0 cs)→Ev ρ y v→v.cells=some ds→tyi P ty=some (ds.length,b)→aZ cs off ds=some cs'→AS P ρ H o ⟨jP,[(n,.obj ty0 cs')],[n]⟩
 |fieldP {s f n off d ft e:Nat} {x:Operand}:o.op= .fieldAddr s x f→Ev ρ x (.c (.ptr n off))→fld P s f=some (d,ft)→off+d=e→AS P ρ H o ⟨.c (.ptr n e),[],[]⟩
 |fieldE {s f d ft:Nat} {x:Operand} {cs ds:List C}:o.op= .fieldAddr s x f→Ev ρ x (.c (.ep cs))→fld P s f=some (d,ft)→cs.drop d=ds→AS P ρ H o ⟨.c (.ep ds),[],[]⟩
 |field {xt f d ft k:Nat} {x:Operand} {cs:List C} {b:Bool} {v:V}:o.op= .field xt x f→Ev ρ x (.agg cs)→fld P xt f=some (d,ft)→tyi P ft=some (k,b)→aU b cs d k=some v→AS P ρ H o ⟨v,[],[]⟩
 |indexL {t e k j:Nat} {x i:Operand} {tg:Option Nat} {xs:List (List C)} {kd:IntKind} {z:Int} {cs:List C}:o.op= .indexAddr t x i→Ev ρ x (.c (.lst tg k xs))→Ev ρ i (.c (.sc (.int kd z)))→sle P t=some (e,k)→z=(j:Nat)→xs[j]? =some cs→AS P ρ H o ⟨.c (.ep cs),[],[]⟩
 |suf {t e k i j:Nat} {x:Operand} {lo hi:Option Operand} {tg:Option Nat} {xs ys:List (List C)}:o.op= .slice t x lo hi none→sle P t=some (e,k)→Ev ρ x (.c (.lst tg k xs))→(∀ y,lo=some y→Ev ρ y (.c (.sc (.int .i64 (i:Nat)))))→(lo=none→i=0)→(∀ y,hi=some y→Ev ρ y (.c (.sc (.int .i64 (j:Nat)))))→(hi=none→j=xs.length)→
  i≤j→j≤xs.length→(xs.drop i).take (j - i)=ys→AS P ρ H o ⟨.c (.lst none k ys),[],[]⟩
 |extract {x:Operand} {i:Nat} {l:List V} {v:V}:o.op= .extract x i→Ev ρ x (.tup l)→l[i]? =some v→AS P ρ H o ⟨v,[],[]⟩
 |lenL {x:Operand} {t e k:Nat} {tg:Option Nat} {xs:List (List C)}:o.op= .call {callee:=.builtin .len,args:=#[x],argTypes:=#[t]}→sle P t=some (e,k)→Ev ρ x (.c (.lst tg k xs))→AS P ρ H o ⟨.c (.sc (.int .i64 xs.length)),[],[]⟩
 |lenN {x:Operand} {t e k:Nat}:o.op= .call {callee:=.builtin .len,args:=#[x],argTypes:=#[t]}→sle P t=some (e,k)→Ev ρ x (.c .nil)→AS P ρ H o ⟨.c (.sc (.int .i64 0)),[],[]⟩
 |makeFunc {f:Nat} {caps:Array Operand} {vs:List V} {cs:List C}:o.op= .makeFunc (.func f) #[] caps→EvL ρ caps.toList vs→vs=cs.map V.c→AS P ρ H o ⟨.c (.fn f cs),[],[]⟩
 |build {t:Nat} {parts:Array (Nat×Operand)} {zs cs:List C} {ps:List (Nat×List C)} {pl:Nat→Option (Nat×Nat)}:o.op= .build t parts→Zw P t zs→places P t=some pl→EvP ρ parts.toList ps→gw pl zs ps=some cs→AS P ρ H o ⟨.agg cs,[],[]⟩
 |buildSlice {t e k n:Nat} {parts:Array (Nat×Operand)} {zs cs:List C} {ps:List (Nat×List C)}:o.op= .buildSlice t n parts→sle P t=some (e,k)→Zw P e zs→zs.length=k→0<k→n*k≤2 ^ 24→EvP ρ parts.toList ps→gw (fun i=>some (i*k,k)) ((List.replicate n zs).flatten) ps=some cs→AS P ρ H o ⟨.c (.lst none k (chunk k n cs)),[],[]⟩
 |buildRow {t d e k n:Nat} {parts:Array (Nat×Operand)} {zs cs:List C} {ps:List (Nat×List C)}:o.op= .buildSlice t n parts→o.dst=some d→H d=none→sle P t=some (e,k)→Zw P e zs→zs.length=k→0<k→n*k≤2 ^ 24→EvP ρ parts.toList ps→gw (fun i=>some (i*k,k)) ((List.replicate n zs).flatten) ps=some cs→
  AS P ρ H o ⟨.c (.lst (some d) k (chunk k n cs)),[(d,.row e k n)],[d]⟩
 |append {x y:Operand} {t e k τ m:Nat} {tg:Option Nat} {xs ys zs:List (List C)}:o.op= .call {callee:=.builtin .append,args:=#[x,y],argTypes:=#[t,t]}→sle P t=some (e,k)→0<k→Ev ρ x (.c (.lst (some τ) k xs))→H τ=some (.row e k m)→xs.length=m→(∃ l,Zw P e l∧l.length=k)→
  (Ev ρ y (.c (.lst tg k ys))∨(Ev ρ y (.c .nil)∧ys=[]))→xs++bV ys=zs→zs.length≤maxLen→zs.length*P.bytesOf e≤140737488355328→AS P ρ H o ⟨.c (.lst (some τ) k zs),[(τ,.row e k zs.length)],[τ]⟩
 |call {x:Operand} {args:Array Operand} {ats:Array TypeId} {f:Nat} {caps:List C} {vs us:List V} {r:V}:o.op= .call {callee:=.value x,args:=args,argTypes:=ats}→Ev ρ x (.c (.fn f caps))→EvL ρ args.toList vs→CvL (vs++caps.map V.c) us→okV noN us=true→Pure P f us r→AS P ρ H o ⟨r,[],[]⟩
 |callE {x:Operand} {args:Array Operand} {ats:Array TypeId} {f:Nat} {caps:List C} {vs us:List V} {r:V} {ns:List Nat}:o.op= .call {callee:=.value x,args:=args,argTypes:=ats}→Ev ρ x (.c (.fn f caps))→EvL ρ args.toList vs→(vs++caps.map V.c).flatMap ptV=ns→(vs++caps.map V.c).map (snV H)=us→okV noN us=true→Pure P f us r→scO r=true→AS P ρ H o ⟨r,[],ns⟩
 |callM {x:Operand} {args:Array Operand} {ats:Array TypeId} {f n:Nat} {caps:List C} {vs us:List V} {r:V} {ob ob':HO}:o.op= .call {callee:=.value x,args:=args,argTypes:=ats}→Ev ρ x (.c (.fn f caps))→EvL ρ args.toList vs→vs++caps.map V.c= .c (.ptr n 0) :: us→H n=some ob→ob.one=true→ob'.one=true→okV noN us=true→MC P f ob us r ob'→AS P ρ H o ⟨r,[(n,ob')],[n]⟩
 |callW {x:Operand} {args:Array Operand} {ats:Array TypeId} {f ty t:Nat} {caps:List C} {vs us:List V} {cs:List C}:o.op= .call {callee:=.value x,args:=args,argTypes:=ats}→Ev ρ x (.c (.fn f caps))→EvL ρ args.toList vs→CvL (vs++caps.map V.c) us→okV noN us=true→NewC P f us ty cs→H t=none→AS P ρ H o ⟨.c (.ptr t 0),[(t,.obj ty cs)],[t]⟩
 |allocB {ty e t:Nat}:o.op= .alloc ty→o.dst=some t→H t=none→Zb P ty→AS P ρ H o ⟨.c (.ptr t 0),[(t,.bld ty e [])],[t]⟩
 |callN {x:Operand} {args:Array Operand} {ats:Array TypeId} {f:Nat} {caps:List C} {vs us:List V} {r:V} {N:List Nat} {h h':Nat→Option HO} {ns inv:Nat→Nat} {L:List (Nat×HO)}:o.op= .call {callee:=.value x,args:=args,argTypes:=ats}→Ev ρ x (.c (.fn f caps))→EvL ρ args.toList vs→
  (∀ n∈N,inv (ns n)=n)→(∀ n∈N,n=0∨1000≤n)→okV (fun m=>N.contains (inv m)&&ns (inv m) == m) (vs++caps.map V.c)=true→jE inv (vs++caps.map V.c)=us→
  (∀ n∈N,∃ ob,H (ns n)=some ob∧ob.within (fun m=>N.contains (inv m)&&ns (inv m) == m)=true∧h n=some (ob.ren inv))→MN P f N h us r h'→
  (∀ p∈L,∃ n∈N,ns n=p.1)→(∀ n∈N,∃ ob,h' n=some ob∧ob.within (fun m=>N.contains m)=true∧∀ σ:St,(σ.wr L).hp (ns n)=some (ob.ren ns))→V.ok (fun m=>N.contains m) r=true→AS P ρ H o ⟨r.ren ns,L,N.map ns⟩
end Am
namespace Am
variable [Tb]
open Go.RowKit
theorem uE:∀ (l:List Value) (off i:Nat) (cs:Array Value),off+i+l.length≤cs.size→
 ((l.zipIdx i).foldl (fun cs (p:Value×Nat)=>cs.setIfInBounds (off+p.2) p.1) cs).toList=cs.toList.take (off+i)++l++cs.toList.drop (off+i+l.length)
 |[],off,i,cs,h=>by simp
 |v :: l,off,i,cs,h=>by
  rw[List.zipIdx_cons,List.foldl_cons,uE l off (i+1) _ (by simp at h ⊢;omega)]
  have hlt:off+i<cs.toList.length:=by simp at h ⊢;omega
  have e1:(cs.setIfInBounds (off+i) v).toList=cs.toList.set (off+i) v:=by simp
  simp only[e1]
  have e2:off+(i+1)=off+i+1:=by omega
  have e3:off+i+1+l.length=off+i+(v :: l).length:=by simp;omega
  rw[e2,e3]
  have e4:(cs.toList.set (off+i) v).take (off+i+1)=cs.toList.take (off+i)++[v]:=by
   rw[List.take_add_one,List.take_set_of_le (Nat.le_refl _),List.getElem?_set_self hlt];rfl
  have e5:(cs.toList.set (off+i) v).drop (off+i+(v :: l).length)=cs.toList.drop (off+i+(v :: l).length):=by
   rw[List.drop_set_of_lt (by simp)]
  rw[e4,e5]
  simp
theorem p8 (off:Nat):∀ (l:List (Value×Nat)) (cs:Array Value),(l.foldl (fun cs (p:Value×Nat)=>cs.setIfInBounds (off+p.2) p.1) cs).size=cs.size
 |[],_=>rfl
 |x :: l,cs=>by rw[List.foldl_cons,p8 off l];simp
section
variable {P:Program} {X:Cx} {σ:St} {a:Act} {w:World} {κ:K}
theorem Gm.evl (g:Gm X σ a w κ):∀ {l:List Operand} {vs:List V},EvL (evA σ.sl) l vs→RepVs κ w vs (l.map a.eval)
 |[],_,.nil=>.nil
 |_ :: _,_,.cons h hs=>.cons (g.ev h) (g.evl hs)
theorem Gm.fill (g:Gm X σ a w κ) {pl:Nat→Option (Nat×Nat)}:∀ {l:List (Nat×Operand)} {ps:List (Nat×List C)},EvP (evA σ.sl) l ps→∀ {cs cs':List C} {vs:Array Value},Reps κ w cs vs.toList→gw pl cs ps=some cs'→
 ∃ vs',Instr.fill pl vs (l.map fun(i,x)=>(i,a.eval x))=some vs'∧Reps κ w cs' vs'.toList∧vs'.size=vs.size
 |[],_,.nil,cs,cs',vs,hr,h=>by
  injection h with h
  subst h
  exact⟨vs,rfl,hr,rfl⟩
 |(i,x) :: l,(_,ds) :: ps,.cons hx hc hs,cs,cs',vs,hr,h=>by
  unfold gw at h
  cases hp:pl i with
  |none=>rw[hp] at h;cases h
  |some q=>
   obtain ⟨off,size⟩:=q
   rw[hp] at h
   simp only at h
   split at h
   ·rename_i hl
    cases hsv:aZ cs off ds with
    |none=>rw[hsv] at h;cases h
    |some c2=>
     rw[hsv] at h
     simp only at h
     unfold aZ at hsv
     split at hsv
     ·rename_i hle
      injection hsv with hsv
      have hd:=(g.ev hx).cells hc
      have hdl:(a.eval x).cells.size=ds.length:=by have:=hd.1;simp at this;omega
      have hvl:vs.size=cs.length:=by have:=hr.1;simp at this;omega
      have hf:=uE (a.eval x).cells.toList off 0 vs (by simp;omega)
      have hr2:Reps κ w c2 ((((a.eval x).cells.zipIdx.foldl (fun cs (p:Value×Nat)=>cs.setIfInBounds (off+p.2) p.1) vs)).toList):=by
       have e:(a.eval x).cells.zipIdx.foldl (fun cs (p:Value×Nat)=>cs.setIfInBounds (off+p.2) p.1) vs=((a.eval x).cells.toList.zipIdx 0).foldl (fun cs (p:Value×Nat)=>cs.setIfInBounds (off+p.2) p.1) vs:=by
        rw[← Array.foldl_toList]
        simp
       rw[e,hf,←hsv]
       have hlen:(a.eval x).cells.toList.length=ds.length:=by simpa using hdl
       rw[hlen]
       exact((hr.take _).append hd).append (hr.drop _)
      obtain ⟨vs',h1,h2,h3⟩:=g.fill hs hr2 h
      refine⟨vs',?_,h2,?_⟩
      ·rw[List.map_cons]
       unfold Instr.fill
       simp only[hp]
       have:((a.eval x).cells.size != size || decide (off+(a.eval x).cells.size > vs.size))=false:=by
        simp
        omega
       rw[if_neg (by simp;omega)]
       exact h1
      ·rw[h3]
       rw[← Array.foldl_toList]
       exact p8 _ _ _
     ·cases hsv
   ·cases h
end
end Am
namespace Am
variable [Tb]
open Go.RowKit
section
variable {P:Program} {X:Cx} {σ:St} {a:Act} {w w':World} {κ:K} {o:Oper} {Q:Exit→Act→World→Prop} {N:Act→World→Prop}
theorem jI {v:Value} (h:(execOp a.eval o).run P w= .ok (.value v) w') (hk:N (a.put o.dst v) w'):o.wp P a w N Q:=by
 unfold Oper.wp;rw[h];exact hk
theorem Gm.quiet (g:Gm X σ a w κ) (hd:∀ t,o.dst=some t→t<X.nt) {v:V} {x:Value} (hr:RepV κ w v x) (h:(execOp a.eval o).run P w= .ok (.value x) w) (hN:∀ a' w' κ',Gm X (σ.put o.dst v) a' w' κ'→N a' w'):o.wp P a w N Q:=
 jI h (hN _ _ _ (g.put hr hd))
theorem zX {v:V} {x:Value} (hp:xd v=true) (h:RepV κ w v x):x≠.pointer none∧x≠.nilIface∧x≠.nilFunc∧∀ n y z,x≠.func (.method n) y z:=by
 cases h with
 |c h=>cases h <;> first|(simp[xd] at hp;done)|(refine⟨?_,?_,?_,?_⟩ <;> intros <;> simp)
 |_=>simp[xd] at hp
theorem Gm.nilCheck (g:Gm X σ a w κ) {x:Operand} {v:V} (ho:o.op= .nilCheck x) (hx:Ev (evA σ.sl) x v) (hp:xd v=true) (hd:∀ t,o.dst=some t→t<X.nt) (hN:∀ a' w' κ',Gm X (σ.put o.dst v) a' w' κ'→N a' w'):o.wp P a w N Q:=by
 have hr:=g.ev hx
 obtain ⟨h1,h2,h3,h4⟩:=zX hp hr
 refine g.quiet hd hr ?_ hN
 unfold execOp
 simp only[ho]
 simp
theorem Gm.loadS (g:Gm X σ a w κ) {ty n off ty0 k:Nat} {x:Operand} {cs:List C} {b:Bool} {v:V} (ho:o.op= .load ty x) (hx:Ev (evA σ.sl) x (.c (.ptr n off))) (hh:σ.hp n=some (.obj ty0 cs)) (ht:tyi P ty=some (k,b)) (hc:aU b cs off k=some v)
 (hd:∀ t,o.dst=some t→t<X.nt) (hN:∀ a' w' κ',Gm X (σ.put o.dst v) a' w' κ'→N a' w'):o.wp P a w N Q:=by
 have hp:=g.ev hx
 obtain ⟨_,vs,h1,h2,_,_⟩:=g.hp n _ hh
 obtain ⟨y,hy,hy1,hy2⟩:=og h2 hc
 have he:a.eval x= .pointer (some ⟨κ.μ n,off,none⟩):=by
  cases hp with|c hp=>generalize a.eval x=z at hp;cases hp;rfl
 refine g.quiet hd hy ?_ hN
 unfold execOp
 simp only[ho,he]
 have:=run_load (P:=P) (w:=w) (g:=κ.μ n) (off:=off) ht (fun j u hu=>by rw[h1.cell];simpa using hu) hy1 hy2
 simp[this]
theorem Gm.loadE (g:Gm X σ a w κ) {ty k:Nat} {x:Operand} {cs:List C} {b:Bool} {v:V} (ho:o.op= .load ty x) (hx:Ev (evA σ.sl) x (.c (.ep cs))) (ht:tyi P ty=some (k,b)) (hc:aU b cs 0 k=some v)
 (hd:∀ t,o.dst=some t→t<X.nt) (hN:∀ a' w' κ',Gm X (σ.put o.dst v) a' w' κ'→N a' w'):o.wp P a w N Q:=by
 have hp:=g.ev hx
 cases hp with
 |c hp=>
  generalize he:a.eval x=z at hp
  cases hp with
  |ep cv h1 h2=>
   rename_i gb go
   have hrs:Reps κ w cs ((List.range cs.length).map cv):=⟨by simp,fun j c u hcj hu=>by
    have hj:=(List.getElem?_eq_some_iff.1 hcj).1
    rw[List.getElem?_map,List.getElem?_range hj] at hu
    injection hu with hu
    subst hu
    exact h2 j c hcj⟩
   obtain ⟨y,hy,hy1,hy2⟩:=og hrs hc
   refine g.quiet hd hy ?_ hN
   unfold execOp
   simp only[ho,he]
   obtain ⟨i,d,hi,hu,hk,hdd⟩:=kp ht
   have hagg:(isAgg ty).run P w= .ok b w:=by
    unfold isAgg
    rw[Sem.run_bind,run_underlying hu w]
    cases d <;> simp_all[pf]
   cases b with
   |true=>
    obtain ⟨rfl,hl⟩:=hy1 rfl
    have hl':k≤cs.length:=by simpa using hl
    have:=run_loadCells_list (P:=P) w ⟨gb,go,none⟩ ((((List.range cs.length).map cv).drop 0).take k) (fun j u hu=>by
     rw[we]
     rw[List.drop_zero,List.getElem?_take] at hu
     split at hu
     ·rename_i hjk
      rw[List.getElem?_map,List.getElem?_range (by omega)] at hu
      injection hu with hu
      subst hu
      exact(h1 j (by omega)).2
     ·cases hu)
    have hlc:((((List.range cs.length).map cv).drop 0).take k).length=k:=by simp;omega
    rw[hlc] at this
    simp only[Instr.loadAt,Instr.sureAddr,loadVar,Sem.run_bind,Sem.run_pure,Result.andThen_ok,hagg,if_true,sizeOf,typeInfo,Go.program]
    simp[hi,hk,Sem.run] at this ⊢
    simp[hi,hk,this]
   |false=>
    have hx0:=hy2 rfl
    have h0:0<cs.length:=by
     rcases Nat.eq_zero_or_pos cs.length with h|h
     ·rw[h] at hx0;cases hx0
     ·exact h
    rw[List.getElem?_map,List.getElem?_range h0] at hx0
    injection hx0 with hx0
    have:=(h1 0 h0).2
    rw[Nat.add_zero,hx0] at this
    simp[Instr.loadAt,Instr.sureAddr,loadVar,hagg,Go.load,Sem.run,this]
theorem Gm.fieldP (g:Gm X σ a w κ) {s f n off d ft e:Nat} {x:Operand} (ho:o.op= .fieldAddr s x f) (hx:Ev (evA σ.sl) x (.c (.ptr n off))) (hf:fld P s f=some (d,ft)) (he:off+d=e)
 (hd:∀ t,o.dst=some t→t<X.nt) (hN:∀ a' w' κ',Gm X (σ.put o.dst (.c (.ptr n e))) a' w' κ'→N a' w'):o.wp P a w N Q:=by
 have hp:=g.ev hx
 cases hp with
 |c hp=>
  generalize he':a.eval x=z at hp
  cases hp with
  |ptr hD=>
   subst he
   refine g.quiet hd (.c (.ptr hD)) ?_ hN
   unfold execOp
   simp only[ho,he']
   simp[nM hf]
theorem Gm.fieldE (g:Gm X σ a w κ) {s f d ft:Nat} {x:Operand} {cs ds:List C} (ho:o.op= .fieldAddr s x f) (hx:Ev (evA σ.sl) x (.c (.ep cs))) (hf:fld P s f=some (d,ft)) (he:cs.drop d=ds)
 (hd:∀ t,o.dst=some t→t<X.nt) (hN:∀ a' w' κ',Gm X (σ.put o.dst (.c (.ep ds))) a' w' κ'→N a' w'):o.wp P a w N Q:=by
 have hp:=g.ev hx
 cases hp with
 |c hp=>
  generalize he':a.eval x=z at hp
  cases hp with
  |ep cv h1 h2=>
   rename_i gb go
   subst he
   have:Rep κ w (.ep (cs.drop d)) (.pointer (some ⟨gb,go+d,none⟩)):=.ep (fun j=>cv (d+j)) (fun j hj=>by
    rw[List.length_drop] at hj
    have:=h1 (d+j) (by omega)
    rw[Nat.add_assoc];exact this) fun j c hc=>h2 _ c (by rw[List.getElem?_drop] at hc;exact hc)
   refine g.quiet hd (.c this) ?_ hN
   unfold execOp
   simp only[ho,he']
   simp[nM hf]
theorem Gm.field (g:Gm X σ a w κ) {xt f d ft k:Nat} {x:Operand} {cs:List C} {b:Bool} {v:V} (ho:o.op= .field xt x f) (hx:Ev (evA σ.sl) x (.agg cs)) (hf:fld P xt f=some (d,ft)) (ht:tyi P ft=some (k,b)) (hc:aU b cs d k=some v)
 (hd:∀ t,o.dst=some t→t<X.nt) (hN:∀ a' w' κ',Gm X (σ.put o.dst v) a' w' κ'→N a' w'):o.wp P a w N Q:=by
 have hp:=g.ev hx
 generalize he:a.eval x=z at hp
 cases hp with
 |agg hr=>
  rename_i vs
  obtain ⟨y,hy,hy1,hy2⟩:=og hr hc
  refine g.quiet hd hy ?_ hN
  unfold execOp
  simp only[ho,he]
  have:=An (P:=P) (w:=w) hf ht hy1 hy2
  simp at this
  simp[this]
theorem Gm.indexL (g:Gm X σ a w κ) {t e k j:Nat} {x i:Operand} {tg:Option Nat} {xs:List (List C)} {kd:IntKind} {z:Int} {cs:List C} (ho:o.op= .indexAddr t x i) (hx:Ev (evA σ.sl) x (.c (.lst tg k xs))) (hi:Ev (evA σ.sl) i (.c (.sc (.int kd z))))
 (ht:sle P t=some (e,k)) (hz:z=(j:Nat)) (hj:xs[j]? =some cs) (hd:∀ t,o.dst=some t→t<X.nt) (hN:∀ a' w' κ',Gm X (σ.put o.dst (.c (.ep cs))) a' w' κ'→N a' w'):o.wp P a w N Q:=by
 have hp:=g.ev hx
 have hq:=g.ev hi
 have hie:a.eval i= .int kd (j:Nat):=by
  cases hq with|c hq=>generalize a.eval i=y at hq;cases hq;rw[hz]
 have hjl:=(List.getElem?_eq_some_iff.1 hj).1
 cases hp with
 |c hp=>
  generalize he':a.eval x=y at hp
  cases hp with
  |lst cv hn hk h1 h2 hr hc htt=>
   rcases hr with hr|⟨gb,go,rfl,hr⟩
   ·omega
   ·have hlen:=hk cs (List.mem_of_getElem? hj)
    have:Rep κ w (.ep cs) (.pointer (some ⟨gb,go+j*k,none⟩)):=.ep (fun q=>cv j q) (fun q hq'=>hr j q hjl (by omega)) fun q c hcq=>hc j q cs c hj hcq
    refine g.quiet hd (.c this) ?_ hN
    unfold execOp
    simp only[ho,he',hie]
    rename_i n cap
    simp[vt (P:=P) (w:=w) (g:=gb) (o:=go) (n:=n) (cap:=cap) (kd:=kd) ht (show j<n by omega)]
theorem Gm.extract (g:Gm X σ a w κ) {x:Operand} {i:Nat} {l:List V} {v:V} (ho:o.op= .extract x i) (hx:Ev (evA σ.sl) x (.tup l)) (hl:l[i]? =some v) (hd:∀ t,o.dst=some t→t<X.nt) (hN:∀ a' w' κ',Gm X (σ.put o.dst v) a' w' κ'→N a' w'):o.wp P a w N Q:=by
 have hp:=g.ev hx
 generalize he:a.eval x=z at hp
 cases hp with
 |tup hn hr=>
  rename_i vs
  have hi:=(List.getElem?_eq_some_iff.1 hl).1
  have hv:vs[i]? =some vs[i]:=Array.getElem?_eq_getElem (by omega)
  refine g.quiet hd (hr i v _ hl hv) ?_ hN
  unfold execOp
  simp only[ho,he]
  simp[Instr.extract,hv]
theorem kn {t e k:Nat} (h:sle P t=some (e,k)):∃ i,P.underlying t=some (.slice e)∧P.info? e=some i∧i.size=k:=by
 unfold sle at h
 split at h
 ·rename_i e' hu
  cases hq:P.info? e' with
  |none=>rw[hq] at h;cases h
  |some inf=>
   rw[hq] at h
   injection h with h
   injection h with h1 h2
   subst h1
   exact⟨inf,hu,hq,h2⟩
 ·cases h
theorem Gm.lenL (g:Gm X σ a w κ) {x:Operand} {t e k:Nat} {tg:Option Nat} {xs:List (List C)} (ho:o.op= .call {callee:=.builtin .len,args:=#[x],argTypes:=#[t]}) (ht:sle P t=some (e,k)) (hx:Ev (evA σ.sl) x (.c (.lst tg k xs)))
 (hd:∀ t,o.dst=some t→t<X.nt) (hN:∀ a' w' κ',Gm X (σ.put o.dst (.c (.sc (.int .i64 xs.length)))) a' w' κ'→N a' w'):o.wp P a w N Q:=by
 have hp:=g.ev hx
 obtain ⟨inf,hu,_,_⟩:=kn ht
 cases hp with
 |c hp=>
  generalize he':a.eval x=y at hp
  cases hp with
  |lst cv hn hk h1 h2 hr hc htt=>
   refine g.quiet hd (.c (.sc rfl)) ?_ hN
   unfold execOp
   simp only[ho,resolve,invoke,builtin]
   simp[he',Builtin.len_,run_underlying hu,goInt,hn]
theorem Gm.lenN (g:Gm X σ a w κ) {x:Operand} {t e k:Nat} (ho:o.op= .call {callee:=.builtin .len,args:=#[x],argTypes:=#[t]}) (ht:sle P t=some (e,k)) (hx:Ev (evA σ.sl) x (.c .nil))
 (hd:∀ t,o.dst=some t→t<X.nt) (hN:∀ a' w' κ',Gm X (σ.put o.dst (.c (.sc (.int .i64 0)))) a' w' κ'→N a' w'):o.wp P a w N Q:=by
 have hp:=g.ev hx
 obtain ⟨inf,hu,_,_⟩:=kn ht
 cases hp with
 |c hp=>
  generalize he':a.eval x=y at hp
  cases hp with
  |nil=>
   refine g.quiet hd (.c (.sc rfl)) ?_ hN
   unfold execOp
   simp only[ho,resolve,invoke,builtin]
   simp[he',Builtin.len_,run_underlying hu,goInt]
theorem Gm.makeFunc (g:Gm X σ a w κ) {f:Nat} {caps:Array Operand} {vs:List V} {cs:List C} (ho:o.op= .makeFunc (.func f) #[] caps) (hv:EvL (evA σ.sl) caps.toList vs) (hc:vs=cs.map V.c)
 (hd:∀ t,o.dst=some t→t<X.nt) (hN:∀ a' w' κ',Gm X (σ.put o.dst (.c (.fn f cs))) a' w' κ'→N a' w'):o.wp P a w N Q:=by
 have hp:=g.evl hv
 subst hc
 have hsz:caps.size=cs.length:=by have:=hp.1;simp at this;omega
 have:Rep κ w (.fn f cs) (.func (.func f) #[] (caps.map a.eval)):=.fn (fun j=>(caps.map a.eval).getD j default) (by simp[hsz]) (fun j hj=>by simp[hsz,hj]) fun j c hcj=>by
  have hj:=(List.getElem?_eq_some_iff.1 hcj).1
  have h1:=hp.2 j (.c c) ((caps.map a.eval).getD j default) (by rw[List.getElem?_map,hcj];rfl) (by simp[hsz,hj])
  cases h1 with|c h1=>exact h1
 refine g.quiet hd (.c this) ?_ hN
 unfold execOp
 simp only[ho]
 simp[Instr.makeFunc]
theorem Gm.buildS (g:Gm X σ a w κ) {t:Nat} {parts:Array (Nat×Operand)} {zs cs:List C} {ps:List (Nat×List C)} {pl:Nat→Option (Nat×Nat)} (ho:o.op= .build t parts) (hz:Zw P t zs) (hpl:places P t=some pl) (hv:EvP (evA σ.sl) parts.toList ps) (hf:gw pl zs ps=some cs)
 (hd:∀ t,o.dst=some t→t<X.nt) (hN:∀ a' w' κ',Gm X (σ.put o.dst (.agg cs)) a' w' κ'→N a' w'):o.wp P a w N Q:=by
 obtain ⟨inf,z,hi,hzz,hzr⟩:=hz
 obtain ⟨vs',h1,h2,h3⟩:=g.fill (vs:=z.cells) hv (hzr κ w) hf
 refine g.quiet hd (x:=.agg vs') (.agg h2) ?_ hN
 have h1':Instr.fill pl z.cells (parts.toList.map fun x=>(x.fst,a.eval x.snd))=some vs':=h1
 unfold execOp
 simp only[ho]
 unfold places at hpl
 split at hpl
 ·rename_i fs hu
  split at hpl
  ·rename_i hall
   injection hpl with hpl
   have key:∀ l:List Field,(∀ f∈l,(P.info? f.type).isSome=true)→(l.mapM (m:=Sem) fun f=>Prod.mk f.offset <$> sizeOf f.type).run P w= .ok (l.map fun f=>(f.offset,P.cellsOf f.type)) w:=by
    intro l
    induction l with
    |nil=>intro _;simp
    |cons f l ih=>
     intro hl
     have hf:=hl f (.head _)
     cases hq:P.info? f.type with
     |none=>rw[hq] at hf;cases hf
     |some q=>
      have:=ih fun f' h'=>hl f' (.tail _ h')
      simp[List.mapM_cons,sizeOf,typeInfo,hq,Program.cellsOf] at this ⊢
      simp[this]
   have hm:(fs.mapM (m:=Sem) fun f=>Prod.mk f.offset <$> sizeOf f.type).run P w= .ok (fs.map fun f=>(f.offset,P.cellsOf f.type)) w:=by
    have:=key fs.toList fun f hf=>Array.all_eq_true_iff_forall_mem.1 hall f (by simpa using hf)
    rw[← Array.toArray_toList (xs:=fs),List.mapM_toArray]
    simp[this]
    rw[← Array.toList_map]
   have e:(fun i=>(fs.map fun f=>(f.offset,P.cellsOf f.type))[i]?)=pl:=by
    rw[← hpl];funext i;simp
   simp only[Instr.build,zeroValue,typeInfo,Sem.run_bind,Sem.run_pure,Result.andThen_ok,Go.program,Sem.run,hi,hzz,run_underlying hu]
   simp[hm,hpl,h1',hi,hzz,run_underlying hu]
  ·cases hpl
 ·rename_i n el hu
  cases hq:P.info? el with
  |none=>rw[hq] at hpl;cases hpl
  |some q=>
   rw[hq] at hpl
   injection hpl with hpl
   subst hpl
   simp only[Instr.build,zeroValue,typeInfo,sizeOf,Sem.run_bind,Sem.run_pure,Result.andThen_ok,Go.program,Sem.run,hi,hzz,run_underlying hu]
   simp[h1',hi,hzz,hq,run_underlying hu]
 ·cases hpl
end
end Am
namespace Am
variable [Tb]
open Go.RowKit
theorem la (k:Nat):∀ (n:Nat) (cs:List C),cs.length=n*k→(∀ x∈chunk k n cs,x.length=k)∧(chunk k n cs).length=n∧(chunk k n cs).flatten=cs
 |0,cs,h=>⟨fun x hx=>(by cases hx),rfl,(List.eq_nil_of_length_eq_zero (by simpa using h)).symm⟩
 |n+1,cs,h=>by
  rw[Nat.succ_mul] at h
  obtain ⟨h1,h2,h3⟩:=la k n (cs.drop k) (by rw[List.length_drop];omega)
  refine⟨fun x hx=>?_,by simp[chunk,h2],by simp[chunk,h3]⟩
  rcases List.mem_cons.1 hx with rfl|hx
  ·rw[List.length_take];omega
  ·exact h1 x hx
theorem zc {α:Type} (zs:List α):∀ (n i:Nat) (c:α),((List.replicate n zs).flatten)[i]? =some c→zs[i % zs.length]? =some c
 |0,i,c,h=>by simp at h
 |n+1,i,c,h=>by
  rw[List.replicate_succ,List.flatten_cons] at h
  rcases Nat.lt_or_ge i zs.length with hi|hi
  ·rw[List.getElem?_append_left hi] at h
   rw[Nat.mod_eq_of_lt hi];exact h
  ·rw[List.getElem?_append_right hi] at h
   have:=zc zs n _ c h
   rwa [← Nat.mod_eq_sub_mod hi] at this
theorem gK {S:Nat→Nat→Prop} {κ':K} {w:World} (h:∀ g i,S g i→κ'.S g i):Le (cz S) w κ' w:=⟨fun _ hn=>False.elim hn,fun g i hs _=>⟨h g i hs,rfl⟩,fun _ hn=>False.elim hn⟩
section
variable {P:Program} {X:Cx} {σ:St} {a:Act} {w w':World} {κ:K} {o:Oper} {Q:Exit→Act→World→Prop} {N:Act→World→Prop}
theorem Gm.newS (g:Gm X σ a w κ) {ty t:Nat} {v:Value} {cs:List C} (hr:Reps κ w cs v.cells.toList) (he:(execOp a.eval o).run P w= .ok (.value (.pointer (some ⟨w.heap.size,0,none⟩))) (w.alloc (.cells v.cells ty))) (ht:σ.hp t=none)
 (hd:∀ t,o.dst=some t→t<X.nt) (hN:∀ a' w' κ',Gm X ((σ.set t (.obj ty cs)).put o.dst (.c (.ptr t 0))) a' w' κ'→N a' w'):o.wp P a w N Q:=by
 obtain ⟨κ',g',_,hD,hμ⟩:=g.new ht (ty:=ty) hr
 exact jI he (hN _ _ _ (g'.put (.c (by rw[← hμ];exact .ptr hD)) hd))
theorem Gm.allocS (g:Gm X σ a w κ) {ty t:Nat} {cs:List C} (ho:o.op= .alloc ty) (ht:σ.hp t=none) (hz:Zw P ty cs)
 (hd:∀ t,o.dst=some t→t<X.nt) (hN:∀ a' w' κ',Gm X ((σ.set t (.obj ty cs)).put o.dst (.c (.ptr t 0))) a' w' κ'→N a' w'):o.wp P a w N Q:=by
 obtain ⟨i,z,h1,h2,h3⟩:=hz
 refine g.newS (v:=z) (h3 κ w) ?_ ht hd hN
 unfold execOp
 simp only[ho]
 simp[Instr.alloc,zeroValue,typeInfo,h1,h2,newVar,newRow]
theorem Gm.boxS (g:Gm X σ a w κ) {ty t:Nat} {x:Operand} {v:V} {cs:List C} (ho:o.op= .box ty x) (ht:σ.hp t=none) (hx:Ev (evA σ.sl) x v) (hc:v.cells=some cs)
 (hd:∀ t,o.dst=some t→t<X.nt) (hN:∀ a' w' κ',Gm X ((σ.set t (.obj ty cs)).put o.dst (.c (.ptr t 0))) a' w' κ'→N a' w'):o.wp P a w N Q:=by
 refine g.newS (v:=a.eval x) ((g.ev hx).cells hc) ?_ ht hd hN
 unfold execOp
 simp only[ho]
 simp[Instr.box,newVar,newRow]
theorem DH {cs ds cs':List C} {vs us:List Value} {off:Nat} (h:Reps κ w cs vs) (hd:Reps κ w ds us) (hs:aZ cs off ds=some cs'):Reps κ w cs' (vs.take off++us++vs.drop (off+us.length))∧off+us.length≤vs.length:=by
 unfold aZ at hs
 split at hs
 ·rename_i hl
  injection hs with hs
  subst hs
  rw[← hd.1,←h.1]
  exact⟨((h.take _).append hd).append (h.drop _),hl⟩
 ·cases hs
theorem Gm.storeS (g:Gm X σ a w κ) {ty n off ty0:Nat} {x y:Operand} {cs ds cs':List C} {b:Bool} {v:V} (ho:o.op= .store ty x y) (hx:Ev (evA σ.sl) x (.c (.ptr n off))) (hh:σ.hp n=some (.obj ty0 cs)) (hy:Ev (evA σ.sl) y v) (hc:v.cells=some ds)
 (ht:tyi P ty=some (ds.length,b)) (hs:aZ cs off ds=some cs') (hd:∀ t,o.dst=some t→t<X.nt) (hN:∀ a' w' κ',Gm X ((σ.set n (.obj ty0 cs')).put o.dst jP) a' w' κ'→N a' w'):o.wp P a w N Q:=by
 have hp:=g.ev hx
 obtain ⟨_,vs,h1,h2,_,_⟩:=g.hp n _ hh
 have hds:=(g.ev hy).cells hc
 obtain ⟨hr,hle⟩:=DH h2 hds hs
 obtain ⟨i,d,hi,hu,hk,_⟩:=kp ht
 have he:a.eval x= .pointer (some ⟨κ.μ n,off,none⟩):=by
  cases hp with|c hp=>generalize a.eval x=z at hp;cases hp;rfl
 have hrun:=run_storeCells_at (P:=P) (κ.μ n) off ty0 (a.eval y).cells.toList 0 vs w h1 (by simpa using hle) hds.one
 simp only[Nat.add_zero,Array.length_toList] at hrun
 let vs':Array Value:=(vs.toList.take off++(a.eval y).cells.toList++vs.toList.drop (off+(a.eval y).cells.size)).toArray
 have hsz:(a.eval y).cells.size=i.size:=by have:=hds.1;simp at this;omega
 have hst:(Instr.storeAt ty (.pointer (some ⟨κ.μ n,off,none⟩)) (a.eval y)).run P w= .ok () (w.setRow (κ.μ n) vs'):=by
  simp[Instr.storeAt,Instr.sureAddr,storeVar,sizeOf,typeInfo,hi,hsz,hrun,vs']
 have hw:=setRow_heap w (κ.μ n) vs vs' ty0 (0,0) h1
 have hb:But (κ.μ n) w (w.setRow (κ.μ n) vs'):=⟨rfl,rfl,rfl,by simp[World.setRow],fun k hk hn=>by simp[World.setRow,Array.getElem?_modify,Ne.symm hn]⟩
 have g':=g.store hh hw hb (cs':=cs') (by simpa [vs'] using hr)
 unfold Oper.wp execOp
 simp only[ho,he,Sem.run_bind,hst,Result.andThen_ok,Sem.run_pure,Oper.upon_skip]
 exact hN _ _ _ (g'.put (.wh (fun e=>by cases e) fun _=>rfl) hd)
theorem EW {zs:List C} {z:Value} {k n:Nat} (h:Reps κ w zs z.cells.toList) (hk:zs.length=k) (h0:0<k):Reps κ w ((List.replicate n zs).flatten) ((Array.range (n*k)).map fun i=>z.cells[i % z.cells.size]!).toList:=by
 have hz:z.cells.size=k:=by have:=h.1;simp at this;omega
 refine⟨by simp[hk],fun j c v hc hv=>?_⟩
 have h1:=zc zs n j c hc
 simp only[Array.toList_map,Array.toList_range,List.getElem?_map] at hv
 have hj:j<n*k:=by
  have:=(List.getElem?_eq_some_iff.1 hc).1
  simpa [hk] using this
 rw[List.getElem?_range hj] at hv
 injection hv with hv
 have hm:j % k<k:=Nat.mod_lt _ h0
 rw[hz] at hv
 refine h.2 (j % k) c v (by rw[← hk];exact h1) ?_
 rw[← hv]
 have:j % k<z.cells.size:=by omega
 simp[this]
theorem Gm.rowCells (g:Gm X σ a w κ) {t e k n:Nat} {parts:Array (Nat×Operand)} {zs cs:List C} {ps:List (Nat×List C)} (ho:o.op= .buildSlice t n parts) (ht:sle P t=some (e,k)) (hz:Zw P e zs) (hk:zs.length=k) (h0:0<k) (hn:n*k≤2 ^ 24)
 (hv:EvP (evA σ.sl) parts.toList ps) (hf:gw (fun i=>some (i*k,k)) ((List.replicate n zs).flatten) ps=some cs) :
 ∃ cur,(execOp a.eval o).run P w= .ok (.value (.slice (some ⟨w.heap.size,0,none⟩) n n)) (w.alloc (.cells cur e))∧Reps κ w cs cur.toList∧cur.size=n*k:=by
 obtain ⟨inf,hu,hi,hs⟩:=kn ht
 obtain ⟨i2,z,h1,h2,h3⟩:=hz
 have:i2=inf:=by rw[hi] at h1;injection h1 with h1;exact h1.symm
 subst this
 have hzr:Reps κ w zs z.cells.toList:=h3 κ w
 obtain ⟨cur,f1,f2,f3⟩:=g.fill (vs:=(Array.range (n*k)).map fun i=>z.cells[i % z.cells.size]!) hv (EW (n:=n) hzr hk h0) hf
 refine⟨cur,?_,f2,by rw[f3];simp⟩
 have f1':Instr.fill (fun i=>some (i*k,k)) ((Array.range (n*k)).map fun i=>z.cells[i % z.cells.size]!) (parts.toList.map fun x=>(x.fst,a.eval x.snd))=some cur:=f1
 have hn':¬ (2 ^ 24<n*k):=by omega
 unfold execOp
 simp only[ho]
 by_cases hz0:n*k=0
 ·simp only[Instr.buildSlice,Sem.run_bind,run_underlying hu,Result.andThen_ok,sizeOf,typeInfo,Go.program]
  simp only[hz0] at f1'
  have e0:(Array.range 0).map (fun i=>z.cells[i % z.cells.size]!)= #[]:=by simp
  rw[e0] at f1'
  have e1:Array.map (fun _=>(default:Value)) (Array.range 0)= #[]:=by simp
  simp[Sem.run,hi,hs,hz0,e1,f1',newRow]
 ·simp only[Instr.buildSlice,Sem.run_bind,run_underlying hu,Result.andThen_ok,sizeOf,typeInfo,Go.program]
  simp[Sem.run,hi,hs,hz0,hn',zeroValue,typeInfo,h2,f1',newRow]
theorem Gm.sliceS (g:Gm X σ a w κ) {t e k n:Nat} {parts:Array (Nat×Operand)} {zs cs:List C} {ps:List (Nat×List C)} (ho:o.op= .buildSlice t n parts) (ht:sle P t=some (e,k)) (hz:Zw P e zs) (hk:zs.length=k) (h0:0<k) (hn:n*k≤2 ^ 24)
 (hv:EvP (evA σ.sl) parts.toList ps) (hf:gw (fun i=>some (i*k,k)) ((List.replicate n zs).flatten) ps=some cs) (hd:∀ t,o.dst=some t→t<X.nt) (hN:∀ a' w' κ',Gm X (σ.put o.dst (.c (.lst none k (chunk k n cs)))) a' w' κ'→N a' w'):o.wp P a w N Q:=by
 obtain ⟨cur,he,hr,hsz⟩:=g.rowCells ho ht hz hk h0 hn hv hf
 obtain ⟨c1,c2,c3⟩:=la k n cs (by have:=hr.1;simp at this;omega)
 obtain ⟨g',l⟩:=g.grow (Keep.alloc w (.cells cur e)) (κ':={κ with S:=fun g i=>κ.S g i∨(w.heap.size≤g∧g<(w.alloc (.cells cur e)).heap.size)}) rfl rfl rfl rfl fun _ _=>Iff.rfl
 refine jI he (hN _ _ _ (g'.put (.c ?_) hd))
 have hb:=Blk.fresh w e cur
 have hmax:n≤maxLen:=by
  have:n≤n*k:=Nat.le_mul_of_pos_right _ h0
  have:(2:Nat) ^ 24≤maxLen:=by decide
  omega
 have:=tm (t:=none) (xs:=chunk k n cs) (κ:={κ with S:=fun g i=>κ.S g i∨(w.heap.size≤g∧g<(w.alloc (.cells cur e)).heap.size)}) hb c1 (fun i _=>.inr ⟨Nat.le_refl _,hb.lt⟩) (by rw[c3,c2,List.take_of_length_le (by simp[hsz])];exact hr.mono l) (cap:=n) hsz (by rw[c2];exact Nat.le_refl _) hmax (fun τ e=>by cases e)
 rw[c2] at this
 exact this
theorem Gm.rowS (g:Gm X σ a w κ) {t d e k n:Nat} {parts:Array (Nat×Operand)} {zs cs:List C} {ps:List (Nat×List C)} (ho:o.op= .buildSlice t n parts) (hdn:σ.hp d=none) (ht:sle P t=some (e,k)) (hz:Zw P e zs) (hk:zs.length=k) (h0:0<k) (hn:n*k≤2 ^ 24)
 (hv:EvP (evA σ.sl) parts.toList ps) (hf:gw (fun i=>some (i*k,k)) ((List.replicate n zs).flatten) ps=some cs) (hd:∀ t,o.dst=some t→t<X.nt) (hN:∀ a' w' κ',Gm X ((σ.set d (.row e k n)).put o.dst (.c (.lst (some d) k (chunk k n cs)))) a' w' κ'→N a' w'):o.wp P a w N Q:=by
 obtain ⟨cur,he,hr,hsz⟩:=g.rowCells ho ht hz hk h0 hn hv hf
 obtain ⟨c1,c2,c3⟩:=la k n cs (by have:=hr.1;simp at this;omega)
 have hmax:n≤maxLen:=by
  have:n≤n*k:=Nat.le_mul_of_pos_right _ h0
  have:(2:Nat) ^ 24≤maxLen:=by decide
  omega
 obtain ⟨κ',g',_,hrep⟩:=g.row_new (t:=d) (.inl hdn) (e:=e) (cap:=n) (cur:=cur) c1 (by rw[c3,c2,List.take_of_length_le (by simp[hsz])];exact hr) hsz (by rw[c2];exact Nat.le_refl _) hmax
 rw[c2] at g' hrep
 exact jI he (hN _ _ _ (g'.put (.c hrep) hd))
theorem Gm.callS (g:Gm X σ a w κ) {x:Operand} {args:Array Operand} {ats:Array TypeId} {f:Nat} {caps:List C} {vs us:List V} {r:V} (ho:o.op= .call {callee:=.value x,args:=args,argTypes:=ats}) (hx:Ev (evA σ.sl) x (.c (.fn f caps))) (hv:EvL (evA σ.sl) args.toList vs)
 (hu:CvL (vs++caps.map V.c) us) (hok:okV noN us=true) (hP:Pure P f us r) (hd:∀ t,o.dst=some t→t<X.nt) (hN:∀ a' w' κ',Gm X (σ.put o.dst r) a' w' κ'→N a' w'):o.wp P a w N Q:=by
 obtain ⟨hcall,hcs⟩:=hP
 have hp:=g.ev hx
 have hvs:=g.evl hv
 cases hp with
 |c hp=>
  generalize he:a.eval x=y at hp
  cases hp with
  |fn cv h1 h2 h3=>
   rename_i cap
   have hall:RepVs κ w (vs++caps.map V.c) (args.toList.map a.eval++cap.toList):=by
    refine⟨by have:=hvs.1;simp at this ⊢;omega,fun j c v hc hvj=>?_⟩
    rcases Nat.lt_or_ge j vs.length with hj|hj
    ·rw[List.getElem?_append_left hj] at hc
     rw[List.getElem?_append_left (by rw[← hvs.1];exact hj)] at hvj
     exact hvs.2 j c v hc hvj
    ·rw[List.getElem?_append_right hj,List.getElem?_map,Option.map_eq_some_iff] at hc
     obtain ⟨q,hq,rfl⟩:=hc
     rw[List.getElem?_append_right (by rw[← hvs.1];exact hj),←hvs.1] at hvj
     have hjl:=(List.getElem?_eq_some_iff.1 hq).1
     have:=h2 _ hjl
     have e1:cap[j - vs.length]? =some v:=by simpa using hvj
     rw[this] at e1
     injection e1 with e1
     subst e1
     exact .c (h3 _ q hq)
   have hus:RepVs κ w us (args.toList.map a.eval++cap.toList):=hu κ w _ hall
   have hbare:RepVs (cz κ.S) w us ((args.map a.eval)++cap).toList:=by
    have e:((args.map a.eval)++cap).toList=args.toList.map a.eval++cap.toList:=by simp
    rw[e]
    exact⟨hus.1,fun j c v hc hvj=>RepV.only (κ:=κ) (κ':=cz κ.S) (d:=noN) rfl (fun n hn=>by cases hn) (hus.2 j c v hc hvj) (gM hok c (List.mem_of_getElem? hc))⟩
   have hc:=hcs w κ.S _ g.tw g.s1 hbare
   unfold Oper.wp execOp
   simp only[ho,resolve]
   have hof:Deferred.ofValue (a.eval x) (args.map a.eval)=(pure {target:=.fn (.func f) cap,args:=#[]++args.map a.eval}:Sem Deferred):=by rw[he];rfl
   simp only[hof,Sem.run_bind,Sem.run_pure,Result.andThen_ok,invoke,Array.empty_append]
   rw[hcall,Oper.upon_enter]
   refine hc.mono fun e w'' hR=>?_
   obtain ⟨x',rfl,hk,hr⟩:=hR
   obtain ⟨g',l⟩:=g.grow hk (κ':={κ with S:=fun g i=>κ.S g i∨(w.heap.size≤g∧g<w''.heap.size)}) rfl rfl rfl rfl fun _ _=>Iff.rfl
   have hr':=hr.mono (gK (κ':={κ with S:=fun g i=>κ.S g i∨(w.heap.size≤g∧g<w''.heap.size)}) (w:=w'') fun _ _ h=>h)
   exact hN _ _ _ (g'.put hr' hd)
theorem Gm.growW (h:Gm X σ a w κ) (hw:Keep [] w w') {κ':K} (e1:κ'.D=κ.D) (e2:κ'.μ=κ.μ) (e3:κ'.T=κ.T) (e4:κ'.B=κ.B) (hS1:∀ g i,κ.S g i→κ'.S g i) (hS:∀ g i,κ'.S g i→κ.S g i∨(w.heap.size≤g∧g<w'.heap.size)):Gm X σ a w' κ'∧Le κ w κ' w':=by
 have l:Le κ w κ' w':=⟨fun n hn=>⟨by rw[e1];exact hn,by rw[e2]⟩,fun g i hs hg=>⟨hS1 g i hs,hw.cell hg (by simp)⟩,fun n _=>.inl (by rw[e3])⟩
 refine⟨⟨fun t v hv=>?_,fun n o ho=>?_,fun n hn=>h.D n (by rw[← e1];exact hn),fun n n' b hne=>?_,h.only.trans hw (by simp),fun g i hs hg=>?_,fun g i hs=>?_,h.sz,h.df,h.m0.trans l h.only.size,h.tb⟩,l⟩
 ·obtain ⟨x,hx,hr⟩:=h.sl t v hv
  exact⟨x,hx,hr.mono l⟩
 ·obtain ⟨hd,ho'⟩:=h.hp n o ho
  refine⟨by rw[e1];exact hd,?_⟩
  cases o with
  |obj ty cs=>
   obtain ⟨vs,h1,h2,h3,h4⟩:=ho'
   refine⟨vs,by rw[e2];exact hw.blk h1 (by simp),h2.mono l,fun i hs=>?_,by rw[e2];exact h4⟩
   rw[e2] at hs
   rcases hS _ _ hs with hs|hs
   ·exact h3 i hs
   ·have:=h1.lt;omega
  |row e k m=>
   obtain ⟨h1,h2⟩:=ho'
   refine⟨by rw[e3];exact h1,?_⟩
   rw[e3]
   rcases h2 with h2|⟨b,cap,cur,g1,g2,g3,g4,g5,g6,g7⟩
   ·exact .inl h2
   ·refine .inr ⟨b,cap,cur,g1,hw.blk g2 (by simp),g3,g4,g5,fun i hs=>?_,g7⟩
    rcases hS _ _ hs with hs|hs
    ·exact g6 i hs
    ·have:=g2.lt;omega
  |bld ty e bs=>
   refine ho'.bld (by rw[e2]) (by rw[e4]) (fun b _ hb=>hw.block b hb (by simp)) hw.size fun b i hb _ hs=>?_
   rcases hS _ _ hs with hs|hs
   ·exact hs
   ·omega
  |lost=>trivial
  |gone=>
   obtain ⟨h1,h2,h3⟩:=ho'
   refine⟨by rw[e2];exact Nat.lt_of_lt_of_le h1 hw.size,fun i hs=>?_,by rw[e2];exact h3⟩
   rw[e2] at hs
   rcases hS _ _ hs with hs|hs
   ·exact h2 i hs
   ·omega
 ·have e:∀ n,bl σ κ' n=bl σ κ n:=fun n=>by unfold bl;rw[e2,e3,e4]
  rw[e,e]
  exact h.dis n n' b hne
 ·rcases hS _ _ hs with hs|hs
  ·exact h.s0 g i hs hg
  ·have:=h.only.size;omega
 ·rcases hS _ _ hs with hs|hs
  ·exact Nat.lt_of_lt_of_le (h.s1 g i hs) hw.size
  ·exact hs.2
theorem Gm.adopt (h:Gm X σ a w κ) {t b0:Nat} (ht:σ.hp t=none) {ty:TypeId} {cs:List C} {vs:Array Value} (hb:Blk w b0 ty vs) (hr:Reps κ w cs vs.toList) (hS0:∀ i,¬ κ.S b0 i) (hw0:X.w0.heap.size≤b0) (hfr:∀ n,b0 ∉ bl σ κ n) :
 ∃ κ',Gm X (σ.set t (.obj ty cs)) a w κ'∧Le κ w κ' w∧κ'.D t∧κ'.μ t=b0:=by
 let κ':K:={κ with D:=fun n=>κ.D n∨n=t,μ:=gR κ.μ t b0}
 have nD:¬ κ.D t:=fun hd=>by obtain ⟨o,ho⟩:=h.D t hd;rw[ht] at ho;cases ho
 have hw:=Keep.refl [] w
 have μe:∀ n,κ.D n→κ'.μ n=κ.μ n:=fun n hn=>iK _ _ fun e=>nD (e▸hn)
 have l:Le κ w κ' w:=⟨fun n hn=>⟨.inl hn,μe n hn⟩,fun g i hs hg=>⟨hs,hw.cell hg (by simp)⟩,fun n _=>.inl rfl⟩
 have hold:∀ n o,n≠t→σ.hp n=some o→bl (σ.set t (.obj ty cs)) κ' n=bl σ κ n:=fun n o hne ho=>by
  unfold bl St.set
  simp only[bD _ _ hne,ho]
  cases o
  ·simp only[μe n (h.hp n _ ho).1]
  ·rfl
  ·simp only[μe n (h.hp n _ ho).1];rfl
  ·simp only[μe n (h.hp n _ ho).1]
  ·rfl
 have hnone:∀ n,n≠t→σ.hp n=none→bl (σ.set t (.obj ty cs)) κ' n=[]:=fun n hne ho=>by
  unfold bl St.set
  simp only[bD _ _ hne,ho]
 have hnew:bl (σ.set t (.obj ty cs)) κ' t=[b0]:=by
  unfold bl St.set
  simp only[aX]
  exact congrArg (fun x=>[x]) (ca _ _ _)
 have hlt:∀ n b,n≠t→b∈bl (σ.set t (.obj ty cs)) κ' n→b∈bl σ κ n:=fun n b hne hb=>by
  cases ho:σ.hp n with
  |none=>rw[hnone n hne ho] at hb;cases hb
  |some o=>rwa [hold n o hne ho] at hb
 refine⟨κ',⟨fun s v hv=>?_,fun n o ho=>?_,fun n hn=>?_,fun n n' b hne hbn hbn'=>?_,h.only.trans hw (by simp),h.s0,fun g i hs=>Nat.lt_of_lt_of_le (h.s1 g i hs) hw.size,h.sz,h.df,h.m0.trans l h.only.size,h.tb⟩,l,.inr rfl,ca _ _ _⟩
 ·obtain ⟨x,hx,hrv⟩:=h.sl s v hv
  exact⟨x,hx,hrv.mono l⟩
 ·simp only[St.set] at ho
  by_cases hn:n=t
  ·subst hn
   rw[aX] at ho
   injection ho with ho
   subst ho
   refine⟨.inr rfl,vs,?_,hr.mono l,fun i hs=>?_,.inr ?_⟩
   ·show Blk _ (gR κ.μ n b0 n) _ _
    rw[ca];exact hb
   ·have:κ.S (gR κ.μ n b0 n) i:=hs
    rw[ca] at this
    exact absurd this (hS0 _)
   ·show _≤gR κ.μ n b0 n
    rw[ca];exact hw0
  ·rw[bD _ _ hn] at ho
   obtain ⟨hd,ho'⟩:=h.hp n o ho
   refine⟨.inl hd,?_⟩
   cases o with
   |obj ty' cs'=>
    obtain ⟨vs',h1,h2,h3,h4⟩:=ho'
    refine⟨vs',?_,h2.mono l,?_,?_⟩
    ·rw[μe n hd];exact hw.blk h1 (by simp)
    ·rw[μe n hd];exact h3
    ·rw[μe n hd];exact h4
   |row e k m=>
    obtain ⟨h1,h2⟩:=ho'
    refine⟨h1,?_⟩
    rcases h2 with h2|⟨b,cap,cur,g1,g2,g3,g4,g5,g6,g7⟩
    ·exact .inl h2
    ·exact .inr ⟨b,cap,cur,g1,hw.blk g2 (by simp),g3,g4,g5,g6,g7⟩
   |bld ty' e bs=>exact ho'.bld (μe n hd) rfl (fun b _ hb=>hw.block b hb (by simp)) hw.size fun b i _ _ hs=>hs
   |lost=>trivial
   |gone=>
    obtain ⟨h1,h2,h3⟩:=ho'
    exact⟨by rw[μe n hd];exact Nat.lt_of_lt_of_le h1 hw.size,fun i hs=>h2 i (by rw[μe n hd] at hs;exact hs),by rw[μe n hd];exact h3⟩
 ·rcases hn with hn|rfl
  ·obtain ⟨o,ho⟩:=h.D n hn
   exact⟨o,by simp only[St.set];rw[bD _ _ (fun(e:n=t)=>nD (e▸hn))];exact ho⟩
  ·exact⟨_,aX _ _ _⟩
 ·by_cases h1:n=t
  ·subst h1
   rw[hnew] at hbn
   have hbn:=List.mem_singleton.1 hbn
   subst hbn
   exact absurd (hlt n' _ (Ne.symm hne) hbn') (hfr n')
  ·have k1:=hlt n b h1 hbn
   by_cases h2:n'=t
   ·subst h2
    rw[hnew] at hbn'
    have hbn':=List.mem_singleton.1 hbn'
    subst hbn'
    exact absurd k1 (hfr n)
   ·exact h.dis n n' b hne k1 (hlt n' b h2 hbn')
theorem Gm.callW (g:Gm X σ a w κ) {x:Operand} {args:Array Operand} {ats:Array TypeId} {f:Nat} {caps:List C} {vs us:List V} {ty t:Nat} {cs:List C} (ho:o.op= .call {callee:=.value x,args:=args,argTypes:=ats}) (hx:Ev (evA σ.sl) x (.c (.fn f caps))) (hv:EvL (evA σ.sl) args.toList vs)
 (hu:CvL (vs++caps.map V.c) us) (hok:okV noN us=true) (hP:NewC P f us ty cs) (ht:σ.hp t=none) (hd:∀ t,o.dst=some t→t<X.nt) (hN:∀ a' w' κ',Gm X ((σ.set t (.obj ty cs)).put o.dst (.c (.ptr t 0))) a' w' κ'→N a' w'):o.wp P a w N Q:=by
 obtain ⟨hcall,hcs⟩:=hP
 have hp:=g.ev hx
 have hvs:=g.evl hv
 cases hp with
 |c hp=>
  generalize he:a.eval x=y at hp
  cases hp with
  |fn cv h1 h2 h3=>
   rename_i cap
   have hall:RepVs κ w (vs++caps.map V.c) (args.toList.map a.eval++cap.toList):=by
    refine⟨by have:=hvs.1;simp at this ⊢;omega,fun j c v hc hvj=>?_⟩
    rcases Nat.lt_or_ge j vs.length with hj|hj
    ·rw[List.getElem?_append_left hj] at hc
     rw[List.getElem?_append_left (by rw[← hvs.1];exact hj)] at hvj
     exact hvs.2 j c v hc hvj
    ·rw[List.getElem?_append_right hj,List.getElem?_map,Option.map_eq_some_iff] at hc
     obtain ⟨q,hq,rfl⟩:=hc
     rw[List.getElem?_append_right (by rw[← hvs.1];exact hj),←hvs.1] at hvj
     have hjl:=(List.getElem?_eq_some_iff.1 hq).1
     have:=h2 _ hjl
     have e1:cap[j - vs.length]? =some v:=by simpa using hvj
     rw[this] at e1
     injection e1 with e1
     subst e1
     exact .c (h3 _ q hq)
   have hus:RepVs κ w us (args.toList.map a.eval++cap.toList):=hu κ w _ hall
   have hbare:RepVs (cz κ.S) w us ((args.map a.eval)++cap).toList:=by
    have e:((args.map a.eval)++cap).toList=args.toList.map a.eval++cap.toList:=by simp
    rw[e]
    exact⟨hus.1,fun j c v hc hvj=>RepV.only (κ:=κ) (κ':=cz κ.S) (d:=noN) rfl (fun n hn=>by cases hn) (hus.2 j c v hc hvj) (gM hok c (List.mem_of_getElem? hc))⟩
   have hc:=hcs w κ.S _ g.tw g.s1 hbare
   unfold Oper.wp execOp
   simp only[ho,resolve]
   have hof:Deferred.ofValue (a.eval x) (args.map a.eval)=(pure {target:=.fn (.func f) cap,args:=#[]++args.map a.eval}:Sem Deferred):=by rw[he];rfl
   simp only[hof,Sem.run_bind,Sem.run_pure,Result.andThen_ok,invoke,Array.empty_append]
   rw[hcall,Oper.upon_enter]
   refine hc.mono fun e w'' hR=>?_
   obtain ⟨b,ws,rfl,hk,hb,hblk,hr⟩:=hR
   let κ1:K:={κ with S:=fun g i=>κ.S g i∨(w.heap.size≤g∧g<w''.heap.size∧g≠b)}
   obtain ⟨g',l⟩:=g.growW hk (κ':=κ1) rfl rfl rfl rfl (fun _ _ h=>.inl h) fun _ _ h=>h.imp id fun h=>⟨h.1,h.2.1⟩
   have hr':Reps κ1 w'' cs ws.toList:=hr.mono (gK (κ':=κ1) (w:=w'') fun _ _ h=>h)
   obtain ⟨κ2,g2,_,hD,hμ⟩:=g'.adopt (t:=t) ht hblk hr' (fun i hs=>by
    rcases hs with hs|hs
    ·exact absurd (g.s1 _ _ hs) (by omega)
    ·exact hs.2.2 rfl) (Nat.le_trans g.only.size hb) fun n hn=>absurd (g.blk (show b∈bl σ κ n from hn)).1 (by omega)
   exact hN _ _ _ (g2.put (.c (by rw[← hμ];exact .ptr hD)) hd)
def snS (κ:K) (σ:St):Nat→Nat→Prop:=fun b i=>κ.S b i∨∃ n ty cs,σ.hp n=some (.obj ty cs)∧b=κ.μ n
theorem Rep.wider {κ κ':K} {w:World} (h1:κ'.D=κ.D) (h2:κ'.μ=κ.μ) (h3:κ'.T=κ.T) (hS:∀ b i,κ.S b i→κ'.S b i):Le κ w κ' w:=⟨fun n hn=>⟨h1▸hn,by rw[h2]⟩,fun g i hs _=>⟨hS g i hs,rfl⟩,fun n _=>.inl (by rw[h3])⟩
theorem Gm.sn1 (g:Gm X σ a w κ) {c:C} {v:Value} (h:Rep κ w c v):Rep {κ with S:=snS κ σ} w (Am.sn1 σ.hp c) v:=by
 have l:Le κ w {κ with S:=snS κ σ} w:=Rep.wider rfl rfl rfl fun b i hs=>.inl hs
 have h0:=h.mono l
 cases h with
 |ptr hD=>
  rename_i n off
  cases ho:σ.hp n with
  |none=>
   have e:Am.sn1 σ.hp (.ptr n off)= .ptr n off:=by simp only[Am.sn1,ho]
   rw[e];exact h0
  |some o=>
   cases o with
   |row e k m=>
    have e:Am.sn1 σ.hp (.ptr n off)= .ptr n off:=by simp only[Am.sn1,ho]
    rw[e];exact h0
   |lost=>
    have e:Am.sn1 σ.hp (.ptr n off)= .ptr n off:=by simp only[Am.sn1,ho]
    rw[e];exact h0
   |gone=>
    have e:Am.sn1 σ.hp (.ptr n off)= .ptr n off:=by simp only[Am.sn1,ho]
    rw[e];exact h0
   |bld ty e bs=>
    have e:Am.sn1 σ.hp (.ptr n off)= .ptr n off:=by simp only[Am.sn1,ho]
    rw[e];exact h0
   |obj ty cs=>
    have e:Am.sn1 σ.hp (.ptr n off)= .ep (cs.drop off):=by simp only[Am.sn1,ho]
    rw[e]
    obtain ⟨_,vs,h1,h2,_⟩:=g.hp n _ ho
    refine .ep (fun j=>vs.getD (off+j) default) (fun j hj=>?_) fun j c hc=>?_
    ·rw[List.length_drop] at hj
     have hl:=h2.1
     simp at hl
     have:off+j<vs.size:=by omega
     exact⟨.inr ⟨n,ty,cs,ho,rfl⟩,by rw[h1.cell];simp[this]⟩
    ·rw[List.getElem?_drop] at hc
     obtain ⟨v,hv,hr⟩:=h2.get hc
     have hv':vs[off+j]? =some v:=by simpa using hv
     have hlt:=(Array.getElem?_eq_some_iff.1 hv').1
     have e:vs.getD (off+j) default=v:=by simp[Array.getD_eq_getD_getElem?,hv']
     rw[e]
     exact hr.mono l
 |_=>exact h0
theorem Gm.snV (g:Gm X σ a w κ) {v:V} {x:Value} (h:RepV κ w v x):RepV {κ with S:=snS κ σ} w (Am.snV σ.hp v) x:=by
 have l:Le κ w {κ with S:=snS κ σ} w:=Rep.wider rfl rfl rfl fun b i hs=>.inl hs
 have h0:=h.mono l
 cases h with
 |c h=>
  rename_i c
  cases c with
  |fn f cs=>
   cases h with
   |fn cv h1 h2 h3=>
    refine .c (.fn cv (by rw[List.length_map];exact h1) (by rw[List.length_map];exact h2) fun j c hc=>?_)
    rw[List.getElem?_map,Option.map_eq_some_iff] at hc
    obtain ⟨q,hq,rfl⟩:=hc
    exact g.sn1 (h3 j q hq)
  |ptr n off=>exact .c (g.sn1 h)
  |_=>exact h0
 |_=>exact h0
theorem RepV.scO {κ:K} {w:World} {v:V} {x:Value} (h:RepV κ w v x) (hs:scO v=true) (κ':K) (w':World):RepV κ' w' v x:=by
 have key:∀ {c:C} {v:Value},Rep κ w c v→scC c=true→Rep κ' w' c v:=fun {c v} h hs=>by
  cases h with
  |sc h=>exact .sc h
  |_=>cases hs
 have keys:∀ {cs:List C} {vs:List Value},Reps κ w cs vs→cs.all scC=true→Reps κ' w' cs vs:=fun {cs vs} h hs=>
  ⟨h.1,fun j c v hc hv=>key (h.2 j c v hc hv) (List.all_eq_true.1 hs c (List.mem_of_getElem? hc))⟩
 cases h with
 |c h=>exact .c (key h hs)
 |agg h=>exact .agg (keys h hs)
 |tup hl h=>
  refine .tup hl fun j x v hx hv=>?_
  have h1:=List.all_eq_true.1 hs x (List.mem_of_getElem? hx)
  have h2:=h j x v hx hv
  cases h2 with
  |c h2=>exact .c (key h2 h1)
  |agg h2=>exact .agg (keys h2 h1)
  |tup _ _=>cases h1
  |wh _ _=>cases h1
 |wh _ _=>cases hs
theorem Gm.callE (g:Gm X σ a w κ) {x:Operand} {args:Array Operand} {ats:Array TypeId} {f:Nat} {caps:List C} {vs us:List V} {r:V} (ho:o.op= .call {callee:=.value x,args:=args,argTypes:=ats}) (hx:Ev (evA σ.sl) x (.c (.fn f caps))) (hv:EvL (evA σ.sl) args.toList vs)
 (hu:(vs++caps.map V.c).map (Am.snV σ.hp)=us) (hok:okV noN us=true) (hP:Pure P f us r) (hsc:scO r=true) (hd:∀ t,o.dst=some t→t<X.nt) (hN:∀ a' w' κ',Gm X (σ.put o.dst r) a' w' κ'→N a' w'):o.wp P a w N Q:=by
 obtain ⟨hcall,hcs⟩:=hP
 have hp:=g.ev hx
 have hvs:=g.evl hv
 cases hp with
 |c hp=>
  generalize he:a.eval x=y at hp
  cases hp with
  |fn cv h1 h2 h3=>
   rename_i cap
   have hall:RepVs κ w (vs++caps.map V.c) (args.toList.map a.eval++cap.toList):=by
    refine⟨by have:=hvs.1;simp at this ⊢;omega,fun j c v hc hvj=>?_⟩
    rcases Nat.lt_or_ge j vs.length with hj|hj
    ·rw[List.getElem?_append_left hj] at hc
     rw[List.getElem?_append_left (by rw[← hvs.1];exact hj)] at hvj
     exact hvs.2 j c v hc hvj
    ·rw[List.getElem?_append_right hj,List.getElem?_map,Option.map_eq_some_iff] at hc
     obtain ⟨q,hq,rfl⟩:=hc
     rw[List.getElem?_append_right (by rw[← hvs.1];exact hj),←hvs.1] at hvj
     have hjl:=(List.getElem?_eq_some_iff.1 hq).1
     have:=h2 _ hjl
     have e1:cap[j - vs.length]? =some v:=by simpa using hvj
     rw[this] at e1
     injection e1 with e1
     subst e1
     exact .c (h3 _ q hq)
   have hus:RepVs {κ with S:=snS κ σ} w us (args.toList.map a.eval++cap.toList):=by
    rw[← hu]
    refine⟨by rw[List.length_map];exact hall.1,fun j c v hc hvj=>?_⟩
    rw[List.getElem?_map,Option.map_eq_some_iff] at hc
    obtain ⟨q,hq,rfl⟩:=hc
    exact g.snV (hall.2 j q v hq hvj)
   have hbare:RepVs (cz (snS κ σ)) w us ((args.map a.eval)++cap).toList:=by
    have e:((args.map a.eval)++cap).toList=args.toList.map a.eval++cap.toList:=by simp
    rw[e]
    exact⟨hus.1,fun j c v hc hvj=>RepV.only (κ:={κ with S:=snS κ σ}) (κ':=cz (snS κ σ)) (d:=noN) rfl (fun n hn=>by cases hn) (hus.2 j c v hc hvj) (gM hok c (List.mem_of_getElem? hc))⟩
   have hc:=hcs w (snS κ σ) _ g.tw (fun b i hs=>by
    rcases hs with hs|⟨n,ty,cs,hn,rfl⟩
    ·exact g.s1 b i hs
    ·obtain ⟨_,vs,h1,_⟩:=g.hp n _ hn
     exact h1.lt) hbare
   unfold Oper.wp execOp
   simp only[ho,resolve]
   have hof:Deferred.ofValue (a.eval x) (args.map a.eval)=(pure {target:=.fn (.func f) cap,args:=#[]++args.map a.eval}:Sem Deferred):=by rw[he];rfl
   simp only[hof,Sem.run_bind,Sem.run_pure,Result.andThen_ok,invoke,Array.empty_append]
   rw[hcall,Oper.upon_enter]
   refine hc.mono fun e w'' hR=>?_
   obtain ⟨x',rfl,hk,hr⟩:=hR
   obtain ⟨g',l⟩:=g.grow hk (κ':={κ with S:=fun g i=>κ.S g i∨(w.heap.size≤g∧g<w''.heap.size)}) rfl rfl rfl rfl fun _ _=>Iff.rfl
   have hr':=hr.scO hsc {κ with S:=fun g i=>κ.S g i∨(w.heap.size≤g∧g<w''.heap.size)} w''
   exact hN _ _ _ (g'.put hr' hd)
theorem Fl {σ:St} {κ:K} {n:Nat} {ob:HO} (h:σ.hp n=some ob) (h1:ob.one=true):∃ B:Option Nat,bl σ κ n=κ.μ n :: B.toList:=by
 unfold bl
 cases ob with
 |obj ty cs=>exact⟨none,by simp only[h];rfl⟩
 |row e k m=>cases h1
 |bld ty e bs=>exact⟨κ.B n,by simp only[h]⟩
 |lost=>cases h1
 |gone=>exact⟨none,by simp only[h];rfl⟩
theorem Gm.freeL (g:Gm X σ a w κ) {n:Nat} {ob:HO} (hn:σ.hp n=some ob) (h1:ob.one=true) {b i:Nat} (hs:κ.S b i):b ∉ bl σ κ n:=fun hb=>by
 unfold bl at hb
 obtain ⟨_,hO⟩:=g.hp n _ hn
 cases ob with
 |obj ty cs=>
  simp only[hn,List.mem_singleton] at hb
  obtain ⟨_,_,_,h3,_⟩:=hO
  exact h3 i (hb▸hs)
 |row e k m=>cases h1
 |bld ty e bs=>
  simp only[hn,List.mem_cons,Option.mem_toList,Option.mem_def] at hb
  obtain ⟨_,_,_,_,_,_,_,h6⟩:=hO
  exact(h6 b hb).1 i hs
 |lost=>cases h1
 |gone=>
  simp only[hn,List.mem_singleton] at hb
  exact hO.2.1 i (hb▸hs)
theorem Gm.wrote (g:Gm X σ a w κ) {n:Nat} {ob ob':HO} (hn:σ.hp n=some ob) (h1:ob.one=true) (h2:ob'.one=true) {S':Nat→Nat→Prop} {B B':Option Nat} (hB:bl σ κ n=κ.μ n :: B.toList) (hw:Keep (bl σ κ n) w w')
 (s1:∀ g i,κ.S g i→S' g i) (s2:∀ g i,S' g i→g<w.heap.size→κ.S g i) (s3:∀ g i,S' g i→g<w'.heap.size) (ho:ObjOk (cx0 w κ.S (κ.μ n :: B.toList) 0) (mn S' (κ.μ n) B') w' 0 ob') :
 Gm X (σ.set n ob') a w' {κ with S:=S',B:=gR κ.B n B'}∧Le κ w {κ with S:=S',B:=gR κ.B n B'} w':=by
 have hfree:=fun b i=>g.freeL hn h1 (b:=b) (i:=i)
 have l:Le κ w {κ with S:=S',B:=gR κ.B n B'} w':=⟨fun m hm=>⟨hm,rfl⟩,fun b i hs hg=>⟨s1 b i hs,hw.cell hg (hfree b i hs)⟩,fun m _=>.inl rfl⟩
 have hin:∀ b,b∈κ.μ n :: B.toList→b∈X.F∨X.w0.heap.size≤b:=fun b hb=>(g.blk (hB▸hb)).2
 have hup:∀ b,b∈κ.μ n :: B.toList∨w.heap.size≤b→b∈X.F∨X.w0.heap.size≤b:=fun b hb=>by
  rcases hb with hb|hb
  ·exact hin b hb
  ·exact .inr (Nat.le_trans g.only.size hb)
 have hnew:∀ b,b∈bl (σ.set n ob') {κ with S:=S',B:=gR κ.B n B'} n→b∈bl σ κ n∨w.heap.size≤b:=fun b hb=>by
  unfold bl St.set at hb
  simp only[aX] at hb
  rw[hB]
  cases ob' with
  |obj ty cs=>simp only[List.mem_singleton] at hb;exact .inl (by rw[hb];exact .head _)
  |row e k m=>cases h2
  |lost=>cases h2
  |gone=>simp only[List.mem_singleton] at hb;exact .inl (by rw[hb];exact .head _)
  |bld ty e bs=>
   simp only[List.mem_cons,Option.mem_toList,Option.mem_def,ca] at hb
   obtain ⟨_,_,_,_,_,_,_,h6⟩:=ho
   exact(h6 b hb).2
 have hold:∀ m,m≠n→bl (σ.set n ob') {κ with S:=S',B:=gR κ.B n B'} m=bl σ κ m:=fun m hm=>by
  unfold bl St.set
  simp only[bD _ _ hm,iK _ _ hm]
 refine⟨⟨fun s v hv=>?_,fun m o hm=>?_,fun m hm=>?_,fun m m' b hne hb hb'=>?_,g.only.trans hw (fun x hx=>(g.blk hx).2),fun b i hs hg=>?_,s3,g.sz,g.df,g.m0.trans l g.only.size,g.tb⟩,l⟩
 ·obtain ⟨x,hx,hr⟩:=g.sl s v hv
  exact⟨x,hx,hr.mono l⟩
 ·by_cases e:m=n
  ·subst e
   have hm:upd σ.hp m ob' m=some o:=hm
   rw[aX] at hm
   injection hm with hm
   subst hm
   refine⟨(g.hp m _ hn).1,?_⟩
   cases ob' with
   |obj ty cs=>
    obtain ⟨vs,k1,k2,k3,k4⟩:=ho
    exact⟨vs,k1,⟨k2.1,fun j c v hc hv=>(k2.2 j c v hc hv).only (κ:=mn S' (κ.μ m) B') (κ':={κ with S:=S',B:=gR κ.B m B'}) (d:=noN) rfl (fun n hn=>by cases hn) (dO h2 c (List.mem_of_getElem? hc))⟩,k3,hup _ k4⟩
   |row e k q=>cases h2
   |lost=>cases h2
   |gone=>exact⟨ho.1,ho.2.1,hup _ ho.2.2⟩
   |bld ty e bs=>
    obtain ⟨p,v,k1,k2,k3,k4,k5,k6⟩:=ho
    refine⟨p,v,k1,k2,k3,by rw[k4];exact(ca _ _ _).symm,fun b hb=>k5 b ?_,fun b hb=>?_⟩
    ·have hb:gR κ.B m B' m=some b:=hb
     rw[ca] at hb;exact hb
    ·have hb:b=κ.μ m∨gR κ.B m B' m=some b:=hb
     rw[ca] at hb
     exact⟨(k6 b hb).1,hup b (k6 b hb).2⟩
  ·have hm:upd σ.hp n ob' m=some o:=hm
   rw[bD _ _ e] at hm
   obtain ⟨hD,hO⟩:=g.hp m o hm
   have hdis:∀ b,b∈bl σ κ m→b ∉ bl σ κ n:=fun b hb=>g.dis m n b e hb
   refine⟨hD,?_⟩
   cases o with
   |obj ty cs=>
    obtain ⟨vs,k1,k2,k3,k4⟩:=hO
    have hmem:κ.μ m∈bl σ κ m:=by unfold bl;rw[hm];exact List.mem_singleton.2 rfl
    exact⟨vs,hw.blk k1 (hdis _ hmem),k2.mono l,fun i hs=>k3 i (s2 _ i hs k1.lt),k4⟩
   |row e' k q=>
    obtain ⟨k1,k2⟩:=hO
    refine⟨k1,?_⟩
    rcases k2 with k2|⟨b,cap,cur,g1,g2,g3,g4,g5,g6,g7⟩
    ·exact .inl k2
    ·have hmem:b∈bl σ κ m:=by unfold bl;simp only[hm,g1];exact List.mem_singleton.2 rfl
     exact .inr ⟨b,cap,cur,g1,hw.blk g2 (hdis _ hmem),g3,g4,g5,fun i hs=>g6 i (s2 b i hs g2.lt),g7⟩
   |lost=>trivial
   |gone=>exact⟨Nat.lt_of_lt_of_le hO.1 hw.size,fun i hs=>hO.2.1 i (s2 _ i hs hO.1),hO.2.2⟩
   |bld ty e' bs=>
    exact hO.bld rfl (iK _ _ e) (fun b hb hlt=>hw.block b hlt (hdis b ((fO hm).2 hb))) hw.size fun b i hlt _ hs=>s2 b i hs hlt
 ·by_cases e:m=n
  ·subst e;exact⟨_,aX _ _ _⟩
  ·obtain ⟨o,ho⟩:=g.D m hm
   exact⟨o,by show upd σ.hp n ob' m=_;rw[bD _ _ e];exact ho⟩
 ·have key:∀ p q,p≠n→q=n→b∈bl σ κ p→b∈bl (σ.set n ob') {κ with S:=S',B:=gR κ.B n B'} q→False:=fun p q hp hq h3 h4=>by
   subst hq
   rcases hnew b h4 with h5|h5
   ·exact g.dis p q b hp h3 h5
   ·have:=(g.blk h3).1;omega
  by_cases e:m=n
  ·have e':m'≠n:=fun h=>hne (e.trans h.symm)
   rw[hold m' e'] at hb'
   exact key m' m e' e hb' hb
  ·rw[hold m e] at hb
   by_cases e':m'=n
   ·exact key m m' e e' hb hb'
   ·rw[hold m' e'] at hb'
    exact g.dis m m' b hne hb hb'
 ·exact g.s0 b i (s2 b i hs (Nat.lt_of_lt_of_le hg g.only.size)) hg
theorem St.set_set (σ:St) (n:Nat) (a b:HO):(σ.set n a).set n b=σ.set n b:=by
 unfold St.set
 congr 1
 funext m
 by_cases h:m=n
 ·subst h;rw[aX,aX]
 ·rw[bD _ _ h,bD _ _ h];exact bD _ _ h
theorem Gm.allocB (g:Gm X σ a w κ) {ty e t:Nat} (ho:o.op= .alloc ty) (ht:σ.hp t=none) (hz:Zb P ty)
 (hd:∀ t,o.dst=some t→t<X.nt) (hN:∀ a' w' κ',Gm X ((σ.set t (.bld ty e [])).put o.dst (.c (.ptr t 0))) a' w' κ'→N a' w'):o.wp P a w N Q:=by
 obtain ⟨i,h1,h2⟩:=hz
 have hr:∀ (κ:K) (w:World),Reps κ w [.sc (.pointer none),.nil] (Value.agg #[.pointer none,.slice none 0 0]).cells.toList:=fun κ w=>⟨rfl,fun j c v hc hv=>by
  match j,hc,hv with
  |0,hc,hv=>injection hc with hc;injection hv with hv;subst hc hv;exact .sc rfl
  |1,hc,hv=>injection hc with hc;injection hv with hv;subst hc hv;exact .nil
  |j+2,hc,hv=>cases hc⟩
 obtain ⟨κ',g',_,hD,hμ⟩:=g.new ht (ty:=ty) (hr κ w)
 have he:(execOp a.eval o).run P w= .ok (.value (.pointer (some ⟨w.heap.size,0,none⟩))) (w.alloc (.cells (Value.agg #[.pointer none,.slice none 0 0]).cells ty)):=by
  unfold execOp
  simp only[ho]
  simp[Instr.alloc,zeroValue,typeInfo,h1,h2,newVar,newRow]
 have hs:(σ.set t (.obj ty [.sc (.pointer none),.nil])).hp t=some (.obj ty [.sc (.pointer none),.nil]):=aX _ _ _
 obtain ⟨_,vs,k1,k2,k3,k4⟩:=g'.hp t _ hs
 have hb:=Blk.fresh w ty (Value.agg #[.pointer none,.slice none 0 0]).cells
 rw[hμ] at k1 k3 k4
 have hbl:bl (σ.set t (.obj ty [.sc (.pointer none),.nil])) κ' t=κ'.μ t :: (none:Option Nat).toList:=by unfold bl;simp only[hs];rfl
 obtain ⟨g2,_⟩:=g'.wrote (S':=κ'.S) (B:=none) (B':=none) (ob':=.bld ty e []) hs rfl rfl hbl (Keep.refl _ _) (fun _ _ h=>h) (fun _ _ h _=>h) g'.s1 (by
  rw[hμ]
  exact⟨.pointer none,.slice none 0 0,hb,.inl rfl,World.ownsRow_nil _ _ _ _,rfl,fun b hb=>(by cases hb),fun b hb=>by
   rcases hb with hb|hb
   ·have hb:b=w.heap.size:=hb
    rw[hb];exact⟨k3,.inl (.head _)⟩
   ·cases hb⟩)
 rw[St.set_set] at g2
 exact jI he (hN _ _ _ (g2.put (.c (by rw[← hμ];exact .ptr hD)) hd))
theorem Gm.callM (g:Gm X σ a w κ) {x:Operand} {args:Array Operand} {ats:Array TypeId} {f n:Nat} {caps:List C} {vs us:List V} {r:V} {ob ob':HO} (ho:o.op= .call {callee:=.value x,args:=args,argTypes:=ats}) (hx:Ev (evA σ.sl) x (.c (.fn f caps))) (hv:EvL (evA σ.sl) args.toList vs)
 (hu:vs++caps.map V.c= .c (.ptr n 0) :: us) (hn:σ.hp n=some ob) (h1:ob.one=true) (h2:ob'.one=true) (hok:okV noN us=true) (hP:MC P f ob us r ob') (hd:∀ t,o.dst=some t→t<X.nt) (hN:∀ a' w' κ',Gm X ((σ.set n ob').put o.dst r) a' w' κ'→N a' w'):o.wp P a w N Q:=by
 obtain ⟨hcall,hcs⟩:=hP
 have hp:=g.ev hx
 have hvs:=g.evl hv
 cases hp with
 |c hp=>
  generalize he:a.eval x=y at hp
  cases hp with
  |fn cv h1' h2' h3'=>
   rename_i cap
   have hall:RepVs κ w (vs++caps.map V.c) (args.toList.map a.eval++cap.toList):=by
    refine⟨by have:=hvs.1;simp at this ⊢;omega,fun j c v hc hvj=>?_⟩
    rcases Nat.lt_or_ge j vs.length with hj|hj
    ·rw[List.getElem?_append_left hj] at hc
     rw[List.getElem?_append_left (by rw[← hvs.1];exact hj)] at hvj
     exact hvs.2 j c v hc hvj
    ·rw[List.getElem?_append_right hj,List.getElem?_map,Option.map_eq_some_iff] at hc
     obtain ⟨q,hq,rfl⟩:=hc
     rw[List.getElem?_append_right (by rw[← hvs.1];exact hj),←hvs.1] at hvj
     have hjl:=(List.getElem?_eq_some_iff.1 hq).1
     have:=h2' _ hjl
     have e1:cap[j - vs.length]? =some v:=by simpa using hvj
     rw[this] at e1
     injection e1 with e1
     subst e1
     exact .c (h3' _ q hq)
   rw[hu] at hall
   obtain ⟨B,hB⟩:=Fl (κ:=κ) hn h1
   match hl:args.toList.map a.eval++cap.toList,hall with
   |[],hall=>exact absurd hall.1 (by simp)
   |z :: zs,hall=>
    have hz:=hall.2 0 _ z rfl rfl
    have hz':z= .pointer (some ⟨κ.μ n,0,none⟩):=by cases hz with|c hz=>cases hz;rfl
    have hbare:RepVs (cz κ.S) w us zs.toArray.toList:=by
     refine⟨by have:=hall.1;simp at this ⊢;omega,fun j c v hc hvj=>RepV.only (κ:=κ) (κ':=cz κ.S) (d:=noN) rfl (fun n hn=>by cases hn) (hall.2 (j+1) c v hc (by simpa using hvj)) (gM hok c (List.mem_of_getElem? hc))⟩
    have hO:ObjOk (cx0 w κ.S (κ.μ n :: B.toList) 0) (mn κ.S (κ.μ n) B) w 0 ob:=by
     obtain ⟨hD,hO⟩:=g.hp n _ hn
     cases ob with
     |obj ty cs=>
      obtain ⟨ws,k1,k2,k3,k4⟩:=hO
      exact⟨ws,k1,⟨k2.1,fun j c v hc hv=>(k2.2 j c v hc hv).only (κ:=κ) (κ':=mn κ.S (κ.μ n) B) (d:=noN) rfl (fun n hn=>by cases hn) (dO h1 c (List.mem_of_getElem? hc))⟩,k3,.inl (.head _)⟩
     |row e k q=>cases h1
     |lost=>cases h1
     |gone=>exact⟨hO.1,hO.2.1,.inl (.head _)⟩
     |bld ty e bs=>
      obtain ⟨p,v,k1,k2,k3,k4,k5,k6⟩:=hO
      have hBe:κ.B n=B:=by
       unfold bl at hB
       simp only[hn] at hB
       injection hB with _ hB
       cases h5:κ.B n with
       |none=>rw[h5] at hB;cases B with|none=>rfl|some q=>simp at hB
       |some q'=>rw[h5] at hB;cases B with|none=>simp at hB|some q=>simp at hB;rw[hB]
      refine⟨p,v,k1,k2,k3,by rw[k4];exact hBe,fun b hb=>k5 b (hBe.trans hb),fun b hb=>⟨(k6 b (by rw[hBe];exact hb)).1,.inl ?_⟩⟩
      have hb:b=κ.μ n∨B=some b:=hb
      simpa [eq_comm] using hb
    have hc:=hcs w κ.S (κ.μ n) B zs.toArray g.tw (hB▸g.tG) g.s1 (fun b i hs=>by rw[← hB];exact g.freeL hn h1 hs) hO hbare
    have harr:(#[.pointer (some ⟨κ.μ n,0,none⟩)]++zs.toArray:Array Value)=(args.map a.eval)++cap:=by
     apply Array.ext'
     rw[hz'] at hl
     simpa using hl.symm
    rw[harr] at hc
    unfold Oper.wp execOp
    simp only[ho,resolve]
    have hof:Deferred.ofValue (a.eval x) (args.map a.eval)=(pure {target:=.fn (.func f) cap,args:=#[]++args.map a.eval}:Sem Deferred):=by rw[he];rfl
    simp only[hof,Sem.run_bind,Sem.run_pure,Result.andThen_ok,invoke,Array.empty_append]
    rw[hcall,Oper.upon_enter]
    refine hc.mono fun e w'' hR=>?_
    obtain ⟨x',S',B',rfl,hk,s1,s2,s3,hO',hr⟩:=hR
    obtain ⟨g',l⟩:=g.wrote hn h1 h2 hB (hB▸hk) s1 s2 s3 hO'
    have hr':=hr.mono (gK (κ':={κ with S:=S',B:=gR κ.B n B'}) (w:=w'') fun _ _ h=>h)
    exact hN _ _ _ (g'.put hr' hd)
end
end Am
end Go.Proofs.YtkpodagbefnebaaGreatDoor
