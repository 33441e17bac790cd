import Derived.Test.YtkpodagbefnebaaGreatDoorYg5
import Derived.Test.YtkpodagbefnebaaGreatDoorYg25
import Derived.Test.YtkpodagbefnebaaGreatDoorYg9
import Derived.Test.YtkpodagbefnebaaGreatDoorYg8
set_option linter.unusedSimpArgs false
set_option linter.unusedVariables false
set_option linter.unusedSectionVars false
namespace Go.Proofs.YtkpodagbefnebaaGreatDoor
namespace Am
open Go.ChangeShapes Go.WideShapes Go.ChangeAt Go.RowKit
set_option maxRecDepth 100000
set_option maxHeartbeats 1000000
theorem drop_at {α:Type} {l:List α} {i:Nat} {x:α} (h:l[i]? =some x):l.drop i=x :: l.drop (i+1):=by
 obtain ⟨h1,h2⟩:=List.getElem?_eq_some_iff.1 h
 rw[← h2];exact List.drop_eq_getElem_cons h1
theorem yi {α β:Type} {b:α→Nat} {c:β→Nat}:∀ {xs:List α} {ys:List β},xs.length=ys.length→(∀ (i:Nat) (x:α) (y:β),xs[i]? =some x→ys[i]? =some y→b x≤c y)→(xs.map b).sum≤(ys.map c).sum
 |[],[],_,_=>Nat.le_refl _
 |x :: xs,y :: ys,hl,h=>by
  have h0:=h 0 x y rfl rfl
  have ih:=yi (b:=b) (c:=c) (xs:=xs) (ys:=ys) (by simpa using hl) (fun i x y h1 h2=>h (i+1) x y (by simpa using h1) (by simpa using h2))
  simp only[List.map_cons,List.sum_cons];omega
section
variable {H:Type} {enc:TypeId×Value→H} {W:World}
theorem bulk_all:∀ l:List (DataW H),Rows.uptoBulkAll l=(l.map Rows.uptoBulk).sum
 |[]=>by rw[Rows.uptoBulkAll];rfl
 |d :: l=>by rw[Rows.uptoBulkAll,bulk_all l];rfl
theorem gR {P:Program} {α:Type} {f:α→List C} {B:α→Nat} {k:Nat} {T E:TypeId} (N:Nat) (und:P.underlying T=some (.slice E)) (hE:P.cellsOf E=k) (hk:0<k) (hf:∀ x,(f x).length=k)
 (cells:∀ {fuel:Nat} {base:Nat} {sp:Nat→Bool} {held:Bool} {cs:List Value} {x:DataW H×List MemPlace},fuel<N→DataW.trod enc P W base sp held fuel E cs=some x→∃ a:α,Reps (cj W) W (f a) cs∧B a≤Rows.uptoBulk x.1)
 {sp:Nat→Bool} {held:Bool} {base fuel:Nat} {cs:List Value} {x:DataW H×List MemPlace} (hN:fuel≤N) (hh:DataW.trod enc P W base sp held fuel T cs=some x) :
 ∃ xs:List α,Reps (cj W) W [.lst none k (xs.map f)] cs∧(xs.map B).sum+1≤Rows.uptoBulk x.1:=by
 rcases DataW.trod_slice und hh with⟨hc,hx⟩|⟨a,len,cap,elems,rest,n,hn,rfl,rfl,_,hle,hm,hlen,hat,_,_⟩
 ·refine⟨[],?_,?_⟩
  ·rw[hc]
   exact .cons (.lst (fun _ _=>default) rfl (fun x hx=>by cases hx) (Nat.le_refl _) (Nat.zero_le _) (.inl rfl) (fun i j x c hx=>by cases hx) fun τ e=>by cases e) .nil
  ·rw[hx]
   show 0+1≤_
   rw[Rows.uptoBulk]
   exact Nat.le_refl _
 ·have each:∀ i,i<len→∃ x:α,(∃ y,elems[i]? =some y∧B x≤Rows.uptoBulk y.1)∧∃ vs:List Value,Reps (cj W) W (f x) vs∧∀ j,j<k→W.cell? ((a.add (i*k)).add j)=vs[j]?:=by
   intro i hi
   have h1:=hat i hi
   obtain ⟨y,hy⟩:=aK hlen hi
   rw[hy,Option.bind_eq_some_iff] at h1
   obtain ⟨cs',hcs,ht⟩:=h1
   obtain ⟨x,hx,hB⟩:=cells (by omega) ht
   rw[hE] at hcs
   obtain ⟨_,_,hcell⟩:=World.cells?_some hcs
   exact⟨x,⟨y,hy,hB⟩,cs',hx,fun j hj=>hcell j (by omega)⟩
  obtain ⟨xs,hxl,hxs⟩:=mL len each
  obtain ⟨b,o,sp'⟩:=a
  have cell:∀ (i:Nat) (x:α) (j:Nat) (c:C),xs[i]? =some x→(f x)[j]? =some c→∃ v,W.cell? (((⟨b,o,sp'⟩:Addr).add (i*k)).add j)=some v∧Rep (cj W) W c v:=fun i x j c hi hj=>by
   obtain ⟨-,vs,h1,h2⟩:=hxs i x hi
   obtain ⟨v,hv,hr⟩:=h1.get hj
   have hjk:j<k:=by have:=(List.getElem?_eq_some_iff.1 hj).1;rwa [hf] at this
   exact⟨v,(h2 j hjk).trans hv,hr⟩
  have first:∀ (h0:0<xs.length),∃ v,W.cell? ((⟨b,o,sp'⟩:Addr).add 0)=some v:=fun h0=>by
   have h1:xs[0]? =some xs[0]:=List.getElem?_eq_getElem h0
   have h2:(f xs[0])[0]? =some ((f xs[0])[0]'(by rw[hf];exact hk)):=List.getElem?_eq_getElem _
   obtain ⟨v,hv,_⟩:=cell 0 _ 0 _ h1 h2
   rw[Nat.zero_mul] at hv
   have e:((⟨b,o,sp'⟩:Addr).add 0).add 0=(⟨b,o,sp'⟩:Addr).add 0:=by cases sp' <;> rfl
   rw[e] at hv
   exact⟨v,hv⟩
  have hnone:0<xs.length→sp'=none:=fun h0=>by
   cases sp' with
   |none=>rfl
   |some q=>
    exfalso
    obtain ⟨v,h1⟩:=first h0
    have e:(⟨b,o,some q⟩:Addr).add 0=⟨b,o,some q⟩:=rfl
    rw[e] at h1
    unfold World.cell? at h1
    split at h1
    ·simp at h1
    ·cases h1
  have hsum:(xs.map B).sum+1≤Rows.uptoBulk (DataW.slice (elems.map (·.1)) (rest.map (·.1))):=by
   rw[Rows.uptoBulk,bulk_all,bulk_all,List.map_map]
   have:=yi (b:=B) (c:=fun y:DataW H×List MemPlace=>Rows.uptoBulk y.1) (xs:=xs) (ys:=elems) (by omega) (fun i x y h1 h2=>by
    obtain ⟨⟨y',hy',hb⟩,_⟩:=hxs i x h1
    rw[hy'] at h2;injection h2 with h2;subst h2;exact hb)
   have e:(Rows.uptoBulk∘fun x:DataW H×List MemPlace=>x.1)=fun y:DataW H×List MemPlace=>Rows.uptoBulk y.1:=rfl
   rw[e];omega
  refine⟨xs,.cons ?_ .nil,hsum⟩
  have hl:∀ x∈xs.map f,x.length=k:=fun x hx=>by
   obtain ⟨y,_,rfl⟩:=List.mem_map.1 hx
   exact hf y
  by_cases h0:xs.length=0
  ·have:xs=[]:=List.length_eq_zero_iff.1 h0
   subst this
   have:len=0:=by simpa using hxl.symm
   subst this
   exact .lst (fun _ _=>default) rfl hl (by omega) hm (.inl rfl) (fun i j x c hx=>by simp at hx) fun τ e=>by cases e
  ·have hs:=hnone (by omega)
   subst hs
   have hcell:∀ (i:Nat) (x:α) (j:Nat) (c:C),xs[i]? =some x→(f x)[j]? =some c→∃ v,W.cell? ⟨b,o+i*k+j,none⟩=some v∧Rep (cj W) W c v:=fun i x j c hi hj=>by
    obtain ⟨v,hv,hr⟩:=cell i x j c hi hj
    rw[add_add] at hv
    exact⟨v,hv,hr⟩
   refine .lst (fun i j=>(W.cell? ⟨b,o+i*k+j,none⟩).getD default) (by rw[List.length_map];exact hxl.symm) hl (by omega) hm (.inr ⟨b,o,rfl,fun i j hi hj=>?_⟩) (fun i j x c hx hc=>?_) fun τ e=>by cases e
   ·rw[List.length_map] at hi
    have h1:xs[i]? =some xs[i]:=List.getElem?_eq_getElem hi
    have h2:(f xs[i])[j]? =some ((f xs[i])[j]'(by rw[hf];exact hj)):=List.getElem?_eq_getElem _
    obtain ⟨v,hv,_⟩:=hcell i _ j _ h1 h2
    exact⟨qX hv,by rw[hv];rfl⟩
   ·rw[List.getElem?_map,Option.map_eq_some_iff] at hx
    obtain ⟨y,hy,rfl⟩:=hx
    obtain ⟨v,hv,hr⟩:=hcell i y j c hy hc
    rw[hv];exact hr
theorem rU:Tryz.prog.cellsOf 47=1:=by kernel_rfl
theorem rV:Tryz.prog.cellsOf 61=1:=by kernel_rfl
theorem je:Tryz.prog.cellsOf 23=1:=by kernel_rfl
theorem gn:Tryz.prog.cellsOf 43=1:=by kernel_rfl
theorem gY:Tryz.prog.cellsOf 67=7:=by kernel_rfl
theorem jJ:Tryz.prog.cellsOf 49=10:=by kernel_rfl
theorem eZ:Tryz.prog.cellsOf 63=2:=by kernel_rfl
theorem pS:Tryz.prog.cellsOf 25=3:=by kernel_rfl
theorem eR:Tryz.prog.cellsOf 60=5:=by kernel_rfl
theorem oT:Tryz.prog.cellsOf 28=2:=by kernel_rfl
theorem fZ:Tryz.prog.cellsOf 65=4:=by kernel_rfl
theorem oU:Tryz.prog.cellsOf 46=4:=by kernel_rfl
theorem mT:Tryz.prog.cellsOf 170=2:=by kernel_rfl
theorem iD:Tryz.prog.cellsOf 69=55:=by kernel_rfl
theorem lG:Tryz.prog.cellsOf 4=1:=by kernel_rfl
theorem gK:Tryz.prog.cellsOf 3=1:=by kernel_rfl
theorem dc:Tryz.prog.cellsOf 9=1:=by kernel_rfl
theorem jf:Tryz.prog.cellsOf 44=1:=by kernel_rfl
theorem vd:Tryz.prog.underlying 43=some (.slice 9):=by kernel_rfl
theorem Di:Tryz.prog.underlying 47=some (.slice 49):=by kernel_rfl
theorem Dj:Tryz.prog.underlying 61=some (.slice 170):=by kernel_rfl
theorem pL:Tryz.prog.underlying 23=some (.slice 69):=by kernel_rfl
theorem lq {fuel:Nat} {base:Nat} {sp:Nat→Bool} {held:Bool} {cs:List Value} {x:DataW H×List MemPlace} (h:DataW.trod enc Tryz.prog W base sp held fuel 3 cs=some x):∃ a:Int,Reps (cj W) W [sI a] cs:=by
 obtain ⟨m,c,d,r⟩:=DataW.trod_int Tryz.underlying3 h
 exact⟨m,by rw[c];exact .cons (.sc rfl) .nil⟩
theorem yl {fuel:Nat} {base:Nat} {sp:Nat→Bool} {held:Bool} {cs:List Value} {x:DataW H×List MemPlace} (h:DataW.trod enc Tryz.prog W base sp held fuel 44 cs=some x):∃ a:Int,Reps (cj W) W [sU a] cs:=by
 obtain ⟨m,c,d,r⟩:=DataW.trod_int Tryz.underlying44 h
 exact⟨m,by rw[c];exact .cons (.sc rfl) .nil⟩
theorem qW {fuel:Nat} {base:Nat} {sp:Nat→Bool} {held:Bool} {cs:List Value} {x:DataW H×List MemPlace} (h:DataW.trod enc Tryz.prog W base sp held fuel 4 cs=some x):∃ a:Bool,Reps (cj W) W [sB a] cs:=by
 obtain ⟨m,c,d⟩:=DataW.trod_bool Tryz.underlying4 h
 exact⟨m,by rw[c];exact .cons (.sc rfl) .nil⟩
theorem eW {fuel:Nat} {base:Nat} {sp:Nat→Bool} {held:Bool} {cs:List Value} {x:DataW H×List MemPlace} (h:DataW.trod enc Tryz.prog W base sp held fuel 9 cs=some x):∃ a:ByteArray,Reps (cj W) W [sS a] cs∧wB a≤Rows.uptoBulk x.1:=by
 obtain ⟨s,c,hx,r⟩:=DataW.trod_string Tryz.underlying9 h
 refine⟨s,by rw[c];exact .cons (.sc (decide_eq_true (by unfold maxLen at r;omega))) .nil,?_⟩
 rw[hx]
 show s.size+1≤Rows.uptoBulk (DataW.lit (.string s.data.toList))
 rw[Rows.uptoBulk,Array.length_toList]
 exact Nat.le_refl _
theorem ly {fuel:Nat} {base:Nat} {sp:Nat→Bool} {held:Bool} {cs:List Value} {x:DataW H×List MemPlace} (h:DataW.trod enc Tryz.prog W base sp held fuel 43 cs=some x):∃ a:List ByteArray,Reps (cj W) W [bW a] cs∧wL a≤Rows.uptoBulk x.1:=
 gR (f:=oneS) (B:=wB) fuel vd dc (by omega) (fun _=>rfl) (fun _ h=>eW h) (Nat.le_refl _) h
theorem Do:∃ fs,Tryz.prog.underlying 28=some (.struct fs)∧fs.toList.map (fun f=>(f.type,f.offset))=[(3,0),(3,1)]:=⟨_,Tryz.underlying28,by kernel_rfl⟩
theorem K1 {fuel:Nat} {base:Nat} {sp:Nat→Bool} {held:Bool} {cs:List Value} {x:DataW H×List MemPlace} (h:DataW.trod enc Tryz.prog W base sp held fuel 28 cs=some x):∃ a:Po,Reps (cj W) W (poC a) cs:=by
 obtain ⟨fs,hu,hf⟩:=Do
 obtain ⟨xs,n,hn,hx,hl,hxl,hat⟩:=DataW.trod_struct hu h
 rw[oT] at hl
 have hsz:fs.size=2:=by have:=congrArg List.length hf;simpa using this
 rw[hsz] at hxl
 obtain ⟨f0,e0,t0,o0⟩:=aM hf 0 _ rfl
 obtain ⟨x0,g0⟩:=aK hxl (i:=0) (by omega)
 have h0:=(hat 0 f0 e0).trans g0
 rw[t0,o0] at h0
 dsimp only at h0
 rw[gK] at h0
 obtain ⟨m0,c0⟩:=lq h0
 obtain ⟨f1,e1,t1,o1⟩:=aM hf 1 _ rfl
 obtain ⟨x1,g1⟩:=aK hxl (i:=1) (by omega)
 have h1:=(hat 1 f1 e1).trans g1
 rw[t1,o1] at h1
 dsimp only at h1
 rw[gK] at h1
 obtain ⟨m1,c1⟩:=lq h1
 have hend:cs.drop 2=[]:=List.drop_of_length_le (by omega)
 exact⟨⟨m0,m1⟩,show Reps _ _ ([sI m0]++([sI m1]++[])) (cs.drop 0) from(aA c0 (aA c1 (by rw[hend];exact .nil)))⟩
theorem Dn:∃ fs,Tryz.prog.underlying 60=some (.struct fs)∧fs.toList.map (fun f=>(f.type,f.offset))=[(4,0),(4,1),(4,2),(43,3),(43,4)]:=⟨_,Tryz.underlying60,by kernel_rfl⟩
theorem xV {fuel:Nat} {base:Nat} {sp:Nat→Bool} {held:Bool} {cs:List Value} {x:DataW H×List MemPlace} (h:DataW.trod enc Tryz.prog W base sp held fuel 60 cs=some x):∃ a:NS,Reps (cj W) W (nsC a) cs∧wN a≤Rows.uptoBulk x.1:=by
 obtain ⟨fs,hu,hf⟩:=Dn
 obtain ⟨xs,n,hn,hx,hl,hxl,hat⟩:=DataW.trod_struct hu h
 rw[eR] at hl
 have hsz:fs.size=5:=by have:=congrArg List.length hf;simpa using this
 rw[hsz] at hxl
 obtain ⟨f0,e0,t0,o0⟩:=aM hf 0 _ rfl
 obtain ⟨x0,g0⟩:=aK hxl (i:=0) (by omega)
 have h0:=(hat 0 f0 e0).trans g0
 rw[t0,o0] at h0
 dsimp only at h0
 rw[lG] at h0
 obtain ⟨m0,c0⟩:=qW h0
 obtain ⟨f1,e1,t1,o1⟩:=aM hf 1 _ rfl
 obtain ⟨x1,g1⟩:=aK hxl (i:=1) (by omega)
 have h1:=(hat 1 f1 e1).trans g1
 rw[t1,o1] at h1
 dsimp only at h1
 rw[lG] at h1
 obtain ⟨m1,c1⟩:=qW h1
 obtain ⟨f2,e2,t2,o2⟩:=aM hf 2 _ rfl
 obtain ⟨x2,g2⟩:=aK hxl (i:=2) (by omega)
 have h2:=(hat 2 f2 e2).trans g2
 rw[t2,o2] at h2
 dsimp only at h2
 rw[lG] at h2
 obtain ⟨m2,c2⟩:=qW h2
 obtain ⟨f3,e3,t3,o3⟩:=aM hf 3 _ rfl
 obtain ⟨x3,g3⟩:=aK hxl (i:=3) (by omega)
 have h3:=(hat 3 f3 e3).trans g3
 rw[t3,o3] at h3
 dsimp only at h3
 rw[gn] at h3
 obtain ⟨m3,c3,b3⟩:=ly h3
 obtain ⟨f4,e4,t4,o4⟩:=aM hf 4 _ rfl
 obtain ⟨x4,g4⟩:=aK hxl (i:=4) (by omega)
 have h4:=(hat 4 f4 e4).trans g4
 rw[t4,o4] at h4
 dsimp only at h4
 rw[gn] at h4
 obtain ⟨m4,c4,b4⟩:=ly h4
 have hend:cs.drop 5=[]:=List.drop_of_length_le (by omega)
 have hend2:xs.drop 5=[]:=List.drop_of_length_le (by omega)
 have hxs:xs=[x0,x1,x2,x3,x4]:=by
  rw[show xs=xs.drop 0 from rfl,drop_at g0,drop_at g1,drop_at g2,drop_at g3,drop_at g4,hend2]
 have hb:Rows.uptoBulk x.1=Rows.uptoBulk x0.1+Rows.uptoBulk x1.1+Rows.uptoBulk x2.1+Rows.uptoBulk x3.1+Rows.uptoBulk x4.1+1:=by
  rw[hx,Rows.uptoBulk,bulk_all,hxs]
  simp only[List.map_cons,List.map_nil,List.sum_cons,List.sum_nil]
  omega
 refine⟨⟨m0,m1,m2,m3,m4⟩,show Reps _ _ ([sB m0]++([sB m1]++([sB m2]++([bW m3]++([bW m4]++[]))))) (cs.drop 0) from(aA c0 (aA c1 (aA c2 (aA c3 (aA c4 (by rw[hend];exact .nil)))))),?_⟩
 have hw:wN ⟨m0,m1,m2,m3,m4⟩=wL m3+wL m4:=rfl
 clear hat h hx hf hxs
 omega
theorem Dh:Tryz.prog.underlying 46=some (.array 4 44):=by kernel_rfl
theorem K7 {fuel:Nat} {base:Nat} {sp:Nat→Bool} {held:Bool} {cs:List Value} {x:DataW H×List MemPlace} (h:DataW.trod enc Tryz.prog W base sp held fuel 46 cs=some x):∃ a:Se,Reps (cj W) W (seC a) cs:=by
 obtain ⟨xs,n,_,_,hl,hxl,hat⟩:=DataW.trod_array Dh h
 rw[oU] at hl
 obtain ⟨x0,g0⟩:=aK hxl (i:=0) (by omega)
 have h0:=(hat 0 (by omega)).trans g0
 rw[jf] at h0
 obtain ⟨m0,c0⟩:=yl h0
 obtain ⟨x1,g1⟩:=aK hxl (i:=1) (by omega)
 have h1:=(hat 1 (by omega)).trans g1
 rw[jf] at h1
 obtain ⟨m1,c1⟩:=yl h1
 obtain ⟨x2,g2⟩:=aK hxl (i:=2) (by omega)
 have h2:=(hat 2 (by omega)).trans g2
 rw[jf] at h2
 obtain ⟨m2,c2⟩:=yl h2
 obtain ⟨x3,g3⟩:=aK hxl (i:=3) (by omega)
 have h3:=(hat 3 (by omega)).trans g3
 rw[jf] at h3
 obtain ⟨m3,c3⟩:=yl h3
 have hend:cs.drop 4=[]:=List.drop_of_length_le (by omega)
 exact⟨⟨m0,m1,m2,m3⟩,show Reps _ _ ([sU m0]++([sU m1]++([sU m2]++([sU m3]++[])))) (cs.drop 0) from aA c0 (aA c1 (aA c2 (aA c3 (by rw[hend];exact .nil))))⟩
theorem Dl:∃ fs,Tryz.prog.underlying 49=some (.struct fs)∧fs.toList.map (fun f=>(f.type,f.offset))=[(3,0),(3,1),(3,2),(3,3),(43,4),(46,5),(47,9)]:=⟨_,Tryz.underlying49,by kernel_rfl⟩
theorem Hy (N:Nat) (ih:∀ {fuel:Nat} {base:Nat} {sp:Nat→Bool} {held:Bool} {cs:List Value} {x:DataW H×List MemPlace},fuel<N→DataW.trod enc Tryz.prog W base sp held fuel 49 cs=some x→∃ a:Ex,Reps (cj W) W (exC a) cs∧wE a≤Rows.uptoBulk x.1) {fuel:Nat} {base:Nat} {sp:Nat→Bool} {held:Bool} {cs:List Value} {x:DataW H×List MemPlace} (hN:fuel≤N) (h:DataW.trod enc Tryz.prog W base sp held fuel 49 cs=some x):∃ a:Ex,Reps (cj W) W (exC a) cs∧wE a≤Rows.uptoBulk x.1:=by
 obtain ⟨fs,hu,hf⟩:=Dl
 obtain ⟨xs,n,hn,hx,hl,hxl,hat⟩:=DataW.trod_struct hu h
 rw[jJ] at hl
 have hsz:fs.size=7:=by have:=congrArg List.length hf;simpa using this
 rw[hsz] at hxl
 obtain ⟨f0,e0,t0,o0⟩:=aM hf 0 _ rfl
 obtain ⟨x0,g0⟩:=aK hxl (i:=0) (by omega)
 have h0:=(hat 0 f0 e0).trans g0
 rw[t0,o0] at h0
 dsimp only at h0
 rw[gK] at h0
 obtain ⟨m0,c0⟩:=lq h0
 obtain ⟨f1,e1,t1,o1⟩:=aM hf 1 _ rfl
 obtain ⟨x1,g1⟩:=aK hxl (i:=1) (by omega)
 have h1:=(hat 1 f1 e1).trans g1
 rw[t1,o1] at h1
 dsimp only at h1
 rw[gK] at h1
 obtain ⟨m1,c1⟩:=lq h1
 obtain ⟨f2,e2,t2,o2⟩:=aM hf 2 _ rfl
 obtain ⟨x2,g2⟩:=aK hxl (i:=2) (by omega)
 have h2:=(hat 2 f2 e2).trans g2
 rw[t2,o2] at h2
 dsimp only at h2
 rw[gK] at h2
 obtain ⟨m2,c2⟩:=lq h2
 obtain ⟨f3,e3,t3,o3⟩:=aM hf 3 _ rfl
 obtain ⟨x3,g3⟩:=aK hxl (i:=3) (by omega)
 have h3:=(hat 3 f3 e3).trans g3
 rw[t3,o3] at h3
 dsimp only at h3
 rw[gK] at h3
 obtain ⟨m3,c3⟩:=lq h3
 obtain ⟨f4,e4,t4,o4⟩:=aM hf 4 _ rfl
 obtain ⟨x4,g4⟩:=aK hxl (i:=4) (by omega)
 have h4:=(hat 4 f4 e4).trans g4
 rw[t4,o4] at h4
 dsimp only at h4
 rw[gn] at h4
 obtain ⟨m4,c4,b4⟩:=ly h4
 obtain ⟨f5,e5,t5,o5⟩:=aM hf 5 _ rfl
 obtain ⟨x5,g5⟩:=aK hxl (i:=5) (by omega)
 have h5:=(hat 5 f5 e5).trans g5
 rw[t5,o5] at h5
 dsimp only at h5
 rw[oU] at h5
 obtain ⟨m5,c5⟩:=K7 h5
 obtain ⟨f6,e6,t6,o6⟩:=aM hf 6 _ rfl
 obtain ⟨x6,g6⟩:=aK hxl (i:=6) (by omega)
 have h6:=(hat 6 f6 e6).trans g6
 rw[t6,o6] at h6
 dsimp only at h6
 rw[rU] at h6
 obtain ⟨m6,c6,b6⟩:=gR (f:=exC) (B:=wE) N Di jJ (by omega) xB (fun hlt hh=>ih hlt hh) (by omega) h6
 rw[← jz] at c6
 have hend:cs.drop 10=[]:=List.drop_of_length_le (by omega)
 have hend2:xs.drop 7=[]:=List.drop_of_length_le (by omega)
 have hxs:xs=[x0,x1,x2,x3,x4,x5,x6]:=by
  rw[show xs=xs.drop 0 from rfl,drop_at g0,drop_at g1,drop_at g2,drop_at g3,drop_at g4,drop_at g5,drop_at g6,hend2]
 have hb:Rows.uptoBulk x.1=Rows.uptoBulk x0.1+Rows.uptoBulk x1.1+Rows.uptoBulk x2.1+Rows.uptoBulk x3.1+Rows.uptoBulk x4.1+Rows.uptoBulk x5.1+Rows.uptoBulk x6.1+1:=by
  rw[hx,Rows.uptoBulk,bulk_all,hxs]
  simp only[List.map_cons,List.map_nil,List.sum_cons,List.sum_nil]
  omega
 refine⟨⟨m0,m1,m2,m3,m4,m5,m6⟩,show Reps _ _ ([sI m0]++([sI m1]++([sI m2]++([sI m3]++([bW m4]++(seC m5++([.lst none 10 (mc m6)]++[]))))))) (cs.drop 0) from(aA c0 (aA c1 (aA c2 (aA c3 (aA c4 (aA c5 (aA c6 (by rw[hend];exact .nil)))))))),?_⟩
 have hw:wE ⟨m0,m1,m2,m3,m4,m5,m6⟩=wL m4+(m6.map wE).sum+1:=by rw[lT]
 clear hat h hx hf hxs
 omega
theorem AB:∀ (N:Nat) {fuel:Nat} {base:Nat} {sp:Nat→Bool} {held:Bool} {cs:List Value} {x:DataW H×List MemPlace},fuel<N→DataW.trod enc Tryz.prog W base sp held fuel 49 cs=some x→∃ a:Ex,Reps (cj W) W (exC a) cs∧wE a≤Rows.uptoBulk x.1
 |0,_,_,_,_,_,_,h,_=>absurd h (Nat.not_lt_zero _)
 |N+1,_,_,_,_,_,_,hl,h=>Hy N (fun h1 h2=>AB N h1 h2) (by omega) h
theorem JH {fuel:Nat} {base:Nat} {sp:Nat→Bool} {held:Bool} {cs:List Value} {x:DataW H×List MemPlace} (h:DataW.trod enc Tryz.prog W base sp held fuel 49 cs=some x):∃ a:Ex,Reps (cj W) W (exC a) cs∧wE a≤Rows.uptoBulk x.1:=AB (fuel+1) (Nat.lt_succ_self _) h
theorem Dq:∃ fs,Tryz.prog.underlying 170=some (.struct fs)∧fs.toList.map (fun f=>(f.type,f.offset))=[(9,0),(9,1)]:=⟨_,Tryz.underlying170,by kernel_rfl⟩
theorem K9 {fuel:Nat} {base:Nat} {sp:Nat→Bool} {held:Bool} {cs:List Value} {x:DataW H×List MemPlace} (h:DataW.trod enc Tryz.prog W base sp held fuel 170 cs=some x):∃ a:Sp,Reps (cj W) W (spC a) cs∧wP a≤Rows.uptoBulk x.1:=by
 obtain ⟨fs,hu,hf⟩:=Dq
 obtain ⟨xs,n,hn,hx,hl,hxl,hat⟩:=DataW.trod_struct hu h
 rw[mT] at hl
 have hsz:fs.size=2:=by have:=congrArg List.length hf;simpa using this
 rw[hsz] at hxl
 obtain ⟨f0,e0,t0,o0⟩:=aM hf 0 _ rfl
 obtain ⟨x0,g0⟩:=aK hxl (i:=0) (by omega)
 have h0:=(hat 0 f0 e0).trans g0
 rw[t0,o0] at h0
 dsimp only at h0
 rw[dc] at h0
 obtain ⟨m0,c0,b0⟩:=eW h0
 obtain ⟨f1,e1,t1,o1⟩:=aM hf 1 _ rfl
 obtain ⟨x1,g1⟩:=aK hxl (i:=1) (by omega)
 have h1:=(hat 1 f1 e1).trans g1
 rw[t1,o1] at h1
 dsimp only at h1
 rw[dc] at h1
 obtain ⟨m1,c1,b1⟩:=eW h1
 have hend:cs.drop 2=[]:=List.drop_of_length_le (by omega)
 have hend2:xs.drop 2=[]:=List.drop_of_length_le (by omega)
 have hxs:xs=[x0,x1]:=by
  rw[show xs=xs.drop 0 from rfl,drop_at g0,drop_at g1,hend2]
 have hb:Rows.uptoBulk x.1=Rows.uptoBulk x0.1+Rows.uptoBulk x1.1+1:=by
  rw[hx,Rows.uptoBulk,bulk_all,hxs]
  simp only[List.map_cons,List.map_nil,List.sum_cons,List.sum_nil]
  omega
 refine⟨⟨m0,m1⟩,show Reps _ _ ([sS m0]++([sS m1]++[])) (cs.drop 0) from(aA c0 (aA c1 (by rw[hend];exact .nil))),?_⟩
 have hw:wP ⟨m0,m1⟩=wB m0+wB m1:=rfl
 clear hat h hx hf hxs
 omega
theorem Dm:∃ fs,Tryz.prog.underlying 63=some (.struct fs)∧fs.toList.map (fun f=>(f.type,f.offset))=[(9,0),(61,1)]:=⟨_,Tryz.underlying63,by kernel_rfl⟩
theorem Bp {fuel:Nat} {base:Nat} {sp:Nat→Bool} {held:Bool} {cs:List Value} {x:DataW H×List MemPlace} (h:DataW.trod enc Tryz.prog W base sp held fuel 63 cs=some x):∃ a:Lv,Reps (cj W) W (lvC a) cs∧wV a≤Rows.uptoBulk x.1:=by
 obtain ⟨fs,hu,hf⟩:=Dm
 obtain ⟨xs,n,hn,hx,hl,hxl,hat⟩:=DataW.trod_struct hu h
 rw[eZ] at hl
 have hsz:fs.size=2:=by have:=congrArg List.length hf;simpa using this
 rw[hsz] at hxl
 obtain ⟨f0,e0,t0,o0⟩:=aM hf 0 _ rfl
 obtain ⟨x0,g0⟩:=aK hxl (i:=0) (by omega)
 have h0:=(hat 0 f0 e0).trans g0
 rw[t0,o0] at h0
 dsimp only at h0
 rw[dc] at h0
 obtain ⟨m0,c0,b0⟩:=eW h0
 obtain ⟨f1,e1,t1,o1⟩:=aM hf 1 _ rfl
 obtain ⟨x1,g1⟩:=aK hxl (i:=1) (by omega)
 have h1:=(hat 1 f1 e1).trans g1
 rw[t1,o1] at h1
 dsimp only at h1
 rw[rV] at h1
 obtain ⟨m1,c1,b1⟩:=gR (f:=spC) (B:=wP) n Dj mT (by omega) yh (fun _ hh=>K9 hh) (Nat.le_refl _) h1
 have hend:cs.drop 2=[]:=List.drop_of_length_le (by omega)
 have hend2:xs.drop 2=[]:=List.drop_of_length_le (by omega)
 have hxs:xs=[x0,x1]:=by
  rw[show xs=xs.drop 0 from rfl,drop_at g0,drop_at g1,hend2]
 have hb:Rows.uptoBulk x.1=Rows.uptoBulk x0.1+Rows.uptoBulk x1.1+1:=by
  rw[hx,Rows.uptoBulk,bulk_all,hxs]
  simp only[List.map_cons,List.map_nil,List.sum_cons,List.sum_nil]
  omega
 refine⟨⟨m0,m1⟩,show Reps _ _ ([sS m0]++([.lst none 2 (m1.map spC)]++[])) (cs.drop 0) from(aA c0 (aA c1 (by rw[hend];exact .nil))),?_⟩
 have hw:wV ⟨m0,m1⟩=wB m0+(m1.map wP).sum:=rfl
 clear hat h hx hf hxs
 omega
theorem Dp:∃ fs,Tryz.prog.underlying 65=some (.struct fs)∧fs.toList.map (fun f=>(f.type,f.offset))=[(63,0),(63,2)]:=⟨_,Tryz.underlying65,by kernel_rfl⟩
theorem GJ {fuel:Nat} {base:Nat} {sp:Nat→Bool} {held:Bool} {cs:List Value} {x:DataW H×List MemPlace} (h:DataW.trod enc Tryz.prog W base sp held fuel 65 cs=some x):∃ a:Rg,Reps (cj W) W (rgC a) cs∧wR a≤Rows.uptoBulk x.1:=by
 obtain ⟨fs,hu,hf⟩:=Dp
 obtain ⟨xs,n,hn,hx,hl,hxl,hat⟩:=DataW.trod_struct hu h
 rw[fZ] at hl
 have hsz:fs.size=2:=by have:=congrArg List.length hf;simpa using this
 rw[hsz] at hxl
 obtain ⟨f0,e0,t0,o0⟩:=aM hf 0 _ rfl
 obtain ⟨x0,g0⟩:=aK hxl (i:=0) (by omega)
 have h0:=(hat 0 f0 e0).trans g0
 rw[t0,o0] at h0
 dsimp only at h0
 rw[eZ] at h0
 obtain ⟨m0,c0,b0⟩:=Bp h0
 obtain ⟨f1,e1,t1,o1⟩:=aM hf 1 _ rfl
 obtain ⟨x1,g1⟩:=aK hxl (i:=1) (by omega)
 have h1:=(hat 1 f1 e1).trans g1
 rw[t1,o1] at h1
 dsimp only at h1
 rw[eZ] at h1
 obtain ⟨m1,c1,b1⟩:=Bp h1
 have hend:cs.drop 4=[]:=List.drop_of_length_le (by omega)
 have hend2:xs.drop 2=[]:=List.drop_of_length_le (by omega)
 have hxs:xs=[x0,x1]:=by
  rw[show xs=xs.drop 0 from rfl,drop_at g0,drop_at g1,hend2]
 have hb:Rows.uptoBulk x.1=Rows.uptoBulk x0.1+Rows.uptoBulk x1.1+1:=by
  rw[hx,Rows.uptoBulk,bulk_all,hxs]
  simp only[List.map_cons,List.map_nil,List.sum_cons,List.sum_nil]
  omega
 refine⟨⟨m0,m1⟩,show Reps _ _ (lvC m0++(lvC m1++[])) (cs.drop 0) from(aA c0 (aA c1 (by rw[hend];exact .nil))),?_⟩
 have hw:wR ⟨m0,m1⟩=wV m0+wV m1:=rfl
 clear hat h hx hf hxs
 omega
theorem Dk:∃ fs,Tryz.prog.underlying 67=some (.struct fs)∧fs.toList.map (fun f=>(f.type,f.offset))=[(9,0),(9,1),(9,2),(65,3)]:=⟨_,Tryz.underlying67,by kernel_rfl⟩
theorem JF {fuel:Nat} {base:Nat} {sp:Nat→Bool} {held:Bool} {cs:List Value} {x:DataW H×List MemPlace} (h:DataW.trod enc Tryz.prog W base sp held fuel 67 cs=some x):∃ a:Ct,Reps (cj W) W (cxC a) cs∧wC a≤Rows.uptoBulk x.1:=by
 obtain ⟨fs,hu,hf⟩:=Dk
 obtain ⟨xs,n,hn,hx,hl,hxl,hat⟩:=DataW.trod_struct hu h
 rw[gY] at hl
 have hsz:fs.size=4:=by have:=congrArg List.length hf;simpa using this
 rw[hsz] at hxl
 obtain ⟨f0,e0,t0,o0⟩:=aM hf 0 _ rfl
 obtain ⟨x0,g0⟩:=aK hxl (i:=0) (by omega)
 have h0:=(hat 0 f0 e0).trans g0
 rw[t0,o0] at h0
 dsimp only at h0
 rw[dc] at h0
 obtain ⟨m0,c0,b0⟩:=eW h0
 obtain ⟨f1,e1,t1,o1⟩:=aM hf 1 _ rfl
 obtain ⟨x1,g1⟩:=aK hxl (i:=1) (by omega)
 have h1:=(hat 1 f1 e1).trans g1
 rw[t1,o1] at h1
 dsimp only at h1
 rw[dc] at h1
 obtain ⟨m1,c1,b1⟩:=eW h1
 obtain ⟨f2,e2,t2,o2⟩:=aM hf 2 _ rfl
 obtain ⟨x2,g2⟩:=aK hxl (i:=2) (by omega)
 have h2:=(hat 2 f2 e2).trans g2
 rw[t2,o2] at h2
 dsimp only at h2
 rw[dc] at h2
 obtain ⟨m2,c2,b2⟩:=eW h2
 obtain ⟨f3,e3,t3,o3⟩:=aM hf 3 _ rfl
 obtain ⟨x3,g3⟩:=aK hxl (i:=3) (by omega)
 have h3:=(hat 3 f3 e3).trans g3
 rw[t3,o3] at h3
 dsimp only at h3
 rw[fZ] at h3
 obtain ⟨m3,c3,b3⟩:=GJ h3
 have hend:cs.drop 7=[]:=List.drop_of_length_le (by omega)
 have hend2:xs.drop 4=[]:=List.drop_of_length_le (by omega)
 have hxs:xs=[x0,x1,x2,x3]:=by
  rw[show xs=xs.drop 0 from rfl,drop_at g0,drop_at g1,drop_at g2,drop_at g3,hend2]
 have hb:Rows.uptoBulk x.1=Rows.uptoBulk x0.1+Rows.uptoBulk x1.1+Rows.uptoBulk x2.1+Rows.uptoBulk x3.1+1:=by
  rw[hx,Rows.uptoBulk,bulk_all,hxs]
  simp only[List.map_cons,List.map_nil,List.sum_cons,List.sum_nil]
  omega
 refine⟨⟨m0,m1,m2,m3⟩,show Reps _ _ ([sS m0]++([sS m1]++([sS m2]++(rgC m3++[])))) (cs.drop 0) from(aA c0 (aA c1 (aA c2 (aA c3 (by rw[hend];exact .nil))))),?_⟩
 have hw:wC ⟨m0,m1,m2,m3⟩=wB m0+wB m1+wB m2+wR m3:=rfl
 clear hat h hx hf hxs
 omega
theorem Dr:∃ fs,Tryz.prog.underlying 69=some (.struct fs)∧fs.toList.map (fun f=>(f.type,f.offset))=[(3,0),(3,1),(28,2),(9,4),(9,5),(9,6),(43,7),(43,8),(60,9),(60,14),(60,19),(60,24),(49,29),(63,39),(65,41),(67,45),(4,52),(23,53),(23,54)]:=⟨_,Tryz.underlying69,by kernel_rfl⟩
theorem IB (N:Nat) (ih:∀ {fuel:Nat} {base:Nat} {sp:Nat→Bool} {held:Bool} {cs:List Value} {x:DataW H×List MemPlace},fuel<N→DataW.trod enc Tryz.prog W base sp held fuel 69 cs=some x→∃ a:Stm,Reps (cj W) W (stC a) cs∧wS a≤Rows.uptoBulk x.1) {fuel:Nat} {base:Nat} {sp:Nat→Bool} {held:Bool} {cs:List Value} {x:DataW H×List MemPlace} (hN:fuel≤N) (h:DataW.trod enc Tryz.prog W base sp held fuel 69 cs=some x):∃ a:Stm,Reps (cj W) W (stC a) cs∧wS a≤Rows.uptoBulk x.1:=by
 obtain ⟨fs,hu,hf⟩:=Dr
 obtain ⟨xs,n,hn,hx,hl,hxl,hat⟩:=DataW.trod_struct hu h
 rw[iD] at hl
 have hsz:fs.size=19:=by have:=congrArg List.length hf;simpa using this
 rw[hsz] at hxl
 obtain ⟨f0,e0,t0,o0⟩:=aM hf 0 _ rfl
 obtain ⟨x0,g0⟩:=aK hxl (i:=0) (by omega)
 have h0:=(hat 0 f0 e0).trans g0
 rw[t0,o0] at h0
 dsimp only at h0
 rw[gK] at h0
 obtain ⟨m0,c0⟩:=lq h0
 obtain ⟨f1,e1,t1,o1⟩:=aM hf 1 _ rfl
 obtain ⟨x1,g1⟩:=aK hxl (i:=1) (by omega)
 have h1:=(hat 1 f1 e1).trans g1
 rw[t1,o1] at h1
 dsimp only at h1
 rw[gK] at h1
 obtain ⟨m1,c1⟩:=lq h1
 obtain ⟨f2,e2,t2,o2⟩:=aM hf 2 _ rfl
 obtain ⟨x2,g2⟩:=aK hxl (i:=2) (by omega)
 have h2:=(hat 2 f2 e2).trans g2
 rw[t2,o2] at h2
 dsimp only at h2
 rw[oT] at h2
 obtain ⟨m2,c2⟩:=K1 h2
 obtain ⟨f3,e3,t3,o3⟩:=aM hf 3 _ rfl
 obtain ⟨x3,g3⟩:=aK hxl (i:=3) (by omega)
 have h3:=(hat 3 f3 e3).trans g3
 rw[t3,o3] at h3
 dsimp only at h3
 rw[dc] at h3
 obtain ⟨m3,c3,b3⟩:=eW h3
 obtain ⟨f4,e4,t4,o4⟩:=aM hf 4 _ rfl
 obtain ⟨x4,g4⟩:=aK hxl (i:=4) (by omega)
 have h4:=(hat 4 f4 e4).trans g4
 rw[t4,o4] at h4
 dsimp only at h4
 rw[dc] at h4
 obtain ⟨m4,c4,b4⟩:=eW h4
 obtain ⟨f5,e5,t5,o5⟩:=aM hf 5 _ rfl
 obtain ⟨x5,g5⟩:=aK hxl (i:=5) (by omega)
 have h5:=(hat 5 f5 e5).trans g5
 rw[t5,o5] at h5
 dsimp only at h5
 rw[dc] at h5
 obtain ⟨m5,c5,b5⟩:=eW h5
 obtain ⟨f6,e6,t6,o6⟩:=aM hf 6 _ rfl
 obtain ⟨x6,g6⟩:=aK hxl (i:=6) (by omega)
 have h6:=(hat 6 f6 e6).trans g6
 rw[t6,o6] at h6
 dsimp only at h6
 rw[gn] at h6
 obtain ⟨m6,c6,b6⟩:=ly h6
 obtain ⟨f7,e7,t7,o7⟩:=aM hf 7 _ rfl
 obtain ⟨x7,g7⟩:=aK hxl (i:=7) (by omega)
 have h7:=(hat 7 f7 e7).trans g7
 rw[t7,o7] at h7
 dsimp only at h7
 rw[gn] at h7
 obtain ⟨m7,c7,b7⟩:=ly h7
 obtain ⟨f8,e8,t8,o8⟩:=aM hf 8 _ rfl
 obtain ⟨x8,g8⟩:=aK hxl (i:=8) (by omega)
 have h8:=(hat 8 f8 e8).trans g8
 rw[t8,o8] at h8
 dsimp only at h8
 rw[eR] at h8
 obtain ⟨m8,c8,b8⟩:=xV h8
 obtain ⟨f9,e9,t9,o9⟩:=aM hf 9 _ rfl
 obtain ⟨x9,g9⟩:=aK hxl (i:=9) (by omega)
 have h9:=(hat 9 f9 e9).trans g9
 rw[t9,o9] at h9
 dsimp only at h9
 rw[eR] at h9
 obtain ⟨m9,c9,b9⟩:=xV h9
 obtain ⟨f10,e10,t10,o10⟩:=aM hf 10 _ rfl
 obtain ⟨x10,g10⟩:=aK hxl (i:=10) (by omega)
 have h10:=(hat 10 f10 e10).trans g10
 rw[t10,o10] at h10
 dsimp only at h10
 rw[eR] at h10
 obtain ⟨m10,c10,b10⟩:=xV h10
 obtain ⟨f11,e11,t11,o11⟩:=aM hf 11 _ rfl
 obtain ⟨x11,g11⟩:=aK hxl (i:=11) (by omega)
 have h11:=(hat 11 f11 e11).trans g11
 rw[t11,o11] at h11
 dsimp only at h11
 rw[eR] at h11
 obtain ⟨m11,c11,b11⟩:=xV h11
 obtain ⟨f12,e12,t12,o12⟩:=aM hf 12 _ rfl
 obtain ⟨x12,g12⟩:=aK hxl (i:=12) (by omega)
 have h12:=(hat 12 f12 e12).trans g12
 rw[t12,o12] at h12
 dsimp only at h12
 rw[jJ] at h12
 obtain ⟨m12,c12,b12⟩:=JH h12
 obtain ⟨f13,e13,t13,o13⟩:=aM hf 13 _ rfl
 obtain ⟨x13,g13⟩:=aK hxl (i:=13) (by omega)
 have h13:=(hat 13 f13 e13).trans g13
 rw[t13,o13] at h13
 dsimp only at h13
 rw[eZ] at h13
 obtain ⟨m13,c13,b13⟩:=Bp h13
 obtain ⟨f14,e14,t14,o14⟩:=aM hf 14 _ rfl
 obtain ⟨x14,g14⟩:=aK hxl (i:=14) (by omega)
 have h14:=(hat 14 f14 e14).trans g14
 rw[t14,o14] at h14
 dsimp only at h14
 rw[fZ] at h14
 obtain ⟨m14,c14,b14⟩:=GJ h14
 obtain ⟨f15,e15,t15,o15⟩:=aM hf 15 _ rfl
 obtain ⟨x15,g15⟩:=aK hxl (i:=15) (by omega)
 have h15:=(hat 15 f15 e15).trans g15
 rw[t15,o15] at h15
 dsimp only at h15
 rw[gY] at h15
 obtain ⟨m15,c15,b15⟩:=JF h15
 obtain ⟨f16,e16,t16,o16⟩:=aM hf 16 _ rfl
 obtain ⟨x16,g16⟩:=aK hxl (i:=16) (by omega)
 have h16:=(hat 16 f16 e16).trans g16
 rw[t16,o16] at h16
 dsimp only at h16
 rw[lG] at h16
 obtain ⟨m16,c16⟩:=qW h16
 obtain ⟨f17,e17,t17,o17⟩:=aM hf 17 _ rfl
 obtain ⟨x17,g17⟩:=aK hxl (i:=17) (by omega)
 have h17:=(hat 17 f17 e17).trans g17
 rw[t17,o17] at h17
 dsimp only at h17
 rw[je] at h17
 obtain ⟨m17,c17,b17⟩:=gR (f:=stC) (B:=wS) N pL iD (by omega) nE (fun hlt hh=>ih hlt hh) (by omega) h17
 rw[← ij] at c17
 obtain ⟨f18,e18,t18,o18⟩:=aM hf 18 _ rfl
 obtain ⟨x18,g18⟩:=aK hxl (i:=18) (by omega)
 have h18:=(hat 18 f18 e18).trans g18
 rw[t18,o18] at h18
 dsimp only at h18
 rw[je] at h18
 obtain ⟨m18,c18,b18⟩:=gR (f:=stC) (B:=wS) N pL iD (by omega) nE (fun hlt hh=>ih hlt hh) (by omega) h18
 rw[← ij] at c18
 have hend:cs.drop 55=[]:=List.drop_of_length_le (by omega)
 have hend2:xs.drop 19=[]:=List.drop_of_length_le (by omega)
 have hxs:xs=[x0,x1,x2,x3,x4,x5,x6,x7,x8,x9,x10,x11,x12,x13,x14,x15,x16,x17,x18]:=by
  rw[show xs=xs.drop 0 from rfl,drop_at g0,drop_at g1,drop_at g2,drop_at g3,drop_at g4,drop_at g5,drop_at g6,drop_at g7,drop_at g8,drop_at g9,drop_at g10,drop_at g11,drop_at g12,drop_at g13,drop_at g14,drop_at g15,drop_at g16,drop_at g17,drop_at g18,hend2]
 have hb:Rows.uptoBulk x.1=Rows.uptoBulk x0.1+Rows.uptoBulk x1.1+Rows.uptoBulk x2.1+Rows.uptoBulk x3.1+Rows.uptoBulk x4.1+Rows.uptoBulk x5.1+Rows.uptoBulk x6.1+Rows.uptoBulk x7.1+Rows.uptoBulk x8.1+Rows.uptoBulk x9.1+Rows.uptoBulk x10.1+Rows.uptoBulk x11.1+Rows.uptoBulk x12.1+Rows.uptoBulk x13.1+Rows.uptoBulk x14.1+Rows.uptoBulk x15.1+Rows.uptoBulk x16.1+Rows.uptoBulk x17.1+Rows.uptoBulk x18.1+1:=by
  rw[hx,Rows.uptoBulk,bulk_all,hxs]
  simp only[List.map_cons,List.map_nil,List.sum_cons,List.sum_nil]
  omega
 refine⟨⟨m0,m1,m2,m3,m4,m5,m6,m7,m8,m9,m10,m11,m12,m13,m14,m15,m16,m17,m18⟩,show Reps _ _ ([sI m0]++([sI m1]++(poC m2++([sS m3]++([sS m4]++([sS m5]++([bW m6]++([bW m7]++(nsC m8++(nsC m9++(nsC m10++(nsC m11++(exC m12++(lvC m13++(rgC m14++(cxC m15++([sB m16]++([.lst none 55 (kR m17)]++([.lst none 55 (kR m18)]++[]))))))))))))))))))) (cs.drop 0) from(aA c0 (aA c1 (aA c2 (aA c3 (aA c4 (aA c5 (aA c6 (aA c7 (aA c8 (aA c9 (aA c10 (aA c11 (aA c12 (aA c13 (aA c14 (aA c15 (aA c16 (aA c17 (aA c18 (by rw[hend];exact .nil)))))))))))))))))))),?_⟩
 have hw:wS ⟨m0,m1,m2,m3,m4,m5,m6,m7,m8,m9,m10,m11,m12,m13,m14,m15,m16,m17,m18⟩=(wB m3+wB m4+wB m5+wL m6+wL m7+wN m8+wN m9+wN m10+wN m11+wE m12+wV m13+wR m14+wC m15)+(m17.map wS).sum+(m18.map wS).sum:=by rw[GS,nI,nI];rfl
 clear hat h hx hf hxs
 omega
theorem Cr:∀ (N:Nat) {fuel:Nat} {base:Nat} {sp:Nat→Bool} {held:Bool} {cs:List Value} {x:DataW H×List MemPlace},fuel<N→DataW.trod enc Tryz.prog W base sp held fuel 69 cs=some x→∃ a:Stm,Reps (cj W) W (stC a) cs∧wS a≤Rows.uptoBulk x.1
 |0,_,_,_,_,_,_,h,_=>absurd h (Nat.not_lt_zero _)
 |N+1,_,_,_,_,_,_,hl,h=>IB N (fun h1 h2=>Cr N h1 h2) (by omega) h
theorem Kc {fuel:Nat} {base:Nat} {sp:Nat→Bool} {held:Bool} {cs:List Value} {x:DataW H×List MemPlace} (h:DataW.trod enc Tryz.prog W base sp held fuel 69 cs=some x):∃ a:Stm,Reps (cj W) W (stC a) cs∧wS a≤Rows.uptoBulk x.1:=Cr (fuel+1) (Nat.lt_succ_self _) h
theorem ve:∃ fs,Tryz.prog.underlying 25=some (.struct fs)∧fs.toList.map (fun f=>(f.type,f.offset))=[(9,0),(3,1),(23,2)]:=⟨_,Tryz.underlying25,by kernel_rfl⟩
theorem JS {fuel:Nat} {base:Nat} {sp:Nat→Bool} {held:Bool} {cs:List Value} {x:DataW H×List MemPlace} (h:DataW.trod enc Tryz.prog W base sp held fuel 25 cs=some x):∃ a:Mo,Reps (cj W) W (moC a) cs∧wM a≤Rows.uptoBulk x.1:=by
 obtain ⟨fs,hu,hf⟩:=ve
 obtain ⟨xs,n,hn,hx,hl,hxl,hat⟩:=DataW.trod_struct hu h
 rw[pS] at hl
 have hsz:fs.size=3:=by have:=congrArg List.length hf;simpa using this
 rw[hsz] at hxl
 obtain ⟨f0,e0,t0,o0⟩:=aM hf 0 _ rfl
 obtain ⟨x0,g0⟩:=aK hxl (i:=0) (by omega)
 have h0:=(hat 0 f0 e0).trans g0
 rw[t0,o0] at h0
 dsimp only at h0
 rw[dc] at h0
 obtain ⟨m0,c0,b0⟩:=eW h0
 obtain ⟨f1,e1,t1,o1⟩:=aM hf 1 _ rfl
 obtain ⟨x1,g1⟩:=aK hxl (i:=1) (by omega)
 have h1:=(hat 1 f1 e1).trans g1
 rw[t1,o1] at h1
 dsimp only at h1
 rw[gK] at h1
 obtain ⟨m1,c1⟩:=lq h1
 obtain ⟨f2,e2,t2,o2⟩:=aM hf 2 _ rfl
 obtain ⟨x2,g2⟩:=aK hxl (i:=2) (by omega)
 have h2:=(hat 2 f2 e2).trans g2
 rw[t2,o2] at h2
 dsimp only at h2
 rw[je] at h2
 obtain ⟨m2,c2,b2⟩:=gR (f:=stC) (B:=wS) n pL iD (by omega) nE (fun _ hh=>Kc hh) (Nat.le_refl _) h2
 have hend:cs.drop 3=[]:=List.drop_of_length_le (by omega)
 have hend2:xs.drop 3=[]:=List.drop_of_length_le (by omega)
 have hxs:xs=[x0,x1,x2]:=by
  rw[show xs=xs.drop 0 from rfl,drop_at g0,drop_at g1,drop_at g2,hend2]
 have hb:Rows.uptoBulk x.1=Rows.uptoBulk x0.1+Rows.uptoBulk x1.1+Rows.uptoBulk x2.1+1:=by
  rw[hx,Rows.uptoBulk,bulk_all,hxs]
  simp only[List.map_cons,List.map_nil,List.sum_cons,List.sum_nil]
  omega
 refine⟨⟨m0,m1,m2⟩,show Reps _ _ ([sS m0]++([sI m1]++([.lst none 55 (m2.map stC)]++[]))) (cs.drop 0) from(aA c0 (aA c1 (aA c2 (by rw[hend];exact .nil)))),?_⟩
 have hw:wM ⟨m0,m1,m2⟩=wB m0+(m2.map wS).sum:=by unfold wM;rw[nI]
 clear hat h hx hf hxs
 omega
theorem open_moC {sp:Nat→Bool} {held:Bool} {base:Nat} {r:Reach} {b0:Nat} {v:Value} {d:DataW H} {ps:List MemPlace} (hval:Value.okWide Tryz.prog W r b0 25 v) (h:DataW.Trod enc Tryz.prog W base sp held 25 v d ps):∃ x:Mo,RepV (cj W) W (.agg (moC x)) v∧wM x≤Rows.uptoBulk d:=by
 obtain ⟨fs,hu,-⟩:=ve
 obtain ⟨cs,rfl,_⟩:=okWide_struct hu hval
 obtain ⟨fuel,hf⟩:=h
 obtain ⟨x,hc,hb⟩:=JS hf
 exact⟨x,.agg (by simpa [Value.cells] using hc),hb⟩
end
end Am
namespace Am
open Tk
set_option maxRecDepth 100000
set_option maxHeartbeats 4000000
theorem Ab {κ:K} {w:World} {x:Value} {cs:List C} {t:Option Nat} {k:Nat} {α:Type} {f:α→List C} {l:List α} (hr:RepV κ w (.agg cs) x) (hc:C.lst t k (l.map f)∈cs):l.length≤9223372036854775807:=by
 cases hr with|agg h=>
  obtain ⟨v,hv⟩:=uD h hc
  have:=GH hv
  rwa [List.length_map] at this
theorem nL {κ:K} {w:World} {x:Value} {e:Ex} (hr:RepV κ w (.agg (exC e)) x):e.kids.length≤9223372036854775807:=
 Ab hr (t:=none) (k:=10) (f:=exC) (by rw[exC,lh];simp)
theorem nB (l m:List ByteArray):Pure Tryz.prog 126 [.c (bW l),.c (bW m)] (.c (sB (decide (l=m)))):=by
 refine fn2 (fn:=Tryz.f126) Tryz.call126 Tryz.func126 rfl Tryz.ntmps126 Tryz.results126 rfl (by rfl) ?_
 refine AW.fact (t:=0) rfl (fun κ w x hr=>gB hr) fun hn=>?_
 repeat'(first|(with_reducible first|apply AW.seq|apply AW.block|apply AW.skip|apply AW.ret|apply ae|apply ar|apply ay|apply aJ|apply y_e|refine ag ?_|refine bh ?_)|((with_reducible apply ak);refine t_v AS.v ?_)|((with_reducible refine av ?_);((refine aj (fun hc=>?_) (fun hc=>?_);all_goals(try(exfalso;revert hc;simp;omega)))))|((with_reducible refine aF ?_);refine k_b ?_)|(refine⟨by decide +kernel,?_⟩)|fail)
 ·rw[eq_comm,decide_eq_false_iff_not]
  rintro rfl
  simp at hc
 have hlen:l.length=m.length:=by
  have:(l.length:Int)=m.length:=by simpa using hc
  omega
 refine AW.loop (fun n σ=>∃ j,n=l.length - j∧j≤l.length∧l.take j=m.take j∧σ=mk [(0,.c (bW l)),(1,.c (bW m)),(5,.c (sI j))] []) l.length ?_ ?_
 ·exact⟨_,wkA,0,rfl,Nat.zero_le _,rfl,rfl⟩
 rintro n σ ⟨j,rfl,hj,ha,rfl⟩
 by_cases hlt:j<l.length
 ·obtain ⟨x,hx⟩:∃ x,l[j]? =some x:=⟨_,List.getElem?_eq_getElem hlt⟩
  obtain ⟨y,hy⟩:∃ y,m[j]? =some y:=⟨_,List.getElem?_eq_getElem (by omega)⟩
  repeat'(first|(with_reducible first|apply AW.seq|apply AW.block|apply AW.skip|apply AW.ret|apply ae|apply ar|apply ay|apply aJ|apply y_e|refine ag ?_|refine bh ?_)|((with_reducible apply ak);refine t_v AS.v ?_)|((with_reducible refine av ?_);((refine aj (fun hc=>?_) (fun hc=>?_);all_goals(try(exfalso;revert hc;simp;omega)))))|((with_reducible refine aF ?_);refine k_b ?_)|(refine⟨by decide +kernel,?_⟩)|fail)
  ·rw[eq_comm,decide_eq_false_iff_not]
   exact AA hx hy (by simpa using hc)
  ·exact⟨_,_,(show l.length - (j+1)<l.length - j by omega),wkA,j+1,rfl,hlt,tq ha hx hy (by simpa using hc),rfl⟩
 ·repeat'(first|(with_reducible first|apply AW.seq|apply AW.ret|apply AW.exit|apply ae|apply aG|apply aT|apply y_e|refine ag ?_)|((with_reducible apply ak);refine t_v AS.v ?_)|((with_reducible refine av ?_);((refine aj (fun hc=>?_) (fun hc=>?_);all_goals(try(exfalso;revert hc;simp;omega)))))|((with_reducible refine aF ?_);refine k_b ?_)|fail)
  exact(decide_eq_true (xA ha (by omega) hlen)).symm
theorem ze (a b:NS):Pure Tryz.prog 127 [.agg (nsC a),.agg (nsC b)] (.c (sB (cA a b))):=by
 refine fn2 (fn:=Tryz.f127) Tryz.call127 Tryz.func127 rfl Tryz.ntmps127 Tryz.results127 rfl (by rfl) ?_
 repeat'(first|(with_reducible first|apply AW.seq|apply AW.ret|apply ae|apply y_e|refine ag ?_)|((with_reducible apply ak);first|refine t_v AS.v ?_|refine t_w AS.w ?_)|((with_reducible apply bt);first|refine t_m (hs:=fun hg=>AS.v) (k:=?_)|refine t_m (hs:=fun hg=>(by exact ah (hP:=nB _ _))) (k:=?_))|((with_reducible refine aF ?_);refine k_b ?_)|fail)
 simp[cA]
theorem my (a b:Lv):Pure Tryz.prog 129 [.agg (lvC a),.agg (lvC b)] (.c (sB (eg a b))):=by
 refine fn2 (fn:=Tryz.f129) Tryz.call129 Tryz.func129 rfl Tryz.ntmps129 Tryz.results129 rfl (by rfl) ?_
 refine AW.fact (t:=0) rfl (fun κ w x hr=>Ab hr (l:=a.cats) (f:=spC) (.tail _ (.head _))) fun hn=>?_
 repeat'(first|(with_reducible first|apply AW.seq|apply AW.block|apply AW.skip|apply AW.ret|apply ae|apply ar|apply ay|apply aJ|apply y_e|refine ag ?_|refine bh ?_)|((with_reducible apply ak);first|refine t_v AS.v ?_|refine t_w AS.w ?_)|((with_reducible apply bt);refine t_m (hs:=fun hg=>AS.v) (k:=?_))|((with_reducible refine av ?_);((refine aj (fun hc=>?_) (fun hc=>?_);all_goals(try(exfalso;revert hc;simp;omega)))))|((with_reducible refine aF ?_);refine k_b ?_)|(refine⟨by decide +kernel,?_⟩)|fail)
 ·rw[eq_comm,eg,Bool.and_eq_false_iff]
  simp only[List.length_map] at hc
  by_cases h1:a.sens=b.sens
  ·right
   rw[decide_eq_false_iff_not]
   intro h2
   rw[h1,h2] at hc
   simp at hc
  ·left;exact decide_eq_false h1
 have hlen:a.sens=b.sens∧a.cats.length=b.cats.length:=by
  simp only[List.length_map] at hc
  simp at hc
  exact⟨hc.1,by omega⟩
 refine AW.loop (fun n σ=>∃ j,n=a.cats.length - j∧j≤a.cats.length∧a.cats.take j=b.cats.take j∧σ=mk [(2,.c (.ptr 2 0)),(3,.c (.ptr 3 0)),(5,.c (sI j))] [(3,.obj 63 (lvC b)),(2,.obj 63 (lvC a))]) a.cats.length ?_ ?_
 ·exact⟨_,wkA,0,rfl,Nat.zero_le _,rfl,rfl⟩
 rintro n σ ⟨j,rfl,hj,ha,rfl⟩
 by_cases hlt:j<a.cats.length
 ·obtain ⟨x,hx⟩:∃ x,a.cats[j]? =some x:=⟨_,List.getElem?_eq_getElem hlt⟩
  obtain ⟨y,hy⟩:∃ y,b.cats[j]? =some y:=⟨_,List.getElem?_eq_getElem (by omega)⟩
  repeat'(first|(with_reducible first|apply AW.seq|apply AW.block|apply AW.skip|apply AW.ret|apply ae|apply ar|apply ay|apply aJ|apply y_e|refine ag ?_|refine bh ?_)|((with_reducible apply ak);first|refine t_v AS.v ?_|refine t_w AS.w ?_)|((with_reducible apply bt);refine t_m (hs:=fun hg=>AS.v) (k:=?_))|((with_reducible refine av ?_);((refine aj (fun hc=>?_) (fun hc=>?_);all_goals(try(exfalso;revert hc;simp;omega)))))|((with_reducible refine aF ?_);refine k_b ?_)|(refine⟨by decide +kernel,?_⟩)|fail)
  ·rw[eg,decide_eq_false (AA hx hy (by simpa using hc)),Bool.and_false]
  ·exact⟨_,_,(show a.cats.length - (j+1)<a.cats.length - j by omega),wkA,j+1,rfl,hlt,tq ha hx hy (by simpa using hc),rfl⟩
 ·repeat'(first|(with_reducible first|apply AW.seq|apply AW.ret|apply AW.exit|apply ae|apply aG|apply aT|apply y_e|refine ag ?_)|((with_reducible apply ak);refine t_v AS.v ?_)|((with_reducible refine av ?_);((refine aj (fun hc=>?_) (fun hc=>?_);all_goals(try(exfalso;revert hc;simp;omega)))))|((with_reducible refine aF ?_);refine k_b ?_)|fail)
  rw[eg,decide_eq_true hlen.1,decide_eq_true (xA ha (by omega) hlen.2)];rfl
theorem qC (a b:Rg):Pure Tryz.prog 130 [.agg (rgC a),.agg (rgC b)] (.c (sB (eF a b))):=by
 refine fn2 (fn:=Tryz.f130) Tryz.call130 Tryz.func130 rfl Tryz.ntmps130 Tryz.results130 rfl (by rfl) ?_
 repeat'(first|(with_reducible first|apply AW.seq|apply AW.ret|apply ae|apply y_e|refine ag ?_)|((with_reducible apply ak);first|refine t_v AS.v ?_|refine t_v (by exact ah (hP:=my _ _)) ?_|refine t_w AS.w ?_)|((with_reducible apply bt);first|refine t_m (hs:=fun hg=>AS.v) (k:=?_)|refine t_m (hs:=fun hg=>(by exact ah (hP:=my _ _))) (k:=?_))|((with_reducible refine aF ?_);refine k_b ?_)|fail)
 rfl
def Cf (a b:Ct):Bool:=decide (a.user=b.user)&&decide (a.role=b.role)&&decide (a.type=b.type)&&eF a.rng b.rng
theorem zd (a b:Ct):Pure Tryz.prog 131 [.agg (cxC a),.agg (cxC b)] (.c (sB (Cf a b))):=by
 refine fn2 (fn:=Tryz.f131) Tryz.call131 Tryz.func131 rfl Tryz.ntmps131 Tryz.results131 rfl (by rfl) ?_
 repeat'(first|(with_reducible first|apply AW.seq|apply AW.ret|apply ae|apply y_e|refine ag ?_)|((with_reducible apply ak);first|refine t_v AS.v ?_|refine t_w AS.w ?_)|((with_reducible apply bt);first|refine t_m (hs:=fun hg=>AS.v) (k:=?_)|refine t_m (hs:=fun hg=>(by exact ah (hP:=qC _ _))) (k:=?_))|((with_reducible refine aF ?_);refine k_b ?_)|fail)
 rfl
theorem uz:∀ (n:Nat) (a b:Ex),SizeOf.sizeOf a<n→Pure Tryz.prog 128 [.agg (exC a),.agg (exC b)] (.c (sB (fq a b)))
 |0,_,_,h=>absurd h (Nat.not_lt_zero _)
 |n+1,a,b,h=>by
  have ih:∀ x∈a.kids,∀ y,Pure Tryz.prog 128 [.agg (exC x),.agg (exC y)] (.c (sB (fq x y))):=fun x hx y=>
   uz n x y (by have:=fW hx;omega)
  rw[jQ]
  refine fn2 (fn:=Tryz.f128) Tryz.call128 Tryz.func128 rfl Tryz.ntmps128 Tryz.results128 rfl (by rfl) ?_
  refine AW.fact (t:=0) rfl (fun κ w x hr=>nL hr) fun hn=>?_
  repeat'(first|(with_reducible first|apply AW.seq|apply AW.block|apply AW.skip|apply AW.ret|apply ae|apply ar|apply y_e|refine ag ?_)|((with_reducible apply ak);first|refine t_v AS.v ?_|refine t_w AS.w ?_)|((with_reducible apply bt);first|refine t_m (hs:=fun hg=>AS.v) (k:=?_)|refine t_m (hs:=fun hg=>(by exact ah (hP:=nB _ _))) (k:=?_))|((with_reducible refine av ?_);((refine aj (fun hc=>?_) (fun hc=>?_))))|((with_reducible refine aF ?_);refine k_b ?_)|fail)
  ·simp only[List.length_map] at hc
   rcases Nat.decEq a.kids.length b.kids.length with hn|hn
   ·rw[nN hn,Bool.and_false]
   ·unfold lL
    rw[eq_comm,Bool.and_eq_false_iff];left
    revert hc;simp[hn]
    grind
  have hlen:a.kids.length=b.kids.length∧lL a b=true:=by
   simp only[List.length_map] at hc
   unfold lL
   grind
  rw[hlen.2,Bool.true_and]
  refine AW.loop (fun n σ=>∃ j,n=a.kids.length - j∧j≤a.kids.length∧qB fq a.kids b.kids j∧σ=mk [(2,.c (.ptr 2 0)),(3,.c (.ptr 3 0)),(5,.c (sI j))] [(3,.obj 49 (exC b)),(2,.obj 49 (exC a))]) a.kids.length ?_ ?_
  ·exact⟨_,wkA,0,rfl,Nat.zero_le _,qA,rfl⟩
  rintro n σ ⟨j,rfl,hj,ha,rfl⟩
  by_cases hlt:j<a.kids.length
  ·obtain ⟨x,hx⟩:∃ x,a.kids[j]? =some x:=⟨_,List.getElem?_eq_getElem hlt⟩
   obtain ⟨y,hy⟩:∃ y,b.kids[j]? =some y:=⟨_,List.getElem?_eq_getElem (by omega)⟩
   have hp:=ih x (List.mem_of_getElem? hx) y
   repeat'(first|(with_reducible first|apply AW.seq|apply AW.block|apply AW.skip|apply AW.ret|apply ae|apply ar|apply ay|apply aJ|apply y_e|refine ag ?_|refine bh ?_)|((with_reducible apply ak);first|refine t_v AS.v ?_|refine t_v (by exact ah (hP:=hp)) ?_)|((with_reducible refine av ?_);((refine aj (fun hc=>?_) (fun hc=>?_);all_goals(try(exfalso;revert hc;simp;omega)))))|((with_reducible refine aF ?_);refine k_b ?_)|(refine⟨by decide +kernel,?_⟩)|fail)
   ·rw[qO hx hy (by simpa using hc)]
   ·exact⟨_,_,(show a.kids.length - (j+1)<a.kids.length - j by omega),wkA,j+1,rfl,hlt,qz ha hx hy (by simpa using hc),rfl⟩
  ·repeat'(first|(with_reducible first|apply AW.seq|apply AW.ret|apply AW.exit|apply ae|apply aG|apply aT|apply y_e|refine ag ?_)|((with_reducible apply ak);refine t_v AS.v ?_)|((with_reducible refine av ?_);((refine aj (fun hc=>?_) (fun hc=>?_);all_goals(try(exfalso;revert hc;simp;omega)))))|((with_reducible refine aF ?_);refine k_b ?_)|fail)
   rw[nM ha (by omega) hlen.1]
theorem C4 (a b:Ex):Pure Tryz.prog 128 [.agg (exC a),.agg (exC b)] (.c (sB (fq a b))):=uz _ a b (Nat.lt_succ_self _)
theorem mz {l m:List Stm} (h:∀ x∈l,∀ y,Pure Tryz.prog 64 [.agg (stC x),.agg (stC y)] (.c (sB (du x y)))):Pure Tryz.prog 22 [.c (.lst none 55 (l.map stC)),.c (.lst none 55 (m.map stC))] (.c (sB (fN du l m))):=by
 refine fn2 (fn:=Tryz.f22) Tryz.call22 Tryz.func22 rfl Tryz.ntmps22 Tryz.results22 rfl (by rfl) ?_
 refine AW.fact (t:=0) rfl (fun κ w x hr=>gB hr) fun hn=>?_
 repeat'(first|(with_reducible first|apply AW.seq|apply AW.block|apply AW.skip|apply AW.ret|apply ae|apply ar|apply y_e|refine ag ?_)|((with_reducible apply ak);refine t_v AS.v ?_)|((with_reducible refine av ?_);((refine aj (fun hc=>?_) (fun hc=>?_))))|((with_reducible refine aF ?_);refine k_b ?_)|fail)
 ·rw[nN (by have h1:¬((l.length:Int)=m.length):=by simpa using hc
            omega)]
 have hlen:l.length=m.length:=by
  have:(l.length:Int)=m.length:=by simpa using hc
  omega
 refine AW.loop (fun n σ=>∃ j,n=l.length - j∧j≤l.length∧qB du l m j∧σ=mk [(0,.c (.lst none 55 (l.map stC))),(1,.c (.lst none 55 (m.map stC))),(5,.c (sI j))] []) l.length ?_ ?_
 ·exact⟨_,wkA,0,rfl,Nat.zero_le _,qA,rfl⟩
 rintro n σ ⟨j,rfl,hj,ha,rfl⟩
 by_cases hlt:j<l.length
 ·obtain ⟨x,hx⟩:∃ x,l[j]? =some x:=⟨_,List.getElem?_eq_getElem hlt⟩
  obtain ⟨y,hy⟩:∃ y,m[j]? =some y:=⟨_,List.getElem?_eq_getElem (by omega)⟩
  have hp:=h x (List.mem_of_getElem? hx) y
  repeat'(first|(with_reducible first|apply AW.seq|apply AW.block|apply AW.skip|apply AW.ret|apply ae|apply ar|apply ay|apply aJ|apply y_e|refine ag ?_|refine bh ?_)|((with_reducible apply ak);first|refine t_v AS.v ?_|refine t_v (by exact ah (hP:=hp)) ?_)|((with_reducible refine av ?_);((refine aj (fun hc=>?_) (fun hc=>?_);all_goals(try(exfalso;revert hc;simp;omega)))))|((with_reducible refine aF ?_);refine k_b ?_)|(refine⟨by decide +kernel,?_⟩)|fail)
  ·rw[qO hx hy (by simpa using hc)]
  ·exact⟨_,_,(show l.length - (j+1)<l.length - j by omega),wkA,j+1,rfl,hlt,qz ha hx hy (by simpa using hc),rfl⟩
 ·repeat'(first|(with_reducible first|apply AW.seq|apply AW.ret|apply AW.exit|apply ae|apply aG|apply aT|apply y_e|refine ag ?_)|((with_reducible apply ak);refine t_v AS.v ?_)|((with_reducible refine av ?_);((refine aj (fun hc=>?_) (fun hc=>?_);all_goals(try(exfalso;revert hc;simp;omega)))))|((with_reducible refine aF ?_);refine k_b ?_)|fail)
  rw[nM ha (by omega) hlen]
theorem pk:∀ (n:Nat) (a b:Stm),SizeOf.sizeOf a<n→Pure Tryz.prog 64 [.agg (stC a),.agg (stC b)] (.c (sB (du a b)))
 |0,_,_,h=>absurd h (Nat.not_lt_zero _)
 |n+1,a,b,h=>by
  have i1:∀ x∈a.thn,∀ y,Pure Tryz.prog 64 [.agg (stC x),.agg (stC y)] (.c (sB (du x y))):=fun x hx y=>
   pk n x y (by have:=mH hx;omega)
  have i2:∀ x∈a.els,∀ y,Pure Tryz.prog 64 [.agg (stC x),.agg (stC y)] (.c (sB (du x y))):=fun x hx y=>
   pk n x y (by have:=ma hx;omega)
  rw[jP]
  refine fn2 (fn:=Tryz.f64) Tryz.call64 Tryz.func64 rfl Tryz.ntmps64 Tryz.results64 rfl (by rfl) ?_
  repeat'(first|(with_reducible first|apply AW.seq|apply AW.skip|apply AW.ret|apply ae|apply ar|apply y_e|refine ag ?_)|((with_reducible apply ak);first|refine t_v AS.v ?_|refine t_v (by first|exact ah (hP:=nB _ _)|exact ah (hP:=C4 _ _)) ?_|refine t_w AS.w ?_)|((with_reducible apply bt);first|refine t_m (hs:=fun hg=>AS.v) (k:=?_)|refine t_m (hs:=fun hg=>(by first|exact ah (hP:=nB _ _)|exact ah (hP:=ze _ _)|exact ah (hP:=my _ _)|exact ah (hP:=qC _ _)|exact ah (hP:=zd _ _)|exact ah (hP:=mz i1)|exact ah (hP:=mz i2))) (k:=?_))|((with_reducible refine av ?_);((refine aj (fun hc=>?_) (fun hc=>?_))))|((with_reducible refine aF ?_);refine k_b ?_)|fail)
  all_goals
   clear i1 i2
   simp only[iH,Cf]
   grind
theorem uy (a b:Stm):Pure Tryz.prog 64 [.agg (stC a),.agg (stC b)] (.c (sB (du a b))):=pk _ a b (Nat.lt_succ_self _)
theorem zf (l m:List Stm):Pure Tryz.prog 22 [.c (.lst none 55 (l.map stC)),.c (.lst none 55 (m.map stC))] (.c (sB (fN du l m))):=mz fun x _ y=>uy x y
theorem Fl (a b:Mo):Pure Tryz.prog 16 [.agg (moC a),.agg (moC b)] (.c (sB (decide (a.name=b.name)&&decide (a.version=b.version)&&fN du a.stmts b.stmts))):=by
 refine fn2 (fn:=Tryz.f16) Tryz.call16 Tryz.func16 rfl Tryz.ntmps16 Tryz.results16 rfl (by rfl) ?_
 repeat'(first|(with_reducible first|apply AW.seq|apply AW.ret|apply ae|apply y_e|refine ag ?_)|((with_reducible apply ak);first|refine t_v AS.v ?_|refine t_w AS.w ?_)|((with_reducible apply bt);first|refine t_m (hs:=fun hg=>AS.v) (k:=?_)|refine t_m (hs:=fun hg=>(by exact ah (hP:=zf _ _))) (k:=?_))|((with_reducible refine aF ?_);refine k_b ?_)|fail)
 rfl
end Am
end Go.Proofs.YtkpodagbefnebaaGreatDoor
