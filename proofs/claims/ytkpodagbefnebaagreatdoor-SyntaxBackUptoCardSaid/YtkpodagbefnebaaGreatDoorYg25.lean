import Derived.Test.YtkpodagbefnebaaGreatDoorYg24
import Derived.Test.YtkpodagbefnebaaGreatDoorYg9
set_option linter.unusedSimpArgs false
set_option linter.unusedVariables false
set_option linter.unusedSectionVars false
namespace Go.Proofs.YtkpodagbefnebaaGreatDoor
namespace Am
open Tk
set_option maxRecDepth 100000
set_option maxHeartbeats 4000000
section
variable {l:List Tok}
theorem B0 {h:Stm} {hs:List Tok} (hh:HdK h hs):∃ (i:Bool) (w:ByteArray) (rest:List Tok),hs=kN w :: rest∧(w=⟨#[105,102]⟩∨w=⟨#[111,112,116,105,111,110,97,108]⟩)∧qT w=true∧decide (w=⟨#[105,102]⟩)=i∧∀ (k:Ix l) (R:List Tok),l.drop k.1=rest++kM ⟨#[123]⟩ :: R→∃ k1,(if i=true then fQ tksK k>>=fun x=>.ok ({{Stm.zero with pos:=⟨0,0⟩} with kind:=17,cond:=x.1},x.2) else .ok ({{Stm.zero with pos:=⟨0,0⟩} with kind:=18},k):Except Fa (Stm×Ix l))= .ok ({h with pos:=⟨0,0⟩},k1)∧l.drop k1.1=kM ⟨#[123]⟩ :: R:=by
 cases hh with
 |cond he=>
  refine⟨true,_,_,rfl,.inl rfl,by decide,by decide,fun k R hk=>?_⟩
  obtain ⟨k1,e1,e2⟩:=DQ he hk
  exact⟨k1,by rw[if_pos rfl,e1];rfl,e2⟩
 |opt=>exact⟨false,_,_,rfl,.inr rfl,by decide,by decide,fun k R hk=>⟨k,rfl,hk⟩⟩
theorem I7 {h:Stm} {xs b:List Stm} (e:xs.map npS=b.map npS):npS {{h with pos:=⟨0,0⟩} with thn:=xs}=npS {h with thn:=b}:=by
 rw[aw,aw]
 simp only[e]
theorem I2 {h:Stm} {xs ys b e:List Stm} (e1:xs.map npS=b.map npS) (e2:ys.map npS=e.map npS):npS {{h with pos:=⟨0,0⟩} with thn:=xs,els:=ys}=npS {h with thn:=b,els:=e}:=by
 rw[aw,aw]
 simp only[e1,e2]
theorem Ii {h:Stm} {hs rest ts:List Tok} {b:List Stm} {c1 d1:Nat} {i:Bool} {w:ByteArray} (hw:w=⟨#[105,102]⟩∨w=⟨#[111,112,116,105,111,110,97,108]⟩) (hbg:qT w=true) (hi:decide (w=⟨#[105,102]⟩)=i)
 (hu:∀ (k:Ix l) (R:List Tok),l.drop k.1=rest++kM ⟨#[123]⟩ :: R→∃ k1,(if i=true then fQ tksK k>>=fun x=>.ok ({{Stm.zero with pos:=⟨0,0⟩} with kind:=17,cond:=x.1},x.2) else .ok ({{Stm.zero with pos:=⟨0,0⟩} with kind:=18},k):Except Fa (Stm×Ix l))= .ok ({h with pos:=⟨0,0⟩},k1)∧l.drop k1.1=kM ⟨#[123]⟩ :: R)
 (hb:PT l b ts c1 d1) (hcl:∀ r,hM ⟨#[125]⟩ (ts++r)=false) (n dd:Nat) (k:Ix l) (cc:Nat) (r:List Tok) (hr:r≠[]) (hel:hW ⟨#[101,108,115,101]⟩ r=false) (hc:cc+(c1+1)≤1024) (hd:dd+(d1+1)≤12) (hn:4*((rest++kM ⟨#[123]⟩ :: (ts++[kM ⟨#[125]⟩])).length+1)+1≤n) (hk:l.drop k.1=kN w :: ((rest++kM ⟨#[123]⟩ :: (ts++[kM ⟨#[125]⟩]))++r)) :
 ∃ x k',cT tksK n dd k cc= .ok (x,(k',cc+(c1+1)))∧npS x=npS {h with thn:=b}∧l.drop k'.1=r:=by
 simp only[List.length_append,List.length_cons,List.length_nil] at hn
 obtain ⟨n,rfl⟩:∃ m,n=m+2:=⟨n - 2,by omega⟩
 have hk:l.drop k.1=kN w :: (rest++kM ⟨#[123]⟩ :: (ts++kM ⟨#[125]⟩ :: r)):=by rw[hk];simp
 have h1:=aN hk (by simp)
 obtain ⟨k1,e1,e2⟩:=hu (nx k) _ h1
 obtain ⟨xs,k',e3,e4,e5⟩:=wc hb hcl n dd k1 (cc+1) r hr (by omega) (by omega) (by omega) e2
 refine⟨_,k',?_,I7 e4,e5⟩
 rw[cT,gD hk]
 dsimp only
 rw[if_pos ⟨rfl,hbg⟩,if_neg (by omega),if_pos hw,if_neg (by omega),hi,cm,e1,aa]
 dsimp only
 rw[e3,aa]
 dsimp only
 rw[kj e5,hel,if_neg (by decide),aa]
 dsimp only
 rw[show cc+1+c1=cc+(c1+1) by omega]
theorem Ij {h:Stm} {hs rest ts vs:List Tok} {b e:List Stm} {c1 d1 c2 d2:Nat} {i:Bool} {w:ByteArray} (hw:w=⟨#[105,102]⟩∨w=⟨#[111,112,116,105,111,110,97,108]⟩) (hbg:qT w=true) (hi:decide (w=⟨#[105,102]⟩)=i)
 (hu:∀ (k:Ix l) (R:List Tok),l.drop k.1=rest++kM ⟨#[123]⟩ :: R→∃ k1,(if i=true then fQ tksK k>>=fun x=>.ok ({{Stm.zero with pos:=⟨0,0⟩} with kind:=17,cond:=x.1},x.2) else .ok ({{Stm.zero with pos:=⟨0,0⟩} with kind:=18},k):Except Fa (Stm×Ix l))= .ok ({h with pos:=⟨0,0⟩},k1)∧l.drop k1.1=kM ⟨#[123]⟩ :: R)
 (hb:PT l b ts c1 d1) (hcl:∀ r,hM ⟨#[125]⟩ (ts++r)=false) (he:PT l e vs c2 d2) (hce:∀ r,hM ⟨#[125]⟩ (vs++r)=false) (n dd:Nat) (k:Ix l) (cc:Nat) (r:List Tok) (hr:r≠[]) (hc:cc+(c1+c2+1)≤1024) (hd:dd+max (d1+1) (d2+1)≤12) (hn:4*((rest++kM ⟨#[123]⟩ :: (ts++kM ⟨#[125]⟩ :: kN ⟨#[101,108,115,101]⟩ :: kM ⟨#[123]⟩ :: (vs++[kM ⟨#[125]⟩]))).length+1)+1≤n) (hk:l.drop k.1=kN w :: ((rest++kM ⟨#[123]⟩ :: (ts++kM ⟨#[125]⟩ :: kN ⟨#[101,108,115,101]⟩ :: kM ⟨#[123]⟩ :: (vs++[kM ⟨#[125]⟩])))++r)) :
 ∃ x k',cT tksK n dd k cc= .ok (x,(k',cc+(c1+c2+1)))∧npS x=npS {h with thn:=b,els:=e}∧l.drop k'.1=r:=by
 simp only[List.length_append,List.length_cons,List.length_nil] at hn
 obtain ⟨n,rfl⟩:∃ m,n=m+2:=⟨n - 2,by omega⟩
 have hk:l.drop k.1=kN w :: (rest++kM ⟨#[123]⟩ :: (ts++kM ⟨#[125]⟩ :: kN ⟨#[101,108,115,101]⟩ :: kM ⟨#[123]⟩ :: (vs++kM ⟨#[125]⟩ :: r))):=by rw[hk];simp
 have h1:=aN hk (by simp)
 obtain ⟨k1,e1,e2⟩:=hu (nx k) _ h1
 obtain ⟨xs,k2,e3,e4,e5⟩:=wc hb hcl n dd k1 (cc+1) (kN ⟨#[101,108,115,101]⟩ :: kM ⟨#[123]⟩ :: (vs++kM ⟨#[125]⟩ :: r)) (by simp) (by omega) (by omega) (by omega) e2
 have h2:=aN e5 (by simp)
 obtain ⟨ys,k',e6,e7,e8⟩:=wc he hce n dd (nx k2) (cc+1+c1) r hr (by omega) (by omega) (by omega) h2
 refine⟨_,k',?_,I2 e4 e7,e8⟩
 rw[cT,gD hk]
 dsimp only
 rw[if_pos ⟨rfl,hbg⟩,if_neg (by omega),if_pos hw,if_neg (by omega),hi,cm,e1,aa]
 dsimp only
 rw[e3,aa]
 dsimp only
 rw[kj e5,nc,if_pos (by simp),e6,aa,aa]
 dsimp only
 rw[show cc+1+c1+c2=cc+(c1+c2+1) by omega]
theorem Ig {ss:List Stm} {ts:List Tok} {c d:Nat} (h:TK ss ts c d):PT l ss ts c d:=by
 induction h with
 |nil=>exact Ih
 |@ln w s ts us ss c d h hl ih=>
  have:=s9 (d1:=0) (c1:=1) ih (s:=s) (ts:=ts) (w:=w) (fun n dd k cc r hr _ hc _ hn hk=>K2 h n dd k cc r hr hc (by omega) hk) fun dd r hs=>hl.els hs
  rw[Nat.add_comm,Nat.zero_max] at this
  exact this
 |@blk h s hs ts us ss b c d c1 d1 hh hb b0 hn hl ihb ih=>
  obtain ⟨i,w,rest,rfl,hw,hbg,hi,hu⟩:=B0 (l:=l) hh
  have:=s9 (d1:=d1+1) (c1:=c1+1) ih (s:=s) (ts:=rest++kM ⟨#[123]⟩ :: (ts++[kM ⟨#[125]⟩])) (w:=w) (fun n dd k cc r hr hel hc hd hn2 hk=>by
   rw[hn]
   exact Ii (hs:=[]) hw hbg hi hu ihb (fun r=>hb.cls b0 r) n dd k cc r hr hel hc hd hn2 hk) fun dd r hs=>hl.els hs
  rw[show(kN w :: (rest++kM ⟨#[123]⟩ :: (ts++[kM ⟨#[125]⟩])++us):List Tok)=kN w :: rest++kM ⟨#[123]⟩ :: (ts++kM ⟨#[125]⟩ :: us) by simp] at this
  exact this
 |@two h s hs ts vs us ss b e c d c1 d1 c2 d2 hh hb b0 he e0 hn hl ihb ihe ih=>
  obtain ⟨i,w,rest,rfl,hw,hbg,hi,hu⟩:=B0 (l:=l) hh
  have:=s9 (d1:=max (d1+1) (d2+1)) (c1:=c1+c2+1) ih (s:=s) (ts:=rest++kM ⟨#[123]⟩ :: (ts++kM ⟨#[125]⟩ :: kN ⟨#[101,108,115,101]⟩ :: kM ⟨#[123]⟩ :: (vs++[kM ⟨#[125]⟩]))) (w:=w) (fun n dd k cc r hr _ hc hd hn2 hk=>by
   rw[hn]
   exact Ij (hs:=[]) hw hbg hi hu ihb (fun r=>hb.cls b0 r) ihe (fun r=>he.cls e0 r) n dd k cc r hr hc hd hn2 hk) fun dd r hs=>hl.els hs
  rw[show(kN w :: (rest++kM ⟨#[123]⟩ :: (ts++kM ⟨#[125]⟩ :: kN ⟨#[101,108,115,101]⟩ :: kM ⟨#[123]⟩ :: (vs++[kM ⟨#[125]⟩]))++us):List Tok)=kN w :: rest++kM ⟨#[123]⟩ :: (ts++kM ⟨#[125]⟩ :: kN ⟨#[101,108,115,101]⟩ :: kM ⟨#[123]⟩ :: (vs++kM ⟨#[125]⟩ :: us)) by simp] at this
  exact this
end
abbrev kE:Tok:=⟨0,⟨#[]⟩,⟨0,0⟩⟩
theorem BS {name num:ByteArray} {ss:List Stm} {ts:List Tok} {c d:Nat} (hi:idB name=true) (h9:ky num≤9999) (h:TK ss ts c d) (hc:c≤1024) (hd:d≤12):∃ xs,kL (kN ⟨#[109,111,100,117,108,101]⟩ :: kN name :: kI num :: kM ⟨#[59]⟩ :: (ts++[kE]))= .ok ⟨name,(ky num:Int),xs⟩∧xs.map npS=ss.map npS:=by
 generalize hl:(kN ⟨#[109,111,100,117,108,101]⟩ :: kN name :: kI num :: kM ⟨#[59]⟩ :: (ts++[kE]):List Tok)=l
 have h0:0<l.length:=by rw[← hl];simp
 have hlen:l.length=ts.length+5:=by rw[← hl];simp
 have a0:l.drop (⟨0,h0⟩:Ix l).1=kN ⟨#[109,111,100,117,108,101]⟩ :: kN name :: kI num :: kM ⟨#[59]⟩ :: (ts++[kE]):=hl.symm
 have a1:=aN a0 (by simp)
 have a2:=aN a1 (by simp)
 have a3:=aN a2 (by simp)
 have a4:=aN a3 (by simp)
 obtain ⟨xs,k',e1,e2,e3⟩:=Ig (l:=l) h (fuel l) 0 [] (nx (nx (nx (nx ⟨0,h0⟩)))) 0 [kE] ⟨kE,[],rfl,.inl rfl⟩ (by omega) (by omega) (by unfold fuel;omega) a4
 refine⟨xs,?_,e2⟩
 have e4:gm (⟨0,h0⟩:Ix l)= .ok (⟨name,(ky num:Int),[]⟩,nx (nx (nx (nx ⟨0,h0⟩)))):=by
  unfold gm
  rw[kY a0,aa]
  dsimp only
  rw[br a1 hi,aa]
  dsimp only
  rw[gD a2]
  dsimp only
  rw[if_pos rfl,if_neg (by omega),fv a3,aa]
 unfold kL lx
 rw[dif_pos h0,e4,aa]
 dsimp only
 rw[e1,aa,aa]
 dsimp only
 rw[gD e3,if_pos rfl,List.nil_append]
end Am
namespace Am
open Tk
set_option maxRecDepth 100000
set_option maxHeartbeats 4000000
def Hr (s:Stm):Stm:={s with pos:=⟨0,0⟩,thn:=[],els:=[]}
theorem At (s:Stm):Hr (npS s)=Hr s:=by rw[aw];rfl
theorem tL (s:Stm):bk s=bk (Hr s):=rfl
theorem EE {s t:Stm} (e:npS s=npS t):bk s=bk t:=by
 rw[tL s,tL t,←At s,←At t,e]
theorem LnS.of {s t:Stm} (h:LnS t) (e:npS s=npS t):LnS s:=by
 obtain ⟨w,ts,h1,h2⟩:=h
 refine⟨w,ts,⟨h1.bg,h1.ni,fun l k r hr hk=>?_⟩,by rw[EE e];exact h2⟩
 obtain ⟨s',k',a,b,c⟩:=h1.pl l k r hr hk
 exact⟨s',k',a,b.trans e.symm,c⟩
def HdW (s:Stm):Prop:=(cB 1 s.cond=0∧npS s=npS {Stm.zero with kind:=17,cond:=s.cond,thn:=s.thn,els:=s.els})∨npS s=npS {Stm.zero with kind:=18,thn:=s.thn,els:=s.els}
mutual
inductive WfS:Stm→Nat→Nat→Prop where
 |ln {s:Stm} (hk:s.kind≠17∧s.kind≠18) (h:LnS s):WfS s 1 0
 |one {s:Stm} {c d:Nat} (hk:s.kind=17∨s.kind=18) (h:HdW s) (h0:s.thn≠[]) (ht:WfL s.thn c d) (he:s.els=[]):WfS s (c+1) (d+1)
 |two {s:Stm} {c1 d1 c2 d2:Nat} (hk:s.kind=17∨s.kind=18) (h:HdW s) (h0:s.thn≠[]) (ht:WfL s.thn c1 d1) (he:s.els≠[]) (hs:WfL s.els c2 d2):WfS s (c1+c2+1) (max (d1+1) (d2+1))
inductive WfL:List Stm→Nat→Nat→Prop where
 |nil:WfL [] 0 0
 |cons {s:Stm} {l:List Stm} {c1 d1 c d:Nat} (h:WfS s c1 d1) (hl:WfL l c d):WfL (s :: l) (c1+c) (max d1 d)
end
theorem kz:∀ n:Nat,SB false (jb n) []
 |0=>by
  have e:jb 0=⟨#[]⟩:=rfl
  rw[e];exact SB.nil
 |n+1=>by
  have e:jb (n+1)=⟨#[32,32]⟩++jb n:=by
   unfold jb Fp
   have h:∀ l:List UInt8,Lib.repeatL l (n+1)=l++Lib.repeatL l n:=fun l=>rfl
   rw[h]
   apply ByteArray.ext
   rw[ByteArray.data_append]
   simp
  rw[e]
  exact SB.appF (ts:=[]) (us:=[]) (ScK.sp.app ScK.sp fun h=>by cases h) (kz n)
theorem Cj:SB false ⟨#[123,10]⟩ [kM ⟨#[123]⟩]:=(ScK.mark1 (c:=123) (by decide) (by decide)).app ScK.nl fun h=>by cases h
theorem xI {s:Stm} (h:HdW s) (hk:s.kind=17∨s.kind=18):∃ h' hs,HdK h' hs∧npS s=npS {h' with thn:=s.thn,els:=s.els}∧SB false (jC s) (hs++[kM ⟨#[123]⟩]):=by
 rcases h with⟨h1,h2⟩|h2
 ·refine⟨_,_,HdK.cond h1,h2,?_⟩
  have hk:s.kind=17:=by
   have:=congrArg Stm.kind h2
   rw[aw,aw] at this
   exact this
  unfold jC
  rw[if_pos hk]
  have e:cq ⟨#[32]⟩ [⟨#[105,102]⟩,btT s.cond 0,⟨#[123,10]⟩]=⟨#[105,102]⟩++(⟨#[32]⟩++(btT s.cond 0++(⟨#[32]⟩++⟨#[123,10]⟩))):=by
   show(⟨#[105,102]⟩:ByteArray)++((⟨#[32]⟩:ByteArray)++btT s.cond 0++((⟨#[32]⟩:ByteArray)++(⟨#[123,10]⟩:ByteArray)++(⟨#[]⟩:ByteArray)))=_
   rw[Ag,aL]
  rw[e]
  exact(dF ⟨#[105,102]⟩ (by decide)).app (sb_sp.appF ((E2 h1).app (sb_sp.appF Cj) fun _=>by decide)) fun _=>aE _ (by decide)
 ·refine⟨_,_,HdK.opt,h2,?_⟩
  have hk:s.kind=18:=by
   have:=congrArg Stm.kind h2
   rw[aw,aw] at this
   exact this
  unfold jC
  rw[if_neg (by omega)]
  have e:cq ⟨#[32]⟩ [⟨#[111,112,116,105,111,110,97,108]⟩,⟨#[123,10]⟩]=⟨#[111,112,116,105,111,110,97,108]⟩++(⟨#[32]⟩++⟨#[123,10]⟩):=by
   show(⟨#[111,112,116,105,111,110,97,108]⟩:ByteArray)++((⟨#[32]⟩:ByteArray)++(⟨#[123,10]⟩:ByteArray)++(⟨#[]⟩:ByteArray))=_
   rw[Ag]
  rw[e]
  exact(dF ⟨#[111,112,116,105,111,110,97,108]⟩ (by decide)).app (sb_sp.appF Cj) fun _=>by decide
theorem Cu (lv:Nat) (s:Stm):stT lv s=stH lv s (dj (lv+1) s.thn) (dj (lv+1) s.els):=by cases s;rw[stT]
theorem sb_els:SB false ⟨#[32,101,108,115,101,32,123,10]⟩ [kN ⟨#[101,108,115,101]⟩,kM ⟨#[123]⟩]:=
 ScK.sp.app ((ScK.name (s:=⟨#[101,108,115,101]⟩) (by decide)).app (ScK.sp.app ((ScK.mark1 (c:=123) (by decide) (by decide)).app ScK.nl fun h=>by cases h) fun h=>by cases h) fun _=>by decide) fun h=>by cases h
theorem sb_cl:SB false ⟨#[125]⟩ [kM ⟨#[125]⟩]:=j1 (c:=125) (by decide) (by decide)
def StB (s:Stm) (c d:Nat):Prop:=∀ lv:Nat,∃ ts,SB false (stT lv s) ts∧∀ (l:List Stm) (us:List Tok) (c' d':Nat),TK l us c' d'→TK (s :: l) (ts++us) (c+c') (max d d')
def BlB (l:List Stm) (c d:Nat):Prop:=∀ lv:Nat,∃ ts,SB false (dj lv l) ts∧TK l ts c d
theorem Ke {s:Stm} (hk:s.kind≠17∧s.kind≠18) (h:LnS s):StB s 1 0:=fun lv=>by
 obtain ⟨w,ts,h1,h2⟩:=h
 refine⟨kN w :: (ts++[kM ⟨#[59]⟩]),?_,fun l us c' d' hl=>?_⟩
 ·rw[Cu]
  unfold stH
  rw[if_pos hk]
  exact(kz lv).appF (h2.app (j1 (c:=59) (by decide) (by decide)) fun _=>by decide)
 ·have:=TK.ln h1 hl
  rw[Nat.add_comm 1,Nat.zero_max]
  exact this
theorem IC {s:Stm} {c d:Nat} (hk:s.kind=17∨s.kind=18) (h:HdW s) (h0:s.thn≠[]) (ht:BlB s.thn c d) (he:s.els=[]):StB s (c+1) (d+1):=fun lv=>by
 obtain ⟨h',hs,a1,a2,a3⟩:=xI h hk
 obtain ⟨ts,b1,b2⟩:=ht (lv+1)
 refine⟨hs++kM ⟨#[123]⟩ :: (ts++[kM ⟨#[125]⟩]),?_,fun l us c' d' hl=>?_⟩
 ·rw[Cu]
  unfold stH
  rw[if_neg (by rcases hk with hk|hk <;> simp[hk]),he,if_neg (by decide),Ag]
  simp only[aL]
  have:=(kz lv).appF (a3.appF (b1.appF ((kz lv).appF sb_cl)))
  simpa using this
 ·have hn:npS s=npS {h' with thn:=s.thn}:=by
   rw[a2,he]
   cases a1 <;> rfl
  have:=TK.blk a1 b2 h0 hn hl
  rw[show(hs++kM ⟨#[123]⟩ :: (ts++[kM ⟨#[125]⟩])++us)=hs++kM ⟨#[123]⟩ :: (ts++kM ⟨#[125]⟩ :: us) by simp]
  exact this
theorem ID {s:Stm} {c1 d1 c2 d2:Nat} (hk:s.kind=17∨s.kind=18) (h:HdW s) (h0:s.thn≠[]) (ht:BlB s.thn c1 d1) (he:s.els≠[]) (hs2:BlB s.els c2 d2):StB s (c1+c2+1) (max (d1+1) (d2+1)):=fun lv=>by
 obtain ⟨h',hs,a1,a2,a3⟩:=xI h hk
 obtain ⟨ts,b1,b2⟩:=ht (lv+1)
 obtain ⟨vs,e1,e2⟩:=hs2 (lv+1)
 refine⟨hs++kM ⟨#[123]⟩ :: (ts++kM ⟨#[125]⟩ :: kN ⟨#[101,108,115,101]⟩ :: kM ⟨#[123]⟩ :: (vs++[kM ⟨#[125]⟩])),?_,fun l us c' d' hl=>?_⟩
 ·rw[Cu]
  unfold stH
  rw[if_neg (by rcases hk with hk|hk <;> simp[hk]),if_pos (List.length_pos_iff.2 he)]
  simp only[aL]
  have:=(kz lv).appF (a3.appF (b1.appF ((kz lv).appF (sb_cl.appF (sb_els.appF (e1.appF ((kz lv).appF sb_cl)))))))
  simpa using this
 ·have:=TK.two a1 b2 h0 e2 he a2 hl
  rw[show(hs++kM ⟨#[123]⟩ :: (ts++kM ⟨#[125]⟩ :: kN ⟨#[101,108,115,101]⟩ :: kM ⟨#[123]⟩ :: (vs++[kM ⟨#[125]⟩]))++us)=hs++kM ⟨#[123]⟩ :: (ts++kM ⟨#[125]⟩ :: kN ⟨#[101,108,115,101]⟩ :: kM ⟨#[123]⟩ :: (vs++kM ⟨#[125]⟩ :: us)) by simp]
  exact this
theorem Ho:BlB [] 0 0:=fun lv=>⟨[],by rw[dj];exact SB.nil,TK.nil⟩
theorem DS {s:Stm} {l:List Stm} {c1 d1 c d:Nat} (h:StB s c1 d1) (hl:BlB l c d):BlB (s :: l) (c1+c) (max d1 d):=fun lv=>by
 obtain ⟨ts,a1,a2⟩:=h lv
 obtain ⟨us,b1,b2⟩:=hl lv
 refine⟨ts++us,?_,a2 l us c d b2⟩
 rw[dj]
 have:=(a1.appF K6).appF b1
 rw[List.append_nil] at this
 exact this
mutual
theorem KP:∀ {s:Stm} {c d:Nat},WfS s c d→StB s c d
 |_,_,_,.ln hk h=>Ke hk h
 |_,_,_,.one hk h h0 ht he=>IC hk h h0 (vf ht) he
 |_,_,_,.two hk h h0 ht he hs=>ID hk h h0 (vf ht) he (vf hs)
theorem vf:∀ {l:List Stm} {c d:Nat},WfL l c d→BlB l c d
 |_,_,_,.nil=>Ho
 |_,_,_,.cons h hl=>DS (KP h) (vf hl)
end
end Am
namespace Am
open Tk
set_option maxRecDepth 100000
set_option maxHeartbeats 4000000
theorem tm {n:Nat} (h:n<10):Lib.decDigits n=[UInt8.ofNat (48+n)]:=by rw[Lib.decDigits,dif_pos h]
theorem Hw {n:Nat} (h:¬ n<10):Lib.decDigits n=Lib.decDigits (n / 10)++[UInt8.ofNat (48+n % 10)]:=by rw[Lib.decDigits,dif_neg h]
theorem nq {n:Nat} (h:n<10):(UInt8.ofNat (48+n)).toNat=48+n:=by
 rw[UInt8.toNat_ofNat'];omega
theorem Au:∀ (N n:Nat),n<N→(Lib.decDigits n).all dgB=true∧(Lib.decDigits n).foldl (fun n c=>10*n+(c.toNat - 48)) 0=n∧1≤(Lib.decDigits n).length∧(1≤n→(Lib.decDigits n).getD 0 0≠48)∧∀ k,1≤k→n<10 ^ k→(Lib.decDigits n).length≤k
 |0,_,h=>absurd h (Nat.not_lt_zero _)
 |N+1,n,h=>by
  have dg:∀ m,m<10→dgB (UInt8.ofNat (48+m))=true:=fun m hm=>by
   show fC (bi (UInt8.ofNat (48+m)))=true
   unfold fC bi
   rw[nq hm]
   exact decide_eq_true (by omega)
  by_cases hn:n<10
  ·rw[tm hn]
   refine⟨by rw[List.all_cons,dg n hn];rfl,?_,by simp,fun h1=>?_,fun k hk _=>by simp;exact hk⟩
   ·show 10*0+((UInt8.ofNat (48+n)).toNat - 48)=n
    rw[nq hn];omega
   ·show UInt8.ofNat (48+n)≠48
    intro e
    have:=congrArg UInt8.toNat e
    rw[nq hn] at this
    have h48:(48:UInt8).toNat=48:=rfl
    omega
  ·obtain ⟨a,b,c,d,e⟩:=Au N (n / 10) (by omega)
   have hm:n % 10<10:=Nat.mod_lt _ (by omega)
   rw[Hw hn]
   refine⟨by rw[List.all_append,a,List.all_cons,dg _ hm];rfl,?_,by rw[List.length_append];omega,fun _=>?_,fun k hk hlt=>?_⟩
   ·rw[List.foldl_append,b]
    show 10*(n / 10)+((UInt8.ofNat (48+n % 10)).toNat - 48)=n
    rw[nq hm];omega
   ·have:=d (by omega)
    cases hd:Lib.decDigits (n / 10) with
    |nil=>rw[hd] at c;simp at c
    |cons x l=>rw[hd] at this;exact this
   ·rw[List.length_append]
    obtain ⟨k,rfl⟩:∃ j,k=j+1:=⟨k - 1,by omega⟩
    have hk1:1≤k:=by
     rcases Nat.eq_zero_or_pos k with h0|h0
     ·subst h0;simp at hlt;omega
     ·exact h0
    have:=e k hk1 (by rw[Nat.pow_succ] at hlt;omega)
    simp;omega
theorem BG {v:Int} (h0:0≤v) (h9:v≤9999):BF (itT v).data.toList=true∧(ky (itT v):Int)=v:=by
 have e:(itT v).data.toList=Lib.decDigits v.toNat:=by
  show(Lib.itoa v)=_
  unfold Lib.itoa
  rw[if_neg (by omega)]
 obtain ⟨a,b,c,d,f⟩:=Au _ v.toNat (Nat.lt_succ_self _)
 have hl:=f 4 (by omega) (by
  have:(10:Nat) ^ 4=10000:=by decide
  omega)
 constructor
 ·rw[e]
  unfold BF
  rw[a,Bool.and_true]
  cases hd:Lib.decDigits v.toNat with
  |nil=>rw[hd] at c;simp at c
  |cons x l=>
   rw[hd] at hl d
   simp only[List.isEmpty_cons,Bool.not_false,Bool.true_and]
   rw[decide_eq_true (show(x :: l).length≤9 by omega),Bool.true_and,Bool.or_eq_true]
   by_cases hv:1≤v.toNat
   ·right
    have:=d hv
    rw[Bool.not_eq_true',decide_eq_false_iff_not]
    intro hb
    refine this (UInt8.toNat_inj.1 ?_)
    have h48:(48:UInt8).toNat=48:=rfl
    unfold bi at hb
    rw[h48];omega
   ·left
    have:v.toNat=0:=by omega
    rw[this,tm (by omega)] at hd
    injection hd with _ hd
    rw[← hd];rfl
 ·unfold ky
  rw[e,b];omega
theorem HX {m:Mo} {ts:List Tok} (hi:idB m.name=true) (hv:0≤m.version∧m.version≤9999) (h:SB false (dj 0 m.stmts) ts):SB false (jE m) (kN ⟨#[109,111,100,117,108,101]⟩ :: kN m.name :: kI (itT m.version) :: kM ⟨#[59]⟩ :: ts):=by
 have e:jE m=⟨#[109,111,100,117,108,101]⟩++(⟨#[32]⟩++(m.name++(⟨#[32]⟩++(itT m.version++(⟨#[59,10]⟩++dj 0 m.stmts))))):=by
  show((⟨#[109,111,100,117,108,101]⟩:ByteArray)++((⟨#[32]⟩:ByteArray)++m.name++((⟨#[32]⟩:ByteArray)++(itT m.version++(⟨#[59,10]⟩:ByteArray))++(⟨#[]⟩:ByteArray))))++dj 0 m.stmts=_
  rw[Ag]
  simp only[aL]
 have sc:SB false ⟨#[59,10]⟩ [kM ⟨#[59]⟩]:=(ScK.mark1 (c:=59) (by decide) (by decide)).app ScK.nl fun h=>by cases h
 have nu:SB true (itT m.version) [kI (itT m.version)]:=ScK.num (BG hv.1 hv.2).1
 rw[e]
 exact(dF ⟨#[109,111,100,117,108,101]⟩ (by decide)).app (sb_sp.appF ((SB.name hi).app (sb_sp.appF (nu.app (sc.appF h) fun _=>aE _ (by decide))) fun _=>aE _ (by decide))) fun _=>aE _ (by decide)
theorem Ah {m:Mo} {c d:Nat} (hi:idB m.name=true) (hv:0≤m.version∧m.version≤9999) (h:WfL m.stmts c d) (hc:c≤1024) (hd:d≤12) (hz:(jE m).size≤65536):∃ x,iM (jE m)= .ok x∧npM x=npM m:=by
 obtain ⟨ts,h1,h2⟩:=vf h 0
 obtain ⟨l,e1,e2⟩:=(HX hi hv h1).scan hz
 obtain ⟨n1,n2⟩:=BG hv.1 hv.2
 obtain ⟨xs,e3,e4⟩:=BS hi (num:=itT m.version) (by omega) h2 hc hd
 have e5:l.map npT=kN ⟨#[109,111,100,117,108,101]⟩ :: kN m.name :: kI (itT m.version) :: kM ⟨#[59]⟩ :: (ts++[kE]):=e2
 have e6:=ua l
 rw[e5,e3] at e6
 have e7:=ua (l.map npT)
 have e8:(l.map npT).map npT=l.map npT:=by rw[List.map_map];rfl
 rw[e8,e5,e3] at e7
 have e9:xs=xs.map npS:=by
  injection e7 with e7
  exact congrArg Mo.stmts e7
 rw[F6 e1]
 cases hp:kL l with
 |error f=>rw[hp] at e6;cases e6
 |ok x=>
  rw[hp] at e6
  injection e6 with e6
  refine⟨x,rfl,?_⟩
  rw[← e6]
  unfold npM
  rw[n2,e9,e4]
end Am
namespace Am
open Tk
set_option maxRecDepth 100000
set_option maxHeartbeats 4000000
theorem seq_eq {a b:Se} (h:Se.eqB a b=true):a=b:=by
 unfold Se.eqB at h
 simp only[Bool.and_eq_true,decide_eq_true_eq] at h
 obtain ⟨a1,a2,a3,a4⟩:=a
 obtain ⟨b1,b2,b3,b4⟩:=b
 obtain ⟨p1,p2,p3,p4⟩:=h
 dsimp only at p1 p2 p3 p4
 rw[p1,p2,p3,p4]
theorem nj {α β:Type} {p:α→α→Bool} {g:α→β}:∀ {l m:List α},(∀ x∈l,∀ y,p x y=true→g x=g y)→fN p l m=true→l.map g=m.map g
 |[],[],_,_=>rfl
 |[],_ :: _,_,h=>by cases h
 |_ :: _,[],_,h=>by cases h
 |x :: l,y :: m,hp,h=>by
  rw[fN,Bool.and_eq_true] at h
  rw[List.map_cons,List.map_cons,hp x (.head _) y h.1,nj (fun z hz=>hp z (.tail _ hz)) h.2]
theorem uI:∀ (n:Nat) (a b:Ex),SizeOf.sizeOf a<n→fq a b=true→a=b
 |0,_,_,h,_=>absurd h (Nat.not_lt_zero _)
 |n+1,a,b,h,hs=>by
  rw[jQ,Bool.and_eq_true] at hs
  have hk:=nj (g:=fun x:Ex=>x) (fun x hx y hy=>uI n x y (by have:=fW hx;omega) hy) hs.2
  rw[List.map_id',List.map_id'] at hk
  have h1:=hs.1
  unfold lL at h1
  simp only[Bool.and_eq_true,decide_eq_true_eq] at h1
  obtain ⟨⟨⟨⟨⟨q1,q2⟩,q3⟩,q4⟩,q5⟩,q6⟩:=h1
  obtain ⟨a1,a2,a3,a4,a5,a6,a7⟩:=a
  obtain ⟨b1,b2,b3,b4,b5,b6,b7⟩:=b
  have q5:=seq_eq q5
  dsimp only at q1 q2 q3 q4 q5 q6 hk
  rw[q1,q2,q3,q4,q5,q6,hk]
theorem kg {a b:NS} (h:cA a b=true):a=b:=by
 unfold cA at h
 simp only[Bool.and_eq_true,decide_eq_true_eq,beq_iff_eq] at h
 obtain ⟨a1,a2,a3,a4,a5⟩:=a
 obtain ⟨b1,b2,b3,b4,b5⟩:=b
 obtain ⟨⟨⟨⟨p1,p2⟩,p3⟩,p4⟩,p5⟩:=h
 dsimp only at p1 p2 p3 p4 p5
 rw[p1,p2,p3,p4,p5]
theorem mC {a b:Lv} (h:eg a b=true):a=b:=by
 unfold eg at h
 simp only[Bool.and_eq_true,decide_eq_true_eq] at h
 obtain ⟨a1,a2⟩:=a
 obtain ⟨b1,b2⟩:=b
 obtain ⟨p1,p2⟩:=h
 dsimp only at p1 p2
 rw[p1,p2]
theorem qF {a b:Rg} (h:eF a b=true):a=b:=by
 unfold eF at h
 rw[Bool.and_eq_true] at h
 obtain ⟨a1,a2⟩:=a
 obtain ⟨b1,b2⟩:=b
 have p1:=mC h.1
 have p2:=mC h.2
 dsimp only at p1 p2
 rw[p1,p2]
theorem Hu:∀ {a b:Ct},a.user=b.user→a.role=b.role→a.type=b.type→a.rng=b.rng→a=b
 |⟨_,_,_,_⟩,⟨_,_,_,_⟩,rfl,rfl,rfl,rfl=>rfl
theorem pq:∀ (n:Nat) (a b:Stm),SizeOf.sizeOf a<n→du a b=true→npS a=npS b
 |0,_,_,h,_=>absurd h (Nat.not_lt_zero _)
 |n+1,a,b,h,hs=>by
  rw[jP,Bool.and_eq_true,Bool.and_eq_true] at hs
  obtain ⟨⟨h0,ht⟩,he⟩:=hs
  have ht:=nj (fun x hx y hy=>pq n x y (by have:=mH hx;omega) hy) ht
  have he:=nj (fun x hx y hy=>pq n x y (by have:=ma hx;omega) hy) he
  unfold iH at h0
  simp only[Bool.and_eq_true,decide_eq_true_eq,beq_iff_eq] at h0
  obtain ⟨⟨⟨⟨⟨⟨⟨⟨⟨⟨⟨⟨⟨⟨⟨⟨⟨⟨q1,q2⟩,q3⟩,q4⟩,q5⟩,q6⟩,q7⟩,q8⟩,q9⟩,q10⟩,q11⟩,q12⟩,q13⟩,q14⟩,q15⟩,q16⟩,q17⟩,q18⟩,q19⟩:=h0
  have q9:=kg q9
  have q10:=kg q10
  have q11:=kg q11
  have q12:=kg q12
  have q13:=uI _ _ _ (Nat.lt_succ_self _) q13
  have q14:=mC q14
  have q15:=qF q15
  have q19:=qF q19
  have hc:a.ctx=b.ctx:=Hu q16 q17 q18 q19
  rw[aw,aw,q1,q2,q3,q4,q5,q6,q7,q8,q9,q10,q11,q12,q13,q14,q15,hc,ht,he]
theorem cw {s:Stm} (h:du (bw s) s=true):npS s=npS (bw s):=(pq _ _ _ (Nat.lt_succ_self _) h).symm
theorem B3 {l:List ByteArray} (h:ja l 1=true):l≠[]∧l.all idB=true:=by
 unfold ja at h
 rw[Bool.and_eq_true,decide_eq_true_eq] at h
 refine⟨?_,h.1⟩
 rintro rfl
 have:=h.2
 simp at this
theorem JM {l:List ByteArray} (h:ja l 0=true):l.all idB=true:=by
 unfold ja at h
 rw[Bool.and_eq_true] at h
 exact h.1
theorem JY {t:ByteArray} (h:t.data.toList.all lC=true) (hz:t.size≤32):Tk.quoB t.data.toList=true:=by
 unfold Tk.quoB
 rw[Bool.and_eq_true]
 refine⟨decide_eq_true (by have:=bX t;omega),?_⟩
 rw[List.all_eq_true] at h ⊢
 intro c hc
 have:=h c hc
 unfold lC at this
 simp only[Bool.not_eq_true',Bool.or_eq_false_iff,decide_eq_false_iff_not] at this
 show z7 (bi c)=true
 unfold z7 bi
 exact decide_eq_true (by omega)
end Am
namespace Am
open Tk
set_option maxRecDepth 100000
set_option maxHeartbeats 4000000
theorem E9 {n:NS} (h:fV n=true):n=NS.zero:=by
 unfold fV at h
 simp only[Bool.and_eq_true,Bool.not_eq_true',decide_eq_true_eq] at h
 obtain ⟨⟨⟨⟨h1,h2⟩,h3⟩,h4⟩,h5⟩:=h
 obtain ⟨a1,a2,a3,a4,a5⟩:=n
 have q4:a4=[]:=List.eq_nil_of_length_eq_zero h4
 have q5:a5=[]:=List.eq_nil_of_length_eq_zero h5
 dsimp only at h1 h2 h3
 clear h4 h5
 subst h1 h2 h3 q4 q5;rfl
theorem FN {s:Stm} (h:jT s=true):s.text=⟨#[]⟩∨(s.op=1∧s.text≠⟨#[]⟩∧oN s.text=true∧Tk.quoB s.text.data.toList=true):=by
 unfold jT at h
 simp only[Bool.and_eq_true,Bool.or_eq_true,decide_eq_true_eq] at h
 by_cases h0:s.text=⟨#[]⟩
 ·exact .inl h0
 ·obtain ⟨h1,h2⟩:=h
  have h2:=h2.resolve_left h0
  refine .inr ⟨h2.1,h0,?_,JY h1 h2.2⟩
  unfold oN
  rw[h1,decide_eq_true h0,decide_eq_true h2.2];rfl
theorem uA {t:ByteArray} (h:Am.quoB t=true):Tk.quoB t.data.toList=true:=by
 unfold Am.quoB at h
 rw[Bool.and_eq_true,decide_eq_true_eq] at h
 unfold Tk.quoB
 rw[Bool.and_eq_true]
 refine⟨decide_eq_true (by have:=bX t;omega),?_⟩
 have h2:=h.2
 rw[List.all_eq_true] at h2 ⊢
 intro c hc
 have:=h2 c hc
 unfold wb at this
 simp only[Bool.and_eq_true,decide_eq_true_eq] at this
 show z7 (bi c)=true
 unfold z7 bi
 exact decide_eq_true (by omega)
theorem lI {s:Stm} (h:gZ s=true):au s.source false=true∧au s.target (decide (s.kind=12))=true:=by
 unfold gZ at h
 rwa [Bool.and_eq_true] at h
theorem Lw {s:Stm} {tb eb:Bool} (hk:s.kind=1) (h:bz tb eb s=true):LnS s:=by
 unfold bz at h
 rw[Bool.and_eq_true] at h
 obtain ⟨h,hs⟩:=h
 have e:=cw hs
 have e2:bw s= {Stm.zero with kind:=1,name:=s.name,list:=s.list}:=by unfold bw;simp[hk]
 rw[e2] at e
 clear e2 hs
 have hq:cY s=true:=by simpa [hk] using h
 clear h
 unfold cY at hq
 simp[hk] at hq
 obtain ⟨h0,hi⟩:=B3 hq.2
 exact(Bh (p:=⟨0,0⟩) hq.1 h0 hi).of e
theorem Lz {s:Stm} {tb eb:Bool} (hk:s.kind=4) (h:bz tb eb s=true):LnS s:=by
 unfold bz at h
 rw[Bool.and_eq_true] at h
 obtain ⟨h,hs⟩:=h
 have e:=cw hs
 have e2:bw s= {Stm.zero with kind:=4,name:=s.name,list:=s.list}:=by unfold bw;simp[hk]
 rw[e2] at e
 clear e2 hs
 have hq:cY s=true:=by simpa [hk] using h
 clear h
 unfold cY at hq
 simp[hk] at hq
 obtain ⟨h0,hi⟩:=B3 hq.2
 exact(mj (p:=⟨0,0⟩) hq.1 h0 hi).of e
theorem Lx {s:Stm} {tb eb:Bool} (hk:s.kind=2) (h:bz tb eb s=true):LnS s:=by
 unfold bz at h
 rw[Bool.and_eq_true] at h
 obtain ⟨h,hs⟩:=h
 have e:=cw hs
 have e2:bw s= {Stm.zero with kind:=2,name:=s.name,aliases:=s.aliases,list:=s.list}:=by unfold bw;simp[hk]
 rw[e2] at e
 clear e2 hs
 have hq:cY s=true:=by simpa [hk] using h
 clear h
 unfold cY at hq
 simp[hk] at hq
 have hi:=JM hq.1.2
 have ai:=JM hq.2
 by_cases h0:s.list=[]
 ·by_cases a0:s.aliases=[]
  ·rw[h0,a0] at e;exact(yP (p:=⟨0,0⟩) hq.1.1).of e
  ·rw[h0] at e;exact(yQ (p:=⟨0,0⟩) hq.1.1 a0 ai).of e
 ·by_cases a0:s.aliases=[]
  ·rw[a0] at e;exact(Bk (p:=⟨0,0⟩) hq.1.1 h0 hi).of e
  ·exact(Bl (p:=⟨0,0⟩) hq.1.1 a0 ai h0 hi).of e
theorem Ly {s:Stm} {tb eb:Bool} (hk:s.kind=3) (h:bz tb eb s=true):LnS s:=by
 unfold bz at h
 rw[Bool.and_eq_true] at h
 obtain ⟨h,hs⟩:=h
 have e:=cw hs
 have e2:bw s= {Stm.zero with kind:=3,name:=s.name}:=by unfold bw;simp[hk]
 rw[e2] at e
 clear e2 hs
 have hq:cY s=true:=by simpa [hk] using h
 clear h
 unfold cY at hq
 simp[hk] at hq
 exact(ri (p:=⟨0,0⟩) hq).of e
theorem KD {s:Stm} {tb eb:Bool} (hk:s.kind=10) (h:bz tb eb s=true):LnS s:=by
 unfold bz at h
 rw[Bool.and_eq_true] at h
 obtain ⟨h,hs⟩:=h
 have e:=cw hs
 have e2:bw s= {Stm.zero with kind:=10,name:=s.name}:=by unfold bw;simp[hk]
 rw[e2] at e
 clear e2 hs
 have hq:cY s=true:=by simpa [hk] using h
 clear h
 unfold cY at hq
 simp[hk] at hq
 exact(oE (p:=⟨0,0⟩) hq).of e
theorem KE {s:Stm} {tb eb:Bool} (hk:s.kind=11) (h:bz tb eb s=true):LnS s:=by
 unfold bz at h
 rw[Bool.and_eq_true] at h
 obtain ⟨h,hs⟩:=h
 have e:=cw hs
 have e2:bw s= {Stm.zero with kind:=11,name:=s.name}:=by unfold bw;simp[hk]
 rw[e2] at e
 clear e2 hs
 have hq:cY s=true:=by simpa [hk] using h
 clear h
 unfold cY at hq
 simp[hk] at hq
 exact(tQ (p:=⟨0,0⟩) hq).of e
theorem LA {s:Stm} {tb eb:Bool} (hk:s.kind=5) (h:bz tb eb s=true):LnS s:=by
 unfold bz at h
 rw[Bool.and_eq_true] at h
 obtain ⟨h,hs⟩:=h
 have e:=cw hs
 have e2:bw s= {Stm.zero with kind:=5,name:=s.name,source:=s.source}:=by unfold bw;simp[hk]
 rw[e2] at e
 clear e2 hs
 have hq:cY s=true:=by simpa [hk] using h
 clear h
 unfold cY at hq
 simp[hk] at hq
 rcases hq.2 with hz|hz
 ·rw[E9 hz] at e;exact(Bi (p:=⟨0,0⟩) hq.1).of e
 ·exact(Bj (p:=⟨0,0⟩) hq.1 hz).of e
theorem LD {s:Stm} {tb eb:Bool} (hk:s.kind=8) (h:bz tb eb s=true):LnS s:=by
 unfold bz at h
 rw[Bool.and_eq_true] at h
 obtain ⟨h,hs⟩:=h
 have e:=cw hs
 have e2:bw s= {Stm.zero with kind:=8,name:=s.name,list:=s.list,level:=s.level,range:=s.range}:=by unfold bw;simp[hk]
 rw[e2] at e
 clear e2 hs
 have hq:cY s=true:=by simpa [hk] using h
 clear h
 unfold cY at hq
 simp[hk] at hq
 obtain ⟨h0,hi⟩:=B3 hq.1.1.2
 exact(EG (p:=⟨0,0⟩) hq.1.1.1 h0 hi hq.1.2 hq.2).of e
theorem LF {s:Stm} {tb eb:Bool} (hk:s.kind=9) (h:bz tb eb s=true):LnS s:=by
 unfold bz at h
 rw[Bool.and_eq_true] at h
 obtain ⟨h,hs⟩:=h
 have e:=cw hs
 have e2:bw s= {Stm.zero with kind:=9,name:=s.name,value:=s.value}:=by unfold bw;simp[hk]
 rw[e2] at e
 clear e2 hs
 have hq:cY s=true:=by simpa [hk] using h
 clear h
 unfold cY at hq
 simp[hk] at hq
 exact(EF (p:=⟨0,0⟩) hq s.value).of e
theorem LB {s:Stm} {tb eb:Bool} (hk:s.kind=6) (h:bz tb eb s=true):LnS s:=by
 unfold bz at h
 rw[Bool.and_eq_true] at h
 obtain ⟨h,hs⟩:=h
 have e:=cw hs
 have e2:bw s= {Stm.zero with kind:=6,source:=s.source,target:=s.target}:=by unfold bw;simp[hk]
 rw[e2] at e
 clear e2 hs
 have hq:dE s=true:=by simpa [hk] using h
 clear h
 unfold dE at hq
 simp[hk] at hq
 obtain ⟨a,b⟩:=lI hq
 rw[hk] at b
 exact(rI (p:=⟨0,0⟩) a b).of e
theorem LC {s:Stm} {tb eb:Bool} (hk:s.kind=7) (h:bz tb eb s=true):LnS s:=by
 unfold bz at h
 rw[Bool.and_eq_true] at h
 obtain ⟨h,hs⟩:=h
 have e:=cw hs
 have e2:bw s= {Stm.zero with kind:=7,source:=s.source,target:=s.target,cls:=s.cls,result:=s.result}:=by unfold bw;simp[hk]
 rw[e2] at e
 clear e2 hs
 have hq:dE s=true:=by simpa [hk] using h
 clear h
 unfold dE at hq
 simp[hk] at hq
 obtain ⟨a,b⟩:=lI hq.1.1
 rw[hk] at b
 exact(kC (p:=⟨0,0⟩) a b hq.1.2 hq.2).of e
theorem KF {s:Stm} {tb eb:Bool} (hk:s.kind=12) (h:bz tb eb s=true):LnS s:=by
 unfold bz at h
 rw[Bool.and_eq_true] at h
 obtain ⟨h,hs⟩:=h
 have e:=cw hs
 have e2:bw s= {Stm.zero with kind:=12,op:=s.op,source:=s.source,target:=s.target,cls:=s.cls,perms:=s.perms}:=by unfold bw;simp[hk]
 rw[e2] at e
 clear e2 hs
 have hq:dE s=true:=by simpa [hk] using h
 clear h
 unfold dE at hq
 simp[hk] at hq
 obtain ⟨a,b⟩:=lI hq.1.1.1.1
 rw[hk] at b
 have ho:s.op=1∨s.op=2∨s.op=3∨s.op=4:=by omega
 rcases ho with ho|ho|ho|ho
 ·rw[ho] at e;exact(Bg (p:=⟨0,0⟩) a b hq.1.1.1.2 hq.1.1.2).of e
 ·rw[ho] at e;exact(pO (p:=⟨0,0⟩) a b hq.1.1.1.2 hq.1.1.2).of e
 ·rw[ho] at e;exact(rm (p:=⟨0,0⟩) a b hq.1.1.1.2 hq.1.1.2).of e
 ·rw[ho] at e;exact(pP (p:=⟨0,0⟩) a b hq.1.1.1.2 hq.1.1.2).of e
theorem KG {s:Stm} {tb eb:Bool} (hk:s.kind=13) (h:bz tb eb s=true):LnS s:=by
 unfold bz at h
 rw[Bool.and_eq_true] at h
 obtain ⟨h,hs⟩:=h
 have e:=cw hs
 have e2:bw s= {Stm.zero with kind:=13,op:=s.op,source:=s.source,target:=s.target,cls:=s.cls,result:=s.result,text:=s.text}:=by unfold bw;simp[hk]
 rw[e2] at e
 clear e2 hs
 have hq:dE s=true:=by simpa [hk] using h
 clear h
 unfold dE at hq
 simp[hk] at hq
 obtain ⟨a,b⟩:=lI hq.1.1.1.1.1
 rw[hk] at b
 have ho:s.op=1∨s.op=2∨s.op=3:=by omega
 rcases FN hq.2 with ht|⟨h1,h2,h3,h4⟩
 ·rw[ht] at e
  rcases ho with ho|ho|ho
  ·rw[ho] at e;exact(kD (p:=⟨0,0⟩) a b hq.1.1.1.1.2 hq.1.1.1.2).of e
  ·rw[ho] at e;exact(oF (p:=⟨0,0⟩) a b hq.1.1.1.1.2 hq.1.1.1.2).of e
  ·rw[ho] at e;exact(oG (p:=⟨0,0⟩) a b hq.1.1.1.1.2 hq.1.1.1.2).of e
 ·rw[h1] at e;exact(jD (p:=⟨0,0⟩) a b hq.1.1.1.1.2 hq.1.1.1.2 h3 h2 h4).of e
theorem KH {s:Stm} {tb eb:Bool} (hk:s.kind=14) (h:bz tb eb s=true):LnS s:=by
 unfold bz at h
 rw[Bool.and_eq_true] at h
 obtain ⟨h,hs⟩:=h
 have e:=cw hs
 have e2:bw s= {Stm.zero with kind:=14,source:=s.source,target:=s.target,cls:=s.cls,range:=s.range}:=by unfold bw;simp[hk]
 rw[e2] at e
 clear e2 hs
 have hq:dE s=true:=by simpa [hk] using h
 clear h
 unfold dE at hq
 simp[hk] at hq
 obtain ⟨a,b⟩:=lI hq.1.1
 rw[hk] at b
 exact(kn (p:=⟨0,0⟩) a b hq.1.2 hq.2).of e
theorem KI {s:Stm} {tb eb:Bool} (hk:s.kind=15) (h:bz tb eb s=true):LnS s:=by
 unfold bz at h
 rw[Bool.and_eq_true] at h
 obtain ⟨h,hs⟩:=h
 have e:=cw hs
 have e2:bw s= {Stm.zero with kind:=15,cls:=s.cls,perms:=s.perms,cond:=s.cond}:=by unfold bw;simp[hk]
 rw[e2] at e
 clear e2 hs
 have hq:dE s=true:=by simpa [hk] using h
 clear h
 unfold dE at hq
 simp[hk] at hq
 exact(rj (p:=⟨0,0⟩) hq.1.1 hq.1.2 hq.2).of e
theorem KJ {s:Stm} {tb eb:Bool} (hk:s.kind=16) (h:bz tb eb s=true):LnS s:=by
 unfold bz at h
 rw[Bool.and_eq_true] at h
 obtain ⟨h,hs⟩:=h
 have e:=cw hs
 have e2:bw s= {Stm.zero with kind:=16,cls:=s.cls,cond:=s.cond}:=by unfold bw;simp[hk]
 rw[e2] at e
 clear e2 hs
 have hq:dE s=true:=by simpa [hk] using h
 clear h
 unfold dE at hq
 simp[hk] at hq
 exact(ml (p:=⟨0,0⟩) hq.1 hq.2).of e
theorem KK {s:Stm} {tb eb:Bool} (hk:s.kind=19) (h:bz tb eb s=true):LnS s:=by
 unfold bz at h
 rw[Bool.and_eq_true] at h
 obtain ⟨h,hs⟩:=h
 have e:=cw hs
 have e2:bw s= {Stm.zero with kind:=19,op:=s.op,name:=s.name,list:=s.list}:=by unfold bw;simp[hk]
 rw[e2] at e
 clear e2 hs
 have hq:cY s=true:=by simpa [hk] using h
 clear h
 unfold cY at hq
 simp[hk] at hq
 by_cases h1:s.op=1
 ·simp[h1] at hq
  obtain ⟨h0,hi⟩:=B3 hq.2
  rw[h1] at e;exact(tR (p:=⟨0,0⟩) hq.1 h0 hi).of e
 ·simp[h1] at hq
  obtain ⟨h0,hi⟩:=B3 hq.2
  rw[hq.1.1.1] at e
  have ho:s.op=2∨s.op=3∨s.op=4∨s.op=5∨s.op=6∨s.op=7∨s.op=8:=by omega
  rcases ho with ho|ho|ho|ho|ho|ho|ho
  ·rw[ho] at e;exact(rB (p:=⟨0,0⟩) h0 hi).of e
  ·rw[ho] at e;exact(rC (p:=⟨0,0⟩) h0 hi).of e
  ·rw[ho] at e;exact(rD (p:=⟨0,0⟩) h0 hi).of e
  ·rw[ho] at e;exact(rE (p:=⟨0,0⟩) h0 hi).of e
  ·rw[ho] at e;exact(rF (p:=⟨0,0⟩) h0 hi).of e
  ·rw[ho] at e;exact(rG (p:=⟨0,0⟩) h0 hi).of e
  ·rw[ho] at e;exact(rH (p:=⟨0,0⟩) h0 hi).of e
theorem KL {s:Stm} {tb eb:Bool} (hk:s.kind=20) (h:bz tb eb s=true):LnS s:=by
 unfold bz at h
 rw[Bool.and_eq_true] at h
 obtain ⟨h,hs⟩:=h
 have e:=cw hs
 have e2:bw s= {Stm.zero with kind:=20,name:=s.name,ctx:=s.ctx}:=by unfold bw;simp[hk]
 rw[e2] at e
 clear e2 hs
 have hq:cY s=true:=by simpa [hk] using h
 clear h
 unfold cY at hq
 simp[hk] at hq
 exact(HV (p:=⟨0,0⟩) hq.1 hq.2).of e
theorem KM {s:Stm} {tb eb:Bool} (hk:s.kind=21) (h:bz tb eb s=true):LnS s:=by
 unfold bz at h
 rw[Bool.and_eq_true] at h
 obtain ⟨h,hs⟩:=h
 have e:=cw hs
 have e2:bw s= {Stm.zero with kind:=21,text:=s.text,op:=s.op,ctx:=s.ctx}:=by unfold bw;simp[hk]
 rw[e2] at e
 clear e2 hs
 have hq:dE s=true:=by simpa [hk] using h
 clear h
 unfold dE at hq
 simp[hk] at hq
 have ho:s.op=0∨s.op=1∨s.op=2∨s.op=3∨s.op=4:=by omega
 rcases ho with ho|ho|ho|ho|ho
 ·rw[ho] at e;exact(rp (p:=⟨0,0⟩) hq.1.1.1.1 (uA hq.1.1.1.2) hq.2).of e
 ·rw[ho] at e;exact(rq (p:=⟨0,0⟩) hq.1.1.1.1 (uA hq.1.1.1.2) hq.2).of e
 ·rw[ho] at e;exact(rr (p:=⟨0,0⟩) hq.1.1.1.1 (uA hq.1.1.1.2) hq.2).of e
 ·rw[ho] at e;exact(ry (p:=⟨0,0⟩) hq.1.1.1.1 (uA hq.1.1.1.2) hq.2).of e
 ·rw[ho] at e;exact(rA (p:=⟨0,0⟩) hq.1.1.1.1 (uA hq.1.1.1.2) hq.2).of e
theorem KN {s:Stm} {tb eb:Bool} (hk:s.kind=22) (h:bz tb eb s=true):LnS s:=by
 unfold bz at h
 rw[Bool.and_eq_true] at h
 obtain ⟨h,hs⟩:=h
 have e:=cw hs
 have e2:bw s= {Stm.zero with kind:=22,source:=s.source}:=by unfold bw;simp[hk]
 rw[e2] at e
 clear e2 hs
 have hq:dE s=true:=by simpa [hk] using h
 clear h
 unfold dE at hq
 simp[hk] at hq
 exact(pQ (p:=⟨0,0⟩) hq).of e
theorem KO {s:Stm} {tb eb:Bool} (hk:s.kind=23) (h:bz tb eb s=true):LnS s:=by
 unfold bz at h
 rw[Bool.and_eq_true] at h
 obtain ⟨h,hs⟩:=h
 have e:=cw hs
 have e2:bw s= {Stm.zero with kind:=23,name:=s.name,op:=s.op,source:=s.source,target:=s.target}:=by unfold bw;simp[hk]
 rw[e2] at e
 clear e2 hs
 have hq:cY s=true:=by simpa [hk] using h
 clear h
 unfold cY at hq
 simp[hk] at hq
 have ho:s.op=1∨s.op=2∨s.op=3:=by omega
 rcases ho with ho|ho|ho
 ·rw[ho] at e;exact(tN (p:=⟨0,0⟩) hq.1.1.1.1 hq.1.2 hq.2).of e
 ·rw[ho] at e;exact(tO (p:=⟨0,0⟩) hq.1.1.1.1 hq.1.2 hq.2).of e
 ·rw[ho] at e;exact(tP (p:=⟨0,0⟩) hq.1.1.1.1 hq.1.2 hq.2).of e
theorem Gh {s:Stm} {tb eb:Bool} (h17:s.kind≠17) (h18:s.kind≠18) (h:bz tb eb s=true):LnS s:=by
 have hx:s.kind=1∨s.kind=2∨s.kind=3∨s.kind=4∨s.kind=5∨s.kind=6∨s.kind=7∨s.kind=8∨s.kind=9∨s.kind=10∨s.kind=11∨s.kind=12∨s.kind=13∨s.kind=14∨s.kind=15∨s.kind=16∨s.kind=19∨s.kind=20∨s.kind=21∨s.kind=22∨s.kind=23:=by
  apply Classical.byContradiction
  intro hx
  simp only[not_or] at hx
  unfold bz at h
  simp[hx,h17,h18] at h
 rcases hx with hk|hk|hk|hk|hk|hk|hk|hk|hk|hk|hk|hk|hk|hk|hk|hk|hk|hk|hk|hk|hk
 ·exact Lw hk h
 ·exact Lx hk h
 ·exact Ly hk h
 ·exact Lz hk h
 ·exact LA hk h
 ·exact LB hk h
 ·exact LC hk h
 ·exact LD hk h
 ·exact LF hk h
 ·exact KD hk h
 ·exact KE hk h
 ·exact KF hk h
 ·exact KG hk h
 ·exact KH hk h
 ·exact KI hk h
 ·exact KJ hk h
 ·exact KK hk h
 ·exact KL hk h
 ·exact KM hk h
 ·exact KN hk h
 ·exact KO hk h
theorem J8 {s:Stm} {tb eb:Bool} (hk:s.kind=17∨s.kind=18) (h:bz tb eb s=true):HdW s∧s.thn≠[]∧tb=true∧eb=true:=by
 unfold bz at h
 rw[Bool.and_eq_true] at h
 obtain ⟨h,hs⟩:=h
 have e:=cw hs
 rcases hk with hk|hk
 ·have e2:bw s= {Stm.zero with kind:=17,cond:=s.cond,thn:=s.thn,els:=s.els}:=by unfold bw;simp[hk]
  rw[e2] at e
  simp[hk] at h
  exact⟨.inl ⟨h.1.1.1,e⟩,by have:=h.1.1.2;first|exact this|(intro h0;simp[h0] at this),h.1.2,h.2⟩
 ·have e2:bw s= {Stm.zero with kind:=18,thn:=s.thn,els:=s.els}:=by unfold bw;simp[hk]
  rw[e2] at e
  simp[hk] at h
  exact⟨.inr e,by have:=h.1.1;first|exact this|(intro h0;simp[h0] at this),h.1.2,h.2⟩
theorem Aj {s:Stm} {tb eb:Bool} (h17:s.kind≠17) (h18:s.kind≠18) (h:bz tb eb s=true):s.thn=[]∧s.els=[]:=xm h h17 h18
theorem nJ:∀ (N:Nat) (l:List Stm),SizeOf.sizeOf l<N→l.all fmB=true→WfL l (eo l) (dpL l)
 |0,_,h,_=>absurd h (Nat.not_lt_zero _)
 |N+1,[],_,_=>by rw[eo,dpL];exact WfL.nil
 |N+1,s :: l,h,ha=>by
  rw[List.all_cons,Bool.and_eq_true] at ha
  have hsz:SizeOf.sizeOf (s :: l)=1+SizeOf.sizeOf s+SizeOf.sizeOf l:=rfl
  have hl:=nJ N l (by omega) ha.2
  have hw:=ha.1
  rw[ll] at hw
  have t1:=ka s
  have t2:=jZ s
  rw[eo,dpL]
  refine WfL.cons ?_ hl
  rw[la,Ay]
  by_cases hk:s.kind=17∨s.kind=18
  ·obtain ⟨hd,h0,ht,he⟩:=J8 hk hw
   have ht:=nJ N s.thn (by omega) ht
   have he:=nJ N s.els (by omega) he
   rw[if_pos (.inl (List.length_pos_iff.2 h0))]
   by_cases e0:s.els=[]
   ·rw[e0] at he ⊢
    have:=WfS.one hk hd h0 ht e0
    rw[eo,dpL,Nat.add_zero,Nat.add_comm 1,Nat.add_zero,Nat.add_comm 1,show max (dpL s.thn+1) 1=dpL s.thn+1 by omega]
    exact this
   ·have:=WfS.two hk hd h0 ht e0 he
    rw[show 1+(eo s.thn+eo s.els)=eo s.thn+eo s.els+1 by omega,Nat.add_comm 1 (dpL s.thn),Nat.add_comm 1 (dpL s.els)]
    exact this
  ·have h17:s.kind≠17:=fun h=>hk (.inl h)
   have h18:s.kind≠18:=fun h=>hk (.inr h)
   obtain ⟨n1,n2⟩:=Aj h17 h18 hw
   rw[n1,n2,eo,dpL,if_neg (by simp)]
   exact WfS.ln ⟨h17,h18⟩ (Gh h17 h18 hw)
theorem vt {m:Mo} (h:fU m=0) (hc:eo m.stmts≤1024) (hz:(jE m).size≤65536):∃ x,iM (jE m)= .ok x∧npM x=npM m:=by
 unfold fU at h
 by_cases h1:idB m.name=false
 ·rw[if_pos h1] at h;cases h
 rw[if_neg h1] at h
 by_cases h2:m.version<0∨9999<m.version
 ·rw[if_pos h2] at h;cases h
 rw[if_neg h2] at h
 by_cases h3:1024<gV m.stmts∨12<dpL m.stmts
 ·rw[if_pos h3] at h;cases h
 rw[if_neg h3] at h
 by_cases h4:m.stmts.all fmB=false
 ·rw[if_pos h4] at h;cases h
 exact Ah (by simpa using h1) (by omega) (nJ _ m.stmts (Nat.lt_succ_self _) (by simpa using h4)) hc (by omega) hz
end Am
namespace Am
open Tk
set_option maxRecDepth 100000
set_option maxHeartbeats 4000000
def wB (s:ByteArray):Nat:=s.size+1
def wL (l:List ByteArray):Nat:=(l.map wB).sum+1
def wN (n:NS):Nat:=wL n.names+wL n.except
mutual
def wE:Ex→Nat
 |⟨_,_,_,_,names,_,kids⟩=>wL names+wEs kids+1
def wEs:List Ex→Nat
 |[]=>0
 |x :: l=>wE x+wEs l
end
theorem yr:∀ l:List Ex,wEs l=(l.map wE).sum
 |[]=>by rw[wEs];rfl
 |x :: l=>by rw[wEs,yr l];rfl
theorem lT (e:Ex):wE e=wL e.names+(e.kids.map wE).sum+1:=by cases e;rw[wE,yr]
def wP (s:Sp):Nat:=wB s.frm+wB s.to
def wV (v:Lv):Nat:=wB v.sens+(v.cats.map wP).sum
def wR (g:Rg):Nat:=wV g.lo+wV g.hi
def wC (c:Ct):Nat:=wB c.user+wB c.role+wB c.type+wR c.rng
def wH (s:Stm):Nat:=wB s.name+wB s.result+wB s.text+wL s.list+wL s.aliases+wN s.source+wN s.target+wN s.cls+wN s.perms+wE s.cond+wV s.level+wR s.range+wC s.ctx
mutual
def wS:Stm→Nat
 |⟨a1,a2,a3,a4,a5,a6,a7,a8,a9,a10,a11,a12,a13,a14,a15,a16,a17,t,e⟩=>wH ⟨a1,a2,a3,a4,a5,a6,a7,a8,a9,a10,a11,a12,a13,a14,a15,a16,a17,t,e⟩+wSs t+wSs e
def wSs:List Stm→Nat
 |[]=>0
 |x :: l=>wS x+wSs l
end
theorem nI:∀ l:List Stm,wSs l=(l.map wS).sum
 |[]=>by rw[wSs];rfl
 |x :: l=>by rw[wSs,nI l];rfl
theorem GS (s:Stm):wS s=wH s+wSs s.thn+wSs s.els:=by cases s;rw[wS]
def wM (m:Mo):Nat:=wB m.name+wSs m.stmts
theorem GQ {sep:ByteArray}:∀ l:List ByteArray,(tlB sep l).size≤(sep.size+1)*(l.map wB).sum
 |[]=>Nat.zero_le _
 |x :: l=>by
  have ih:=GQ (sep:=sep) l
  rw[tlB,List.map_cons,List.sum_cons,Nat.mul_add]
  simp only[ByteArray.size_append]
  have:sep.size+x.size≤(sep.size+1)*wB x:=by
   unfold wB
   rw[Nat.mul_add,Nat.mul_one,Nat.succ_mul]
   omega
  omega
theorem wt {sep:ByteArray} (l:List ByteArray):(cq sep l).size≤(sep.size+1)*(l.map wB).sum:=by
 cases l with
 |nil=>exact Nat.zero_le _
 |cons x l=>
  have h:=GQ (sep:=sep) l
  rw[cq,List.map_cons,List.sum_cons,Nat.mul_add]
  simp only[ByteArray.size_append]
  have:x.size≤(sep.size+1)*wB x:=by
   unfold wB
   rw[Nat.mul_add,Nat.mul_one,Nat.succ_mul]
   omega
  omega
theorem Al (l:List ByteArray):(brT l).size≤2*(l.map wB).sum+4:=by
 have h:=wt (sep:=⟨#[32]⟩) l
 have e1:(⟨#[32]⟩:ByteArray).size=1:=rfl
 have e2:(⟨#[123,32]⟩:ByteArray).size=2:=rfl
 have e3:(⟨#[32,125]⟩:ByteArray).size=2:=rfl
 unfold brT
 simp only[ByteArray.size_append]
 rw[e1] at h
 omega
theorem JD (l:List ByteArray):(cq ⟨#[44,32]⟩ l).size≤3*(l.map wB).sum:=by
 have h:=wt (sep:=⟨#[44,32]⟩) l
 have e1:(⟨#[44,32]⟩:ByteArray).size=2:=rfl
 rw[e1] at h
 exact h
theorem I9 (n:NS):((nsL n).map wB).sum≤3*wN n+7:=by
 have e2:∀ l:List ByteArray,((l.map fun s=>(⟨#[45,32]⟩:ByteArray)++s).map wB).sum≤3*(l.map wB).sum:=fun l=>by
  induction l with
  |nil=>exact Nat.zero_le _
  |cons x l ih=>
   have e3:(⟨#[45,32]⟩:ByteArray).size=2:=rfl
   simp only[List.map_cons,List.sum_cons]
   have:wB ((⟨#[45,32]⟩:ByteArray)++x)=x.size+3:=by unfold wB;rw[ByteArray.size_append,e3];omega
   rw[this]
   have:wB x=x.size+1:=rfl
   omega
 have h2:=e2 n.except
 unfold nsL pR ko wN wL
 simp only[List.map_append,List.sum_append]
 have a:((if n.all=true then[(⟨#[42]⟩:ByteArray)] else[]).map wB).sum≤2:=by cases n.all <;> decide
 have b:((if n.self=true then[(⟨#[115,101,108,102]⟩:ByteArray)] else[]).map wB).sum≤5:=by cases n.self <;> decide
 omega
theorem Em (l:List ByteArray) (i:Nat):(l.getD i ⟨#[]⟩).size≤(l.map wB).sum:=by
 induction l generalizing i with
 |nil=>exact Nat.zero_le _
 |cons x l ih=>
  rw[List.map_cons,List.sum_cons]
  cases i with
  |zero=>
   show x.size≤x.size+1+_
   omega
  |succ i=>
   have:=ih i
   rw[List.getD_cons_succ]
   omega
theorem uc (n:NS):(nsT n).size≤6*wN n+24:=by
 have h1:=I9 n
 have h2:=Al (nsL n)
 have h3:=Em (nsL n) 0
 have e1:(⟨#[126,32]⟩:ByteArray).size=2:=rfl
 unfold nsT
 repeat' split
 all_goals(try simp only[ByteArray.size_append])
 all_goals omega
theorem Kb (s:Sp):wB (spT s)≤wP s:=by
 have e1:(⟨#[46]⟩:ByteArray).size=1:=rfl
 unfold spT wP wB
 split
 ·omega
 ·simp only[ByteArray.size_append];omega
theorem uX {α:Type} {f g:α→Nat} (h:∀ x,f x≤g x):∀ l:List α,(l.map f).sum≤(l.map g).sum
 |[]=>Nat.le_refl _
 |x :: l=>by
  have:=uX h l
  have:=h x
  simp only[List.map_cons,List.sum_cons]
  omega
theorem Bq (v:Lv):(lvT v).size≤2*wV v+1:=by
 have h:=wt (sep:=⟨#[44]⟩) (v.cats.map spT)
 have h2:((v.cats.map spT).map wB).sum≤(v.cats.map wP).sum:=by
  rw[List.map_map]
  exact uX (fun x=>Kb x) v.cats
 have e1:(⟨#[44]⟩:ByteArray).size=1:=rfl
 have e2:(⟨#[58]⟩:ByteArray).size=1:=rfl
 rw[e1] at h
 unfold lvT wV wB
 split
 ·omega
 ·simp only[ByteArray.size_append];omega
theorem GL (g:Rg):(rgT g).size≤2*wR g+3:=by
 have h1:=Bq g.lo
 have h2:=Bq g.hi
 have e1:(⟨#[45]⟩:ByteArray).size=1:=rfl
 unfold rgT wR
 split
 ·omega
 ·simp only[ByteArray.size_append];omega
theorem JG (c:Ct):(cxT c).size≤2*wC c+6:=by
 have h1:=GL c.rng
 have e1:(⟨#[58]⟩:ByteArray).size=1:=rfl
 unfold cxT wC wB
 simp only[ByteArray.size_append]
 omega
theorem rY (p:Bool) (t:ByteArray):(fi p t).size≤t.size+2:=by
 have e1:(⟨#[40]⟩:ByteArray).size=1:=rfl
 have e2:(⟨#[41]⟩:ByteArray).size=1:=rfl
 unfold fi
 split
 ·simp only[ByteArray.size_append];omega
 ·omega
theorem vr {n:Nat} (h:n<15):(gT n).size≤2:=by
 rw[qS n h]
 exact Nat.le_refl 2
theorem Iq (n:Int):(si n).size≤6:=by
 unfold si
 repeat' split
 all_goals decide
theorem AN {lim:Int} (hl:lim≤15):∀ (N:Nat) (e:Ex) (lev:Int),SizeOf.sizeOf e<N→fy lim lev e=true→(exT e).size≤40*wE e
 |0,_,_,h,_=>absurd h (Nat.not_lt_zero _)
 |N+1,e,lev,h,hn=>by
  obtain ⟨hk,-,ho⟩:=ny hn
  have ih:∀ x∈e.kids,(exT x).size≤40*wE x:=fun x hx=>AN hl N x (lev+1) (by have:=fW hx;omega) (by rw[List.all_eq_true] at hk;exact hk x hx)
  rcases ho with⟨x,rfl⟩|⟨x,y,rfl⟩|⟨x,y,rfl⟩|⟨a0,a1,b0,b1,r0,r1,he⟩|⟨a0,a1,n0,n1,he⟩
  ·have h1:=ih x (.head _)
   have e:exT {Ex.zero with op:=2,kids:=[x]}=⟨#[33]⟩++fi (decide (x.op≠2)) (exT x):=by rw[kq];rfl
   have ew:wE {Ex.zero with op:=2,kids:=[x]}=1+(wE x+0)+1:=by rw[lT];rfl
   have e1:(⟨#[33]⟩:ByteArray).size=1:=rfl
   have h2:=rY (decide (x.op≠2)) (exT x)
   rw[e,ew,ByteArray.size_append]
   omega
  ·have h1:=ih x (.head _)
   have h3:=ih y (.tail _ (.head _))
   have e:exT {Ex.zero with op:=3,kids:=[x,y]}=fi (decide (x.op=4)) (exT x)++⟨#[32,38,38,32]⟩++fi (decide (y.op=4) || decide (y.op=3)) (exT y):=by rw[kq];rfl
   have ew:wE {Ex.zero with op:=3,kids:=[x,y]}=1+(wE x+(wE y+0))+1:=by rw[lT];rfl
   have e1:(⟨#[32,38,38,32]⟩:ByteArray).size=4:=rfl
   have h2:=rY (decide (x.op=4)) (exT x)
   have h4:=rY (decide (y.op=4) || decide (y.op=3)) (exT y)
   rw[e,ew]
   simp only[ByteArray.size_append]
   omega
  ·have h1:=ih x (.head _)
   have h3:=ih y (.tail _ (.head _))
   have e:exT {Ex.zero with op:=4,kids:=[x,y]}=exT x++⟨#[32,124,124,32]⟩++fi (decide (y.op=4)) (exT y):=by rw[kq];rfl
   have ew:wE {Ex.zero with op:=4,kids:=[x,y]}=1+(wE x+(wE y+0))+1:=by rw[lT];rfl
   have e1:(⟨#[32,124,124,32]⟩:ByteArray).size=4:=rfl
   have h4:=rY (decide (y.op=4)) (exT y)
   rw[e,ew]
   simp only[ByteArray.size_append]
   omega
  ·have ea:=vr (n:=e.a.toNat) (by omega)
   have eb:=vr (n:=e.b.toNat) (by omega)
   have er:=Iq e.rel
   have e1:exT e=gT e.a.toNat++⟨#[32]⟩++si e.rel++⟨#[32]⟩++gT e.b.toNat:=by
    rw[kq]
    have:e.op=8:=by rw[he]
    rw[this];rfl
   have e2:(⟨#[32]⟩:ByteArray).size=1:=rfl
   rw[e1,lT]
   simp only[ByteArray.size_append]
   omega
  ·have ea:=vr (n:=e.a.toNat) (by omega)
   have en:=uc ⟨false,false,false,e.names,[]⟩
   have e1:exT e=gT e.a.toNat++⟨#[32,105,110,32]⟩++nsT ⟨false,false,false,e.names,[]⟩:=by
    rw[kq]
    have:e.op=9:=by rw[he]
    rw[this];rfl
   have e2:(⟨#[32,105,110,32]⟩:ByteArray).size=4:=rfl
   have e3:wN ⟨false,false,false,e.names,[]⟩=wL e.names+1:=rfl
   have e4:1≤wL e.names:=by unfold wL;omega
   rw[e1,lT]
   rw[e3] at en
   simp only[ByteArray.size_append]
   omega
theorem rZ (st least:Int) (t:ByteArray):(ir st least t).size≤t.size+2:=by
 have e1:(⟨#[40]⟩:ByteArray).size=1:=rfl
 have e2:(⟨#[41]⟩:ByteArray).size=1:=rfl
 unfold ir
 split
 ·simp only[ByteArray.size_append];omega
 ·omega
theorem FD (op:Int):(jR op).size≤2:=by
 unfold jR
 repeat' split
 all_goals decide
theorem Gp:∀ (N:Nat) (e:Ex) (lev:Int),SizeOf.sizeOf e<N→cB lev e=0→(btI e).size≤40*wE e
 |0,_,_,h,_=>absurd h (Nat.not_lt_zero _)
 |N+1,e,lev,h,hb=>by
  obtain ⟨hn,hk⟩:=jW hb
  obtain ⟨-,ho⟩:=jy hn
  have ih:∀ x∈e.kids,(btI x).size≤40*wE x:=fun x hx=>Gp N x (lev+1) (by have:=fW hx;omega) (hk x hx)
  rcases ho with⟨s,hs,rfl⟩|⟨x,rfl⟩|⟨op,x,y,hop,rfl⟩
  ·have e:btI {Ex.zero with op:=1,names:=[s]}=s:=by rw[qg];rfl
   have ew:wE {Ex.zero with op:=1,names:=[s]}=(s.size+1+0+1)+0+1:=by rw[lT];rfl
   rw[e,ew];omega
  ·have h1:=ih x (.head _)
   have e:btI {Ex.zero with op:=2,kids:=[x]}=⟨#[33]⟩++ir (gz x.op) 5 (btI x):=by rw[qg];rfl
   have ew:wE {Ex.zero with op:=2,kids:=[x]}=1+(wE x+0)+1:=by rw[lT];rfl
   have e1:(⟨#[33]⟩:ByteArray).size=1:=rfl
   have h2:=rZ (gz x.op) 5 (btI x)
   rw[e,ew,ByteArray.size_append]
   omega
  ·have h1:=ih x (.head _)
   have h3:=ih y (.tail _ (.head _))
   have e:btI {Ex.zero with op:=op,kids:=[x,y]}=ir (gz x.op) (eA op) (btI x)++⟨#[32]⟩++jR op++⟨#[32]⟩++ir (gz y.op) (eA op+1) (btI y):=by
    rw[qg]
    rcases hop with rfl|rfl|rfl|rfl|rfl <;> rfl
   have ew:wE {Ex.zero with op:=op,kids:=[x,y]}=1+(wE x+(wE y+0))+1:=by rw[lT];rfl
   have e1:(⟨#[32]⟩:ByteArray).size=1:=rfl
   have h2:=rZ (gz x.op) (eA op) (btI x)
   have h4:=rZ (gz y.op) (eA op+1) (btI y)
   have h5:=FD op
   rw[e,ew]
   simp only[ByteArray.size_append]
   omega
theorem JA {s:Stm} (h:wH s≤1048576):Bd s:=by
 unfold wH at h
 have eL:∀ l:List ByteArray,wL l=(l.map wB).sum+1:=fun _=>rfl
 have eB:∀ s:ByteArray,wB s=s.size+1:=fun _=>rfl
 have l1:=Al s.list
 have l2:=JD s.list
 have l3:=Al s.aliases
 have n1:=uc s.source
 have n2:=uc s.target
 have n3:=uc s.cls
 have n4:=uc s.perms
 have v1:=Bq s.level
 have r1:=GL s.range
 have c1:=JG s.ctx
 have q1:=eL s.list
 have q2:=eL s.aliases
 have b1:=eB s.name
 have b2:=eB s.result
 have b3:=eB s.text
 refine⟨by omega,by omega,by omega,by omega,by omega,by omega,by omega,by omega,by omega,by omega,fun hc=>?_,fun hc=>?_,by omega,by omega,by omega⟩
 ·have:(exT s.cond).size≤40*wE s.cond:=by
   rcases hc with hc|hc
   ·exact AN (lim:=10) (by decide) _ s.cond 1 (Nat.lt_succ_self _) hc
   ·exact AN (lim:=15) (by decide) _ s.cond 1 (Nat.lt_succ_self _) hc
  omega
 ·have h1:=Gp _ s.cond 1 (Nat.lt_succ_self _) hc
  have h2:=rZ (gz s.cond.op) 0 (btI s.cond)
  have e:btT s.cond 0=ir (gz s.cond.op) 0 (btI s.cond):=rfl
  rw[e]
  omega
end Am
end Go.Proofs.YtkpodagbefnebaaGreatDoor
