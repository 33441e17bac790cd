import Derived.Test.YtkpodagbefnebaaGreatDoorYh25
import Derived.Test.YtkpodagbefnebaaGreatDoorYh10
import Derived.Test.YtkpodagbefnebaaGreatDoorYh5
set_option linter.unusedSimpArgs false
set_option linter.unusedVariables false
set_option linter.unusedSectionVars false
namespace Go.Proofs.YtkpodagbefnebaaGreatDoor
namespace Am
open Tk
set_option maxRecDepth 100000
set_option maxHeartbeats 4000000
section
variable {l:List Tok}
theorem Ci {h:Stm} {hs:List Tok} (hh:HdK h hs):∃ (i:Bool) (w:ByteArray) (rest:List Tok),hs=kN w :: rest∧(w=⟨#[105,102]⟩∨w=⟨#[111,112,116,105,111,110,97,108]⟩)∧rQ w=true∧decide (w=⟨#[105,102]⟩)=i∧∀ (k:Ix l) (R:List Tok),l.drop k.1=rest++kM ⟨#[123]⟩ :: R→∃ k1,(if i=true then ga tksK k>>=fun x=>.ok ({{Stm.zero with pos:=⟨0,0⟩} with kind:=17,cond:=x.1},x.2) else .ok ({{Stm.zero with pos:=⟨0,0⟩} with kind:=18},k):Except Fa (Stm×Ix l))= .ok ({h with pos:=⟨0,0⟩},k1)∧l.drop k1.1=kM ⟨#[123]⟩ :: R:=by
 cases hh with
 |cond he=>
  refine⟨true,_,_,rfl,.inl rfl,by decide,by decide,fun k R hk=>?_⟩
  obtain ⟨k1,e1,e2⟩:=Fi he hk
  exact⟨k1,by rw[if_pos rfl,e1];rfl,e2⟩
 |opt=>exact⟨false,_,_,rfl,.inr rfl,by decide,by decide,fun k R hk=>⟨k,rfl,hk⟩⟩
theorem Jr {h:Stm} {xs b:List Stm} (e:xs.map npS=b.map npS):npS {{h with pos:=⟨0,0⟩} with thn:=xs}=npS {h with thn:=b}:=by
 rw[ay,ay]
 simp only[e]
theorem Jm {h:Stm} {xs ys b e:List Stm} (e1:xs.map npS=b.map npS) (e2:ys.map npS=e.map npS):npS {{h with pos:=⟨0,0⟩} with thn:=xs,els:=ys}=npS {h with thn:=b,els:=e}:=by
 rw[ay,ay]
 simp only[e1,e2]
theorem JA {h:Stm} {hs rest ts:List Tok} {b:List Stm} {c1 d1:Nat} {i:Bool} {w:ByteArray} (hw:w=⟨#[105,102]⟩∨w=⟨#[111,112,116,105,111,110,97,108]⟩) (hbg:rQ w=true) (hi:decide (w=⟨#[105,102]⟩)=i)
 (hu:∀ (k:Ix l) (R:List Tok),l.drop k.1=rest++kM ⟨#[123]⟩ :: R→∃ k1,(if i=true then ga tksK k>>=fun x=>.ok ({{Stm.zero with pos:=⟨0,0⟩} with kind:=17,cond:=x.1},x.2) else .ok ({{Stm.zero with pos:=⟨0,0⟩} with kind:=18},k):Except Fa (Stm×Ix l))= .ok ({h with pos:=⟨0,0⟩},k1)∧l.drop k1.1=kM ⟨#[123]⟩ :: R)
 (hb:PT l b ts c1 d1) (hcl:∀ r,hM ⟨#[125]⟩ (ts++r)=false) (n dd:Nat) (k:Ix l) (cc:Nat) (r:List Tok) (hr:r≠[]) (hel:hW ⟨#[101,108,115,101]⟩ r=false) (hc:cc+(c1+1)≤1024) (hd:dd+(d1+1)≤12) (hn:4*((rest++kM ⟨#[123]⟩ :: (ts++[kM ⟨#[125]⟩])).length+1)+1≤n) (hk:l.drop k.1=kN w :: ((rest++kM ⟨#[123]⟩ :: (ts++[kM ⟨#[125]⟩]))++r)) :
 ∃ x k',cX tksK n dd k cc= .ok (x,(k',cc+(c1+1)))∧npS x=npS {h with thn:=b}∧l.drop k'.1=r:=by
 simp only[List.length_append,List.length_cons,List.length_nil] at hn
 obtain ⟨n,rfl⟩:∃ m,n=m+2:=⟨n - 2,by omega⟩
 have hk:l.drop k.1=kN w :: (rest++kM ⟨#[123]⟩ :: (ts++kM ⟨#[125]⟩ :: r)):=by rw[hk];simp
 have h1:=aO hk (by simp)
 obtain ⟨k1,e1,e2⟩:=hu (nx k) _ h1
 obtain ⟨xs,k',e3,e4,e5⟩:=xq hb hcl n dd k1 (cc+1) r hr (by omega) (by omega) (by omega) e2
 refine⟨_,k',?_,Jr e4,e5⟩
 rw[cX,gH hk]
 dsimp only
 rw[if_pos ⟨rfl,hbg⟩,if_neg (by omega),if_pos hw,if_neg (by omega),hi,cq,e1,aa]
 dsimp only
 rw[e3,aa]
 dsimp only
 rw[kK e5,hel,if_neg (by decide),aa]
 dsimp only
 rw[show cc+1+c1=cc+(c1+1) by omega]
theorem JB {h:Stm} {hs rest ts vs:List Tok} {b e:List Stm} {c1 d1 c2 d2:Nat} {i:Bool} {w:ByteArray} (hw:w=⟨#[105,102]⟩∨w=⟨#[111,112,116,105,111,110,97,108]⟩) (hbg:rQ w=true) (hi:decide (w=⟨#[105,102]⟩)=i)
 (hu:∀ (k:Ix l) (R:List Tok),l.drop k.1=rest++kM ⟨#[123]⟩ :: R→∃ k1,(if i=true then ga tksK k>>=fun x=>.ok ({{Stm.zero with pos:=⟨0,0⟩} with kind:=17,cond:=x.1},x.2) else .ok ({{Stm.zero with pos:=⟨0,0⟩} with kind:=18},k):Except Fa (Stm×Ix l))= .ok ({h with pos:=⟨0,0⟩},k1)∧l.drop k1.1=kM ⟨#[123]⟩ :: R)
 (hb:PT l b ts c1 d1) (hcl:∀ r,hM ⟨#[125]⟩ (ts++r)=false) (he:PT l e vs c2 d2) (hce:∀ r,hM ⟨#[125]⟩ (vs++r)=false) (n dd:Nat) (k:Ix l) (cc:Nat) (r:List Tok) (hr:r≠[]) (hc:cc+(c1+c2+1)≤1024) (hd:dd+max (d1+1) (d2+1)≤12) (hn:4*((rest++kM ⟨#[123]⟩ :: (ts++kM ⟨#[125]⟩ :: kN ⟨#[101,108,115,101]⟩ :: kM ⟨#[123]⟩ :: (vs++[kM ⟨#[125]⟩]))).length+1)+1≤n) (hk:l.drop k.1=kN w :: ((rest++kM ⟨#[123]⟩ :: (ts++kM ⟨#[125]⟩ :: kN ⟨#[101,108,115,101]⟩ :: kM ⟨#[123]⟩ :: (vs++[kM ⟨#[125]⟩])))++r)) :
 ∃ x k',cX tksK n dd k cc= .ok (x,(k',cc+(c1+c2+1)))∧npS x=npS {h with thn:=b,els:=e}∧l.drop k'.1=r:=by
 simp only[List.length_append,List.length_cons,List.length_nil] at hn
 obtain ⟨n,rfl⟩:∃ m,n=m+2:=⟨n - 2,by omega⟩
 have hk:l.drop k.1=kN w :: (rest++kM ⟨#[123]⟩ :: (ts++kM ⟨#[125]⟩ :: kN ⟨#[101,108,115,101]⟩ :: kM ⟨#[123]⟩ :: (vs++kM ⟨#[125]⟩ :: r))):=by rw[hk];simp
 have h1:=aO hk (by simp)
 obtain ⟨k1,e1,e2⟩:=hu (nx k) _ h1
 obtain ⟨xs,k2,e3,e4,e5⟩:=xq hb hcl n dd k1 (cc+1) (kN ⟨#[101,108,115,101]⟩ :: kM ⟨#[123]⟩ :: (vs++kM ⟨#[125]⟩ :: r)) (by simp) (by omega) (by omega) (by omega) e2
 have h2:=aO e5 (by simp)
 obtain ⟨ys,k',e6,e7,e8⟩:=xq he hce n dd (nx k2) (cc+1+c1) r hr (by omega) (by omega) (by omega) h2
 refine⟨_,k',?_,Jm e4 e7,e8⟩
 rw[cX,gH hk]
 dsimp only
 rw[if_pos ⟨rfl,hbg⟩,if_neg (by omega),if_pos hw,if_neg (by omega),hi,cq,e1,aa]
 dsimp only
 rw[e3,aa]
 dsimp only
 rw[kK e5,nU,if_pos (by simp),e6,aa,aa]
 dsimp only
 rw[show cc+1+c1+c2=cc+(c1+c2+1) by omega]
theorem Jy {ss:List Stm} {ts:List Tok} {c d:Nat} (h:TK ss ts c d):PT l ss ts c d:=by
 induction h with
 |nil=>exact Jz
 |@ln w s ts us ss c d h hl ih=>
  have:=th (d1:=0) (c1:=1) ih (s:=s) (ts:=ts) (w:=w) (fun n dd k cc r hr _ hc _ hn hk=>Lq h n dd k cc r hr hc (by omega) hk) fun dd r hs=>hl.els hs
  rw[Nat.add_comm,Nat.zero_max] at this
  exact this
 |@blk h s hs ts us ss b c d c1 d1 hh hb b0 hn hl ihb ih=>
  obtain ⟨i,w,rest,rfl,hw,hbg,hi,hu⟩:=Ci (l:=l) hh
  have:=th (d1:=d1+1) (c1:=c1+1) ih (s:=s) (ts:=rest++kM ⟨#[123]⟩ :: (ts++[kM ⟨#[125]⟩])) (w:=w) (fun n dd k cc r hr hel hc hd hn2 hk=>by
   rw[hn]
   exact JA (hs:=[]) hw hbg hi hu ihb (fun r=>hb.cls b0 r) n dd k cc r hr hel hc hd hn2 hk) fun dd r hs=>hl.els hs
  rw[show(kN w :: (rest++kM ⟨#[123]⟩ :: (ts++[kM ⟨#[125]⟩])++us):List Tok)=kN w :: rest++kM ⟨#[123]⟩ :: (ts++kM ⟨#[125]⟩ :: us) by simp] at this
  exact this
 |@two h s hs ts vs us ss b e c d c1 d1 c2 d2 hh hb b0 he e0 hn hl ihb ihe ih=>
  obtain ⟨i,w,rest,rfl,hw,hbg,hi,hu⟩:=Ci (l:=l) hh
  have:=th (d1:=max (d1+1) (d2+1)) (c1:=c1+c2+1) ih (s:=s) (ts:=rest++kM ⟨#[123]⟩ :: (ts++kM ⟨#[125]⟩ :: kN ⟨#[101,108,115,101]⟩ :: kM ⟨#[123]⟩ :: (vs++[kM ⟨#[125]⟩]))) (w:=w) (fun n dd k cc r hr _ hc hd hn2 hk=>by
   rw[hn]
   exact JB (hs:=[]) hw hbg hi hu ihb (fun r=>hb.cls b0 r) ihe (fun r=>he.cls e0 r) n dd k cc r hr hc hd hn2 hk) fun dd r hs=>hl.els hs
  rw[show(kN w :: (rest++kM ⟨#[123]⟩ :: (ts++kM ⟨#[125]⟩ :: kN ⟨#[101,108,115,101]⟩ :: kM ⟨#[123]⟩ :: (vs++[kM ⟨#[125]⟩]))++us):List Tok)=kN w :: rest++kM ⟨#[123]⟩ :: (ts++kM ⟨#[125]⟩ :: kN ⟨#[101,108,115,101]⟩ :: kM ⟨#[123]⟩ :: (vs++kM ⟨#[125]⟩ :: us)) by simp] at this
  exact this
end
abbrev kE:Tok:=⟨0,⟨#[]⟩,⟨0,0⟩⟩
theorem De {name num:ByteArray} {ss:List Stm} {ts:List Tok} {c d:Nat} (hi:idB name=true) (h9:lf num≤9999) (h:TK ss ts c d) (hc:c≤1024) (hd:d≤12):∃ xs,ly (kN ⟨#[109,111,100,117,108,101]⟩ :: kN name :: kI num :: kM ⟨#[59]⟩ :: (ts++[kE]))= .ok ⟨name,(lf num:Int),xs⟩∧xs.map npS=ss.map npS:=by
 generalize hl:(kN ⟨#[109,111,100,117,108,101]⟩ :: kN name :: kI num :: kM ⟨#[59]⟩ :: (ts++[kE]):List Tok)=l
 have h0:0<l.length:=by rw[← hl];simp
 have hlen:l.length=ts.length+5:=by rw[← hl];simp
 have a0:l.drop (⟨0,h0⟩:Ix l).1=kN ⟨#[109,111,100,117,108,101]⟩ :: kN name :: kI num :: kM ⟨#[59]⟩ :: (ts++[kE]):=hl.symm
 have a1:=aO a0 (by simp)
 have a2:=aO a1 (by simp)
 have a3:=aO a2 (by simp)
 have a4:=aO a3 (by simp)
 obtain ⟨xs,k',e1,e2,e3⟩:=Jy (l:=l) h (fuel l) 0 [] (nx (nx (nx (nx ⟨0,h0⟩)))) 0 [kE] ⟨kE,[],rfl,.inl rfl⟩ (by omega) (by omega) (by unfold fuel;omega) a4
 refine⟨xs,?_,e2⟩
 have e4:gx (⟨0,h0⟩:Ix l)= .ok (⟨name,(lf num:Int),[]⟩,nx (nx (nx (nx ⟨0,h0⟩)))):=by
  unfold gx
  rw[lO a0,aa]
  dsimp only
  rw[bw a1 hi,aa]
  dsimp only
  rw[gH a2]
  dsimp only
  rw[if_pos rfl,if_neg (by omega),fE a3,aa]
 unfold ly mg
 rw[dif_pos h0,e4,aa]
 dsimp only
 rw[e1,aa,aa]
 dsimp only
 rw[gH e3,if_pos rfl,List.nil_append]
end Am
namespace Am
open Tk
set_option maxRecDepth 100000
set_option maxHeartbeats 4000000
def IQ (s:Stm):Stm:={s with pos:=⟨0,0⟩,thn:=[],els:=[]}
theorem BR (s:Stm):IQ (npS s)=IQ s:=by rw[ay];rfl
theorem uP (s:Stm):bz s=bz (IQ s):=rfl
theorem G8 {s t:Stm} (e:npS s=npS t):bz s=bz t:=by
 rw[uP s,uP t,←BR s,←BR t,e]
theorem LnS.of {s t:Stm} (h:LnS t) (e:npS s=npS t):LnS s:=by
 obtain ⟨w,ts,h1,h2⟩:=h
 refine⟨w,ts,⟨h1.bg,h1.ni,fun l k r hr hk=>?_⟩,by rw[G8 e];exact h2⟩
 obtain ⟨s',k',a,b,c⟩:=h1.pl l k r hr hk
 exact⟨s',k',a,b.trans e.symm,c⟩
def HdW (s:Stm):Prop:=(cP 1 s.cond=0∧npS s=npS {Stm.zero with kind:=17,cond:=s.cond,thn:=s.thn,els:=s.els})∨npS s=npS {Stm.zero with kind:=18,thn:=s.thn,els:=s.els}
mutual
inductive WfS:Stm→Nat→Nat→Prop where
 |ln {s:Stm} (hk:s.kind≠17∧s.kind≠18) (h:LnS s):WfS s 1 0
 |one {s:Stm} {c d:Nat} (hk:s.kind=17∨s.kind=18) (h:HdW s) (h0:s.thn≠[]) (ht:WfL s.thn c d) (he:s.els=[]):WfS s (c+1) (d+1)
 |two {s:Stm} {c1 d1 c2 d2:Nat} (hk:s.kind=17∨s.kind=18) (h:HdW s) (h0:s.thn≠[]) (ht:WfL s.thn c1 d1) (he:s.els≠[]) (hs:WfL s.els c2 d2):WfS s (c1+c2+1) (max (d1+1) (d2+1))
inductive WfL:List Stm→Nat→Nat→Prop where
 |nil:WfL [] 0 0
 |cons {s:Stm} {l:List Stm} {c1 d1 c d:Nat} (h:WfS s c1 d1) (hl:WfL l c d):WfL (s :: l) (c1+c) (max d1 d)
end
theorem lg:∀ n:Nat,SB false (j5 n) []
 |0=>by
  have e:j5 0=⟨#[]⟩:=rfl
  rw[e];exact SB.nil
 |n+1=>by
  have e:j5 (n+1)=⟨#[32,32]⟩++j5 n:=by
   unfold j5 GM
   have h:∀ l:List UInt8,Lib.repeatL l (n+1)=l++Lib.repeatL l n:=fun l=>rfl
   rw[h]
   apply ByteArray.ext
   rw[ByteArray.data_append]
   simp
  rw[e]
  exact SB.appF (ts:=[]) (us:=[]) (ScK.sp.app ScK.sp fun h=>by cases h) (lg n)
theorem DE:SB false ⟨#[123,10]⟩ [kM ⟨#[123]⟩]:=(ScK.mark1 (c:=123) (by decide) (by decide)).app ScK.nl fun h=>by cases h
theorem yO {s:Stm} (h:HdW s) (hk:s.kind=17∨s.kind=18):∃ h' hs,HdK h' hs∧npS s=npS {h' with thn:=s.thn,els:=s.els}∧SB false (j4 s) (hs++[kM ⟨#[123]⟩]):=by
 rcases h with⟨h1,h2⟩|h2
 ·refine⟨_,_,HdK.cond h1,h2,?_⟩
  have hk:s.kind=17:=by
   have:=congrArg Stm.kind h2
   rw[ay,ay] at this
   exact this
  unfold j4
  rw[if_pos hk]
  have e:bC ⟨#[32]⟩ [⟨#[105,102]⟩,btT s.cond 0,⟨#[123,10]⟩]=⟨#[105,102]⟩++(⟨#[32]⟩++(btT s.cond 0++(⟨#[32]⟩++⟨#[123,10]⟩))):=by
   show(⟨#[105,102]⟩:ByteArray)++((⟨#[32]⟩:ByteArray)++btT s.cond 0++((⟨#[32]⟩:ByteArray)++(⟨#[123,10]⟩:ByteArray)++(⟨#[]⟩:ByteArray)))=_
   rw[BD,aL]
  rw[e]
  exact(dJ ⟨#[105,102]⟩ (by decide)).app (sb_sp.appF ((Fy h1).app (sb_sp.appF DE) fun _=>by decide)) fun _=>aF _ (by decide)
 ·refine⟨_,_,HdK.opt,h2,?_⟩
  have hk:s.kind=18:=by
   have:=congrArg Stm.kind h2
   rw[ay,ay] at this
   exact this
  unfold j4
  rw[if_neg (by omega)]
  have e:bC ⟨#[32]⟩ [⟨#[111,112,116,105,111,110,97,108]⟩,⟨#[123,10]⟩]=⟨#[111,112,116,105,111,110,97,108]⟩++(⟨#[32]⟩++⟨#[123,10]⟩):=by
   show(⟨#[111,112,116,105,111,110,97,108]⟩:ByteArray)++((⟨#[32]⟩:ByteArray)++(⟨#[123,10]⟩:ByteArray)++(⟨#[]⟩:ByteArray))=_
   rw[BD]
  rw[e]
  exact(dJ ⟨#[111,112,116,105,111,110,97,108]⟩ (by decide)).app (sb_sp.appF DE) fun _=>by decide
theorem DQ (lv:Nat) (s:Stm):stT lv s=stH lv s (cJ (lv+1) s.thn) (cJ (lv+1) s.els):=by cases s;rw[stT]
theorem sb_els:SB false ⟨#[32,101,108,115,101,32,123,10]⟩ [kN ⟨#[101,108,115,101]⟩,kM ⟨#[123]⟩]:=
 ScK.sp.app ((ScK.name (s:=⟨#[101,108,115,101]⟩) (by decide)).app (ScK.sp.app ((ScK.mark1 (c:=123) (by decide) (by decide)).app ScK.nl fun h=>by cases h) fun h=>by cases h) fun _=>by decide) fun h=>by cases h
theorem sb_cl:SB false ⟨#[125]⟩ [kM ⟨#[125]⟩]:=jh (c:=125) (by decide) (by decide)
def StB (s:Stm) (c d:Nat):Prop:=∀ lv:Nat,∃ ts,SB false (stT lv s) ts∧∀ (l:List Stm) (us:List Tok) (c' d':Nat),TK l us c' d'→TK (s :: l) (ts++us) (c+c') (max d d')
def BlB (l:List Stm) (c d:Nat):Prop:=∀ lv:Nat,∃ ts,SB false (cJ lv l) ts∧TK l ts c d
theorem LC {s:Stm} (hk:s.kind≠17∧s.kind≠18) (h:LnS s):StB s 1 0:=fun lv=>by
 obtain ⟨w,ts,h1,h2⟩:=h
 refine⟨kN w :: (ts++[kM ⟨#[59]⟩]),?_,fun l us c' d' hl=>?_⟩
 ·rw[DQ]
  unfold stH
  rw[if_pos hk]
  exact(lg lv).appF (h2.app (jh (c:=59) (by decide) (by decide)) fun _=>by decide)
 ·have:=TK.ln h1 hl
  rw[Nat.add_comm 1,Nat.zero_max]
  exact this
theorem JW {s:Stm} {c d:Nat} (hk:s.kind=17∨s.kind=18) (h:HdW s) (h0:s.thn≠[]) (ht:BlB s.thn c d) (he:s.els=[]):StB s (c+1) (d+1):=fun lv=>by
 obtain ⟨h',hs,a1,a2,a3⟩:=yO h hk
 obtain ⟨ts,b1,b2⟩:=ht (lv+1)
 refine⟨hs++kM ⟨#[123]⟩ :: (ts++[kM ⟨#[125]⟩]),?_,fun l us c' d' hl=>?_⟩
 ·rw[DQ]
  unfold stH
  rw[if_neg (by rcases hk with hk|hk <;> simp[hk]),he,if_neg (by decide),BD]
  simp only[aL]
  have:=(lg lv).appF (a3.appF (b1.appF ((lg lv).appF sb_cl)))
  simpa using this
 ·have hn:npS s=npS {h' with thn:=s.thn}:=by
   rw[a2,he]
   cases a1 <;> rfl
  have:=TK.blk a1 b2 h0 hn hl
  rw[show(hs++kM ⟨#[123]⟩ :: (ts++[kM ⟨#[125]⟩])++us)=hs++kM ⟨#[123]⟩ :: (ts++kM ⟨#[125]⟩ :: us) by simp]
  exact this
theorem JX {s:Stm} {c1 d1 c2 d2:Nat} (hk:s.kind=17∨s.kind=18) (h:HdW s) (h0:s.thn≠[]) (ht:BlB s.thn c1 d1) (he:s.els≠[]) (hs2:BlB s.els c2 d2):StB s (c1+c2+1) (max (d1+1) (d2+1)):=fun lv=>by
 obtain ⟨h',hs,a1,a2,a3⟩:=yO h hk
 obtain ⟨ts,b1,b2⟩:=ht (lv+1)
 obtain ⟨vs,e1,e2⟩:=hs2 (lv+1)
 refine⟨hs++kM ⟨#[123]⟩ :: (ts++kM ⟨#[125]⟩ :: kN ⟨#[101,108,115,101]⟩ :: kM ⟨#[123]⟩ :: (vs++[kM ⟨#[125]⟩])),?_,fun l us c' d' hl=>?_⟩
 ·rw[DQ]
  unfold stH
  rw[if_neg (by rcases hk with hk|hk <;> simp[hk]),if_pos (List.length_pos_iff.2 he)]
  simp only[aL]
  have:=(lg lv).appF (a3.appF (b1.appF ((lg lv).appF (sb_cl.appF (sb_els.appF (e1.appF ((lg lv).appF sb_cl)))))))
  simpa using this
 ·have:=TK.two a1 b2 h0 e2 he a2 hl
  rw[show(hs++kM ⟨#[123]⟩ :: (ts++kM ⟨#[125]⟩ :: kN ⟨#[101,108,115,101]⟩ :: kM ⟨#[123]⟩ :: (vs++[kM ⟨#[125]⟩]))++us)=hs++kM ⟨#[123]⟩ :: (ts++kM ⟨#[125]⟩ :: kN ⟨#[101,108,115,101]⟩ :: kM ⟨#[123]⟩ :: (vs++kM ⟨#[125]⟩ :: us)) by simp]
  exact this
theorem IM:BlB [] 0 0:=fun lv=>⟨[],by rw[cJ];exact SB.nil,TK.nil⟩
theorem Fk {s:Stm} {l:List Stm} {c1 d1 c d:Nat} (h:StB s c1 d1) (hl:BlB l c d):BlB (s :: l) (c1+c) (max d1 d):=fun lv=>by
 obtain ⟨ts,a1,a2⟩:=h lv
 obtain ⟨us,b1,b2⟩:=hl lv
 refine⟨ts++us,?_,a2 l us c d b2⟩
 rw[cJ]
 have:=(a1.appF Lw).appF b1
 rw[List.append_nil] at this
 exact this
mutual
theorem Mj:∀ {s:Stm} {c d:Nat},WfS s c d→StB s c d
 |_,_,_,.ln hk h=>LC hk h
 |_,_,_,.one hk h h0 ht he=>JW hk h h0 (vW ht) he
 |_,_,_,.two hk h h0 ht he hs=>JX hk h h0 (vW ht) he (vW hs)
theorem vW:∀ {l:List Stm} {c d:Nat},WfL l c d→BlB l c d
 |_,_,_,.nil=>IM
 |_,_,_,.cons h hl=>Fk (Mj h) (vW hl)
end
end Am
namespace Am
open Tk
set_option maxRecDepth 100000
set_option maxHeartbeats 4000000
theorem ur {n:Nat} (h:n<10):Lib.decDigits n=[UInt8.ofNat (48+n)]:=by rw[Lib.decDigits,dif_pos h]
theorem IX {n:Nat} (h:¬ n<10):Lib.decDigits n=Lib.decDigits (n / 10)++[UInt8.ofNat (48+n % 10)]:=by rw[Lib.decDigits,dif_neg h]
theorem oh {n:Nat} (h:n<10):(UInt8.ofNat (48+n)).toNat=48+n:=by
 rw[UInt8.toNat_ofNat'];omega
theorem BS:∀ (N n:Nat),n<N→(Lib.decDigits n).all dgB=true∧(Lib.decDigits n).foldl (fun n c=>10*n+(c.toNat - 48)) 0=n∧1≤(Lib.decDigits n).length∧(1≤n→(Lib.decDigits n).getD 0 0≠48)∧∀ k,1≤k→n<10 ^ k→(Lib.decDigits n).length≤k
 |0,_,h=>absurd h (Nat.not_lt_zero _)
 |N+1,n,h=>by
  have dg:∀ m,m<10→dgB (UInt8.ofNat (48+m))=true:=fun m hm=>by
   show gE (bi (UInt8.ofNat (48+m)))=true
   unfold gE bi
   rw[oh hm]
   exact decide_eq_true (by omega)
  by_cases hn:n<10
  ·rw[ur hn]
   refine⟨by rw[List.all_cons,dg n hn];rfl,?_,by simp,fun h1=>?_,fun k hk _=>by simp;exact hk⟩
   ·show 10*0+((UInt8.ofNat (48+n)).toNat - 48)=n
    rw[oh hn];omega
   ·show UInt8.ofNat (48+n)≠48
    intro e
    have:=congrArg UInt8.toNat e
    rw[oh hn] at this
    have h48:(48:UInt8).toNat=48:=rfl
    omega
  ·obtain ⟨a,b,c,d,e⟩:=BS N (n / 10) (by omega)
   have hm:n % 10<10:=Nat.mod_lt _ (by omega)
   rw[IX hn]
   refine⟨by rw[List.all_append,a,List.all_cons,dg _ hm];rfl,?_,by rw[List.length_append];omega,fun _=>?_,fun k hk hlt=>?_⟩
   ·rw[List.foldl_append,b]
    show 10*(n / 10)+((UInt8.ofNat (48+n % 10)).toNat - 48)=n
    rw[oh hm];omega
   ·have:=d (by omega)
    cases hd:Lib.decDigits (n / 10) with
    |nil=>rw[hd] at c;simp at c
    |cons x l=>rw[hd] at this;exact this
   ·rw[List.length_append]
    obtain ⟨k,rfl⟩:∃ j,k=j+1:=⟨k - 1,by omega⟩
    have hk1:1≤k:=by
     rcases Nat.eq_zero_or_pos k with h0|h0
     ·subst h0;simp at hlt;omega
     ·exact h0
    have:=e k hk1 (by rw[Nat.pow_succ] at hlt;omega)
    simp;omega
theorem D1 {v:Int} (h0:0≤v) (h9:v≤9999):D0 (itT v).data.toList=true∧(lf (itT v):Int)=v:=by
 have e:(itT v).data.toList=Lib.decDigits v.toNat:=by
  show(Lib.itoa v)=_
  unfold Lib.itoa
  rw[if_neg (by omega)]
 obtain ⟨a,b,c,d,f⟩:=BS _ v.toNat (Nat.lt_succ_self _)
 have hl:=f 4 (by omega) (by
  have:(10:Nat) ^ 4=10000:=by decide
  omega)
 constructor
 ·rw[e]
  unfold D0
  rw[a,Bool.and_true]
  cases hd:Lib.decDigits v.toNat with
  |nil=>rw[hd] at c;simp at c
  |cons x l=>
   rw[hd] at hl d
   simp only[List.isEmpty_cons,Bool.not_false,Bool.true_and]
   rw[decide_eq_true (show(x :: l).length≤9 by omega),Bool.true_and,Bool.or_eq_true]
   by_cases hv:1≤v.toNat
   ·right
    have:=d hv
    rw[Bool.not_eq_true',decide_eq_false_iff_not]
    intro hb
    refine this (UInt8.toNat_inj.1 ?_)
    have h48:(48:UInt8).toNat=48:=rfl
    unfold bi at hb
    rw[h48];omega
   ·left
    have:v.toNat=0:=by omega
    rw[this,ur (by omega)] at hd
    injection hd with _ hd
    rw[← hd];rfl
 ·unfold lf
  rw[e,b];omega
theorem Jh {m:Mo} {ts:List Tok} (hi:idB m.name=true) (hv:0≤m.version∧m.version≤9999) (h:SB false (cJ 0 m.stmts) ts):SB false (jx m) (kN ⟨#[109,111,100,117,108,101]⟩ :: kN m.name :: kI (itT m.version) :: kM ⟨#[59]⟩ :: ts):=by
 have e:jx m=⟨#[109,111,100,117,108,101]⟩++(⟨#[32]⟩++(m.name++(⟨#[32]⟩++(itT m.version++(⟨#[59,10]⟩++cJ 0 m.stmts))))):=by
  show((⟨#[109,111,100,117,108,101]⟩:ByteArray)++((⟨#[32]⟩:ByteArray)++m.name++((⟨#[32]⟩:ByteArray)++(itT m.version++(⟨#[59,10]⟩:ByteArray))++(⟨#[]⟩:ByteArray))))++cJ 0 m.stmts=_
  rw[BD]
  simp only[aL]
 have sc:SB false ⟨#[59,10]⟩ [kM ⟨#[59]⟩]:=(ScK.mark1 (c:=59) (by decide) (by decide)).app ScK.nl fun h=>by cases h
 have nu:SB true (itT m.version) [kI (itT m.version)]:=ScK.num (D1 hv.1 hv.2).1
 rw[e]
 exact(dJ ⟨#[109,111,100,117,108,101]⟩ (by decide)).app (sb_sp.appF ((SB.name hi).app (sb_sp.appF (nu.app (sc.appF h) fun _=>aF _ (by decide))) fun _=>aF _ (by decide))) fun _=>aF _ (by decide)
theorem BE {m:Mo} {c d:Nat} (hi:idB m.name=true) (hv:0≤m.version∧m.version≤9999) (h:WfL m.stmts c d) (hc:c≤1024) (hd:d≤12) (hz:(jx m).size≤65536):∃ x,n8 (jx m)= .ok x∧npM x=npM m:=by
 obtain ⟨ts,h1,h2⟩:=vW h 0
 obtain ⟨l,e1,e2⟩:=(Jh hi hv h1).scan hz
 obtain ⟨n1,n2⟩:=D1 hv.1 hv.2
 obtain ⟨xs,e3,e4⟩:=De hi (num:=itT m.version) (by omega) h2 hc hd
 have e5:l.map npT=kN ⟨#[109,111,100,117,108,101]⟩ :: kN m.name :: kI (itT m.version) :: kM ⟨#[59]⟩ :: (ts++[kE]):=e2
 have e6:=vd l
 rw[e5,e3] at e6
 have e7:=vd (l.map npT)
 have e8:(l.map npT).map npT=l.map npT:=by rw[List.map_map];rfl
 rw[e8,e5,e3] at e7
 have e9:xs=xs.map npS:=by
  injection e7 with e7
  exact congrArg Mo.stmts e7
 rw[GD e1]
 cases hp:ly l with
 |error f=>rw[hp] at e6;cases e6
 |ok x=>
  rw[hp] at e6
  injection e6 with e6
  refine⟨x,rfl,?_⟩
  rw[← e6]
  unfold npM
  rw[n2,e9,e4]
end Am
namespace Am
open Tk
set_option maxRecDepth 100000
set_option maxHeartbeats 4000000
theorem seq_eq {a b:Se} (h:Se.eqB a b=true):a=b:=by
 unfold Se.eqB at h
 simp only[Bool.and_eq_true,decide_eq_true_eq] at h
 obtain ⟨a1,a2,a3,a4⟩:=a
 obtain ⟨b1,b2,b3,b4⟩:=b
 obtain ⟨p1,p2,p3,p4⟩:=h
 dsimp only at p1 p2 p3 p4
 rw[p1,p2,p3,p4]
theorem nY {α β:Type} {p:α→α→Bool} {g:α→β}:∀ {l m:List α},(∀ x∈l,∀ y,p x y=true→g x=g y)→fw p l m=true→l.map g=m.map g
 |[],[],_,_=>rfl
 |[],_ :: _,_,h=>by cases h
 |_ :: _,[],_,h=>by cases h
 |x :: l,y :: m,hp,h=>by
  rw[fw,Bool.and_eq_true] at h
  rw[List.map_cons,List.map_cons,hp x (.head _) y h.1,nY (fun z hz=>hp z (.tail _ hz)) h.2]
theorem vy:∀ (n:Nat) (a b:Ex),SizeOf.sizeOf a<n→eG a b=true→a=b
 |0,_,_,h,_=>absurd h (Nat.not_lt_zero _)
 |n+1,a,b,h,hs=>by
  rw[jg,Bool.and_eq_true] at hs
  have hk:=nY (g:=fun x:Ex=>x) (fun x hx y hy=>vy n x y (by have:=gi hx;omega) hy) hs.2
  rw[List.map_id',List.map_id'] at hk
  have h1:=hs.1
  unfold jJ at h1
  simp only[Bool.and_eq_true,decide_eq_true_eq] at h1
  obtain ⟨⟨⟨⟨⟨q1,q2⟩,q3⟩,q4⟩,q5⟩,q6⟩:=h1
  obtain ⟨a1,a2,a3,a4,a5,a6,a7⟩:=a
  obtain ⟨b1,b2,b3,b4,b5,b6,b7⟩:=b
  have q5:=seq_eq q5
  dsimp only at q1 q2 q3 q4 q5 q6 hk
  rw[q1,q2,q3,q4,q5,q6,hk]
theorem kC {a b:NS} (h:cu a b=true):a=b:=by
 unfold cu at h
 simp only[Bool.and_eq_true,decide_eq_true_eq,beq_iff_eq] at h
 obtain ⟨a1,a2,a3,a4,a5⟩:=a
 obtain ⟨b1,b2,b3,b4,b5⟩:=b
 obtain ⟨⟨⟨⟨p1,p2⟩,p3⟩,p4⟩,p5⟩:=h
 dsimp only at p1 p2 p3 p4 p5
 rw[p1,p2,p3,p4,p5]
theorem nk {a b:Lv} (h:dB a b=true):a=b:=by
 unfold dB at h
 simp only[Bool.and_eq_true,decide_eq_true_eq] at h
 obtain ⟨a1,a2⟩:=a
 obtain ⟨b1,b2⟩:=b
 obtain ⟨p1,p2⟩:=h
 dsimp only at p1 p2
 rw[p1,p2]
theorem ry {a b:Rg} (h:dR a b=true):a=b:=by
 unfold dR at h
 rw[Bool.and_eq_true] at h
 obtain ⟨a1,a2⟩:=a
 obtain ⟨b1,b2⟩:=b
 have p1:=nk h.1
 have p2:=nk h.2
 dsimp only at p1 p2
 rw[p1,p2]
theorem IV:∀ {a b:Ct},a.user=b.user→a.role=b.role→a.type=b.type→a.rng=b.rng→a=b
 |⟨_,_,_,_⟩,⟨_,_,_,_⟩,rfl,rfl,rfl,rfl=>rfl
theorem pY:∀ (n:Nat) (a b:Stm),SizeOf.sizeOf a<n→cE a b=true→npS a=npS b
 |0,_,_,h,_=>absurd h (Nat.not_lt_zero _)
 |n+1,a,b,h,hs=>by
  rw[jf,Bool.and_eq_true,Bool.and_eq_true] at hs
  obtain ⟨⟨h0,ht⟩,he⟩:=hs
  have ht:=nY (fun x hx y hy=>pY n x y (by have:=iU hx;omega) hy) ht
  have he:=nY (fun x hx y hy=>pY n x y (by have:=iP hx;omega) hy) he
  unfold iH at h0
  simp only[Bool.and_eq_true,decide_eq_true_eq,beq_iff_eq] at h0
  obtain ⟨⟨⟨⟨⟨⟨⟨⟨⟨⟨⟨⟨⟨⟨⟨⟨⟨⟨q1,q2⟩,q3⟩,q4⟩,q5⟩,q6⟩,q7⟩,q8⟩,q9⟩,q10⟩,q11⟩,q12⟩,q13⟩,q14⟩,q15⟩,q16⟩,q17⟩,q18⟩,q19⟩:=h0
  have q9:=kC q9
  have q10:=kC q10
  have q11:=kC q11
  have q12:=kC q12
  have q13:=vy _ _ _ (Nat.lt_succ_self _) q13
  have q14:=nk q14
  have q15:=ry q15
  have q19:=ry q19
  have hc:a.ctx=b.ctx:=IV q16 q17 q18 q19
  rw[ay,ay,q1,q2,q3,q4,q5,q6,q7,q8,q9,q10,q11,q12,q13,q14,q15,hc,ht,he]
theorem cB {s:Stm} (h:cE (bF s) s=true):npS s=npS (bF s):=(pY _ _ _ (Nat.lt_succ_self _) h).symm
theorem Cl {l:List ByteArray} (h:mb l 1=true):l≠[]∧l.all idB=true:=by
 unfold mb at h
 rw[Bool.and_eq_true,decide_eq_true_eq] at h
 refine⟨?_,h.1⟩
 rintro rfl
 have:=h.2
 simp at this
theorem La {l:List ByteArray} (h:mb l 0=true):l.all idB=true:=by
 unfold mb at h
 rw[Bool.and_eq_true] at h
 exact h.1
theorem Lm {t:ByteArray} (h:t.data.toList.all ml=true) (hz:t.size≤32):Tk.quoB t.data.toList=true:=by
 unfold Tk.quoB
 rw[Bool.and_eq_true]
 refine⟨decide_eq_true (by have:=bZ t;omega),?_⟩
 rw[List.all_eq_true] at h ⊢
 intro c hc
 have:=h c hc
 unfold ml at this
 simp only[Bool.not_eq_true',Bool.or_eq_false_iff,decide_eq_false_iff_not] at this
 show Af (bi c)=true
 unfold Af bi
 exact decide_eq_true (by omega)
end Am
namespace Am
open Tk
set_option maxRecDepth 100000
set_option maxHeartbeats 4000000
theorem FE {n:NS} (h:oY n=true):n=NS.zero:=by
 unfold oY at h
 simp only[Bool.and_eq_true,Bool.not_eq_true',decide_eq_true_eq] at h
 obtain ⟨⟨⟨⟨h1,h2⟩,h3⟩,h4⟩,h5⟩:=h
 obtain ⟨a1,a2,a3,a4,a5⟩:=n
 have q4:a4=[]:=List.eq_nil_of_length_eq_zero h4
 have q5:a5=[]:=List.eq_nil_of_length_eq_zero h5
 dsimp only at h1 h2 h3
 clear h4 h5
 subst h1 h2 h3 q4 q5;rfl
theorem Hb {s:Stm} (h:ql s=true):s.text=⟨#[]⟩∨(s.op=1∧s.text≠⟨#[]⟩∧mj s.text=true∧Tk.quoB s.text.data.toList=true):=by
 unfold ql at h
 simp only[Bool.and_eq_true,Bool.or_eq_true,decide_eq_true_eq] at h
 by_cases h0:s.text=⟨#[]⟩
 ·exact .inl h0
 ·obtain ⟨h1,h2⟩:=h
  have h2:=h2.resolve_left h0
  refine .inr ⟨h2.1,h0,?_,Lm h1 h2.2⟩
  unfold mj
  rw[h1,decide_eq_true h0,decide_eq_true h2.2];rfl
theorem vp {t:ByteArray} (h:Am.quoB t=true):Tk.quoB t.data.toList=true:=by
 unfold Am.quoB at h
 rw[Bool.and_eq_true,decide_eq_true_eq] at h
 unfold Tk.quoB
 rw[Bool.and_eq_true]
 refine⟨decide_eq_true (by have:=bZ t;omega),?_⟩
 have h2:=h.2
 rw[List.all_eq_true] at h2 ⊢
 intro c hc
 have:=h2 c hc
 unfold Dj at this
 simp only[Bool.and_eq_true,decide_eq_true_eq] at this
 show Af (bi c)=true
 unfold Af bi
 exact decide_eq_true (by omega)
theorem mu {s:Stm} (h:hZ s=true):av s.source false=true∧av s.target (decide (s.kind=12))=true:=by
 unfold hZ at h
 rwa [Bool.and_eq_true] at h
theorem MW {s:Stm} {tb eb:Bool} (hk:s.kind=1) (h:bE tb eb s=true):LnS s:=by
 unfold bE at h
 rw[Bool.and_eq_true] at h
 obtain ⟨h,hs⟩:=h
 have e:=cB hs
 have e2:bF s= {Stm.zero with kind:=1,name:=s.name,list:=s.list}:=by unfold bF;simp[hk]
 rw[e2] at e
 clear e2 hs
 have hq:dI s=true:=by simpa [hk] using h
 clear h
 unfold dI at hq
 simp[hk] at hq
 obtain ⟨h0,hi⟩:=Cl hq.2
 exact(CC (p:=⟨0,0⟩) hq.1 h0 hi).of e
theorem N0 {s:Stm} {tb eb:Bool} (hk:s.kind=4) (h:bE tb eb s=true):LnS s:=by
 unfold bE at h
 rw[Bool.and_eq_true] at h
 obtain ⟨h,hs⟩:=h
 have e:=cB hs
 have e2:bF s= {Stm.zero with kind:=4,name:=s.name,list:=s.list}:=by unfold bF;simp[hk]
 rw[e2] at e
 clear e2 hs
 have hq:dI s=true:=by simpa [hk] using h
 clear h
 unfold dI at hq
 simp[hk] at hq
 obtain ⟨h0,hi⟩:=Cl hq.2
 exact(mW (p:=⟨0,0⟩) hq.1 h0 hi).of e
theorem MY {s:Stm} {tb eb:Bool} (hk:s.kind=2) (h:bE tb eb s=true):LnS s:=by
 unfold bE at h
 rw[Bool.and_eq_true] at h
 obtain ⟨h,hs⟩:=h
 have e:=cB hs
 have e2:bF s= {Stm.zero with kind:=2,name:=s.name,aliases:=s.aliases,list:=s.list}:=by unfold bF;simp[hk]
 rw[e2] at e
 clear e2 hs
 have hq:dI s=true:=by simpa [hk] using h
 clear h
 unfold dI at hq
 simp[hk] at hq
 have hi:=La hq.1.2
 have ai:=La hq.2
 by_cases h0:s.list=[]
 ·by_cases a0:s.aliases=[]
  ·rw[h0,a0] at e;exact(zZ (p:=⟨0,0⟩) hq.1.1).of e
  ·rw[h0] at e;exact(A0 (p:=⟨0,0⟩) hq.1.1 a0 ai).of e
 ·by_cases a0:s.aliases=[]
  ·rw[a0] at e;exact(CF (p:=⟨0,0⟩) hq.1.1 h0 hi).of e
  ·exact(CG (p:=⟨0,0⟩) hq.1.1 a0 ai h0 hi).of e
theorem MZ {s:Stm} {tb eb:Bool} (hk:s.kind=3) (h:bE tb eb s=true):LnS s:=by
 unfold bE at h
 rw[Bool.and_eq_true] at h
 obtain ⟨h,hs⟩:=h
 have e:=cB hs
 have e2:bF s= {Stm.zero with kind:=3,name:=s.name}:=by unfold bF;simp[hk]
 rw[e2] at e
 clear e2 hs
 have hq:dI s=true:=by simpa [hk] using h
 clear h
 unfold dI at hq
 simp[hk] at hq
 exact(si (p:=⟨0,0⟩) hq).of e
theorem M7 {s:Stm} {tb eb:Bool} (hk:s.kind=10) (h:bE tb eb s=true):LnS s:=by
 unfold bE at h
 rw[Bool.and_eq_true] at h
 obtain ⟨h,hs⟩:=h
 have e:=cB hs
 have e2:bF s= {Stm.zero with kind:=10,name:=s.name}:=by unfold bF;simp[hk]
 rw[e2] at e
 clear e2 hs
 have hq:dI s=true:=by simpa [hk] using h
 clear h
 unfold dI at hq
 simp[hk] at hq
 exact(pq (p:=⟨0,0⟩) hq).of e
theorem M8 {s:Stm} {tb eb:Bool} (hk:s.kind=11) (h:bE tb eb s=true):LnS s:=by
 unfold bE at h
 rw[Bool.and_eq_true] at h
 obtain ⟨h,hs⟩:=h
 have e:=cB hs
 have e2:bF s= {Stm.zero with kind:=11,name:=s.name}:=by unfold bF;simp[hk]
 rw[e2] at e
 clear e2 hs
 have hq:dI s=true:=by simpa [hk] using h
 clear h
 unfold dI at hq
 simp[hk] at hq
 exact(uU (p:=⟨0,0⟩) hq).of e
theorem N1 {s:Stm} {tb eb:Bool} (hk:s.kind=5) (h:bE tb eb s=true):LnS s:=by
 unfold bE at h
 rw[Bool.and_eq_true] at h
 obtain ⟨h,hs⟩:=h
 have e:=cB hs
 have e2:bF s= {Stm.zero with kind:=5,name:=s.name,source:=s.source}:=by unfold bF;simp[hk]
 rw[e2] at e
 clear e2 hs
 have hq:dI s=true:=by simpa [hk] using h
 clear h
 unfold dI at hq
 simp[hk] at hq
 rcases hq.2 with hz|hz
 ·rw[FE hz] at e;exact(CD (p:=⟨0,0⟩) hq.1).of e
 ·exact(CE (p:=⟨0,0⟩) hq.1 hz).of e
theorem N4 {s:Stm} {tb eb:Bool} (hk:s.kind=8) (h:bE tb eb s=true):LnS s:=by
 unfold bE at h
 rw[Bool.and_eq_true] at h
 obtain ⟨h,hs⟩:=h
 have e:=cB hs
 have e2:bF s= {Stm.zero with kind:=8,name:=s.name,list:=s.list,level:=s.level,range:=s.range}:=by unfold bF;simp[hk]
 rw[e2] at e
 clear e2 hs
 have hq:dI s=true:=by simpa [hk] using h
 clear h
 unfold dI at hq
 simp[hk] at hq
 obtain ⟨h0,hi⟩:=Cl hq.1.1.2
 exact(Ga (p:=⟨0,0⟩) hq.1.1.1 h0 hi hq.1.2 hq.2).of e
theorem N5 {s:Stm} {tb eb:Bool} (hk:s.kind=9) (h:bE tb eb s=true):LnS s:=by
 unfold bE at h
 rw[Bool.and_eq_true] at h
 obtain ⟨h,hs⟩:=h
 have e:=cB hs
 have e2:bF s= {Stm.zero with kind:=9,name:=s.name,value:=s.value}:=by unfold bF;simp[hk]
 rw[e2] at e
 clear e2 hs
 have hq:dI s=true:=by simpa [hk] using h
 clear h
 unfold dI at hq
 simp[hk] at hq
 exact(G9 (p:=⟨0,0⟩) hq s.value).of e
theorem N2 {s:Stm} {tb eb:Bool} (hk:s.kind=6) (h:bE tb eb s=true):LnS s:=by
 unfold bE at h
 rw[Bool.and_eq_true] at h
 obtain ⟨h,hs⟩:=h
 have e:=cB hs
 have e2:bF s= {Stm.zero with kind:=6,source:=s.source,target:=s.target}:=by unfold bF;simp[hk]
 rw[e2] at e
 clear e2 hs
 have hq:eF s=true:=by simpa [hk] using h
 clear h
 unfold eF at hq
 simp[hk] at hq
 obtain ⟨a,b⟩:=mu hq
 rw[hk] at b
 exact(sH (p:=⟨0,0⟩) a b).of e
theorem N3 {s:Stm} {tb eb:Bool} (hk:s.kind=7) (h:bE tb eb s=true):LnS s:=by
 unfold bE at h
 rw[Bool.and_eq_true] at h
 obtain ⟨h,hs⟩:=h
 have e:=cB hs
 have e2:bF s= {Stm.zero with kind:=7,source:=s.source,target:=s.target,cls:=s.cls,result:=s.result}:=by unfold bF;simp[hk]
 rw[e2] at e
 clear e2 hs
 have hq:eF s=true:=by simpa [hk] using h
 clear h
 unfold eF at hq
 simp[hk] at hq
 obtain ⟨a,b⟩:=mu hq.1.1
 rw[hk] at b
 exact(lj (p:=⟨0,0⟩) a b hq.1.2 hq.2).of e
theorem M9 {s:Stm} {tb eb:Bool} (hk:s.kind=12) (h:bE tb eb s=true):LnS s:=by
 unfold bE at h
 rw[Bool.and_eq_true] at h
 obtain ⟨h,hs⟩:=h
 have e:=cB hs
 have e2:bF s= {Stm.zero with kind:=12,op:=s.op,source:=s.source,target:=s.target,cls:=s.cls,perms:=s.perms}:=by unfold bF;simp[hk]
 rw[e2] at e
 clear e2 hs
 have hq:eF s=true:=by simpa [hk] using h
 clear h
 unfold eF at hq
 simp[hk] at hq
 obtain ⟨a,b⟩:=mu hq.1.1.1.1
 rw[hk] at b
 have ho:s.op=1∨s.op=2∨s.op=3∨s.op=4:=by omega
 rcases ho with ho|ho|ho|ho
 ·rw[ho] at e;exact(CA (p:=⟨0,0⟩) a b hq.1.1.1.2 hq.1.1.2).of e
 ·rw[ho] at e;exact(qy (p:=⟨0,0⟩) a b hq.1.1.1.2 hq.1.1.2).of e
 ·rw[ho] at e;exact(sn (p:=⟨0,0⟩) a b hq.1.1.1.2 hq.1.1.2).of e
 ·rw[ho] at e;exact(qz (p:=⟨0,0⟩) a b hq.1.1.1.2 hq.1.1.2).of e
theorem Ma {s:Stm} {tb eb:Bool} (hk:s.kind=13) (h:bE tb eb s=true):LnS s:=by
 unfold bE at h
 rw[Bool.and_eq_true] at h
 obtain ⟨h,hs⟩:=h
 have e:=cB hs
 have e2:bF s= {Stm.zero with kind:=13,op:=s.op,source:=s.source,target:=s.target,cls:=s.cls,result:=s.result,text:=s.text}:=by unfold bF;simp[hk]
 rw[e2] at e
 clear e2 hs
 have hq:eF s=true:=by simpa [hk] using h
 clear h
 unfold eF at hq
 simp[hk] at hq
 obtain ⟨a,b⟩:=mu hq.1.1.1.1.1
 rw[hk] at b
 have ho:s.op=1∨s.op=2∨s.op=3:=by omega
 rcases Hb hq.2 with ht|⟨h1,h2,h3,h4⟩
 ·rw[ht] at e
  rcases ho with ho|ho|ho
  ·rw[ho] at e;exact(lk (p:=⟨0,0⟩) a b hq.1.1.1.1.2 hq.1.1.1.2).of e
  ·rw[ho] at e;exact(pr (p:=⟨0,0⟩) a b hq.1.1.1.1.2 hq.1.1.1.2).of e
  ·rw[ho] at e;exact(pt (p:=⟨0,0⟩) a b hq.1.1.1.1.2 hq.1.1.1.2).of e
 ·rw[h1] at e;exact(ke (p:=⟨0,0⟩) a b hq.1.1.1.1.2 hq.1.1.1.2 h3 h2 h4).of e
theorem Mb {s:Stm} {tb eb:Bool} (hk:s.kind=14) (h:bE tb eb s=true):LnS s:=by
 unfold bE at h
 rw[Bool.and_eq_true] at h
 obtain ⟨h,hs⟩:=h
 have e:=cB hs
 have e2:bF s= {Stm.zero with kind:=14,source:=s.source,target:=s.target,cls:=s.cls,range:=s.range}:=by unfold bF;simp[hk]
 rw[e2] at e
 clear e2 hs
 have hq:eF s=true:=by simpa [hk] using h
 clear h
 unfold eF at hq
 simp[hk] at hq
 obtain ⟨a,b⟩:=mu hq.1.1
 rw[hk] at b
 exact(kP (p:=⟨0,0⟩) a b hq.1.2 hq.2).of e
theorem Mc {s:Stm} {tb eb:Bool} (hk:s.kind=15) (h:bE tb eb s=true):LnS s:=by
 unfold bE at h
 rw[Bool.and_eq_true] at h
 obtain ⟨h,hs⟩:=h
 have e:=cB hs
 have e2:bF s= {Stm.zero with kind:=15,cls:=s.cls,perms:=s.perms,cond:=s.cond}:=by unfold bF;simp[hk]
 rw[e2] at e
 clear e2 hs
 have hq:eF s=true:=by simpa [hk] using h
 clear h
 unfold eF at hq
 simp[hk] at hq
 exact(sj (p:=⟨0,0⟩) hq.1.1 hq.1.2 hq.2).of e
theorem Md {s:Stm} {tb eb:Bool} (hk:s.kind=16) (h:bE tb eb s=true):LnS s:=by
 unfold bE at h
 rw[Bool.and_eq_true] at h
 obtain ⟨h,hs⟩:=h
 have e:=cB hs
 have e2:bF s= {Stm.zero with kind:=16,cls:=s.cls,cond:=s.cond}:=by unfold bF;simp[hk]
 rw[e2] at e
 clear e2 hs
 have hq:eF s=true:=by simpa [hk] using h
 clear h
 unfold eF at hq
 simp[hk] at hq
 exact(mX (p:=⟨0,0⟩) hq.1 hq.2).of e
theorem Me {s:Stm} {tb eb:Bool} (hk:s.kind=19) (h:bE tb eb s=true):LnS s:=by
 unfold bE at h
 rw[Bool.and_eq_true] at h
 obtain ⟨h,hs⟩:=h
 have e:=cB hs
 have e2:bF s= {Stm.zero with kind:=19,op:=s.op,name:=s.name,list:=s.list}:=by unfold bF;simp[hk]
 rw[e2] at e
 clear e2 hs
 have hq:dI s=true:=by simpa [hk] using h
 clear h
 unfold dI at hq
 simp[hk] at hq
 by_cases h1:s.op=1
 ·simp[h1] at hq
  obtain ⟨h0,hi⟩:=Cl hq.2
  rw[h1] at e;exact(uV (p:=⟨0,0⟩) hq.1 h0 hi).of e
 ·simp[h1] at hq
  obtain ⟨h0,hi⟩:=Cl hq.2
  rw[hq.1.1.1] at e
  have ho:s.op=2∨s.op=3∨s.op=4∨s.op=5∨s.op=6∨s.op=7∨s.op=8:=by omega
  rcases ho with ho|ho|ho|ho|ho|ho|ho
  ·rw[ho] at e;exact(sy (p:=⟨0,0⟩) h0 hi).of e
  ·rw[ho] at e;exact(sA (p:=⟨0,0⟩) h0 hi).of e
  ·rw[ho] at e;exact(sC (p:=⟨0,0⟩) h0 hi).of e
  ·rw[ho] at e;exact(sD (p:=⟨0,0⟩) h0 hi).of e
  ·rw[ho] at e;exact(sE (p:=⟨0,0⟩) h0 hi).of e
  ·rw[ho] at e;exact(sF (p:=⟨0,0⟩) h0 hi).of e
  ·rw[ho] at e;exact(sG (p:=⟨0,0⟩) h0 hi).of e
theorem Mf {s:Stm} {tb eb:Bool} (hk:s.kind=20) (h:bE tb eb s=true):LnS s:=by
 unfold bE at h
 rw[Bool.and_eq_true] at h
 obtain ⟨h,hs⟩:=h
 have e:=cB hs
 have e2:bF s= {Stm.zero with kind:=20,name:=s.name,ctx:=s.ctx}:=by unfold bF;simp[hk]
 rw[e2] at e
 clear e2 hs
 have hq:dI s=true:=by simpa [hk] using h
 clear h
 unfold dI at hq
 simp[hk] at hq
 exact(Jf (p:=⟨0,0⟩) hq.1 hq.2).of e
theorem Mg {s:Stm} {tb eb:Bool} (hk:s.kind=21) (h:bE tb eb s=true):LnS s:=by
 unfold bE at h
 rw[Bool.and_eq_true] at h
 obtain ⟨h,hs⟩:=h
 have e:=cB hs
 have e2:bF s= {Stm.zero with kind:=21,text:=s.text,op:=s.op,ctx:=s.ctx}:=by unfold bF;simp[hk]
 rw[e2] at e
 clear e2 hs
 have hq:eF s=true:=by simpa [hk] using h
 clear h
 unfold eF at hq
 simp[hk] at hq
 have ho:s.op=0∨s.op=1∨s.op=2∨s.op=3∨s.op=4:=by omega
 rcases ho with ho|ho|ho|ho|ho
 ·rw[ho] at e;exact(sq (p:=⟨0,0⟩) hq.1.1.1.1 (vp hq.1.1.1.2) hq.2).of e
 ·rw[ho] at e;exact(sr (p:=⟨0,0⟩) hq.1.1.1.1 (vp hq.1.1.1.2) hq.2).of e
 ·rw[ho] at e;exact(su (p:=⟨0,0⟩) hq.1.1.1.1 (vp hq.1.1.1.2) hq.2).of e
 ·rw[ho] at e;exact(sv (p:=⟨0,0⟩) hq.1.1.1.1 (vp hq.1.1.1.2) hq.2).of e
 ·rw[ho] at e;exact(sw (p:=⟨0,0⟩) hq.1.1.1.1 (vp hq.1.1.1.2) hq.2).of e
theorem Mh {s:Stm} {tb eb:Bool} (hk:s.kind=22) (h:bE tb eb s=true):LnS s:=by
 unfold bE at h
 rw[Bool.and_eq_true] at h
 obtain ⟨h,hs⟩:=h
 have e:=cB hs
 have e2:bF s= {Stm.zero with kind:=22,source:=s.source}:=by unfold bF;simp[hk]
 rw[e2] at e
 clear e2 hs
 have hq:eF s=true:=by simpa [hk] using h
 clear h
 unfold eF at hq
 simp[hk] at hq
 exact(qA (p:=⟨0,0⟩) hq).of e
theorem Mi {s:Stm} {tb eb:Bool} (hk:s.kind=23) (h:bE tb eb s=true):LnS s:=by
 unfold bE at h
 rw[Bool.and_eq_true] at h
 obtain ⟨h,hs⟩:=h
 have e:=cB hs
 have e2:bF s= {Stm.zero with kind:=23,name:=s.name,op:=s.op,source:=s.source,target:=s.target}:=by unfold bF;simp[hk]
 rw[e2] at e
 clear e2 hs
 have hq:dI s=true:=by simpa [hk] using h
 clear h
 unfold dI at hq
 simp[hk] at hq
 have ho:s.op=1∨s.op=2∨s.op=3:=by omega
 rcases ho with ho|ho|ho
 ·rw[ho] at e;exact(uR (p:=⟨0,0⟩) hq.1.1.1.1 hq.1.2 hq.2).of e
 ·rw[ho] at e;exact(uS (p:=⟨0,0⟩) hq.1.1.1.1 hq.1.2 hq.2).of e
 ·rw[ho] at e;exact(uT (p:=⟨0,0⟩) hq.1.1.1.1 hq.1.2 hq.2).of e
theorem Hw {s:Stm} {tb eb:Bool} (h17:s.kind≠17) (h18:s.kind≠18) (h:bE tb eb s=true):LnS s:=by
 have hx:s.kind=1∨s.kind=2∨s.kind=3∨s.kind=4∨s.kind=5∨s.kind=6∨s.kind=7∨s.kind=8∨s.kind=9∨s.kind=10∨s.kind=11∨s.kind=12∨s.kind=13∨s.kind=14∨s.kind=15∨s.kind=16∨s.kind=19∨s.kind=20∨s.kind=21∨s.kind=22∨s.kind=23:=by
  apply Classical.byContradiction
  intro hx
  simp only[not_or] at hx
  unfold bE at h
  simp[hx,h17,h18] at h
 rcases hx with hk|hk|hk|hk|hk|hk|hk|hk|hk|hk|hk|hk|hk|hk|hk|hk|hk|hk|hk|hk|hk
 ·exact MW hk h
 ·exact MY hk h
 ·exact MZ hk h
 ·exact N0 hk h
 ·exact N1 hk h
 ·exact N2 hk h
 ·exact N3 hk h
 ·exact N4 hk h
 ·exact N5 hk h
 ·exact M7 hk h
 ·exact M8 hk h
 ·exact M9 hk h
 ·exact Ma hk h
 ·exact Mb hk h
 ·exact Mc hk h
 ·exact Md hk h
 ·exact Me hk h
 ·exact Mf hk h
 ·exact Mg hk h
 ·exact Mh hk h
 ·exact Mi hk h
theorem Kt {s:Stm} {tb eb:Bool} (hk:s.kind=17∨s.kind=18) (h:bE tb eb s=true):HdW s∧s.thn≠[]∧tb=true∧eb=true:=by
 unfold bE at h
 rw[Bool.and_eq_true] at h
 obtain ⟨h,hs⟩:=h
 have e:=cB hs
 rcases hk with hk|hk
 ·have e2:bF s= {Stm.zero with kind:=17,cond:=s.cond,thn:=s.thn,els:=s.els}:=by unfold bF;simp[hk]
  rw[e2] at e
  simp[hk] at h
  exact⟨.inl ⟨h.1.1.1,e⟩,by have:=h.1.1.2;((intro h0;simp[h0] at this)),h.1.2,h.2⟩
 ·have e2:bF s= {Stm.zero with kind:=18,thn:=s.thn,els:=s.els}:=by unfold bF;simp[hk]
  rw[e2] at e
  simp[hk] at h
  exact⟨.inr e,by have:=h.1.1;((intro h0;simp[h0] at this)),h.1.2,h.2⟩
theorem BH {s:Stm} {tb eb:Bool} (h17:s.kind≠17) (h18:s.kind≠18) (h:bE tb eb s=true):s.thn=[]∧s.els=[]:=yo h h17 h18
theorem oE:∀ (N:Nat) (l:List Stm),SizeOf.sizeOf l<N→l.all fmB=true→WfL l (eB l) (dpL l)
 |0,_,h,_=>absurd h (Nat.not_lt_zero _)
 |N+1,[],_,_=>by rw[eB,dpL];exact WfL.nil
 |N+1,s :: l,h,ha=>by
  rw[List.all_cons,Bool.and_eq_true] at ha
  have hsz:SizeOf.sizeOf (s :: l)=1+SizeOf.sizeOf s+SizeOf.sizeOf l:=rfl
  have hl:=oE N l (by omega) ha.2
  have hw:=ha.1
  rw[yL] at hw
  have t1:=ou s
  have t2:=ot s
  rw[eB,dpL]
  refine WfL.cons ?_ hl
  rw[oc,s7]
  by_cases hk:s.kind=17∨s.kind=18
  ·obtain ⟨hd,h0,ht,he⟩:=Kt hk hw
   have ht:=oE N s.thn (by omega) ht
   have he:=oE N s.els (by omega) he
   rw[if_pos (.inl (List.length_pos_iff.2 h0))]
   by_cases e0:s.els=[]
   ·rw[e0] at he ⊢
    have:=WfS.one hk hd h0 ht e0
    rw[eB,dpL,Nat.add_zero,Nat.add_comm 1,Nat.add_zero,Nat.add_comm 1,show max (dpL s.thn+1) 1=dpL s.thn+1 by omega]
    exact this
   ·have:=WfS.two hk hd h0 ht e0 he
    rw[show 1+(eB s.thn+eB s.els)=eB s.thn+eB s.els+1 by omega,Nat.add_comm 1 (dpL s.thn),Nat.add_comm 1 (dpL s.els)]
    exact this
  ·have h17:s.kind≠17:=fun h=>hk (.inl h)
   have h18:s.kind≠18:=fun h=>hk (.inr h)
   obtain ⟨n1,n2⟩:=BH h17 h18 hw
   rw[n1,n2,eB,dpL,if_neg (by simp)]
   exact WfS.ln ⟨h17,h18⟩ (Hw h17 h18 hw)
theorem wo {m:Mo} (h:eo m=0) (hc:eB m.stmts≤1024) (hz:(jx m).size≤65536):∃ x,n8 (jx m)= .ok x∧npM x=npM m:=by
 unfold eo at h
 by_cases h1:idB m.name=false
 ·rw[if_pos h1] at h;cases h
 rw[if_neg h1] at h
 by_cases h2:m.version<0∨9999<m.version
 ·rw[if_pos h2] at h;cases h
 rw[if_neg h2] at h
 by_cases h3:1024<gX m.stmts∨12<dpL m.stmts
 ·rw[if_pos h3] at h;cases h
 rw[if_neg h3] at h
 by_cases h4:m.stmts.all fmB=false
 ·rw[if_pos h4] at h;cases h
 exact BE (by simpa using h1) (by omega) (oE _ m.stmts (Nat.lt_succ_self _) (by simpa using h4)) hc (by omega) hz
end Am
namespace Am
open Tk
set_option maxRecDepth 100000
set_option maxHeartbeats 4000000
def wB (s:ByteArray):Nat:=s.size+1
def wL (l:List ByteArray):Nat:=(l.map wB).sum+1
def wN (n:NS):Nat:=wL n.names+wL n.except
mutual
def wE:Ex→Nat
 |⟨_,_,_,_,names,_,kids⟩=>wL names+wEs kids+1
def wEs:List Ex→Nat
 |[]=>0
 |x :: l=>wE x+wEs l
end
theorem zw:∀ l:List Ex,wEs l=(l.map wE).sum
 |[]=>by rw[wEs];rfl
 |x :: l=>by rw[wEs,zw l];rfl
theorem M5 (e:Ex):wE e=wL e.names+(e.kids.map wE).sum+1:=by cases e;rw[wE,zw]
def wP (s:Sp):Nat:=wB s.frm+wB s.to
def wV (v:Lv):Nat:=wB v.sens+(v.cats.map wP).sum
def wR (g:Rg):Nat:=wV g.lo+wV g.hi
def wC (c:Ct):Nat:=wB c.user+wB c.role+wB c.type+wR c.rng
def wH (s:Stm):Nat:=wB s.name+wB s.result+wB s.text+wL s.list+wL s.aliases+wN s.source+wN s.target+wN s.cls+wN s.perms+wE s.cond+wV s.level+wR s.range+wC s.ctx
mutual
def wS:Stm→Nat
 |⟨a1,a2,a3,a4,a5,a6,a7,a8,a9,a10,a11,a12,a13,a14,a15,a16,a17,t,e⟩=>wH ⟨a1,a2,a3,a4,a5,a6,a7,a8,a9,a10,a11,a12,a13,a14,a15,a16,a17,t,e⟩+wSs t+wSs e
def wSs:List Stm→Nat
 |[]=>0
 |x :: l=>wS x+wSs l
end
theorem oC:∀ l:List Stm,wSs l=(l.map wS).sum
 |[]=>by rw[wSs];rfl
 |x :: l=>by rw[wSs,oC l];rfl
theorem M6 (s:Stm):wS s=wH s+wSs s.thn+wSs s.els:=by cases s;rw[wS]
def wM (m:Mo):Nat:=wB m.name+wSs m.stmts
end Am
namespace Am
open Go.ChangeShapes Go.WideShapes Go.ChangeAt Go.RowKit
set_option maxRecDepth 100000
set_option maxHeartbeats 1000000
theorem drop_at {α:Type} {l:List α} {i:Nat} {x:α} (h:l[i]? =some x):l.drop i=x :: l.drop (i+1):=by
 obtain ⟨h1,h2⟩:=List.getElem?_eq_some_iff.1 h
 rw[← h2];exact List.drop_eq_getElem_cons h1
theorem zn {α β:Type} {b:α→Nat} {c:β→Nat}:∀ {xs:List α} {ys:List β},xs.length=ys.length→(∀ (i:Nat) (x:α) (y:β),xs[i]? =some x→ys[i]? =some y→b x≤c y)→(xs.map b).sum≤(ys.map c).sum
 |[],[],_,_=>Nat.le_refl _
 |x :: xs,y :: ys,hl,h=>by
  have h0:=h 0 x y rfl rfl
  have ih:=zn (b:=b) (c:=c) (xs:=xs) (ys:=ys) (by simpa using hl) (fun i x y h1 h2=>h (i+1) x y (by simpa using h1) (by simpa using h2))
  simp only[List.map_cons,List.sum_cons];omega
section
variable {H:Type} {enc:TypeId×Value→H} {W:World}
theorem eR:∀ l:List (DataW H),Rows.uptoBulkAll l=(l.map Rows.uptoBulk).sum
 |[]=>by rw[Rows.uptoBulkAll];rfl
 |d :: l=>by rw[Rows.uptoBulkAll,eR l];rfl
theorem gU {P:Program} {α:Type} {f:α→List C} {B:α→Nat} {k:Nat} {T E:TypeId} (N:Nat) (und:P.underlying T=some (.slice E)) (hE:P.cellsOf E=k) (hk:0<k) (hf:∀ x,(f x).length=k)
 (cells:∀ {fuel:Nat} {base:Nat} {sp:Nat→Bool} {held:Bool} {cs:List Value} {x:DataW H×List MemPlace},fuel<N→DataW.trod enc P W base sp held fuel E cs=some x→∃ a:α,Reps (cm W) W (f a) cs∧B a≤Rows.uptoBulk x.1)
 {sp:Nat→Bool} {held:Bool} {base fuel:Nat} {cs:List Value} {x:DataW H×List MemPlace} (hN:fuel≤N) (hh:DataW.trod enc P W base sp held fuel T cs=some x) :
 ∃ xs:List α,Reps (cm W) W [.lst none k (xs.map f)] cs∧(xs.map B).sum+1≤Rows.uptoBulk x.1:=by
 rcases DataW.trod_slice und hh with⟨hc,hx⟩|⟨a,len,cap,elems,rest,n,hn,rfl,rfl,_,hle,hm,hlen,hat,_,_⟩
 ·refine⟨[],?_,?_⟩
  ·rw[hc]
   exact .cons (.lst (fun _ _=>default) rfl (fun x hx=>by cases hx) (Nat.le_refl _) (Nat.zero_le _) (.inl rfl) (fun i j x c hx=>by cases hx) fun τ e=>by cases e) .nil
  ·rw[hx]
   show 0+1≤_
   rw[Rows.uptoBulk]
   exact Nat.le_refl _
 ·have each:∀ i,i<len→∃ x:α,(∃ y,elems[i]? =some y∧B x≤Rows.uptoBulk y.1)∧∃ vs:List Value,Reps (cm W) W (f x) vs∧∀ j,j<k→W.cell? ((a.add (i*k)).add j)=vs[j]?:=by
   intro i hi
   have h1:=hat i hi
   obtain ⟨y,hy⟩:=aK hlen hi
   rw[hy,Option.bind_eq_some_iff] at h1
   obtain ⟨cs',hcs,ht⟩:=h1
   obtain ⟨x,hx,hB⟩:=cells (by omega) ht
   rw[hE] at hcs
   obtain ⟨_,_,hcell⟩:=World.cells?_some hcs
   exact⟨x,⟨y,hy,hB⟩,cs',hx,fun j hj=>hcell j (by omega)⟩
  obtain ⟨xs,hxl,hxs⟩:=nv len each
  obtain ⟨b,o,sp'⟩:=a
  have cell:∀ (i:Nat) (x:α) (j:Nat) (c:C),xs[i]? =some x→(f x)[j]? =some c→∃ v,W.cell? (((⟨b,o,sp'⟩:Addr).add (i*k)).add j)=some v∧Rep (cm W) W c v:=fun i x j c hi hj=>by
   obtain ⟨-,vs,h1,h2⟩:=hxs i x hi
   obtain ⟨v,hv,hr⟩:=h1.get hj
   have hjk:j<k:=by have:=(List.getElem?_eq_some_iff.1 hj).1;rwa [hf] at this
   exact⟨v,(h2 j hjk).trans hv,hr⟩
  have first:∀ (h0:0<xs.length),∃ v,W.cell? ((⟨b,o,sp'⟩:Addr).add 0)=some v:=fun h0=>by
   have h1:xs[0]? =some xs[0]:=List.getElem?_eq_getElem h0
   have h2:(f xs[0])[0]? =some ((f xs[0])[0]'(by rw[hf];exact hk)):=List.getElem?_eq_getElem _
   obtain ⟨v,hv,_⟩:=cell 0 _ 0 _ h1 h2
   rw[Nat.zero_mul] at hv
   have e:((⟨b,o,sp'⟩:Addr).add 0).add 0=(⟨b,o,sp'⟩:Addr).add 0:=by cases sp' <;> rfl
   rw[e] at hv
   exact⟨v,hv⟩
  have hnone:0<xs.length→sp'=none:=fun h0=>by
   cases sp' with
   |none=>rfl
   |some q=>
    exfalso
    obtain ⟨v,h1⟩:=first h0
    have e:(⟨b,o,some q⟩:Addr).add 0=⟨b,o,some q⟩:=rfl
    rw[e] at h1
    unfold World.cell? at h1
    split at h1
    ·simp at h1
    ·cases h1
  have hsum:(xs.map B).sum+1≤Rows.uptoBulk (DataW.slice (elems.map (·.1)) (rest.map (·.1))):=by
   rw[Rows.uptoBulk,eR,eR,List.map_map]
   have:=zn (b:=B) (c:=fun y:DataW H×List MemPlace=>Rows.uptoBulk y.1) (xs:=xs) (ys:=elems) (by omega) (fun i x y h1 h2=>by
    obtain ⟨⟨y',hy',hb⟩,_⟩:=hxs i x h1
    rw[hy'] at h2;injection h2 with h2;subst h2;exact hb)
   have e:(Rows.uptoBulk∘fun x:DataW H×List MemPlace=>x.1)=fun y:DataW H×List MemPlace=>Rows.uptoBulk y.1:=rfl
   rw[e];omega
  refine⟨xs,.cons ?_ .nil,hsum⟩
  have hl:∀ x∈xs.map f,x.length=k:=fun x hx=>by
   obtain ⟨y,_,rfl⟩:=List.mem_map.1 hx
   exact hf y
  by_cases h0:xs.length=0
  ·have:xs=[]:=List.length_eq_zero_iff.1 h0
   subst this
   have:len=0:=by simpa using hxl.symm
   subst this
   exact .lst (fun _ _=>default) rfl hl (by omega) hm (.inl rfl) (fun i j x c hx=>by simp at hx) fun τ e=>by cases e
  ·have hs:=hnone (by omega)
   subst hs
   have hcell:∀ (i:Nat) (x:α) (j:Nat) (c:C),xs[i]? =some x→(f x)[j]? =some c→∃ v,W.cell? ⟨b,o+i*k+j,none⟩=some v∧Rep (cm W) W c v:=fun i x j c hi hj=>by
    obtain ⟨v,hv,hr⟩:=cell i x j c hi hj
    rw[add_add] at hv
    exact⟨v,hv,hr⟩
   refine .lst (fun i j=>(W.cell? ⟨b,o+i*k+j,none⟩).getD default) (by rw[List.length_map];exact hxl.symm) hl (by omega) hm (.inr ⟨b,o,rfl,fun i j hi hj=>?_⟩) (fun i j x c hx hc=>?_) fun τ e=>by cases e
   ·rw[List.length_map] at hi
    have h1:xs[i]? =some xs[i]:=List.getElem?_eq_getElem hi
    have h2:(f xs[i])[j]? =some ((f xs[i])[j]'(by rw[hf];exact hj)):=List.getElem?_eq_getElem _
    obtain ⟨v,hv,_⟩:=hcell i _ j _ h1 h2
    exact⟨rW hv,by rw[hv];rfl⟩
   ·rw[List.getElem?_map,Option.map_eq_some_iff] at hx
    obtain ⟨y,hy,rfl⟩:=hx
    obtain ⟨v,hv,hr⟩:=hcell i y j c hy hc
    rw[hv];exact hr
theorem sX:Tryz.prog.cellsOf 47=1:=by kernel_rfl
theorem sY:Tryz.prog.cellsOf 61=1:=by kernel_rfl
theorem jB:Tryz.prog.cellsOf 23=1:=by kernel_rfl
theorem gz:Tryz.prog.cellsOf 43=1:=by kernel_rfl
theorem hY:Tryz.prog.cellsOf 67=7:=by kernel_rfl
theorem ki:Tryz.prog.cellsOf 49=10:=by kernel_rfl
theorem fe:Tryz.prog.cellsOf 63=2:=by kernel_rfl
theorem qB:Tryz.prog.cellsOf 25=3:=by kernel_rfl
theorem eW:Tryz.prog.cellsOf 60=5:=by kernel_rfl
theorem pH:Tryz.prog.cellsOf 28=2:=by kernel_rfl
theorem gl:Tryz.prog.cellsOf 65=4:=by kernel_rfl
theorem pI:Tryz.prog.cellsOf 46=4:=by kernel_rfl
theorem nI:Tryz.prog.cellsOf 170=2:=by kernel_rfl
theorem iF:Tryz.prog.cellsOf 69=55:=by kernel_rfl
theorem mq:Tryz.prog.cellsOf 4=1:=by kernel_rfl
theorem gN:Tryz.prog.cellsOf 3=1:=by kernel_rfl
theorem de:Tryz.prog.cellsOf 9=1:=by kernel_rfl
theorem jD:Tryz.prog.cellsOf 44=1:=by kernel_rfl
theorem vT:Tryz.prog.underlying 43=some (.slice 9):=by kernel_rfl
theorem EI:Tryz.prog.underlying 47=some (.slice 49):=by kernel_rfl
theorem EJ:Tryz.prog.underlying 61=some (.slice 170):=by kernel_rfl
theorem qs:Tryz.prog.underlying 23=some (.slice 69):=by kernel_rfl
theorem mc {fuel:Nat} {base:Nat} {sp:Nat→Bool} {held:Bool} {cs:List Value} {x:DataW H×List MemPlace} (h:DataW.trod enc Tryz.prog W base sp held fuel 3 cs=some x):∃ a:Int,Reps (cm W) W [sI a] cs:=by
 obtain ⟨m,c,d,r⟩:=DataW.trod_int Tryz.underlying3 h
 exact⟨m,by rw[c];exact .cons (.sc rfl) .nil⟩
theorem zq {fuel:Nat} {base:Nat} {sp:Nat→Bool} {held:Bool} {cs:List Value} {x:DataW H×List MemPlace} (h:DataW.trod enc Tryz.prog W base sp held fuel 44 cs=some x):∃ a:Int,Reps (cm W) W [sU a] cs:=by
 obtain ⟨m,c,d,r⟩:=DataW.trod_int Tryz.underlying44 h
 exact⟨m,by rw[c];exact .cons (.sc rfl) .nil⟩
theorem rV {fuel:Nat} {base:Nat} {sp:Nat→Bool} {held:Bool} {cs:List Value} {x:DataW H×List MemPlace} (h:DataW.trod enc Tryz.prog W base sp held fuel 4 cs=some x):∃ a:Bool,Reps (cm W) W [sB a] cs:=by
 obtain ⟨m,c,d⟩:=DataW.trod_bool Tryz.underlying4 h
 exact⟨m,by rw[c];exact .cons (.sc rfl) .nil⟩
theorem eZ {fuel:Nat} {base:Nat} {sp:Nat→Bool} {held:Bool} {cs:List Value} {x:DataW H×List MemPlace} (h:DataW.trod enc Tryz.prog W base sp held fuel 9 cs=some x):∃ a:ByteArray,Reps (cm W) W [sS a] cs∧wB a≤Rows.uptoBulk x.1:=by
 obtain ⟨s,c,hx,r⟩:=DataW.trod_string Tryz.underlying9 h
 refine⟨s,by rw[c];exact .cons (.sc (decide_eq_true (by unfold maxLen at r;omega))) .nil,?_⟩
 rw[hx]
 show s.size+1≤Rows.uptoBulk (DataW.lit (.string s.data.toList))
 rw[Rows.uptoBulk,Array.length_toList]
 exact Nat.le_refl _
theorem mh {fuel:Nat} {base:Nat} {sp:Nat→Bool} {held:Bool} {cs:List Value} {x:DataW H×List MemPlace} (h:DataW.trod enc Tryz.prog W base sp held fuel 43 cs=some x):∃ a:List ByteArray,Reps (cm W) W [bA a] cs∧wL a≤Rows.uptoBulk x.1:=
 gU (f:=oneS) (B:=wB) fuel vT de (by omega) (fun _=>rfl) (fun _ h=>eZ h) (Nat.le_refl _) h
theorem EO:∃ fs,Tryz.prog.underlying 28=some (.struct fs)∧fs.toList.map (fun f=>(f.type,f.offset))=[(3,0),(3,1)]:=⟨_,Tryz.underlying28,by kernel_rfl⟩
theorem Lp {fuel:Nat} {base:Nat} {sp:Nat→Bool} {held:Bool} {cs:List Value} {x:DataW H×List MemPlace} (h:DataW.trod enc Tryz.prog W base sp held fuel 28 cs=some x):∃ a:Po,Reps (cm W) W (poC a) cs:=by
 obtain ⟨fs,hu,hf⟩:=EO
 obtain ⟨xs,n,hn,hx,hl,hxl,hat⟩:=DataW.trod_struct hu h
 rw[pH] at hl
 have hsz:fs.size=2:=by have:=congrArg List.length hf;simpa using this
 rw[hsz] at hxl
 obtain ⟨f0,e0,t0,o0⟩:=aN hf 0 _ rfl
 obtain ⟨x0,g0⟩:=aK hxl (i:=0) (by omega)
 have h0:=(hat 0 f0 e0).trans g0
 rw[t0,o0] at h0
 dsimp only at h0
 rw[gN] at h0
 obtain ⟨m0,c0⟩:=mc h0
 obtain ⟨f1,e1,t1,o1⟩:=aN hf 1 _ rfl
 obtain ⟨x1,g1⟩:=aK hxl (i:=1) (by omega)
 have h1:=(hat 1 f1 e1).trans g1
 rw[t1,o1] at h1
 dsimp only at h1
 rw[gN] at h1
 obtain ⟨m1,c1⟩:=mc h1
 have hend:cs.drop 2=[]:=List.drop_of_length_le (by omega)
 exact⟨⟨m0,m1⟩,show Reps _ _ ([sI m0]++([sI m1]++[])) (cs.drop 0) from(aC c0 (aC c1 (by rw[hend];exact .nil)))⟩
theorem EN:∃ fs,Tryz.prog.underlying 60=some (.struct fs)∧fs.toList.map (fun f=>(f.type,f.offset))=[(4,0),(4,1),(4,2),(43,3),(43,4)]:=⟨_,Tryz.underlying60,by kernel_rfl⟩
theorem yX {fuel:Nat} {base:Nat} {sp:Nat→Bool} {held:Bool} {cs:List Value} {x:DataW H×List MemPlace} (h:DataW.trod enc Tryz.prog W base sp held fuel 60 cs=some x):∃ a:NS,Reps (cm W) W (nsC a) cs∧wN a≤Rows.uptoBulk x.1:=by
 obtain ⟨fs,hu,hf⟩:=EN
 obtain ⟨xs,n,hn,hx,hl,hxl,hat⟩:=DataW.trod_struct hu h
 rw[eW] at hl
 have hsz:fs.size=5:=by have:=congrArg List.length hf;simpa using this
 rw[hsz] at hxl
 obtain ⟨f0,e0,t0,o0⟩:=aN hf 0 _ rfl
 obtain ⟨x0,g0⟩:=aK hxl (i:=0) (by omega)
 have h0:=(hat 0 f0 e0).trans g0
 rw[t0,o0] at h0
 dsimp only at h0
 rw[mq] at h0
 obtain ⟨m0,c0⟩:=rV h0
 obtain ⟨f1,e1,t1,o1⟩:=aN hf 1 _ rfl
 obtain ⟨x1,g1⟩:=aK hxl (i:=1) (by omega)
 have h1:=(hat 1 f1 e1).trans g1
 rw[t1,o1] at h1
 dsimp only at h1
 rw[mq] at h1
 obtain ⟨m1,c1⟩:=rV h1
 obtain ⟨f2,e2,t2,o2⟩:=aN hf 2 _ rfl
 obtain ⟨x2,g2⟩:=aK hxl (i:=2) (by omega)
 have h2:=(hat 2 f2 e2).trans g2
 rw[t2,o2] at h2
 dsimp only at h2
 rw[mq] at h2
 obtain ⟨m2,c2⟩:=rV h2
 obtain ⟨f3,e3,t3,o3⟩:=aN hf 3 _ rfl
 obtain ⟨x3,g3⟩:=aK hxl (i:=3) (by omega)
 have h3:=(hat 3 f3 e3).trans g3
 rw[t3,o3] at h3
 dsimp only at h3
 rw[gz] at h3
 obtain ⟨m3,c3,b3⟩:=mh h3
 obtain ⟨f4,e4,t4,o4⟩:=aN hf 4 _ rfl
 obtain ⟨x4,g4⟩:=aK hxl (i:=4) (by omega)
 have h4:=(hat 4 f4 e4).trans g4
 rw[t4,o4] at h4
 dsimp only at h4
 rw[gz] at h4
 obtain ⟨m4,c4,b4⟩:=mh h4
 have hend:cs.drop 5=[]:=List.drop_of_length_le (by omega)
 have hend2:xs.drop 5=[]:=List.drop_of_length_le (by omega)
 have hxs:xs=[x0,x1,x2,x3,x4]:=by
  rw[show xs=xs.drop 0 from rfl,drop_at g0,drop_at g1,drop_at g2,drop_at g3,drop_at g4,hend2]
 have hb:Rows.uptoBulk x.1=Rows.uptoBulk x0.1+Rows.uptoBulk x1.1+Rows.uptoBulk x2.1+Rows.uptoBulk x3.1+Rows.uptoBulk x4.1+1:=by
  rw[hx,Rows.uptoBulk,eR,hxs]
  simp only[List.map_cons,List.map_nil,List.sum_cons,List.sum_nil]
  omega
 refine⟨⟨m0,m1,m2,m3,m4⟩,show Reps _ _ ([sB m0]++([sB m1]++([sB m2]++([bA m3]++([bA m4]++[]))))) (cs.drop 0) from(aC c0 (aC c1 (aC c2 (aC c3 (aC c4 (by rw[hend];exact .nil)))))),?_⟩
 have hw:wN ⟨m0,m1,m2,m3,m4⟩=wL m3+wL m4:=rfl
 clear hat h hx hf hxs
 omega
theorem EH:Tryz.prog.underlying 46=some (.array 4 44):=by kernel_rfl
theorem Lx {fuel:Nat} {base:Nat} {sp:Nat→Bool} {held:Bool} {cs:List Value} {x:DataW H×List MemPlace} (h:DataW.trod enc Tryz.prog W base sp held fuel 46 cs=some x):∃ a:Se,Reps (cm W) W (seC a) cs:=by
 obtain ⟨xs,n,_,_,hl,hxl,hat⟩:=DataW.trod_array EH h
 rw[pI] at hl
 obtain ⟨x0,g0⟩:=aK hxl (i:=0) (by omega)
 have h0:=(hat 0 (by omega)).trans g0
 rw[jD] at h0
 obtain ⟨m0,c0⟩:=zq h0
 obtain ⟨x1,g1⟩:=aK hxl (i:=1) (by omega)
 have h1:=(hat 1 (by omega)).trans g1
 rw[jD] at h1
 obtain ⟨m1,c1⟩:=zq h1
 obtain ⟨x2,g2⟩:=aK hxl (i:=2) (by omega)
 have h2:=(hat 2 (by omega)).trans g2
 rw[jD] at h2
 obtain ⟨m2,c2⟩:=zq h2
 obtain ⟨x3,g3⟩:=aK hxl (i:=3) (by omega)
 have h3:=(hat 3 (by omega)).trans g3
 rw[jD] at h3
 obtain ⟨m3,c3⟩:=zq h3
 have hend:cs.drop 4=[]:=List.drop_of_length_le (by omega)
 exact⟨⟨m0,m1,m2,m3⟩,show Reps _ _ ([sU m0]++([sU m1]++([sU m2]++([sU m3]++[])))) (cs.drop 0) from aC c0 (aC c1 (aC c2 (aC c3 (by rw[hend];exact .nil))))⟩
theorem EL:∃ fs,Tryz.prog.underlying 49=some (.struct fs)∧fs.toList.map (fun f=>(f.type,f.offset))=[(3,0),(3,1),(3,2),(3,3),(43,4),(46,5),(47,9)]:=⟨_,Tryz.underlying49,by kernel_rfl⟩
theorem J0 (N:Nat) (ih:∀ {fuel:Nat} {base:Nat} {sp:Nat→Bool} {held:Bool} {cs:List Value} {x:DataW H×List MemPlace},fuel<N→DataW.trod enc Tryz.prog W base sp held fuel 49 cs=some x→∃ a:Ex,Reps (cm W) W (exC a) cs∧wE a≤Rows.uptoBulk x.1) {fuel:Nat} {base:Nat} {sp:Nat→Bool} {held:Bool} {cs:List Value} {x:DataW H×List MemPlace} (hN:fuel≤N) (h:DataW.trod enc Tryz.prog W base sp held fuel 49 cs=some x):∃ a:Ex,Reps (cm W) W (exC a) cs∧wE a≤Rows.uptoBulk x.1:=by
 obtain ⟨fs,hu,hf⟩:=EL
 obtain ⟨xs,n,hn,hx,hl,hxl,hat⟩:=DataW.trod_struct hu h
 rw[ki] at hl
 have hsz:fs.size=7:=by have:=congrArg List.length hf;simpa using this
 rw[hsz] at hxl
 obtain ⟨f0,e0,t0,o0⟩:=aN hf 0 _ rfl
 obtain ⟨x0,g0⟩:=aK hxl (i:=0) (by omega)
 have h0:=(hat 0 f0 e0).trans g0
 rw[t0,o0] at h0
 dsimp only at h0
 rw[gN] at h0
 obtain ⟨m0,c0⟩:=mc h0
 obtain ⟨f1,e1,t1,o1⟩:=aN hf 1 _ rfl
 obtain ⟨x1,g1⟩:=aK hxl (i:=1) (by omega)
 have h1:=(hat 1 f1 e1).trans g1
 rw[t1,o1] at h1
 dsimp only at h1
 rw[gN] at h1
 obtain ⟨m1,c1⟩:=mc h1
 obtain ⟨f2,e2,t2,o2⟩:=aN hf 2 _ rfl
 obtain ⟨x2,g2⟩:=aK hxl (i:=2) (by omega)
 have h2:=(hat 2 f2 e2).trans g2
 rw[t2,o2] at h2
 dsimp only at h2
 rw[gN] at h2
 obtain ⟨m2,c2⟩:=mc h2
 obtain ⟨f3,e3,t3,o3⟩:=aN hf 3 _ rfl
 obtain ⟨x3,g3⟩:=aK hxl (i:=3) (by omega)
 have h3:=(hat 3 f3 e3).trans g3
 rw[t3,o3] at h3
 dsimp only at h3
 rw[gN] at h3
 obtain ⟨m3,c3⟩:=mc h3
 obtain ⟨f4,e4,t4,o4⟩:=aN hf 4 _ rfl
 obtain ⟨x4,g4⟩:=aK hxl (i:=4) (by omega)
 have h4:=(hat 4 f4 e4).trans g4
 rw[t4,o4] at h4
 dsimp only at h4
 rw[gz] at h4
 obtain ⟨m4,c4,b4⟩:=mh h4
 obtain ⟨f5,e5,t5,o5⟩:=aN hf 5 _ rfl
 obtain ⟨x5,g5⟩:=aK hxl (i:=5) (by omega)
 have h5:=(hat 5 f5 e5).trans g5
 rw[t5,o5] at h5
 dsimp only at h5
 rw[pI] at h5
 obtain ⟨m5,c5⟩:=Lx h5
 obtain ⟨f6,e6,t6,o6⟩:=aN hf 6 _ rfl
 obtain ⟨x6,g6⟩:=aK hxl (i:=6) (by omega)
 have h6:=(hat 6 f6 e6).trans g6
 rw[t6,o6] at h6
 dsimp only at h6
 rw[sX] at h6
 obtain ⟨m6,c6,b6⟩:=gU (f:=exC) (B:=wE) N EI ki (by omega) yG (fun hlt hh=>ih hlt hh) (by omega) h6
 rw[← k9] at c6
 have hend:cs.drop 10=[]:=List.drop_of_length_le (by omega)
 have hend2:xs.drop 7=[]:=List.drop_of_length_le (by omega)
 have hxs:xs=[x0,x1,x2,x3,x4,x5,x6]:=by
  rw[show xs=xs.drop 0 from rfl,drop_at g0,drop_at g1,drop_at g2,drop_at g3,drop_at g4,drop_at g5,drop_at g6,hend2]
 have hb:Rows.uptoBulk x.1=Rows.uptoBulk x0.1+Rows.uptoBulk x1.1+Rows.uptoBulk x2.1+Rows.uptoBulk x3.1+Rows.uptoBulk x4.1+Rows.uptoBulk x5.1+Rows.uptoBulk x6.1+1:=by
  rw[hx,Rows.uptoBulk,eR,hxs]
  simp only[List.map_cons,List.map_nil,List.sum_cons,List.sum_nil]
  omega
 refine⟨⟨m0,m1,m2,m3,m4,m5,m6⟩,show Reps _ _ ([sI m0]++([sI m1]++([sI m2]++([sI m3]++([bA m4]++(seC m5++([.lst none 10 (mO m6)]++[]))))))) (cs.drop 0) from(aC c0 (aC c1 (aC c2 (aC c3 (aC c4 (aC c5 (aC c6 (by rw[hend];exact .nil)))))))),?_⟩
 have hw:wE ⟨m0,m1,m2,m3,m4,m5,m6⟩=wL m4+(m6.map wE).sum+1:=by rw[M5]
 clear hat h hx hf hxs
 omega
theorem BZ:∀ (N:Nat) {fuel:Nat} {base:Nat} {sp:Nat→Bool} {held:Bool} {cs:List Value} {x:DataW H×List MemPlace},fuel<N→DataW.trod enc Tryz.prog W base sp held fuel 49 cs=some x→∃ a:Ex,Reps (cm W) W (exC a) cs∧wE a≤Rows.uptoBulk x.1
 |0,_,_,_,_,_,_,h,_=>absurd h (Nat.not_lt_zero _)
 |N+1,_,_,_,_,_,_,hl,h=>J0 N (fun h1 h2=>BZ N h1 h2) (by omega) h
theorem L5 {fuel:Nat} {base:Nat} {sp:Nat→Bool} {held:Bool} {cs:List Value} {x:DataW H×List MemPlace} (h:DataW.trod enc Tryz.prog W base sp held fuel 49 cs=some x):∃ a:Ex,Reps (cm W) W (exC a) cs∧wE a≤Rows.uptoBulk x.1:=BZ (fuel+1) (Nat.lt_succ_self _) h
theorem ER:∃ fs,Tryz.prog.underlying 170=some (.struct fs)∧fs.toList.map (fun f=>(f.type,f.offset))=[(9,0),(9,1)]:=⟨_,Tryz.underlying170,by kernel_rfl⟩
theorem Ly {fuel:Nat} {base:Nat} {sp:Nat→Bool} {held:Bool} {cs:List Value} {x:DataW H×List MemPlace} (h:DataW.trod enc Tryz.prog W base sp held fuel 170 cs=some x):∃ a:Sp,Reps (cm W) W (spC a) cs∧wP a≤Rows.uptoBulk x.1:=by
 obtain ⟨fs,hu,hf⟩:=ER
 obtain ⟨xs,n,hn,hx,hl,hxl,hat⟩:=DataW.trod_struct hu h
 rw[nI] at hl
 have hsz:fs.size=2:=by have:=congrArg List.length hf;simpa using this
 rw[hsz] at hxl
 obtain ⟨f0,e0,t0,o0⟩:=aN hf 0 _ rfl
 obtain ⟨x0,g0⟩:=aK hxl (i:=0) (by omega)
 have h0:=(hat 0 f0 e0).trans g0
 rw[t0,o0] at h0
 dsimp only at h0
 rw[de] at h0
 obtain ⟨m0,c0,b0⟩:=eZ h0
 obtain ⟨f1,e1,t1,o1⟩:=aN hf 1 _ rfl
 obtain ⟨x1,g1⟩:=aK hxl (i:=1) (by omega)
 have h1:=(hat 1 f1 e1).trans g1
 rw[t1,o1] at h1
 dsimp only at h1
 rw[de] at h1
 obtain ⟨m1,c1,b1⟩:=eZ h1
 have hend:cs.drop 2=[]:=List.drop_of_length_le (by omega)
 have hend2:xs.drop 2=[]:=List.drop_of_length_le (by omega)
 have hxs:xs=[x0,x1]:=by
  rw[show xs=xs.drop 0 from rfl,drop_at g0,drop_at g1,hend2]
 have hb:Rows.uptoBulk x.1=Rows.uptoBulk x0.1+Rows.uptoBulk x1.1+1:=by
  rw[hx,Rows.uptoBulk,eR,hxs]
  simp only[List.map_cons,List.map_nil,List.sum_cons,List.sum_nil]
  omega
 refine⟨⟨m0,m1⟩,show Reps _ _ ([sS m0]++([sS m1]++[])) (cs.drop 0) from(aC c0 (aC c1 (by rw[hend];exact .nil))),?_⟩
 have hw:wP ⟨m0,m1⟩=wB m0+wB m1:=rfl
 clear hat h hx hf hxs
 omega
theorem EM:∃ fs,Tryz.prog.underlying 63=some (.struct fs)∧fs.toList.map (fun f=>(f.type,f.offset))=[(9,0),(61,1)]:=⟨_,Tryz.underlying63,by kernel_rfl⟩
theorem CL {fuel:Nat} {base:Nat} {sp:Nat→Bool} {held:Bool} {cs:List Value} {x:DataW H×List MemPlace} (h:DataW.trod enc Tryz.prog W base sp held fuel 63 cs=some x):∃ a:Lv,Reps (cm W) W (lvC a) cs∧wV a≤Rows.uptoBulk x.1:=by
 obtain ⟨fs,hu,hf⟩:=EM
 obtain ⟨xs,n,hn,hx,hl,hxl,hat⟩:=DataW.trod_struct hu h
 rw[fe] at hl
 have hsz:fs.size=2:=by have:=congrArg List.length hf;simpa using this
 rw[hsz] at hxl
 obtain ⟨f0,e0,t0,o0⟩:=aN hf 0 _ rfl
 obtain ⟨x0,g0⟩:=aK hxl (i:=0) (by omega)
 have h0:=(hat 0 f0 e0).trans g0
 rw[t0,o0] at h0
 dsimp only at h0
 rw[de] at h0
 obtain ⟨m0,c0,b0⟩:=eZ h0
 obtain ⟨f1,e1,t1,o1⟩:=aN hf 1 _ rfl
 obtain ⟨x1,g1⟩:=aK hxl (i:=1) (by omega)
 have h1:=(hat 1 f1 e1).trans g1
 rw[t1,o1] at h1
 dsimp only at h1
 rw[sY] at h1
 obtain ⟨m1,c1,b1⟩:=gU (f:=spC) (B:=wP) n EJ nI (by omega) zm (fun _ hh=>Ly hh) (Nat.le_refl _) h1
 have hend:cs.drop 2=[]:=List.drop_of_length_le (by omega)
 have hend2:xs.drop 2=[]:=List.drop_of_length_le (by omega)
 have hxs:xs=[x0,x1]:=by
  rw[show xs=xs.drop 0 from rfl,drop_at g0,drop_at g1,hend2]
 have hb:Rows.uptoBulk x.1=Rows.uptoBulk x0.1+Rows.uptoBulk x1.1+1:=by
  rw[hx,Rows.uptoBulk,eR,hxs]
  simp only[List.map_cons,List.map_nil,List.sum_cons,List.sum_nil]
  omega
 refine⟨⟨m0,m1⟩,show Reps _ _ ([sS m0]++([.lst none 2 (m1.map spC)]++[])) (cs.drop 0) from(aC c0 (aC c1 (by rw[hend];exact .nil))),?_⟩
 have hw:wV ⟨m0,m1⟩=wB m0+(m1.map wP).sum:=rfl
 clear hat h hx hf hxs
 omega
theorem EP:∃ fs,Tryz.prog.underlying 65=some (.struct fs)∧fs.toList.map (fun f=>(f.type,f.offset))=[(63,0),(63,2)]:=⟨_,Tryz.underlying65,by kernel_rfl⟩
theorem I1 {fuel:Nat} {base:Nat} {sp:Nat→Bool} {held:Bool} {cs:List Value} {x:DataW H×List MemPlace} (h:DataW.trod enc Tryz.prog W base sp held fuel 65 cs=some x):∃ a:Rg,Reps (cm W) W (rgC a) cs∧wR a≤Rows.uptoBulk x.1:=by
 obtain ⟨fs,hu,hf⟩:=EP
 obtain ⟨xs,n,hn,hx,hl,hxl,hat⟩:=DataW.trod_struct hu h
 rw[gl] at hl
 have hsz:fs.size=2:=by have:=congrArg List.length hf;simpa using this
 rw[hsz] at hxl
 obtain ⟨f0,e0,t0,o0⟩:=aN hf 0 _ rfl
 obtain ⟨x0,g0⟩:=aK hxl (i:=0) (by omega)
 have h0:=(hat 0 f0 e0).trans g0
 rw[t0,o0] at h0
 dsimp only at h0
 rw[fe] at h0
 obtain ⟨m0,c0,b0⟩:=CL h0
 obtain ⟨f1,e1,t1,o1⟩:=aN hf 1 _ rfl
 obtain ⟨x1,g1⟩:=aK hxl (i:=1) (by omega)
 have h1:=(hat 1 f1 e1).trans g1
 rw[t1,o1] at h1
 dsimp only at h1
 rw[fe] at h1
 obtain ⟨m1,c1,b1⟩:=CL h1
 have hend:cs.drop 4=[]:=List.drop_of_length_le (by omega)
 have hend2:xs.drop 2=[]:=List.drop_of_length_le (by omega)
 have hxs:xs=[x0,x1]:=by
  rw[show xs=xs.drop 0 from rfl,drop_at g0,drop_at g1,hend2]
 have hb:Rows.uptoBulk x.1=Rows.uptoBulk x0.1+Rows.uptoBulk x1.1+1:=by
  rw[hx,Rows.uptoBulk,eR,hxs]
  simp only[List.map_cons,List.map_nil,List.sum_cons,List.sum_nil]
  omega
 refine⟨⟨m0,m1⟩,show Reps _ _ (lvC m0++(lvC m1++[])) (cs.drop 0) from(aC c0 (aC c1 (by rw[hend];exact .nil))),?_⟩
 have hw:wR ⟨m0,m1⟩=wV m0+wV m1:=rfl
 clear hat h hx hf hxs
 omega
theorem EK:∃ fs,Tryz.prog.underlying 67=some (.struct fs)∧fs.toList.map (fun f=>(f.type,f.offset))=[(9,0),(9,1),(9,2),(65,3)]:=⟨_,Tryz.underlying67,by kernel_rfl⟩
theorem L3 {fuel:Nat} {base:Nat} {sp:Nat→Bool} {held:Bool} {cs:List Value} {x:DataW H×List MemPlace} (h:DataW.trod enc Tryz.prog W base sp held fuel 67 cs=some x):∃ a:Ct,Reps (cm W) W (cxC a) cs∧wC a≤Rows.uptoBulk x.1:=by
 obtain ⟨fs,hu,hf⟩:=EK
 obtain ⟨xs,n,hn,hx,hl,hxl,hat⟩:=DataW.trod_struct hu h
 rw[hY] at hl
 have hsz:fs.size=4:=by have:=congrArg List.length hf;simpa using this
 rw[hsz] at hxl
 obtain ⟨f0,e0,t0,o0⟩:=aN hf 0 _ rfl
 obtain ⟨x0,g0⟩:=aK hxl (i:=0) (by omega)
 have h0:=(hat 0 f0 e0).trans g0
 rw[t0,o0] at h0
 dsimp only at h0
 rw[de] at h0
 obtain ⟨m0,c0,b0⟩:=eZ h0
 obtain ⟨f1,e1,t1,o1⟩:=aN hf 1 _ rfl
 obtain ⟨x1,g1⟩:=aK hxl (i:=1) (by omega)
 have h1:=(hat 1 f1 e1).trans g1
 rw[t1,o1] at h1
 dsimp only at h1
 rw[de] at h1
 obtain ⟨m1,c1,b1⟩:=eZ h1
 obtain ⟨f2,e2,t2,o2⟩:=aN hf 2 _ rfl
 obtain ⟨x2,g2⟩:=aK hxl (i:=2) (by omega)
 have h2:=(hat 2 f2 e2).trans g2
 rw[t2,o2] at h2
 dsimp only at h2
 rw[de] at h2
 obtain ⟨m2,c2,b2⟩:=eZ h2
 obtain ⟨f3,e3,t3,o3⟩:=aN hf 3 _ rfl
 obtain ⟨x3,g3⟩:=aK hxl (i:=3) (by omega)
 have h3:=(hat 3 f3 e3).trans g3
 rw[t3,o3] at h3
 dsimp only at h3
 rw[gl] at h3
 obtain ⟨m3,c3,b3⟩:=I1 h3
 have hend:cs.drop 7=[]:=List.drop_of_length_le (by omega)
 have hend2:xs.drop 4=[]:=List.drop_of_length_le (by omega)
 have hxs:xs=[x0,x1,x2,x3]:=by
  rw[show xs=xs.drop 0 from rfl,drop_at g0,drop_at g1,drop_at g2,drop_at g3,hend2]
 have hb:Rows.uptoBulk x.1=Rows.uptoBulk x0.1+Rows.uptoBulk x1.1+Rows.uptoBulk x2.1+Rows.uptoBulk x3.1+1:=by
  rw[hx,Rows.uptoBulk,eR,hxs]
  simp only[List.map_cons,List.map_nil,List.sum_cons,List.sum_nil]
  omega
 refine⟨⟨m0,m1,m2,m3⟩,show Reps _ _ ([sS m0]++([sS m1]++([sS m2]++(rgC m3++[])))) (cs.drop 0) from(aC c0 (aC c1 (aC c2 (aC c3 (by rw[hend];exact .nil))))),?_⟩
 have hw:wC ⟨m0,m1,m2,m3⟩=wB m0+wB m1+wB m2+wR m3:=rfl
 clear hat h hx hf hxs
 omega
theorem ES:∃ fs,Tryz.prog.underlying 69=some (.struct fs)∧fs.toList.map (fun f=>(f.type,f.offset))=[(3,0),(3,1),(28,2),(9,4),(9,5),(9,6),(43,7),(43,8),(60,9),(60,14),(60,19),(60,24),(49,29),(63,39),(65,41),(67,45),(4,52),(23,53),(23,54)]:=⟨_,Tryz.underlying69,by kernel_rfl⟩
theorem JT (N:Nat) (ih:∀ {fuel:Nat} {base:Nat} {sp:Nat→Bool} {held:Bool} {cs:List Value} {x:DataW H×List MemPlace},fuel<N→DataW.trod enc Tryz.prog W base sp held fuel 69 cs=some x→∃ a:Stm,Reps (cm W) W (stC a) cs∧wS a≤Rows.uptoBulk x.1) {fuel:Nat} {base:Nat} {sp:Nat→Bool} {held:Bool} {cs:List Value} {x:DataW H×List MemPlace} (hN:fuel≤N) (h:DataW.trod enc Tryz.prog W base sp held fuel 69 cs=some x):∃ a:Stm,Reps (cm W) W (stC a) cs∧wS a≤Rows.uptoBulk x.1:=by
 obtain ⟨fs,hu,hf⟩:=ES
 obtain ⟨xs,n,hn,hx,hl,hxl,hat⟩:=DataW.trod_struct hu h
 rw[iF] at hl
 have hsz:fs.size=19:=by have:=congrArg List.length hf;simpa using this
 rw[hsz] at hxl
 obtain ⟨f0,e0,t0,o0⟩:=aN hf 0 _ rfl
 obtain ⟨x0,g0⟩:=aK hxl (i:=0) (by omega)
 have h0:=(hat 0 f0 e0).trans g0
 rw[t0,o0] at h0
 dsimp only at h0
 rw[gN] at h0
 obtain ⟨m0,c0⟩:=mc h0
 obtain ⟨f1,e1,t1,o1⟩:=aN hf 1 _ rfl
 obtain ⟨x1,g1⟩:=aK hxl (i:=1) (by omega)
 have h1:=(hat 1 f1 e1).trans g1
 rw[t1,o1] at h1
 dsimp only at h1
 rw[gN] at h1
 obtain ⟨m1,c1⟩:=mc h1
 obtain ⟨f2,e2,t2,o2⟩:=aN hf 2 _ rfl
 obtain ⟨x2,g2⟩:=aK hxl (i:=2) (by omega)
 have h2:=(hat 2 f2 e2).trans g2
 rw[t2,o2] at h2
 dsimp only at h2
 rw[pH] at h2
 obtain ⟨m2,c2⟩:=Lp h2
 obtain ⟨f3,e3,t3,o3⟩:=aN hf 3 _ rfl
 obtain ⟨x3,g3⟩:=aK hxl (i:=3) (by omega)
 have h3:=(hat 3 f3 e3).trans g3
 rw[t3,o3] at h3
 dsimp only at h3
 rw[de] at h3
 obtain ⟨m3,c3,b3⟩:=eZ h3
 obtain ⟨f4,e4,t4,o4⟩:=aN hf 4 _ rfl
 obtain ⟨x4,g4⟩:=aK hxl (i:=4) (by omega)
 have h4:=(hat 4 f4 e4).trans g4
 rw[t4,o4] at h4
 dsimp only at h4
 rw[de] at h4
 obtain ⟨m4,c4,b4⟩:=eZ h4
 obtain ⟨f5,e5,t5,o5⟩:=aN hf 5 _ rfl
 obtain ⟨x5,g5⟩:=aK hxl (i:=5) (by omega)
 have h5:=(hat 5 f5 e5).trans g5
 rw[t5,o5] at h5
 dsimp only at h5
 rw[de] at h5
 obtain ⟨m5,c5,b5⟩:=eZ h5
 obtain ⟨f6,e6,t6,o6⟩:=aN hf 6 _ rfl
 obtain ⟨x6,g6⟩:=aK hxl (i:=6) (by omega)
 have h6:=(hat 6 f6 e6).trans g6
 rw[t6,o6] at h6
 dsimp only at h6
 rw[gz] at h6
 obtain ⟨m6,c6,b6⟩:=mh h6
 obtain ⟨f7,e7,t7,o7⟩:=aN hf 7 _ rfl
 obtain ⟨x7,g7⟩:=aK hxl (i:=7) (by omega)
 have h7:=(hat 7 f7 e7).trans g7
 rw[t7,o7] at h7
 dsimp only at h7
 rw[gz] at h7
 obtain ⟨m7,c7,b7⟩:=mh h7
 obtain ⟨f8,e8,t8,o8⟩:=aN hf 8 _ rfl
 obtain ⟨x8,g8⟩:=aK hxl (i:=8) (by omega)
 have h8:=(hat 8 f8 e8).trans g8
 rw[t8,o8] at h8
 dsimp only at h8
 rw[eW] at h8
 obtain ⟨m8,c8,b8⟩:=yX h8
 obtain ⟨f9,e9,t9,o9⟩:=aN hf 9 _ rfl
 obtain ⟨x9,g9⟩:=aK hxl (i:=9) (by omega)
 have h9:=(hat 9 f9 e9).trans g9
 rw[t9,o9] at h9
 dsimp only at h9
 rw[eW] at h9
 obtain ⟨m9,c9,b9⟩:=yX h9
 obtain ⟨f10,e10,t10,o10⟩:=aN hf 10 _ rfl
 obtain ⟨x10,g10⟩:=aK hxl (i:=10) (by omega)
 have h10:=(hat 10 f10 e10).trans g10
 rw[t10,o10] at h10
 dsimp only at h10
 rw[eW] at h10
 obtain ⟨m10,c10,b10⟩:=yX h10
 obtain ⟨f11,e11,t11,o11⟩:=aN hf 11 _ rfl
 obtain ⟨x11,g11⟩:=aK hxl (i:=11) (by omega)
 have h11:=(hat 11 f11 e11).trans g11
 rw[t11,o11] at h11
 dsimp only at h11
 rw[eW] at h11
 obtain ⟨m11,c11,b11⟩:=yX h11
 obtain ⟨f12,e12,t12,o12⟩:=aN hf 12 _ rfl
 obtain ⟨x12,g12⟩:=aK hxl (i:=12) (by omega)
 have h12:=(hat 12 f12 e12).trans g12
 rw[t12,o12] at h12
 dsimp only at h12
 rw[ki] at h12
 obtain ⟨m12,c12,b12⟩:=L5 h12
 obtain ⟨f13,e13,t13,o13⟩:=aN hf 13 _ rfl
 obtain ⟨x13,g13⟩:=aK hxl (i:=13) (by omega)
 have h13:=(hat 13 f13 e13).trans g13
 rw[t13,o13] at h13
 dsimp only at h13
 rw[fe] at h13
 obtain ⟨m13,c13,b13⟩:=CL h13
 obtain ⟨f14,e14,t14,o14⟩:=aN hf 14 _ rfl
 obtain ⟨x14,g14⟩:=aK hxl (i:=14) (by omega)
 have h14:=(hat 14 f14 e14).trans g14
 rw[t14,o14] at h14
 dsimp only at h14
 rw[gl] at h14
 obtain ⟨m14,c14,b14⟩:=I1 h14
 obtain ⟨f15,e15,t15,o15⟩:=aN hf 15 _ rfl
 obtain ⟨x15,g15⟩:=aK hxl (i:=15) (by omega)
 have h15:=(hat 15 f15 e15).trans g15
 rw[t15,o15] at h15
 dsimp only at h15
 rw[hY] at h15
 obtain ⟨m15,c15,b15⟩:=L3 h15
 obtain ⟨f16,e16,t16,o16⟩:=aN hf 16 _ rfl
 obtain ⟨x16,g16⟩:=aK hxl (i:=16) (by omega)
 have h16:=(hat 16 f16 e16).trans g16
 rw[t16,o16] at h16
 dsimp only at h16
 rw[mq] at h16
 obtain ⟨m16,c16⟩:=rV h16
 obtain ⟨f17,e17,t17,o17⟩:=aN hf 17 _ rfl
 obtain ⟨x17,g17⟩:=aK hxl (i:=17) (by omega)
 have h17:=(hat 17 f17 e17).trans g17
 rw[t17,o17] at h17
 dsimp only at h17
 rw[jB] at h17
 obtain ⟨m17,c17,b17⟩:=gU (f:=stC) (B:=wS) N qs iF (by omega) oy (fun hlt hh=>ih hlt hh) (by omega) h17
 rw[← iu] at c17
 obtain ⟨f18,e18,t18,o18⟩:=aN hf 18 _ rfl
 obtain ⟨x18,g18⟩:=aK hxl (i:=18) (by omega)
 have h18:=(hat 18 f18 e18).trans g18
 rw[t18,o18] at h18
 dsimp only at h18
 rw[jB] at h18
 obtain ⟨m18,c18,b18⟩:=gU (f:=stC) (B:=wS) N qs iF (by omega) oy (fun hlt hh=>ih hlt hh) (by omega) h18
 rw[← iu] at c18
 have hend:cs.drop 55=[]:=List.drop_of_length_le (by omega)
 have hend2:xs.drop 19=[]:=List.drop_of_length_le (by omega)
 have hxs:xs=[x0,x1,x2,x3,x4,x5,x6,x7,x8,x9,x10,x11,x12,x13,x14,x15,x16,x17,x18]:=by
  rw[show xs=xs.drop 0 from rfl,drop_at g0,drop_at g1,drop_at g2,drop_at g3,drop_at g4,drop_at g5,drop_at g6,drop_at g7,drop_at g8,drop_at g9,drop_at g10,drop_at g11,drop_at g12,drop_at g13,drop_at g14,drop_at g15,drop_at g16,drop_at g17,drop_at g18,hend2]
 have hb:Rows.uptoBulk x.1=Rows.uptoBulk x0.1+Rows.uptoBulk x1.1+Rows.uptoBulk x2.1+Rows.uptoBulk x3.1+Rows.uptoBulk x4.1+Rows.uptoBulk x5.1+Rows.uptoBulk x6.1+Rows.uptoBulk x7.1+Rows.uptoBulk x8.1+Rows.uptoBulk x9.1+Rows.uptoBulk x10.1+Rows.uptoBulk x11.1+Rows.uptoBulk x12.1+Rows.uptoBulk x13.1+Rows.uptoBulk x14.1+Rows.uptoBulk x15.1+Rows.uptoBulk x16.1+Rows.uptoBulk x17.1+Rows.uptoBulk x18.1+1:=by
  rw[hx,Rows.uptoBulk,eR,hxs]
  simp only[List.map_cons,List.map_nil,List.sum_cons,List.sum_nil]
  omega
 refine⟨⟨m0,m1,m2,m3,m4,m5,m6,m7,m8,m9,m10,m11,m12,m13,m14,m15,m16,m17,m18⟩,show Reps _ _ ([sI m0]++([sI m1]++(poC m2++([sS m3]++([sS m4]++([sS m5]++([bA m6]++([bA m7]++(nsC m8++(nsC m9++(nsC m10++(nsC m11++(exC m12++(lvC m13++(rgC m14++(cxC m15++([sB m16]++([.lst none 55 (lG m17)]++([.lst none 55 (lG m18)]++[]))))))))))))))))))) (cs.drop 0) from(aC c0 (aC c1 (aC c2 (aC c3 (aC c4 (aC c5 (aC c6 (aC c7 (aC c8 (aC c9 (aC c10 (aC c11 (aC c12 (aC c13 (aC c14 (aC c15 (aC c16 (aC c17 (aC c18 (by rw[hend];exact .nil)))))))))))))))))))),?_⟩
 have hw:wS ⟨m0,m1,m2,m3,m4,m5,m6,m7,m8,m9,m10,m11,m12,m13,m14,m15,m16,m17,m18⟩=(wB m3+wB m4+wB m5+wL m6+wL m7+wN m8+wN m9+wN m10+wN m11+wE m12+wV m13+wR m14+wC m15)+(m17.map wS).sum+(m18.map wS).sum:=by rw[M6,oC,oC];rfl
 clear hat h hx hf hxs
 omega
theorem DO:∀ (N:Nat) {fuel:Nat} {base:Nat} {sp:Nat→Bool} {held:Bool} {cs:List Value} {x:DataW H×List MemPlace},fuel<N→DataW.trod enc Tryz.prog W base sp held fuel 69 cs=some x→∃ a:Stm,Reps (cm W) W (stC a) cs∧wS a≤Rows.uptoBulk x.1
 |0,_,_,_,_,_,_,h,_=>absurd h (Nat.not_lt_zero _)
 |N+1,_,_,_,_,_,_,hl,h=>JT N (fun h1 h2=>DO N h1 h2) (by omega) h
theorem LA {fuel:Nat} {base:Nat} {sp:Nat→Bool} {held:Bool} {cs:List Value} {x:DataW H×List MemPlace} (h:DataW.trod enc Tryz.prog W base sp held fuel 69 cs=some x):∃ a:Stm,Reps (cm W) W (stC a) cs∧wS a≤Rows.uptoBulk x.1:=DO (fuel+1) (Nat.lt_succ_self _) h
theorem vU:∃ fs,Tryz.prog.underlying 25=some (.struct fs)∧fs.toList.map (fun f=>(f.type,f.offset))=[(9,0),(3,1),(23,2)]:=⟨_,Tryz.underlying25,by kernel_rfl⟩
theorem Lh {fuel:Nat} {base:Nat} {sp:Nat→Bool} {held:Bool} {cs:List Value} {x:DataW H×List MemPlace} (h:DataW.trod enc Tryz.prog W base sp held fuel 25 cs=some x):∃ a:Mo,Reps (cm W) W (moC a) cs∧wM a≤Rows.uptoBulk x.1:=by
 obtain ⟨fs,hu,hf⟩:=vU
 obtain ⟨xs,n,hn,hx,hl,hxl,hat⟩:=DataW.trod_struct hu h
 rw[qB] at hl
 have hsz:fs.size=3:=by have:=congrArg List.length hf;simpa using this
 rw[hsz] at hxl
 obtain ⟨f0,e0,t0,o0⟩:=aN hf 0 _ rfl
 obtain ⟨x0,g0⟩:=aK hxl (i:=0) (by omega)
 have h0:=(hat 0 f0 e0).trans g0
 rw[t0,o0] at h0
 dsimp only at h0
 rw[de] at h0
 obtain ⟨m0,c0,b0⟩:=eZ h0
 obtain ⟨f1,e1,t1,o1⟩:=aN hf 1 _ rfl
 obtain ⟨x1,g1⟩:=aK hxl (i:=1) (by omega)
 have h1:=(hat 1 f1 e1).trans g1
 rw[t1,o1] at h1
 dsimp only at h1
 rw[gN] at h1
 obtain ⟨m1,c1⟩:=mc h1
 obtain ⟨f2,e2,t2,o2⟩:=aN hf 2 _ rfl
 obtain ⟨x2,g2⟩:=aK hxl (i:=2) (by omega)
 have h2:=(hat 2 f2 e2).trans g2
 rw[t2,o2] at h2
 dsimp only at h2
 rw[jB] at h2
 obtain ⟨m2,c2,b2⟩:=gU (f:=stC) (B:=wS) n qs iF (by omega) oy (fun _ hh=>LA hh) (Nat.le_refl _) h2
 have hend:cs.drop 3=[]:=List.drop_of_length_le (by omega)
 have hend2:xs.drop 3=[]:=List.drop_of_length_le (by omega)
 have hxs:xs=[x0,x1,x2]:=by
  rw[show xs=xs.drop 0 from rfl,drop_at g0,drop_at g1,drop_at g2,hend2]
 have hb:Rows.uptoBulk x.1=Rows.uptoBulk x0.1+Rows.uptoBulk x1.1+Rows.uptoBulk x2.1+1:=by
  rw[hx,Rows.uptoBulk,eR,hxs]
  simp only[List.map_cons,List.map_nil,List.sum_cons,List.sum_nil]
  omega
 refine⟨⟨m0,m1,m2⟩,show Reps _ _ ([sS m0]++([sI m1]++([.lst none 55 (m2.map stC)]++[]))) (cs.drop 0) from(aC c0 (aC c1 (aC c2 (by rw[hend];exact .nil)))),?_⟩
 have hw:wM ⟨m0,m1,m2⟩=wB m0+(m2.map wS).sum:=by unfold wM;rw[oC]
 clear hat h hx hf hxs
 omega
theorem open_moC {sp:Nat→Bool} {held:Bool} {base:Nat} {r:Reach} {b0:Nat} {v:Value} {d:DataW H} {ps:List MemPlace} (hval:Value.okWide Tryz.prog W r b0 25 v) (h:DataW.Trod enc Tryz.prog W base sp held 25 v d ps):∃ x:Mo,RepV (cm W) W (.agg (moC x)) v∧wM x≤Rows.uptoBulk d:=by
 obtain ⟨fs,hu,-⟩:=vU
 obtain ⟨cs,rfl,_⟩:=okWide_struct hu hval
 obtain ⟨fuel,hf⟩:=h
 obtain ⟨x,hc,hb⟩:=Lh hf
 exact⟨x,.agg (by simpa [Value.cells] using hc),hb⟩
end
end Am
end Go.Proofs.YtkpodagbefnebaaGreatDoor
