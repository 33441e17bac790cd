import Derived.Test.YtkpodagbefnebaaGreatDoorYg22
import Derived.Test.YtkpodagbefnebaaGreatDoorYg8
set_option linter.unusedSimpArgs false
set_option linter.unusedVariables false
set_option linter.unusedSectionVars false
namespace Go.Proofs.YtkpodagbefnebaaGreatDoor
namespace Am
open Tk
set_option maxRecDepth 100000
set_option maxHeartbeats 4000000
def uK (u:LTok):Tok:=⟨u.kind,⟨u.text.toArray⟩,⟨0,0⟩⟩
def hdN:List UInt8→Bool
 |[]=>false
 |c :: _=>!nmB c
def ScK (n:Bool) (b:List UInt8) (ts:List Tok):Prop:=∀ (o:Nat) (r:List UInt8),(n=true→r=[]∨hdN r=true)→∃ us,us.map uK=ts∧dL o (b++r)=LR.app us (dL (o+b.length) r)
theorem qQ (r:LR):LR.app [] r=r:=by cases r <;> rfl
theorem ScK.nil:ScK false [] []:=fun o r _=>⟨[],rfl,(qQ _).symm⟩
theorem ScK.app {n m:Bool} {a b:List UInt8} {ts us:List Tok} (h1:ScK n a ts) (h2:ScK m b us) (hh:n=true→hdN b=true):ScK m (a++b) (ts++us):=fun o r hr=>by
 have hb:n=true→b++r=[]∨hdN (b++r)=true:=fun h=>by
  have:=hh h
  cases b with
  |nil=>cases this
  |cons c b=>exact .inr this
 obtain ⟨u1,e1,s1⟩:=h1 o (b++r) hb
 obtain ⟨u2,e2,s2⟩:=h2 (o+a.length) r hr
 refine⟨u1++u2,by rw[List.map_append,e1,e2],?_⟩
 rw[List.append_assoc,s1,s2,LR.app_app,List.length_append,Nat.add_assoc]
theorem ScK.weak {b:List UInt8} {ts:List Tok} (h:ScK false b ts) (n:Bool):ScK n b ts:=fun o r _=>h o r fun h=>by cases h
theorem xH {r:List UInt8} (h:r=[]∨hdN r=true):r=[]∨∃ c r',r=c :: r'∧nmB c=false:=by
 rcases h with h|h
 ·exact .inl h
 ·cases r with
  |nil=>exact .inl rfl
  |cons c r=>exact .inr ⟨c,r,rfl,by simpa [hdN] using h⟩
theorem ScK.name {s:ByteArray} (h:dW s.data.toList=true):ScK true s.data.toList [kN s]:=fun o r hr=>
 ⟨[⟨1,s.data.toList,o⟩],rfl,zn o h (xH (hr rfl))⟩
theorem ScK.num {s:ByteArray} (h:BF s.data.toList=true):ScK true s.data.toList [kI s]:=fun o r hr=>
 ⟨[⟨2,s.data.toList,o⟩],rfl,Ck o h (by
   rcases xH (hr rfl) with h|⟨c,r',h1,h2⟩
   ·exact .inl h
   ·refine .inr ⟨c,r',h1,?_⟩
    unfold nmB at h2
    rw[Bool.or_eq_false_iff] at h2
    exact h2.2)⟩
theorem ScK.str {s:ByteArray} (h:quoB s.data.toList=true):ScK false (34 :: (s.data.toList++[34])) [kS s]:=fun o r _=>
 ⟨[⟨3,s.data.toList,o⟩],rfl,by
   have:=zo (r:=r) o h
   rw[this];simp⟩
theorem ScK.mark1 {c:UInt8} (h:marks1.contains c=true) (h2:c≠33):ScK false [c] [kM ⟨#[c]⟩]:=fun o r _=>
 ⟨[⟨4,[c],o⟩],rfl,pz o h fun e=>absurd e h2⟩
theorem ScK.mark2 {c d:UInt8} (h:[c,d]∈marks2):ScK false [c,d] [kM ⟨#[c,d]⟩]:=fun o r _=>
 ⟨[⟨4,[c,d],o⟩],rfl,wq o h⟩
theorem ScK.sp:ScK false [32] []:=fun o r _=>⟨[],rfl,by rw[qQ];exact Fz o⟩
theorem ScK.nl:ScK false [10] []:=fun o r _=>⟨[],rfl,by
 rw[qQ]
 exact pw (j:=1) o (by simp) (by simp[Tk.skipL,bi];omega)⟩
theorem ScK.bang {n:Bool} {b:List UInt8} {ts:List Tok} (h:ScK n b ts) (hb:∃ c r,b=c :: r∧c≠61):ScK n (33 :: b) (kM ⟨#[33]⟩ :: ts):=fun o r hr=>by
 obtain ⟨c,b',rfl,hc⟩:=hb
 obtain ⟨us,e1,e2⟩:=h (o+1) r hr
 refine⟨⟨4,[33],o⟩ :: us,by rw[List.map_cons,e1];rfl,?_⟩
 show dL o (33 :: (c :: b'++r))=_
 have hm:=pz (c:=33) (r:=c :: b'++r) o (by decide) fun _=>⟨c,b'++r,rfl,hc⟩
 rw[hm,e2,LR.app_app,List.length_cons,Nat.add_assoc,Nat.add_comm 1]
 rfl
def SB (n:Bool) (t:ByteArray) (ts:List Tok):Prop:=ScK n t.data.toList ts
theorem iv (a b:ByteArray):(a++b).data.toList=a.data.toList++b.data.toList:=by rw[ByteArray.data_append,Array.toList_append]
theorem SB.app {n m:Bool} {a b:ByteArray} {ts us:List Tok} (h1:SB n a ts) (h2:SB m b us) (hh:n=true→hdN b.data.toList=true):SB m (a++b) (ts++us):=by
 unfold SB
 rw[iv]
 exact ScK.app h1 h2 hh
theorem SB.appF {m:Bool} {a b:ByteArray} {ts us:List Tok} (h1:SB false a ts) (h2:SB m b us):SB m (a++b) (ts++us):=h1.app h2 fun h=>by cases h
theorem aE {a:ByteArray} (b:ByteArray) (h:hdN a.data.toList=true):hdN (a++b).data.toList=true:=by
 rw[iv]
 cases ha:a.data.toList with
 |nil=>rw[ha] at h;cases h
 |cons c l=>rw[ha] at h;exact h
theorem SB.scan {n:Bool} {t:ByteArray} {ts:List Tok} (h:SB n t ts) (hz:t.size≤65536):∃ l,fS t= .ok l∧l.map npT=ts++[⟨0,⟨#[]⟩,⟨0,0⟩⟩]:=by
 obtain ⟨us,e1,e2⟩:=h 0 [] fun _=>.inl rfl
 rw[List.append_nil] at e2
 have e3:∀ o,dL o []= .ok [⟨0,[],o⟩]:=fun o=>rfl
 rw[e3] at e2
 refine⟨(us++[(⟨0,[],0+t.data.toList.length⟩:LTok)]).map (LTok.at t.data.toList),?_,?_⟩
 ·rw[ye t hz,e2];rfl
 ·rw[← e1,List.map_append,List.map_append,List.map_map];rfl
end Am
namespace Am
open Tk
set_option maxRecDepth 100000
set_option maxHeartbeats 4000000
section
variable {l:List Tok} {k:Ix l} {r:List Tok}
def spK (s:Sp):List Tok:=kN s.frm :: (if s.to=⟨#[]⟩ then[] else[kM ⟨#[46]⟩,kN s.to])
def mE:List Sp→List Tok
 |[]=>[]
 |[x]=>spK x
 |x :: y :: l=>spK x++kM ⟨#[44]⟩ :: mE (y :: l)
def lvK (v:Lv):List Tok:=kN v.sens :: (if v.cats=[] then[] else kM ⟨#[58]⟩ :: mE v.cats)
def rgK (g:Rg):List Tok:=lvK g.lo++(if gU g.hi=true then[] else kM ⟨#[45]⟩ :: lvK g.hi)
def cxK (c:Ct):List Tok:=kN c.user :: kM ⟨#[58]⟩ :: kN c.role :: kM ⟨#[58]⟩ :: kN c.type :: kM ⟨#[58]⟩ :: rgK c.rng
theorem xl {s:Sp} (hs:spB s=true) (hr:r≠[]) (hd:hM ⟨#[46]⟩ r=false) (h:l.drop k.1=spK s++r):∃ k',fm k= .ok (s,k')∧l.drop k'.1=r:=by
 unfold spB at hs
 simp only[Bool.and_eq_true,Bool.or_eq_true,decide_eq_true_eq] at hs
 unfold fm
 unfold spK at h
 by_cases ht:s.to=⟨#[]⟩
 ·rw[if_pos ht] at h
  have h:l.drop k.1=kN s.frm :: r:=h
  have h1:=aN h hr
  refine⟨nx k,?_,h1⟩
  rw[br h hs.1,aa]
  dsimp only
  rw[cC h1,hd,if_neg (by decide),←ht]
 ·rw[if_neg ht] at h
  have h:l.drop k.1=kN s.frm :: kM ⟨#[46]⟩ :: kN s.to :: r:=h
  have h1:=aN h (by simp)
  have h2:=aN h1 (by simp)
  refine⟨nx (nx (nx k)),?_,aN h2 hr⟩
  rw[br h hs.1,aa]
  dsimp only
  rw[cC h1,cp,if_pos rfl,br h2 (hs.2.resolve_left ht)]
  rfl
theorem qc:∀ (cs:List Sp) (m:Nat) (v:Lv) (k:Ix l),cs.length<m→cs≠[]→r≠[]→hM ⟨#[46]⟩ r=false→hM ⟨#[44]⟩ r=false→cs.all spB=true→l.drop k.1=mE cs++r→∃ k',cP m v k= .ok ({v with cats:=v.cats++cs},k')∧l.drop k'.1=r
 |[],_,_,_,_,h,_,_,_,_,_=>absurd rfl h
 |[x],m+1,v,k,hm,_,hr,hd,hc,hi,h=>by
  have hx:spB x=true:=by simpa using hi
  have h:l.drop k.1=spK x++r:=h
  obtain ⟨k',e1,e2⟩:=xl hx hr hd h
  refine⟨k',?_,e2⟩
  rw[cP,e1,aa]
  dsimp only
  rw[cC e2,hc,if_neg (by decide)]
 |x :: y :: cs,m+1,v,k,hm,_,hr,hd,hc,hi,h=>by
  rw[List.all_cons,Bool.and_eq_true] at hi
  have h:l.drop k.1=spK x++(kM ⟨#[44]⟩ :: (mE (y :: cs)++r)):=by rw[h,mE];simp
  obtain ⟨k1,e1,e2⟩:=xl hi.1 (r:=kM ⟨#[44]⟩ :: (mE (y :: cs)++r)) (by simp) (bU (by decide) _) h
  obtain ⟨k',e3,e4⟩:=qc (y :: cs) m {v with cats:=v.cats++[x]} (nx k1) (by simp at hm ⊢;omega) (by simp) hr hd hc hi.2 (aN e2 (by simp[hr]))
  refine⟨k',?_,e4⟩
  rw[cP,e1,aa]
  dsimp only
  rw[cC e2,cp,if_pos rfl,e3]
  simp
theorem uT:∀ cs:List Sp,cs.length≤(mE cs).length
 |[]=>Nat.le_refl _
 |[x]=>by simp[mE,spK]
 |x :: y :: cs=>by
  have:=uT (y :: cs)
  rw[mE]
  simp[spK] at this ⊢
  omega
theorem kX {v:Lv} (hv:lvB v=true) (hr:r≠[]) (hd:hM ⟨#[46]⟩ r=false) (hc:hM ⟨#[44]⟩ r=false) (hn:hM ⟨#[58]⟩ r=false) (h:l.drop k.1=lvK v++r):∃ k',eD k= .ok (v,k')∧l.drop k'.1=r:=by
 unfold lvB at hv
 rw[Bool.and_eq_true] at hv
 obtain ⟨se,cs⟩:=v
 unfold eD
 unfold lvK at h
 dsimp only at h hv ⊢
 by_cases h0:cs=[]
 ·subst h0
  have h:l.drop k.1=kN se :: r:=h
  have h1:=aN h hr
  refine⟨nx k,?_,h1⟩
  rw[br h hv.1,aa]
  dsimp only
  rw[cC h1,hn,if_neg (by decide)]
 ·rw[if_neg h0] at h
  have h:l.drop k.1=kN se :: kM ⟨#[58]⟩ :: (mE cs++r):=by rw[h];simp
  have h1:=aN h (by simp)
  have h2:=aN h1 (by simp[hr])
  obtain ⟨k',e1,e2⟩:=qc cs (fuel l) ⟨se,[]⟩ (nx (nx k)) (by have a:=lW h2;have b:=uT cs;rw[List.length_append] at a;unfold fuel;omega) h0 hr hd hc hv.2 h2
  refine⟨k',?_,e2⟩
  rw[br h hv.1,aa]
  dsimp only
  rw[cC h1,cp,if_pos rfl,e1]
  rfl
theorem vv {v:Lv} (h:gU v=true):v=Lv.zero:=by
 unfold gU at h
 simp only[Bool.and_eq_true,decide_eq_true_eq] at h
 obtain ⟨s,c⟩:=v
 have h1:s=⟨#[]⟩:=h.1
 have h2:c=[]:=List.eq_nil_of_length_eq_zero h.2
 subst h1 h2;rfl
theorem nV {g:Rg} (hg:rgB g=true) (hr:r≠[]) (hd:hM ⟨#[46]⟩ r=false) (hc:hM ⟨#[44]⟩ r=false) (hn:hM ⟨#[58]⟩ r=false) (hm:hM ⟨#[45]⟩ r=false) (h:l.drop k.1=rgK g++r):∃ k',fk k= .ok (g,k')∧l.drop k'.1=r:=by
 unfold rgB at hg
 simp only[Bool.and_eq_true,Bool.or_eq_true] at hg
 obtain ⟨lo,hi⟩:=g
 unfold fk
 unfold rgK at h
 dsimp only at h hg ⊢
 by_cases hb:gU hi=true
 ·rw[if_pos hb] at h
  rw[List.append_nil] at h
  obtain ⟨k',e1,e2⟩:=kX hg.1 hr hd hc hn h
  refine⟨k',?_,e2⟩
  rw[e1,aa]
  dsimp only
  rw[cC e2,hm,if_neg (by decide),vv hb]
 ·rw[if_neg hb] at h
  have h:l.drop k.1=lvK lo++(kM ⟨#[45]⟩ :: (lvK hi++r)):=by rw[h];simp
  obtain ⟨k1,e1,e2⟩:=kX hg.1 (r:=kM ⟨#[45]⟩ :: (lvK hi++r)) (by simp) (bU (by decide) _) (bU (by decide) _) (bU (by decide) _) h
  obtain ⟨k',e3,e4⟩:=kX (hg.2.resolve_left hb) hr hd hc hn (aN e2 (by simp[lvK]))
  refine⟨k',?_,e4⟩
  rw[e1,aa]
  dsimp only
  rw[cC e2,cp,if_pos rfl,e3,aa]
theorem nS {c:Ct} (hx:cxB c=true) (hr:r≠[]) (hd:hM ⟨#[46]⟩ r=false) (hc:hM ⟨#[44]⟩ r=false) (hn:hM ⟨#[58]⟩ r=false) (hm:hM ⟨#[45]⟩ r=false) (h:l.drop k.1=cxK c++r):∃ k',da k= .ok (c,k')∧l.drop k'.1=r:=by
 unfold cxB at hx
 simp only[Bool.and_eq_true] at hx
 obtain ⟨⟨⟨x1,x2⟩,x3⟩,x4⟩:=hx
 have h:l.drop k.1=kN c.user :: kM ⟨#[58]⟩ :: kN c.role :: kM ⟨#[58]⟩ :: kN c.type :: kM ⟨#[58]⟩ :: (rgK c.rng++r):=h
 have h1:=aN h (by simp)
 have h2:=aN h1 (by simp)
 have h3:=aN h2 (by simp)
 have h4:=aN h3 (by simp)
 have h5:=aN h4 (by simp)
 have h6:=aN h5 (by simp[hr])
 obtain ⟨k',e1,e2⟩:=nV x4 hr hd hc hn hm h6
 refine⟨k',?_,e2⟩
 unfold da
 rw[br h x1,aa]
 dsimp only
 rw[fv h1,aa]
 dsimp only
 rw[br h2 x2,aa]
 dsimp only
 rw[fv h3,aa]
 dsimp only
 rw[br h4 x3,aa]
 dsimp only
 rw[fv h5,aa]
 dsimp only
 rw[e1,aa]
end
end Am
namespace Am
open Tk
set_option maxRecDepth 100000
set_option maxHeartbeats 4000000
theorem xJ {s:ByteArray} (h:idB s=true):dW s.data.toList=true:=by
 unfold idB at h
 rw[Bool.and_eq_true] at h
 exact h.1
theorem SB.name {s:ByteArray} (h:idB s=true):SB true s [kN s]:=ScK.name (xJ h)
theorem SB.weak {t:ByteArray} {ts:List Tok} {n:Bool} (h:SB n t ts):SB true t ts:=by
 cases n with
 |true=>exact h
 |false=>exact ScK.weak h true
theorem SB.nil:SB false ⟨#[]⟩ []:=ScK.nil
theorem sb_sp:SB false ⟨#[32]⟩ []:=ScK.sp
theorem K6:SB false ⟨#[10]⟩ []:=ScK.nl
theorem j1 {c:UInt8} (h:marks1.contains c=true) (h2:c≠33):SB false ⟨#[c]⟩ [kM ⟨#[c]⟩]:=ScK.mark1 h h2
theorem fr {w:ByteArray} (t:ByteArray) (h:dW w.data.toList=true) (ht:t.data.toList=w.data.toList++[32]):SB false t [kN w]:=by
 unfold SB
 rw[ht]
 exact(ScK.name h).app ScK.sp fun _=>by decide
theorem yc (c:UInt8) (t:ByteArray) (ht:t.data.toList=[c,32]) (h:marks1.contains c=true) (h2:c≠33):SB false t [kM ⟨#[c]⟩]:=by
 unfold SB
 rw[ht]
 exact(ScK.mark1 h h2).app ScK.sp fun h=>by cases h
theorem K4 (c:UInt8) (t:ByteArray) (ht:t.data.toList=[32,c]) (h:marks1.contains c=true) (h2:c≠33):SB false t [kM ⟨#[c]⟩]:=by
 unfold SB
 rw[ht]
 exact ScK.sp.app (ScK.mark1 h h2) fun h=>by cases h
theorem aL (a b c:ByteArray):a++b++c=a++(b++c):=ByteArray.append_assoc
theorem Ag (a:ByteArray):a++(⟨#[]⟩:ByteArray)=a:=ByteArray.append_empty
theorem SB.sep {α:Type} {f:α→ByteArray} {g:α→List Tok} {sep:ByteArray} {S:List Tok} (hs:SB false sep S) (hh:hdN sep.data.toList=true):∀ (l:List α) (x:α),(∀ y∈x :: l,SB true (f y) (g y))→SB true (cq sep ((x :: l).map f)) (g x++(l.map fun y=>S++g y).flatten)
 |[],x,h=>by
  show SB true (f x++⟨#[]⟩) (g x++[])
  rw[Ag,List.append_nil]
  exact h x (.head _)
 |y :: l,x,h=>by
  have ih:=SB.sep hs hh l y fun z hz=>h z (.tail _ hz)
  have e:cq sep ((x :: y :: l).map f)=f x++(sep++cq sep ((y :: l).map f)):=by
   show f x++(sep++f y++tlB sep (l.map f))=f x++(sep++(f y++tlB sep (l.map f)))
   rw[aL]
  rw[e]
  have e2:g x++((y :: l).map fun y=>S++g y).flatten=g x++(S++(g y++(l.map fun y=>S++g y).flatten)):=by simp
  rw[e2]
  exact(h x (.head _)).app (hs.appF ih) fun _=>aE _ hh
theorem qI {sep:ByteArray} {S:List Tok} (hs:SB false sep S) (hh:hdN sep.data.toList=true) {x:ByteArray} {l:List ByteArray} (hi:(x :: l).all idB=true):SB true (cq sep (x :: l)) (kN x :: (l.map fun y=>S++[kN y]).flatten):=by
 have h:=SB.sep (f:=fun s:ByteArray=>s) (g:=fun s=>[kN s]) hs hh l x fun y hy=>SB.name (by rw[List.all_eq_true] at hi;exact hi y hy)
 rw[List.map_id'] at h
 exact h
theorem sZ {t:ByteArray} {ts:List Tok} (h:SB true t ts):SB false (⟨#[123,32]⟩++t++⟨#[32,125]⟩) (kM ⟨#[123]⟩ :: (ts++[kM ⟨#[125]⟩])):=by
 have h1:=(yc 123 ⟨#[123,32]⟩ rfl (by decide) (by decide)).appF h
 have h2:=h1.app (K4 125 ⟨#[32,125]⟩ rfl (by decide) (by decide)) fun _=>by decide
 rw[List.append_assoc] at h2
 exact h2
theorem Eh (l:List ByteArray):(l.map fun y=>([]:List Tok)++[kN y]).flatten=l.map kN:=by
 induction l with
 |nil=>rfl
 |cons x l ih=>rw[List.map_cons,List.flatten_cons,ih];rfl
theorem Eg (l:List ByteArray):(l.map fun y=>[kM ⟨#[44]⟩]++[kN y]).flatten=coK l:=by
 induction l with
 |nil=>rfl
 |cons x l ih=>rw[List.map_cons,List.flatten_cons,ih];rfl
theorem sY {l:List ByteArray} (h0:l≠[]) (hi:l.all idB=true):SB false (brT l) (brK l):=by
 cases l with
 |nil=>exact absurd rfl h0
 |cons x l=>
  have h:=sZ (qI sb_sp (by decide) hi)
  rw[Eh] at h
  exact h
theorem sb_cs:SB false ⟨#[44,32]⟩ [kM ⟨#[44]⟩]:=yc 44 ⟨#[44,32]⟩ rfl (by decide) (by decide)
theorem lr {l:List ByteArray} (h0:l≠[]) (hi:l.all idB=true):SB true (cq ⟨#[44,32]⟩ l) (liK l):=by
 cases l with
 |nil=>exact absurd rfl h0
 |cons x l=>
  have h:=qI sb_cs (by decide) hi
  rw[Eg] at h
  exact h
def El.txt:El→ByteArray
 | .all=>⟨#[42]⟩
 | .self=>⟨#[115,101,108,102]⟩
 | .nm s=>s
 | .ex s=>⟨#[45,32]⟩++s
theorem Gw {e:El} {self:Bool} (h:e.okE self=true):SB true e.txt e.tok:=by
 cases e with
 |all=>exact SB.weak (j1 (c:=42) (by decide) (by decide))
 |self=>exact ScK.name (s:=⟨#[115,101,108,102]⟩) (by decide)
 |nm s=>exact SB.name h
 |ex s=>exact(yc 45 ⟨#[45,32]⟩ rfl (by decide) (by decide)).appF (SB.name h)
theorem w6 (n:NS):nsL n=(elN n).map El.txt:=by
 unfold nsL pR ko elN
 simp only[List.map_append,List.map_map]
 have e1:(El.txt∘El.nm)=id:=rfl
 have e2:(El.txt∘El.ex)=fun s=>⟨#[45,32]⟩++s:=rfl
 rw[e1,e2,List.map_id]
 cases n.all <;> cases n.self <;> rfl
theorem Hx {es:List El} {self:Bool} (h0:es≠[]) (h:es.all (El.okE self)=true):SB true (cq ⟨#[32]⟩ (es.map El.txt)) (fO es):=by
 cases es with
 |nil=>exact absurd rfl h0
 |cons e es=>
  have h2:=SB.sep (f:=El.txt) (g:=El.tok) sb_sp (by decide) es e fun y hy=>Gw (self:=self) (by rw[List.all_eq_true] at h;exact h y hy)
  have e2:(e.tok++(es.map fun y=>([]:List Tok)++y.tok).flatten)=fO (e :: es):=rfl
  rw[e2] at h2
  exact h2
theorem bQ {n:NS} {self:Bool} (h:au n self=true):SB true (nsT n) (nsK n):=by
 obtain ⟨ho,h0⟩:=Gv h
 have tl:SB false ⟨#[126,32]⟩ [kM ⟨#[126]⟩]:=yc 126 ⟨#[126,32]⟩ rfl (by decide) (by decide)
 have hl:(nsL n).length=(elN n).length:=by rw[w6,List.length_map]
 have hb:SB false (brT (nsL n)) (kM ⟨#[123]⟩ :: (fO (elN n)++[kM ⟨#[125]⟩])):=by
  unfold brT
  rw[w6]
  exact sZ (Hx h0 ho)
 have h1:j6 n=true→SB true ((nsL n).getD 0 ⟨#[]⟩) (fO (elN n)):=fun hs=>by
  obtain ⟨e,he,-⟩:=wv hs
  rw[w6,he]
  rw[he] at ho
  have:=Gw (e:=e) (self:=self) (by simpa using ho)
  have e2:fO [e]=e.tok:=by simp[fO]
  rw[e2]
  exact this
 have hs:j6 n=true↔(nsL n).length=1∧n.except.length=0:=by
  unfold j6
  rw[hl,Bool.and_eq_true,decide_eq_true_eq,decide_eq_true_eq]
 unfold nsT nsK
 by_cases c1:n.nt=true∧(nsL n).length=1∧n.except.length=0∧n.names.length=1
 ·have c2:(n.nt&&j6 n&&decide (n.names.length=1))=true:=by
   rw[c1.1,hs.2 ⟨c1.2.1,c1.2.2.1⟩,decide_eq_true c1.2.2.2];rfl
  rw[if_pos c1,if_pos c2]
  exact tl.appF (h1 (hs.2 ⟨c1.2.1,c1.2.2.1⟩))
 ·have c2:¬ (n.nt&&j6 n&&decide (n.names.length=1))=true:=by
   intro c2
   simp only[Bool.and_eq_true,decide_eq_true_eq] at c2
   obtain ⟨q1,q2⟩:=hs.1 c2.1.2
   exact c1 ⟨c2.1.1,q1,q2,c2.2⟩
  rw[if_neg c1,if_neg c2]
  by_cases c3:n.nt=true
  ·rw[if_pos c3,if_pos c3]
   exact SB.weak (tl.appF hb)
  ·rw[if_neg c3,if_neg c3]
   by_cases c4:j6 n=true
   ·rw[if_pos (hs.1 c4),if_pos c4]
    exact h1 c4
   ·rw[if_neg (fun h=>c4 (hs.2 h)),if_neg c4]
    exact SB.weak hb
theorem Ka {s:Sp} (h:spB s=true):SB true (spT s) (spK s):=by
 unfold spB at h
 simp only[Bool.and_eq_true,Bool.or_eq_true,decide_eq_true_eq] at h
 unfold spT spK
 by_cases ht:s.to=⟨#[]⟩
 ·rw[if_pos ht,if_pos ht]
  exact SB.name h.1
 ·rw[if_neg ht,if_neg ht,aL]
  exact(SB.name h.1).app ((j1 (c:=46) (by decide) (by decide)).appF (SB.name (h.2.resolve_left ht))) fun _=>aE _ (by decide)
theorem tz:∀ (l:List Sp) (x:Sp),(spK x++(l.map fun y=>[kM ⟨#[44]⟩]++spK y).flatten)=mE (x :: l)
 |[],x=>by simp[mE]
 |y :: l,x=>by
  rw[mE,←tz l y]
  simp
theorem xN {v:Lv} (h:lvB v=true):SB true (lvT v) (lvK v):=by
 unfold lvB at h
 rw[Bool.and_eq_true] at h
 unfold lvT lvK
 cases hc:v.cats with
 |nil=>
  rw[if_pos (show([]:List Sp).length=0 from rfl),if_pos rfl]
  exact SB.name h.1
 |cons x l=>
  rw[hc] at h
  rw[if_neg (by simp),if_neg (by simp),aL]
  have h2:=SB.sep (f:=spT) (g:=spK) (j1 (c:=44) (by decide) (by decide)) (by decide) l x fun y hy=>Ka (by have:=h.2;rw[List.all_eq_true] at this;exact this y hy)
  rw[tz] at h2
  exact(SB.name h.1).app ((j1 (c:=58) (by decide) (by decide)).appF h2) fun _=>aE _ (by decide)
theorem C9 {g:Rg} (h:rgB g=true):SB true (rgT g) (rgK g):=by
 unfold rgB at h
 simp only[Bool.and_eq_true,Bool.or_eq_true] at h
 unfold rgT rgK
 by_cases hb:gU g.hi=true
 ·rw[if_pos hb,if_pos hb,List.append_nil]
  exact xN h.1
 ·rw[if_neg hb,if_neg hb,aL]
  exact(xN h.1).app ((j1 (c:=45) (by decide) (by decide)).appF (xN (h.2.resolve_left hb))) fun _=>aE _ (by decide)
theorem qh {c:Ct} (h:cxB c=true):SB true (cxT c) (cxK c):=by
 unfold cxB at h
 simp only[Bool.and_eq_true] at h
 obtain ⟨⟨⟨x1,x2⟩,x3⟩,x4⟩:=h
 unfold cxT cxK
 have col:SB false ⟨#[58]⟩ [kM ⟨#[58]⟩]:=j1 (c:=58) (by decide) (by decide)
 simp only[aL]
 exact(SB.name x1).app (col.appF ((SB.name x2).app (col.appF ((SB.name x3).app (col.appF (C9 x4)) fun _=>aE _ (by decide))) fun _=>aE _ (by decide))) fun _=>aE _ (by decide)
end Am
namespace Am
open Tk
set_option maxRecDepth 100000
set_option maxHeartbeats 4000000
def atS (n:Nat):ByteArray:=⟨#[if n % 5=0 then 117 else if n % 5=1 then 114 else if n % 5=2 then 116 else if n % 5=3 then 108 else 104,49+UInt8.ofNat (n / 5)]⟩
theorem Jz:∀ n,n<15→mK true (atS n)=some (n:Int):=by decide
theorem Jy:∀ n,n<10→mK false (atS n)=some (n:Int):=by decide
def wi (n:Int):Tok:=if n=0 then kM ⟨#[61,61]⟩ else if n=1 then kM ⟨#[33,61]⟩ else if n=2 then kN ⟨#[100,111,109]⟩ else if n=3 then kN ⟨#[100,111,109,98,121]⟩ else kN ⟨#[105,110,99,111,109,112]⟩
def inK (l:List ByteArray):List Tok:=match l with
 |[x]=>[kN x]
 |_=>brK l
def kK (b:Bool) (t:List Tok):List Tok:=if b=true then kM ⟨#[40]⟩ :: (t++[kM ⟨#[41]⟩]) else t
def JI (op a rel b:Int) (names:List ByteArray) (ts:List (List Tok)) (ops:List Int):List Tok:=
 if op=2 then kM ⟨#[33]⟩ :: kK (decide (ops.getD 0 0≠2)) (ts.getD 0 [])
 else if op=3 then kK (decide (ops.getD 0 0=4)) (ts.getD 0 [])++kM ⟨#[38,38]⟩ :: kK (decide (ops.getD 1 0=4) || decide (ops.getD 1 0=3)) (ts.getD 1 [])
 else if op=4 then ts.getD 0 []++kM ⟨#[124,124]⟩ :: kK (decide (ops.getD 1 0=4)) (ts.getD 1 [])
 else if op=9 then kN (atS a.toNat) :: kN ⟨#[105,110]⟩ :: inK names
 else[kN (atS a.toNat),wi rel,kN (atS b.toNat)]
mutual
def exK:Ex→List Tok
 |⟨op,a,rel,b,names,_,kids⟩=>JI op a rel b names (AH kids) (kids.map (·.op))
def AH:List Ex→List (List Tok)
 |[]=>[]
 |x :: l=>exK x :: AH l
end
theorem tr:∀ l:List Ex,AH l=l.map exK
 |[]=>by rw[AH];rfl
 |x :: l=>by rw[AH,tr l];rfl
theorem oh (e:Ex):exK e=JI e.op e.a e.rel e.b e.names (e.kids.map exK) (e.kids.map (·.op)):=by
 cases e;rw[exK,tr]
section
variable {l:List Tok} {k:Ix l} {r:List Tok}
abbrev rh (v:Bool):Int:=if v then 15 else 10
theorem qU {v:Bool} {a:Int} (h0:0≤a) (h1:a<rh v) (h:l.drop k.1=kN (atS a.toNat) :: r):gC v k= .ok (a,nx k):=by
 unfold gC
 have e:mK v (atS a.toNat)=some ((a.toNat:Nat):Int):=by
  cases v with
  |true=>exact Jz _ (by simp[rh] at h1;omega)
  |false=>exact Jy _ (by simp[rh] at h1;omega)
 have e2:((a.toNat:Nat):Int)=a:=Int.toNat_of_nonneg h0
 rw[gD h]
 dsimp only
 rw[e,e2]
 dsimp only
 rw[if_pos rfl]
theorem Hn {n:Int} (h0:0≤n) (h1:n<5) (hr:r≠[]) (h:l.drop k.1=wi n :: r):js k= .ok (n,nx k):=by
 unfold js cU
 have hc:n=0∨n=1∨n=2∨n=3∨n=4:=by omega
 rcases hc with rfl|rfl|rfl|rfl|rfl
 ·have h:l.drop k.1=kM ⟨#[61,61]⟩ :: r:=h
  rw[cC h,cp,if_pos rfl]
 ·have h:l.drop k.1=kM ⟨#[33,61]⟩ :: r:=h
  rw[cC h,bU (by decide),if_neg (by decide),cC h,cp,if_pos rfl]
 ·have h:l.drop k.1=kN ⟨#[100,111,109]⟩ :: r:=h
  rw[cC h,jn,if_neg (by decide),cC h,jn,if_neg (by decide)]
  simp only[kj h,nc]
  rfl
 ·have h:l.drop k.1=kN ⟨#[100,111,109,98,121]⟩ :: r:=h
  rw[cC h,jn,if_neg (by decide),cC h,jn,if_neg (by decide)]
  simp only[kj h,nc]
  rfl
 ·have h:l.drop k.1=kN ⟨#[105,110,99,111,109,112]⟩ :: r:=h
  rw[cC h,jn,if_neg (by decide),cC h,jn,if_neg (by decide)]
  simp only[kj h,nc]
  rfl
theorem xL {α:Type}:∀ {l:List α},l.length=2→∃ x y,l=[x,y]
 |[x,y],_=>⟨x,y,rfl⟩
theorem ny {lim lev:Int} {e:Ex} (h:fy lim lev e=true):e.kids.all (fy lim (lev+1))=true∧lev≤12∧
 ((∃ x,e= {Ex.zero with op:=2,kids:=[x]})∨(∃ x y,e= {Ex.zero with op:=3,kids:=[x,y]})∨(∃ x y,e= {Ex.zero with op:=4,kids:=[x,y]})∨
  (0≤e.a∧e.a<lim∧0≤e.b∧e.b<lim∧0≤e.rel∧e.rel<5∧e= {Ex.zero with op:=8,a:=e.a,rel:=e.rel,b:=e.b})∨
  (0≤e.a∧e.a<lim∧e.names≠[]∧e.names.all idB=true∧e= {Ex.zero with op:=9,a:=e.a,names:=e.names})):=by
 rw[lA,Bool.and_eq_true] at h
 obtain ⟨h,hk⟩:=h
 refine⟨hk,?_⟩
 obtain ⟨op,a,rel,b,names,set,kids⟩:=e
 unfold mO at h
 dsimp only at h ⊢
 simp only[Bool.and_eq_true,decide_eq_true_eq] at h
 obtain ⟨⟨h1,hs⟩,h⟩:=h
 refine⟨h1,?_⟩
 have hset:set=Se.zero:=by
  unfold Se.eqB at hs
  simp only[Bool.and_eq_true,decide_eq_true_eq] at hs
  obtain ⟨a1,a2,a3,a4⟩:=set
  obtain ⟨q1,q2,q3,q4⟩:=hs
  dsimp only at q1 q2 q3 q4
  rw[q1,q2,q3,q4]
 subst hset
 by_cases c1:op=2∨op=3∨op=4
 ·rw[if_pos c1] at h
  simp only[Bool.and_eq_true,decide_eq_true_eq] at h
  obtain ⟨⟨⟨⟨q1,q2⟩,q3⟩,q4⟩,q5⟩:=h
  have hn:names=[]:=List.eq_nil_of_length_eq_zero (by omega)
  subst q1 q2 q3 hn
  rcases c1 with rfl|rfl|rfl
  ·rw[if_pos rfl] at q5
   obtain ⟨x,rfl⟩:=List.length_eq_one_iff.1 (show kids.length=1 by omega)
   exact .inl ⟨x,rfl⟩
  ·rw[if_neg (by decide)] at q5
   obtain ⟨x,y,rfl⟩:=xL (show kids.length=2 by omega)
   exact .inr (.inl ⟨x,y,rfl⟩)
  ·rw[if_neg (by decide)] at q5
   obtain ⟨x,y,rfl⟩:=xL (show kids.length=2 by omega)
   exact .inr (.inr (.inl ⟨x,y,rfl⟩))
 rw[if_neg c1] at h
 by_cases c2:op=8
 ·rw[if_pos c2] at h
  simp only[Bool.and_eq_true,decide_eq_true_eq] at h
  obtain ⟨⟨⟨⟨⟨q1,q2⟩,q3,q4⟩,q5,q6⟩,q7⟩,q8⟩:=h
  have hn:names=[]:=List.eq_nil_of_length_eq_zero (by omega)
  have hkk:kids=[]:=List.eq_nil_of_length_eq_zero (by omega)
  subst c2 hn hkk
  exact .inr (.inr (.inr (.inl ⟨q1,q2,q3,q4,q5,q6,rfl⟩)))
 rw[if_neg c2] at h
 by_cases c3:op=9
 ·rw[if_pos c3] at h
  simp only[Bool.and_eq_true,decide_eq_true_eq] at h
  obtain ⟨⟨⟨⟨⟨q1,q2⟩,q3⟩,q4⟩,q5⟩,q6⟩:=h
  have hkk:kids=[]:=List.eq_nil_of_length_eq_zero (by omega)
  subst c3 q3 q4 hkk
  unfold lO at q5
  simp only[Bool.and_eq_true,decide_eq_true_eq] at q5
  refine .inr (.inr (.inr (.inr ⟨q1,q2,?_,?_,rfl⟩)))
  ·intro e;rw[e] at q5;simp at q5
  ·exact(by first|exact q5.2|exact q5.1)
 ·rw[if_neg c3] at h;cases h
theorem HH (x y:ByteArray) (r:List ByteArray):inK (x :: y :: r)=brK (x :: y :: r):=rfl
theorem JN (x:ByteArray):inK [x]=[kN x]:=rfl
theorem DO {v:Bool} {a rel b:Int} (a0:0≤a) (a1:a<rh v) (b0:0≤b) (b1:b<rh v) (r0:0≤rel) (r1:rel<5) (hr:r≠[]) (h:l.drop k.1=kN (atS a.toNat) :: wi rel :: kN (atS b.toNat) :: r):∃ k',kk v k= .ok ({Ex.zero with op:=8,a:=a,rel:=rel,b:=b},k')∧l.drop k'.1=r:=by
 have h1:=aN h (by simp)
 have h2:=aN h1 (by simp)
 refine⟨nx (nx (nx k)),?_,aN h2 hr⟩
 have hw:isW ⟨#[105,110]⟩ (nx k)=false:=by
  rw[kj h1]
  unfold wi
  repeat' split
  all_goals rfl
 unfold kk
 rw[qU a0 a1 h,aa]
 dsimp only
 rw[hw,if_neg (by decide),Hn r0 r1 (by simp) h1,aa]
 dsimp only
 rw[qU b0 b1 h2,aa]
theorem DP {v:Bool} {a:Int} {ns:List ByteArray} (a0:0≤a) (a1:a<rh v) (h0:ns≠[]) (hi:ns.all idB=true) (hr:r≠[]) (h:l.drop k.1=kN (atS a.toNat) :: kN ⟨#[105,110]⟩ :: (inK ns++r)):∃ k',kk v k= .ok ({Ex.zero with op:=9,a:=a,names:=ns},k')∧l.drop k'.1=r:=by
 have h1:=aN h (by simp)
 have h2:=aN h1 (by simp[hr])
 have hw:isW ⟨#[105,110]⟩ (nx k)=true:=by rw[kj h1,nc];simp
 unfold kk
 rw[qU a0 a1 h,aa]
 dsimp only
 rw[hw,if_pos rfl]
 cases ns with
 |nil=>exact absurd rfl h0
 |cons x ns=>
  cases ns with
  |nil=>
   rw[JN] at h2
   have h2:l.drop (nx (nx k)).1=kN x :: r:=h2
   refine⟨nx (nx (nx k)),?_,aN h2 hr⟩
   rw[cC h2,jn,if_neg (by decide),br h2 (by simpa using hi)]
   rfl
  |cons y ns=>
   rw[HH] at h2
   obtain ⟨k',e1,e2⟩:=iR (by simp) hr hi h2
   refine⟨k',?_,e2⟩
   have hm:isM ⟨#[123]⟩ (nx (nx k))=true:=by rw[cC h2];exact cp _ _
   rw[hm,if_pos rfl,e1]
   rfl
end
end Am
namespace Am
open Tk
set_option maxRecDepth 100000
set_option maxHeartbeats 4000000
theorem AC (x:Ex):exK {Ex.zero with op:=2,kids:=[x]}=kM ⟨#[33]⟩ :: kK (decide (x.op≠2)) (exK x):=by rw[oh];rfl
theorem AD (x y:Ex):exK {Ex.zero with op:=3,kids:=[x,y]}=kK (decide (x.op=4)) (exK x)++kM ⟨#[38,38]⟩ :: kK (decide (y.op=4) || decide (y.op=3)) (exK y):=by rw[oh];rfl
theorem AE (x y:Ex):exK {Ex.zero with op:=4,kids:=[x,y]}=exK x++kM ⟨#[124,124]⟩ :: kK (decide (y.op=4)) (exK y):=by rw[oh];rfl
theorem AF (a rel b:Int):exK {Ex.zero with op:=8,a:=a,rel:=rel,b:=b}=[kN (atS a.toNat),wi rel,kN (atS b.toNat)]:=by rw[oh];rfl
theorem AG (a:Int) (ns:List ByteArray):exK {Ex.zero with op:=9,a:=a,names:=ns}=kN (atS a.toNat) :: kN ⟨#[105,110]⟩ :: inK ns:=by rw[oh];rfl
theorem oY (b:Bool) (t:List Tok):(kK b t).length=t.length+if b=true then 2 else 0:=by
 unfold kK
 cases b <;> simp
section
variable {l:List Tok}
def XC (v:Bool) (l:List Tok) (t:List Tok) (e:Ex):Prop:=∀ (n:Nat) (k:Ix l) (r:List Tok),r≠[]→4*t.length+1≤n→l.drop k.1=t++r→∃ k',dD v n k= .ok (e,k')∧l.drop k'.1=r
def XB (v:Bool) (l:List Tok) (t:List Tok) (e:Ex):Prop:=∀ (n:Nat) (k:Ix l) (r:List Tok),r≠[]→4*t.length+2≤n→l.drop k.1=t++r→∃ n' k',fe v n k=cF v n' e k'∧n≤n'+t.length∧l.drop k'.1=r
def XE (v:Bool) (l:List Tok) (t:List Tok) (e:Ex):Prop:=∀ (n:Nat) (k:Ix l) (r:List Tok),r≠[]→hM ⟨#[38,38]⟩ r=false→4*t.length+3≤n→l.drop k.1=t++r→∃ n' k',ff v n k=cG v n' e k'∧n≤n'+t.length∧l.drop k'.1=r
theorem qf {v:Bool} {n:Nat} {e:Ex} {k:Ix l} {r:List Tok} (hn:0<n) (h:l.drop k.1=r) (hr:hM ⟨#[38,38]⟩ r=false):cF v n e k= .ok (e,k):=by
 obtain ⟨n,rfl⟩:∃ m,n=m+1:=⟨n - 1,by omega⟩
 rw[cF,cC h,hr,if_neg (by decide)]
theorem ql {v:Bool} {n:Nat} {e:Ex} {k:Ix l} {r:List Tok} (hn:0<n) (h:l.drop k.1=r) (hr:hM ⟨#[124,124]⟩ r=false):cG v n e k= .ok (e,k):=by
 obtain ⟨n,rfl⟩:∃ m,n=m+1:=⟨n - 1,by omega⟩
 rw[cG,cC h,hr,if_neg (by decide)]
variable {v:Bool} {t:List Tok} {e:Ex}
theorem XC.both (h:XC v l t e) (ht:1≤t.length):XB v l t e:=fun n k r hr hn hd=>by
 obtain ⟨n,rfl⟩:∃ m,n=m+1:=⟨n - 1,by omega⟩
 obtain ⟨k',e1,e2⟩:=h n k r hr (by omega) hd
 exact⟨n,k',by rw[fe,e1,aa],by omega,e2⟩
theorem XB.eith (h:XB v l t e) (ht:1≤t.length):XE v l t e:=fun n k r hr ha hn hd=>by
 obtain ⟨n,rfl⟩:∃ m,n=m+1:=⟨n - 1,by omega⟩
 obtain ⟨n',k',e1,e2,e3⟩:=h n k r hr (by omega) hd
 exact⟨n,k',by rw[ff,e1,qf (by omega) e3 ha,aa],by omega,e3⟩
theorem XE.par (h:XE v l t e):XC v l (kK true t) e:=fun n k r hr hn hd=>by
 rw[oY,if_pos rfl] at hn
 obtain ⟨n,rfl⟩:∃ m,n=m+1:=⟨n - 1,by omega⟩
 have hd:l.drop k.1=kM ⟨#[40]⟩ :: (t++kM ⟨#[41]⟩ :: r):=by rw[hd];simp[kK]
 have h1:=aN hd (by simp)
 obtain ⟨n',k',e1,e2,e3⟩:=h n (nx k) (kM ⟨#[41]⟩ :: r) (by simp) (bU (by decide) _) (by omega) h1
 refine⟨nx k',?_,aN e3 hr⟩
 rw[dD,cC hd,bU (by decide),if_neg (by decide),cC hd,cp,if_pos rfl,e1,ql (by omega) e3 (bU (by decide) _),aa]
 dsimp only
 rw[fv e3];rfl
theorem XB.fin (h:XB v l t e) {n:Nat} {k:Ix l} {r:List Tok} (hr:r≠[]) (ha:hM ⟨#[38,38]⟩ r=false) (hn:4*t.length+2≤n) (hd:l.drop k.1=t++r):∃ k',fe v n k= .ok (e,k')∧l.drop k'.1=r:=by
 obtain ⟨n',k',e1,e2,e3⟩:=h n k r hr hn hd
 exact⟨k',by rw[e1,qf (by omega) e3 ha],e3⟩
theorem XB.and {x y:Ex} {t u:List Tok} (hx:XB v l t x) (hy:XC v l u y):XB v l (t++kM ⟨#[38,38]⟩ :: u) {Ex.zero with op:=3,kids:=[x,y]}:=fun n k r hr hn hd=>by
 rw[List.length_append,List.length_cons] at hn ⊢
 have hd:l.drop k.1=t++(kM ⟨#[38,38]⟩ :: (u++r)):=by rw[hd];simp
 obtain ⟨n1,k1,e1,e2,e3⟩:=hx n k (kM ⟨#[38,38]⟩ :: (u++r)) (by simp) (by omega) hd
 obtain ⟨n1,rfl⟩:∃ m,n1=m+1:=⟨n1 - 1,by omega⟩
 obtain ⟨k2,e4,e5⟩:=hy n1 (nx k1) r hr (by omega) (aN e3 (by simp[hr]))
 exact⟨n1,k2,by rw[e1,cF,cC e3,cp,if_pos rfl,e4,aa],by omega,e5⟩
theorem XE.or {x y:Ex} {t u:List Tok} (hx:XE v l t x) (hy:XB v l u y):XE v l (t++kM ⟨#[124,124]⟩ :: u) {Ex.zero with op:=4,kids:=[x,y]}:=fun n k r hr ha hn hd=>by
 rw[List.length_append,List.length_cons] at hn ⊢
 have hd:l.drop k.1=t++(kM ⟨#[124,124]⟩ :: (u++r)):=by rw[hd];simp
 obtain ⟨n1,k1,e1,e2,e3⟩:=hx n k (kM ⟨#[124,124]⟩ :: (u++r)) (by simp) (bU (by decide) _) (by omega) hd
 obtain ⟨n1,rfl⟩:∃ m,n1=m+1:=⟨n1 - 1,by omega⟩
 obtain ⟨k2,e4,e5⟩:=hy.fin (n:=n1) (k:=nx k1) hr ha (by omega) (aN e3 (by simp[hr]))
 exact⟨n1,k2,by rw[e1,cG,cC e3,cp,if_pos rfl,e4,aa],by omega,e5⟩
theorem XC.not {x:Ex} {t:List Tok} (hx:XC v l t x):XC v l (kM ⟨#[33]⟩ :: t) {Ex.zero with op:=2,kids:=[x]}:=fun n k r hr hn hd=>by
 rw[List.length_cons] at hn
 obtain ⟨n,rfl⟩:∃ m,n=m+1:=⟨n - 1,by omega⟩
 have hd:l.drop k.1=kM ⟨#[33]⟩ :: (t++r):=hd
 obtain ⟨k2,e4,e5⟩:=hx n (nx k) r hr (by omega) (aN hd (by simp[hr]))
 exact⟨k2,by rw[dD,cC hd,cp,if_pos rfl,e4,aa],e5⟩
theorem Eb:∀ (N:Nat) (e:Ex),SizeOf.sizeOf e<N→∀ {lim lev:Int},fy lim lev e=true→1≤(exK e).length
 |0,_,h,_,_,_=>absurd h (Nat.not_lt_zero _)
 |N+1,e,h,lim,lev,hn=>by
  obtain ⟨-,-,ho⟩:=ny hn
  rcases ho with⟨x,rfl⟩|⟨x,y,rfl⟩|⟨x,y,rfl⟩|⟨-,-,-,-,-,-,he⟩|⟨-,-,-,-,he⟩
  ·rw[AC,List.length_cons];omega
  ·rw[AD,List.length_append,List.length_cons];omega
  ·rw[AE,List.length_append,List.length_cons];omega
  ·rw[he,AF];simp
  ·rw[he,AG];simp
theorem Gl (v:Bool):∀ (N:Nat) (e:Ex) (lev:Int),SizeOf.sizeOf e<N→fy (rh v) lev e=true→(e.op≠3→e.op≠4→XC v l (exK e) e)∧(e.op≠4→XB v l (exK e) e)∧XE v l (exK e) e
 |0,_,_,h,_=>absurd h (Nat.not_lt_zero _)
 |N+1,e,lev,h,hn=>by
  obtain ⟨hk,-,ho⟩:=ny hn
  have hp:=Eb _ e (Nat.lt_succ_self _) hn
  have ih:∀ x∈e.kids,(x.op≠3→x.op≠4→XC v l (exK x) x)∧(x.op≠4→XB v l (exK x) x)∧XE v l (exK x) x:=fun x hx=>
   Gl v N x (lev+1) (by have:=fW hx;omega) (by rw[List.all_eq_true] at hk;exact hk x hx)
  have opd:∀ x∈e.kids,∀ b:Bool,(b=false→x.op≠3∧x.op≠4)→XC v l (kK b (exK x)) x:=fun x hx b hb=>by
   cases b with
   |true=>exact(ih x hx).2.2.par
   |false=>exact(ih x hx).1 (hb rfl).1 (hb rfl).2
  have key:XC v l (exK e) e→(e.op≠3→e.op≠4→XC v l (exK e) e)∧(e.op≠4→XB v l (exK e) e)∧XE v l (exK e) e:=fun h=>
   ⟨fun _ _=>h,fun _=>h.both hp,(h.both hp).eith hp⟩
  rcases ho with⟨x,rfl⟩|⟨x,y,rfl⟩|⟨x,y,rfl⟩|⟨a0,a1,b0,b1,r0,r1,he⟩|⟨a0,a1,n0,n1,he⟩
  ·refine key ?_
   rw[AC]
   refine XC.not (opd x (.head _) _ fun hb=>?_)
   have:x.op=2:=by simpa using hb
   omega
  ·have hB:XB v l (exK {Ex.zero with op:=3,kids:=[x,y]}) {Ex.zero with op:=3,kids:=[x,y]}:=by
    rw[AD]
    have hy:=opd y (.tail _ (.head _)) (decide (y.op=4) || decide (y.op=3)) fun hb=>by
     simp only[Bool.or_eq_false_iff,decide_eq_false_iff_not] at hb
     exact⟨hb.2,hb.1⟩
    refine XB.and ?_ hy
    by_cases hx:x.op=4
    ·rw[decide_eq_true hx]
     exact(ih x (.head _)).2.2.par.both (by rw[oY];simp)
    ·rw[decide_eq_false hx]
     exact(ih x (.head _)).2.1 hx
   exact⟨fun h=>absurd rfl h,fun _=>hB,hB.eith hp⟩
  ·have hE:XE v l (exK {Ex.zero with op:=4,kids:=[x,y]}) {Ex.zero with op:=4,kids:=[x,y]}:=by
    rw[AE]
    refine XE.or (ih x (.head _)).2.2 ?_
    by_cases hy:y.op=4
    ·rw[decide_eq_true hy]
     exact(ih y (.tail _ (.head _))).2.2.par.both (by rw[oY];simp)
    ·rw[decide_eq_false hy]
     exact(ih y (.tail _ (.head _))).2.1 hy
   exact⟨fun _ h=>absurd rfl h,fun h=>absurd rfl h,hE⟩
  ·refine key fun n k r hr hn hd=>?_
   rw[he,AF] at hd hn
   obtain ⟨n,rfl⟩:∃ m,n=m+1:=⟨n - 1,by omega⟩
   obtain ⟨k',e1,e2⟩:=DO a0 a1 b0 b1 r0 r1 hr (v:=v) hd
   refine⟨k',?_,e2⟩
   have m1:isM ⟨#[33]⟩ k=false:=by rw[cC hd];rfl
   have m2:isM ⟨#[40]⟩ k=false:=by rw[cC hd];rfl
   rw[dD,m1,m2,if_neg (by decide),if_neg (by decide),he]
   exact e1
  ·refine key fun n k r hr hn hd=>?_
   rw[he,AG] at hd hn
   obtain ⟨n,rfl⟩:∃ m,n=m+1:=⟨n - 1,by omega⟩
   obtain ⟨k',e1,e2⟩:=DP a0 a1 n0 n1 hr (v:=v) hd
   refine⟨k',?_,e2⟩
   have m1:isM ⟨#[33]⟩ k=false:=by rw[cC hd];rfl
   have m2:isM ⟨#[40]⟩ k=false:=by rw[cC hd];rfl
   rw[dD,m1,m2,if_neg (by decide),if_neg (by decide),he]
   exact e1
mutual
theorem qp (lim:Int):∀ (e:Ex) (lev:Int),fy lim lev e=true→(cz e:Int)+lev≤13
 |⟨op,a,rel,b,names,set,kids⟩,lev,h=>by
  rw[fy,Bool.and_eq_true] at h
  have h1:lev≤12:=by
   have:=h.1
   unfold mO at this
   simp only[Bool.and_eq_true,decide_eq_true_eq] at this
   exact this.1.1
  have h2:=oC lim kids (lev+1) h.2
  rw[cz]
  omega
theorem oC (lim:Int):∀ (l:List Ex) (lev:Int),kF lim lev l=true→cS l=0∨(cS l:Int)+lev≤13
 |[],_,_=>.inl (by rw[cS])
 |x :: l,lev,h=>by
  rw[kF,Bool.and_eq_true] at h
  have h1:=qp lim x lev h.1
  have h2:=oC lim l lev h.2
  rw[cS]
  omega
end
theorem qb {k:Ix l} {r:List Tok} (he:gE e v=true) (hr:r≠[]) (ha:hM ⟨#[38,38]⟩ r=false) (ho:hM ⟨#[124,124]⟩ r=false) (h:l.drop k.1=exK e++r):∃ k',dG v k= .ok (e,k')∧l.drop k'.1=r:=by
 have he:fy (rh v) 1 e=true:=he
 obtain ⟨n',k',e1,e2,e3⟩:=(Gl (l:=l) v _ e 1 (Nat.lt_succ_self _) he).2.2 (fuel l) k r hr ha (by have:=lW h;rw[List.length_append] at this;unfold fuel;omega) h
 have h1:(exK e).length≤l.length:=by have:=lW h;rw[List.length_append] at this;omega
 refine⟨k',?_,e3⟩
 unfold dG
 rw[e1,ql (by unfold fuel at e2;omega) e3 ho,aa]
 dsimp only
 rw[if_neg (by have:=qp _ e 1 he;omega)]
end
end Am
namespace Am
open Tk
set_option maxRecDepth 100000
set_option maxHeartbeats 4000000
def bxN (op:Int):Nat:=if op=6∨op=7 then 4 else if op=3 then 3 else if op=5 then 2 else 1
def bxM (op:Int):ByteArray:=if op=6 then⟨#[61,61]⟩ else if op=7 then⟨#[33,61]⟩ else if op=3 then⟨#[38,38]⟩ else if op=5 then⟨#[94]⟩ else⟨#[124,124]⟩
def stN (op:Int):Nat:=if op=1∨op=2 then 5 else bxN op
def jr (b:Bool) (t:List Tok):List Tok:=if b=true then kM ⟨#[40]⟩ :: (t++[kM ⟨#[41]⟩]) else t
def bxH (op:Int) (names:List ByteArray) (ts:List (List Tok)) (ops:List Int):List Tok:=
 if op=1 then[kN (names.getD 0 ⟨#[]⟩)]
 else if op=2 then kM ⟨#[33]⟩ :: jr (decide (stN (ops.getD 0 0)<5)) (ts.getD 0 [])
 else jr (decide (stN (ops.getD 0 0)<bxN op)) (ts.getD 0 [])++kM (bxM op) :: jr (decide (stN (ops.getD 1 0)<bxN op+1)) (ts.getD 1 [])
mutual
def bxK:Ex→List Tok
 |⟨op,_,_,_,names,_,kids⟩=>bxH op names (Ar kids) (kids.map (·.op))
def Ar:List Ex→List (List Tok)
 |[]=>[]
 |x :: l=>bxK x :: Ar l
end
theorem te:∀ l:List Ex,Ar l=l.map bxK
 |[]=>by rw[Ar];rfl
 |x :: l=>by rw[Ar,te l];rfl
theorem vy (e:Ex):bxK e=bxH e.op e.names (e.kids.map bxK) (e.kids.map (·.op)):=by
 cases e;rw[bxK,te]
theorem Ao (s:ByteArray):bxK {Ex.zero with op:=1,names:=[s]}=[kN s]:=by rw[vy];rfl
theorem Ap (x:Ex):bxK {Ex.zero with op:=2,kids:=[x]}=kM ⟨#[33]⟩ :: jr (decide (stN x.op<5)) (bxK x):=by rw[vy];rfl
theorem Aq {op:Int} (h1:op≠1) (h2:op≠2) (x y:Ex):bxK {Ex.zero with op:=op,kids:=[x,y]}=jr (decide (stN x.op<bxN op)) (bxK x)++kM (bxM op) :: jr (decide (stN y.op<bxN op+1)) (bxK y):=by
 rw[vy]
 show bxH op [] [bxK x,bxK y] [x.op,y.op]=_
 unfold bxH
 rw[if_neg h1,if_neg h2];rfl
theorem oX (b:Bool) (t:List Tok):(jr b t).length=t.length+if b=true then 2 else 0:=by
 unfold jr
 cases b <;> simp
def opH (r:List Tok) (n:Nat):Int:=
 if n=4 then(if hM ⟨#[61,61]⟩ r=true then 6 else if hM ⟨#[33,61]⟩ r=true then 7 else 0)
 else if n=3 then(if hM ⟨#[38,38]⟩ r=true then 3 else 0)
 else if n=2 then(if hM ⟨#[94]⟩ r=true then 5 else 0)
 else if n=1 then(if hM ⟨#[124,124]⟩ r=true then 4 else 0)
 else 0
section
variable {ts:List Tok} {i:Nat} {r t:List Tok} {e:Ex}
theorem oy (h:ts.drop i=r) (m:ByteArray):isK ts i m=hM m r:=by
 have e:ts[i]? =r[0]?:=by rw[← h,List.getElem?_drop];rfl
 unfold isK
 rw[e]
 cases r <;> rfl
theorem GG (h:ts.drop i=r) (n:Nat):opK ts i n=opH r n:=by
 unfold opK opH
 simp only[oy h]
theorem lf {a b:List Tok} (h:ts.drop i=a++b):ts.drop (i+a.length)=b:=by
 rw[← List.drop_drop,h,List.drop_left]
theorem JV {s:ByteArray} (h:ts.drop i=kN s :: r) (hs:idB s=true):nmK ts i=some s:=by
 have e:ts[i]? =some (kN s):=by
  have:(ts.drop i)[0]? =ts[i+0]?:=List.getElem?_drop
  rw[h] at this;exact this.symm
 unfold nmK
 rw[e]
 dsimp only
 rw[if_pos ⟨rfl,hs⟩]
def Bw (n:Nat) (r:List Tok):Prop:=∀ m,n≤m→opH r m=0
def CN (dm:Nat) (ts t:List Tok) (e:Ex):Prop:=∀ (f i d:Nat) (r:List Tok),d≤dm→8*t.length≤f→ts.drop i=t++r→dv ts f i d= .ok (e,i+t.length)
def CB (n dm:Nat) (ts t:List Tok) (e:Ex):Prop:=∀ (f i d:Nat) (r:List Tok),d≤dm→8*t.length+6≤f+n→Bw n r→ts.drop i=t++r→dX ts f n i d= .ok (e,i+t.length)
def CK (s dm:Nat) (ts t:List Tok) (e:Ex):Prop:=∀ (f i d:Nat) (r:List Tok),d≤dm→8*t.length+6≤f+s→Bw (s+1) r→ts.drop i=t++r→∃ f',dX ts f s i d=eN ts f' s e (i+t.length) d∧f≤f'+t.length
theorem DN {f n d:Nat} (hf:0<f) (h:ts.drop i=r) (h0:opH r n=0):eN ts f n e i d= .ok (e,i):=by
 obtain ⟨f,rfl⟩:∃ m,f=m+1:=⟨f - 1,by omega⟩
 rw[eN,GG h,h0,if_pos rfl]
variable {dm:Nat}
theorem CN.bin (h:CN dm ts t e) (ht:1≤t.length):CB 5 dm ts t e:=fun f i d r hd hf ho hr=>by
 obtain ⟨f,rfl⟩:∃ m,f=m+1:=⟨f - 1,by omega⟩
 rw[dX,if_pos (by decide)]
 exact h f i d r hd (by omega) hr
theorem CB.down {n:Nat} (h:CB (n+1) dm ts t e) (ht:1≤t.length) (hn:n≤4):CK n dm ts t e:=fun f i d r hd hf ho hr=>by
 obtain ⟨f,rfl⟩:∃ m,f=m+1:=⟨f - 1,by omega⟩
 refine⟨f,?_,by omega⟩
 rw[dX,if_neg (by omega),h f i d r hd (by omega) ho hr,aa]
theorem CK.fin {n:Nat} (h:CK n dm ts t e) (ht:1≤t.length) (hn:n≤5):CB n dm ts t e:=fun f i d r hd hf ho hr=>by
 obtain ⟨f',e1,e2⟩:=h f i d r hd hf (fun m hm=>ho m (by omega)) hr
 rw[e1,DN (by omega) (lf hr) (ho n (Nat.le_refl _))]
theorem CB.all1 (ht:1≤t.length):∀ (j n:Nat),CB (n+j) dm ts t e→n+j≤5→CB n dm ts t e
 |0,n,h,_=>h
 |j+1,n,h,hn=>by
  have h1:CB (n+1) dm ts t e:=CB.all1 ht j (n+1) (by rwa [show n+1+j=n+(j+1) by omega]) (by omega)
  exact(h1.down ht (by omega)).fin ht (by omega)
theorem CB.all {n m:Nat} (h:CB n dm ts t e) (ht:1≤t.length) (hn:n≤5) (hm:m≤n):CB m dm ts t e:=
 CB.all1 ht (n - m) m (by rwa [show m+(n - m)=n by omega]) (by omega)
theorem CN.name {s:ByteArray} (hs:idB s=true):CN dm ts [kN s] {Ex.zero with op:=1,names:=[s]}:=fun f i d r hd hf hr=>by
 have hf:8≤f:=hf
 obtain ⟨f,rfl⟩:∃ m,f=m+1:=⟨f - 1,by omega⟩
 have hr:ts.drop i=kN s :: r:=hr
 rw[dv,oy hr,jn,if_neg (by decide),oy hr,jn,if_neg (by decide),JV hr hs]
 rfl
theorem CN.not {x:Ex} (h:CN (dm+1) ts t x) (hd:dm<12):CN dm ts (kM ⟨#[33]⟩ :: t) {Ex.zero with op:=2,kids:=[x]}:=fun f i d r hd2 hf hr=>by
 rw[List.length_cons] at hf ⊢
 obtain ⟨f,rfl⟩:∃ m,f=m+1:=⟨f - 1,by omega⟩
 have hr:ts.drop i=kM ⟨#[33]⟩ :: (t++r):=hr
 have h1:ts.drop (i+1)=t++r:=by rw[← List.drop_drop,hr];rfl
 rw[dv,oy hr,cp,if_pos rfl,if_neg (by omega),h f (i+1) (d+1) r (by omega) (by omega) h1,aa]
 dsimp only
 rw[show i+1+t.length=i+(t.length+1) by omega]
theorem Bx (n:Nat) (r:List Tok):Bw n (kM ⟨#[41]⟩ :: r):=fun m _=>by
 unfold opH
 simp only[bU (show decide ((⟨#[41]⟩:ByteArray)=⟨#[61,61]⟩)=false by decide),bU (show decide ((⟨#[41]⟩:ByteArray)=⟨#[33,61]⟩)=false by decide),bU (show decide ((⟨#[41]⟩:ByteArray)=⟨#[38,38]⟩)=false by decide),bU (show decide ((⟨#[41]⟩:ByteArray)=⟨#[94]⟩)=false by decide),bU (show decide ((⟨#[41]⟩:ByteArray)=⟨#[124,124]⟩)=false by decide),Bool.false_eq_true,if_false]
 repeat' split
 all_goals rfl
theorem CB.par (h:CB 1 (dm+1) ts t e) (hd:dm<12):CN dm ts (jr true t) e:=fun f i d r hd2 hf hr=>by
 rw[oX,if_pos rfl] at hf ⊢
 obtain ⟨f,rfl⟩:∃ m,f=m+1:=⟨f - 1,by omega⟩
 have hr:ts.drop i=kM ⟨#[40]⟩ :: (t++kM ⟨#[41]⟩ :: r):=by rw[hr];simp[jr]
 have h1:ts.drop (i+1)=t++kM ⟨#[41]⟩ :: r:=by rw[← List.drop_drop,hr];rfl
 rw[dv,oy hr,bU (by decide),if_neg (by decide),oy hr,cp,if_pos rfl,if_neg (by omega),h f (i+1) (d+1) (kM ⟨#[41]⟩ :: r) (by omega) (by omega) (Bx _ _) h1,aa]
 dsimp only
 rw[oy (lf h1),cp,if_pos rfl,show i+1+t.length+1=i+(t.length+2) by omega]
theorem Ib {op:Int} (h:op=3∨op=4∨op=5∨op=6∨op=7) (r:List Tok):opH (kM (bxM op) :: r) (bxN op)=op∧Bw (bxN op+1) (kM (bxM op) :: r)∧1≤bxN op∧bxN op≤4:=by
 have hm:∀ u s:ByteArray,hM s (kM u :: r)=decide (u=s):=fun u s=>by simp[hM]
 rcases h with rfl|rfl|rfl|rfl|rfl
 all_goals
  refine⟨?_,fun m hm2=>?_,by decide,by decide⟩
  ·unfold opH
   simp only[hm];decide
  ·unfold opH
   simp only[hm]
   have hs:bxN 3=3∧bxN 4=1∧bxN 5=2∧bxN 6=4∧bxN 7=4:=by decide
   simp only[hs] at hm2
   repeat' split
   all_goals first|rfl|omega|(rename_i h1 h2;revert h2;decide)|(rename_i h1;revert h1;decide)
theorem CK.bin {op:Int} {x y:Ex} {u:List Tok} (h:op=3∨op=4∨op=5∨op=6∨op=7) (hx:CK (bxN op) dm ts t x) (hy:CB (bxN op+1) dm ts u y) (hu:1≤u.length):CK (bxN op) dm ts (t++kM (bxM op) :: u) {Ex.zero with op:=op,kids:=[x,y]}:=fun f i d r hd hf ho hr=>by
 rw[List.length_append,List.length_cons] at hf ⊢
 have hr:ts.drop i=t++(kM (bxM op) :: (u++r)):=by rw[hr];simp
 obtain ⟨s1,s2,s3,s4⟩:=Ib h (u++r)
 obtain ⟨f1,e1,e2⟩:=hx f i d (kM (bxM op) :: (u++r)) hd (by omega) s2 hr
 obtain ⟨f1,rfl⟩:∃ m,f1=m+1:=⟨f1 - 1,by omega⟩
 have h1:=lf hr
 have h2:ts.drop (i+t.length+1)=u++r:=by rw[← List.drop_drop,h1];rfl
 refine⟨f1,?_,by omega⟩
 have ne:¬ op=0:=by omega
 rw[e1,eN,GG h1,s1,if_neg ne,hy f1 (i+t.length+1) d r hd (by omega) ho h2,aa]
 dsimp only
 rw[show i+t.length+1+u.length=i+(t.length+(u.length+1)) by omega]
end
end Am
namespace Am
open Tk
set_option maxRecDepth 100000
set_option maxHeartbeats 4000000
theorem Kg {α:Type}:∀ {l:List α},l.length=2→∃ x y,l=[x,y]
 |[x,y],_=>⟨x,y,rfl⟩
theorem jy {e:Ex} {level:Int} (h:cZ e level=0):level≤12∧((∃ s,idB s=true∧e= {Ex.zero with op:=1,names:=[s]})∨(∃ x,e= {Ex.zero with op:=2,kids:=[x]})∨(∃ op x y,(op=3∨op=4∨op=5∨op=6∨op=7)∧e= {Ex.zero with op:=op,kids:=[x,y]})):=by
 unfold cZ at h
 by_cases h1:12<level
 ·rw[if_pos h1] at h;cases h
 rw[if_neg h1] at h
 refine⟨by omega,?_⟩
 by_cases h2:cV e.op<0∨e.a≠0∨e.b≠0∨e.rel≠0∨Se.eqB e.set Se.zero=false∨(e.kids.length:Int)≠cV e.op∨(e.names.length:Int)≠(if cV e.op=0 then 1 else 0)
 ·rw[if_pos h2] at h;cases h
 rw[if_neg h2] at h
 obtain ⟨op,a,rel,b,names,set,kids⟩:=e
 dsimp only at h h2
 simp only[not_or,Decidable.not_not] at h2
 obtain ⟨q1,q2,q3,q4,q5,q6,q7⟩:=h2
 have hset:set=Se.zero:=by
  have q5:Se.eqB set Se.zero=true:=by simpa using q5
  unfold Se.eqB at q5
  simp only[Bool.and_eq_true,decide_eq_true_eq] at q5
  obtain ⟨a1,a2,a3,a4⟩:=set
  obtain ⟨p1,p2,p3,p4⟩:=q5
  dsimp only at p1 p2 p3 p4
  rw[p1,p2,p3,p4]
 subst q2 q3 q4 hset
 by_cases o1:op=1
 ·subst o1
  have e1:cV 1=0:=rfl
  rw[e1] at q6 q7 h
  rw[if_pos rfl] at q7
  obtain ⟨s,rfl⟩:=List.length_eq_one_iff.1 (show names.length=1 by omega)
  have hk:kids=[]:=List.eq_nil_of_length_eq_zero (by omega)
  subst hk
  refine .inl ⟨s,?_,rfl⟩
  cases hi:idB s with
  |true=>rfl
  |false=>rw[if_pos ⟨rfl,hi⟩] at h;cases h
 by_cases o2:op=2
 ·subst o2
  have e1:cV 2=1:=rfl
  rw[e1] at q6 q7
  rw[if_neg (by decide)] at q7
  obtain ⟨x,rfl⟩:=List.length_eq_one_iff.1 (show kids.length=1 by omega)
  have hk:names=[]:=List.eq_nil_of_length_eq_zero (by omega)
  subst hk
  exact .inr (.inl ⟨x,rfl⟩)
 by_cases o3:op=3∨op=4∨op=5∨op=6∨op=7
 ·have e1:cV op=2:=by unfold cV;rw[if_neg o1,if_neg o2,if_pos o3]
  rw[e1] at q6 q7
  rw[if_neg (by decide)] at q7
  obtain ⟨x,y,rfl⟩:=Kg (show kids.length=2 by omega)
  have hk:names=[]:=List.eq_nil_of_length_eq_zero (by omega)
  subst hk
  exact .inr (.inr ⟨op,x,y,o3,rfl⟩)
 ·exfalso
  unfold cV at q1
  rw[if_neg o1,if_neg o2,if_neg o3] at q1
  exact q1 (by decide)
theorem tx:∀ {l:List Int},gA l=0→∀ x∈l,x=0
 |[],_,_,h=>by cases h
 |y :: l,h0,x,h=>by
  rw[gA] at h0
  by_cases hy:y=0
  ·rw[if_pos hy] at h0
   rcases List.mem_cons.1 h with rfl|h
   ·exact hy
   ·exact tx h0 x h
  ·rw[if_neg hy] at h0;exact absurd h0 hy
theorem jW {e:Ex} {level:Int} (h:cB level e=0):cZ e level=0∧∀ x∈e.kids,cB (level+1) x=0:=by
 rw[nQ] at h
 by_cases hb:cZ e level=0
 ·rw[if_pos hb] at h
  exact⟨hb,fun x hx=>tx h _ (List.mem_map.2 ⟨x,hx,rfl⟩)⟩
 ·rw[if_neg hb] at h;exact absurd h hb
section
variable {ts:List Tok}
theorem CN.mono {t:List Tok} {e:Ex} {a b:Nat} (h:CN b ts t e) (hab:a≤b):CN a ts t e:=fun f i d r hd hf hr=>h f i d r (by omega) hf hr
theorem CK.mono {t:List Tok} {e:Ex} {s a b:Nat} (h:CK s b ts t e) (hab:a≤b):CK s a ts t e:=fun f i d r hd hf ho hr=>h f i d r (by omega) hf ho hr
theorem Kd {op:Int} (h:op=3∨op=4∨op=5∨op=6∨op=7):stN op=bxN op∧1≤bxN op∧bxN op≤4:=by
 rcases h with rfl|rfl|rfl|rfl|rfl <;> decide
structure BXs (ts:List Tok) (L:Nat) (e:Ex):Prop where
 ps:1≤(bxK e).length
 le:L≤12
 cn:stN e.op=5→CN (L - 1) ts (bxK e) e
 ck:stN e.op≠5→1≤stN e.op∧stN e.op≤4∧CK (stN e.op) L ts (bxK e) e
theorem BXs.cb {L:Nat} {e:Ex} (h:BXs ts L e) {n:Nat} (hn:n≤stN e.op):CB n (L - 1) ts (bxK e) e:=by
 by_cases h5:stN e.op=5
 ·exact((h.cn h5).bin h.ps).all h.ps (Nat.le_refl _) (by omega)
 ·obtain ⟨a,b,c⟩:=h.ck h5
  exact((c.mono (Nat.sub_le _ _)).fin h.ps (by omega)).all h.ps (by omega) hn
theorem BXs.cb1 {L:Nat} {e:Ex} (h:BXs ts L e) (h5:stN e.op≠5):CB 1 L ts (bxK e) e:=by
 obtain ⟨a,b,c⟩:=h.ck h5
 exact(c.fin h.ps (by omega)).all h.ps (by omega) a
theorem BXs.par {L:Nat} {e:Ex} (h:BXs ts (L+1) e) (h5:stN e.op≠5):CN L ts (jr true (bxK e)) e:=(h.cb1 h5).par (by have:=h.le;omega)
theorem BXs.opd {L:Nat} {e:Ex} (h:BXs ts (L+1) e) {s:Nat} (h0:1≤s) (hs:s≤5):CB s L ts (jr (decide (stN e.op<s)) (bxK e)) e∧1≤(jr (decide (stN e.op<s)) (bxK e)).length:=by
 by_cases hw:stN e.op<s
 ·rw[decide_eq_true hw]
  have hp:1≤(jr true (bxK e)).length:=by rw[oX];simp
  exact⟨((h.par (by omega)).bin hp).all hp (Nat.le_refl _) hs,hp⟩
 ·rw[decide_eq_false hw]
  exact⟨h.cb (by omega),h.ps⟩
theorem BXs.opk {L:Nat} {e:Ex} (h:BXs ts (L+1) e) {s:Nat} (h0:1≤s) (hs:s≤4):CK s L ts (jr (decide (stN e.op<s)) (bxK e)) e:=by
 by_cases hw:stN e.op<s
 ·rw[decide_eq_true hw]
  have hp:1≤(jr true (bxK e)).length:=by rw[oX];simp
  exact(((h.par (by omega)).bin hp).all hp (Nat.le_refl _) (show s+1≤5 by omega)).down hp hs
 ·rw[decide_eq_false hw]
  show CK s L ts (bxK e) e
  by_cases he:stN e.op=s
  ·obtain ⟨a,b,c⟩:=h.ck (by omega)
   rw[he] at c
   exact c.mono (Nat.le_succ L)
  ·exact CB.down (h.cb (n:=s+1) (by omega)) h.ps hs
theorem Gk:∀ (N:Nat) (e:Ex) (L:Nat),SizeOf.sizeOf e<N→1≤L→cB (L:Int) e=0→BXs ts L e
 |0,_,_,h,_,_=>absurd h (Nat.not_lt_zero _)
 |N+1,e,L,h,hL,hb=>by
  obtain ⟨hn,hk⟩:=jW hb
  obtain ⟨hl,ho⟩:=jy hn
  have ih:∀ x∈e.kids,BXs ts (L+1) x:=fun x hx=>Gk N x (L+1) (by have:=fW hx;omega) (by omega) (hk x hx)
  rcases ho with⟨s,hs,rfl⟩|⟨x,rfl⟩|⟨op,x,y,hop,rfl⟩
  ·exact⟨by rw[Ao];simp,by omega,fun _=>(by rw[Ao];exact CN.name hs),fun h=>absurd rfl h⟩
  ·have hx:=ih x (.head _)
   refine⟨by rw[Ap];simp,by omega,fun _=>?_,fun h=>absurd rfl h⟩
   rw[Ap]
   refine CN.not ?_ (by omega)
   rw[show L - 1+1=L by omega]
   by_cases h5:stN x.op=5
   ·rw[decide_eq_false (by omega)]
    exact hx.cn h5
   ·have:stN x.op<5:=by have:=(hx.ck h5).2.1;omega
    rw[decide_eq_true this]
    exact hx.par h5
  ·have hx:=ih x (.head _)
   have hy:=ih y (.tail _ (.head _))
   obtain ⟨s1,s2,s3⟩:=Kd hop
   have h1:op≠1:=by omega
   have h2:op≠2:=by omega
   refine⟨by rw[Aq h1 h2,List.length_append,List.length_cons];omega,by omega,fun h=>?_,fun _=>⟨by rw[show({Ex.zero with op:=op,kids:=[x,y]}:Ex).op=op from rfl];omega,by rw[show({Ex.zero with op:=op,kids:=[x,y]}:Ex).op=op from rfl];omega,?_⟩⟩
   ·have h:stN op=5:=h
    omega
   ·show CK (stN op) L ts _ _
    rw[Aq h1 h2,s1]
    obtain ⟨c1,c2⟩:=hy.opd (s:=bxN op+1) (by omega) (by omega)
    exact CK.bin hop (hx.opk s2 s3) c1 c2
end
mutual
theorem qo:∀ (e:Ex) (lev:Int),cB lev e=0→(cz e:Int)+lev≤13
 |⟨op,a,rel,b,names,set,kids⟩,lev,h=>by
  rw[cB] at h
  by_cases hb:cZ ⟨op,a,rel,b,names,set,kids⟩ lev=0
  ·rw[if_pos hb] at h
   have h1:=(jy hb).1
   have h2:=oB kids (lev+1) h
   rw[cz]
   omega
  ·rw[if_neg hb] at h;exact absurd h hb
theorem oB:∀ (l:List Ex) (lev:Int),kv lev l=0→cS l=0∨(cS l:Int)+lev≤13
 |[],_,_=>.inl (by rw[cS])
 |x :: l,lev,h=>by
  rw[kv] at h
  by_cases hb:cB lev x=0
  ·rw[if_pos hb] at h
   have h1:=qo x lev hb
   have h2:=oB l lev h
   rw[cS]
   omega
  ·rw[if_neg hb] at h;exact absurd h hb
end
theorem EO (n:Nat) (r:List Tok):Bw n (kM ⟨#[123]⟩ :: r):=fun m _=>by
 unfold opH
 simp only[bU (show decide ((⟨#[123]⟩:ByteArray)=⟨#[61,61]⟩)=false by decide),bU (show decide ((⟨#[123]⟩:ByteArray)=⟨#[33,61]⟩)=false by decide),bU (show decide ((⟨#[123]⟩:ByteArray)=⟨#[38,38]⟩)=false by decide),bU (show decide ((⟨#[123]⟩:ByteArray)=⟨#[94]⟩)=false by decide),bU (show decide ((⟨#[123]⟩:ByteArray)=⟨#[124,124]⟩)=false by decide),Bool.false_eq_true,if_false]
 repeat' split
 all_goals rfl
theorem DQ {l:List Tok} {k:Ix l} {r:List Tok} {e:Ex} (he:cB 1 e=0) (h:l.drop k.1=bxK e++kM ⟨#[123]⟩ :: r):∃ k',fQ tksK k= .ok (e,k')∧l.drop k'.1=kM ⟨#[123]⟩ :: r:=by
 have hb:=Gk (ts:=l.drop k.1) _ e 1 (Nat.lt_succ_self _) (Nat.le_refl _) he
 have hs:1≤stN e.op:=by
  by_cases h5:stN e.op=5
  ·omega
  ·exact(hb.ck h5).1
 have e1:=hb.cb hs (8*(l.drop k.1).length+16) 0 0 (kM ⟨#[123]⟩ :: r) (by omega) (by rw[h,List.length_append];omega) (EO _ _) h
 have hlt:k.1+(bxK e).length<l.length:=by
  have:=congrArg List.length h
  rw[List.length_drop,List.length_append,List.length_cons] at this
  omega
 have e2:tF k (k.1+(bxK e).length)=⟨k.1+(bxK e).length,hlt⟩:=by unfold tF;rw[dif_pos hlt]
 refine⟨⟨k.1+(bxK e).length,hlt⟩,?_,lf h⟩
 unfold fQ tksK
 rw[e1,aa]
 dsimp only
 rw[if_neg (by have:=qo e 1 he;omega),aa]
 dsimp only
 rw[Nat.zero_add,e2]
end Am
namespace Am
open Tk
set_option maxRecDepth 100000
set_option maxHeartbeats 4000000
theorem qS:∀ n,n<15→gT n=atS n:=by
 intro n h
 have hc:n=0∨n=1∨n=2∨n=3∨n=4∨n=5∨n=6∨n=7∨n=8∨n=9∨n=10∨n=11∨n=12∨n=13∨n=14:=by omega
 have d:∀ u,u<10→Lib.decDigits u=[UInt8.ofNat (48+u)]:=fun u h=>by rw[Lib.decDigits,dif_pos h]
 unfold gT
 rcases hc with rfl|rfl|rfl|rfl|rfl|rfl|rfl|rfl|rfl|rfl|rfl|rfl|rfl|rfl|rfl
 all_goals(rw[d _ (by decide)];first|rfl|decide)
theorem nP:∀ n,n<15→dW (atS n).data.toList=true:=by decide
theorem vq {n:Nat} (h:n<15):SB true (gT n) [kN (atS n)]:=by
 rw[qS n h]
 exact ScK.name (nP n h)
def nh (b:ByteArray):Prop:=∃ c r,b.data.toList=c :: r∧c≠61
theorem nh.app {a:ByteArray} (h:nh a) (b:ByteArray):nh (a++b):=by
 obtain ⟨c,r,e,hc⟩:=h
 exact⟨c,r++b.data.toList,by rw[iv,e];rfl,hc⟩
theorem rM {s:ByteArray} (h:dW s.data.toList=true):nh s:=by
 unfold nh
 cases hs:s.data.toList with
 |nil=>rw[hs] at h;cases h
 |cons c r=>
  refine⟨c,r,rfl,?_⟩
  rintro rfl
  rw[hs] at h
  unfold dW at h
  simp only[Bool.and_eq_true,List.all_cons] at h
  exact absurd h.2.1 (by decide)
theorem Ip {n:Int} (h0:0≤n) (h1:n<5):SB true (si n) [wi n]:=by
 have hc:n=0∨n=1∨n=2∨n=3∨n=4:=by omega
 rcases hc with rfl|rfl|rfl|rfl|rfl
 ·exact ScK.weak (ScK.mark2 (c:=61) (d:=61) (by decide)) true
 ·exact ScK.weak (ScK.mark2 (c:=33) (d:=61) (by decide)) true
 ·exact ScK.name (s:=⟨#[100,111,109]⟩) (by decide)
 ·exact ScK.name (s:=⟨#[100,111,109,98,121]⟩) (by decide)
 ·exact ScK.name (s:=⟨#[105,110,99,111,109,112]⟩) (by decide)
theorem sb_in:SB false ⟨#[32,105,110,32]⟩ [kN ⟨#[105,110]⟩]:=
 ScK.sp.app ((ScK.name (s:=⟨#[105,110]⟩) (by decide)).app ScK.sp fun _=>by decide) fun h=>by cases h
theorem K5 {c d:UInt8} (t:ByteArray) (ht:t.data.toList=[32,c,d,32]) (h:[c,d]∈marks2):SB false t [kM ⟨#[c,d]⟩]:=by
 unfold SB
 rw[ht]
 exact ScK.sp.app ((ScK.mark2 h).app ScK.sp fun h=>by cases h) fun h=>by cases h
theorem I8 {ns:List ByteArray} (h0:ns≠[]):nsK ⟨false,false,false,ns,[]⟩=inK ns:=by
 have e:elN ⟨false,false,false,ns,[]⟩=ns.map .nm:=by simp[elN]
 have e2:fO (ns.map El.nm)=ns.map kN:=by
  unfold fO
  rw[List.map_map]
  induction ns with
  |nil=>rfl
  |cons x l ih=>
   cases l with
   |nil=>rfl
   |cons y l=>
    rw[List.map_cons,List.flatten_cons,ih (by simp) (by simp[elN])]
    rfl
 unfold nsK j6
 rw[e,e2]
 cases ns with
 |nil=>exact absurd rfl h0
 |cons x l=>
  cases l with
  |nil=>rfl
  |cons y l=>
   rw[if_neg (by simp),if_neg (by simp),if_neg (by simp)]
   rfl
theorem rX {p:Bool} {t:ByteArray} {ts:List Tok} (h:SB true t ts):SB true (fi p t) (kK p ts):=by
 unfold fi kK
 cases p with
 |false=>exact h
 |true=>
  rw[if_pos rfl,if_pos rfl,aL]
  have h2:=(j1 (c:=40) (by decide) (by decide)).appF (h.app (j1 (c:=41) (by decide) (by decide)) fun _=>by decide)
  exact SB.weak h2
theorem BP {p:Bool} {t:ByteArray} (h:nh t):nh (fi p t):=by
 unfold fi
 cases p with
 |false=>exact h
 |true=>
  rw[if_pos rfl,aL]
  exact nh.app ⟨40,[],rfl,by decide⟩ _
theorem AM:∀ l:List Ex,tt l=l.map exT
 |[]=>by rw[tt];rfl
 |x :: l=>by rw[tt,AM l];rfl
theorem kq (e:Ex):exT e=exH e.op e.a e.rel e.b e.names (e.kids.map exT) (e.kids.map (·.op)):=by
 cases e;rw[exT,AM]
theorem xg {n:Bool} {t:ByteArray} {ts:List Tok} (h:SB n t ts) (hn:nh t):SB n (⟨#[33]⟩++t) (kM ⟨#[33]⟩ :: ts):=by
 unfold SB
 rw[iv]
 exact ScK.bang h hn
theorem Gx {lim:Int} (hl:lim≤15):∀ (N:Nat) (e:Ex) (lev:Int),SizeOf.sizeOf e<N→fy lim lev e=true→SB true (exT e) (exK e)∧nh (exT e)
 |0,_,_,h,_=>absurd h (Nat.not_lt_zero _)
 |N+1,e,lev,h,hn=>by
  obtain ⟨hk,-,ho⟩:=ny hn
  have ih:∀ x∈e.kids,SB true (exT x) (exK x)∧nh (exT x):=fun x hx=>Gx hl N x (lev+1) (by have:=fW hx;omega) (by rw[List.all_eq_true] at hk;exact hk x hx)
  rcases ho with⟨x,rfl⟩|⟨x,y,rfl⟩|⟨x,y,rfl⟩|⟨a0,a1,b0,b1,r0,r1,he⟩|⟨a0,a1,n0,n1,he⟩
  ·obtain ⟨h1,h2⟩:=ih x (.head _)
   have e:exT {Ex.zero with op:=2,kids:=[x]}=⟨#[33]⟩++fi (decide (x.op≠2)) (exT x):=by rw[kq];rfl
   rw[e,AC]
   exact⟨xg (rX h1) (BP h2),nh.app ⟨33,[],rfl,by decide⟩ _⟩
  ·obtain ⟨h1,h2⟩:=ih x (.head _)
   obtain ⟨h3,h4⟩:=ih y (.tail _ (.head _))
   have e:exT {Ex.zero with op:=3,kids:=[x,y]}=fi (decide (x.op=4)) (exT x)++(⟨#[32,38,38,32]⟩++fi (decide (y.op=4) || decide (y.op=3)) (exT y)):=by rw[kq,←aL];rfl
   rw[e,AD]
   exact⟨(rX h1).app ((K5 ⟨#[32,38,38,32]⟩ rfl (by decide)).appF (rX h3)) fun _=>aE _ (by decide),(BP h2).app _⟩
  ·obtain ⟨h1,h2⟩:=ih x (.head _)
   obtain ⟨h3,h4⟩:=ih y (.tail _ (.head _))
   have e:exT {Ex.zero with op:=4,kids:=[x,y]}=exT x++(⟨#[32,124,124,32]⟩++fi (decide (y.op=4)) (exT y)):=by rw[kq,←aL];rfl
   rw[e,AE]
   exact⟨h1.app ((K5 ⟨#[32,124,124,32]⟩ rfl (by decide)).appF (rX h3)) fun _=>aE _ (by decide),h2.app _⟩
  ·have ea:e.a.toNat<15:=by omega
   have eb:e.b.toNat<15:=by omega
   have e1:exT e=gT e.a.toNat++(⟨#[32]⟩++(si e.rel++(⟨#[32]⟩++gT e.b.toNat))):=by
    rw[kq,←aL,←aL,←aL]
    have:e.op=8:=by rw[he]
    rw[this];rfl
   have e2:exK e=[kN (atS e.a.toNat),wi e.rel,kN (atS e.b.toNat)]:=by rw[he,AF]
   rw[e1,e2]
   refine⟨(vq ea).app (sb_sp.appF ((Ip r0 r1).app (sb_sp.appF (vq eb)) fun _=>aE _ (by decide))) fun _=>aE _ (by decide),?_⟩
   rw[qS _ ea]
   exact(rM (nP _ ea)).app _
  ·have ea:e.a.toNat<15:=by omega
   have hnb:au ⟨false,false,false,e.names,[]⟩ false=true:=by
    unfold au
    have:0<e.names.length:=List.length_pos_iff.2 n0
    simp[n1,this]
   have e1:exT e=gT e.a.toNat++(⟨#[32,105,110,32]⟩++nsT ⟨false,false,false,e.names,[]⟩):=by
    rw[kq,←aL]
    have:e.op=9:=by rw[he]
    rw[this];rfl
   have e2:exK e=kN (atS e.a.toNat) :: kN ⟨#[105,110]⟩ :: inK e.names:=by
    conv=>lhs;rw[he,AG]
   rw[e1,e2,←I8 n0]
   refine⟨(vq ea).app (sb_in.appF (bQ hnb)) fun _=>aE _ (by decide),?_⟩
   rw[qS _ ea]
   exact(rM (nP _ ea)).app _
theorem xr {e:Ex} {v:Bool} (h:gE e v=true):SB true (exT e) (exK e):=
 (Gx (lim:=rh v) (by cases v <;> decide) _ e 1 (Nat.lt_succ_self _) h).1
theorem An:∀ l:List Ex,tc l=l.map btI
 |[]=>by rw[tc];rfl
 |x :: l=>by rw[tc,An l];rfl
theorem qg (e:Ex):btI e=btH e.op e.names (e.kids.map btI) (e.kids.map (·.op)):=by
 cases e;rw[btI,An]
theorem wa {st least:Int} {b:Bool} {t:ByteArray} {ts:List Tok} (hb:b=decide (st<least)) (h:SB true t ts) (hn:nh t):SB true (ir st least t) (jr b ts)∧nh (ir st least t):=by
 subst hb
 unfold ir jr
 by_cases hl:st<least
 ·rw[if_pos hl,decide_eq_true hl,if_pos rfl,aL]
  exact⟨SB.weak ((j1 (c:=40) (by decide) (by decide)).appF (h.app (j1 (c:=41) (by decide) (by decide)) fun _=>by decide)),nh.app ⟨40,[],rfl,by decide⟩ _⟩
 ·rw[if_neg hl,decide_eq_false hl,if_neg (by decide)]
  exact⟨h,hn⟩
theorem sw (op:Int) (h:op=1∨op=2∨op=3∨op=4∨op=5∨op=6∨op=7):gz op=(stN op:Int):=by
 rcases h with rfl|rfl|rfl|rfl|rfl|rfl|rfl <;> rfl
theorem nk {e:Ex} {lev:Int} (h:cB lev e=0):e.op=1∨e.op=2∨e.op=3∨e.op=4∨e.op=5∨e.op=6∨e.op=7:=by
 obtain ⟨-,ho⟩:=jy (jW h).1
 rcases ho with⟨s,-,rfl⟩|⟨x,rfl⟩|⟨op,x,y,hop,rfl⟩
 ·exact .inl rfl
 ·exact .inr (.inl rfl)
 ·exact .inr (.inr hop)
theorem Fy {op:Int} (h:op=3∨op=4∨op=5∨op=6∨op=7):SB false (jR op) [kM (bxM op)]:=by
 rcases h with rfl|rfl|rfl|rfl|rfl
 ·exact ScK.mark2 (c:=38) (d:=38) (by decide)
 ·exact ScK.mark2 (c:=124) (d:=124) (by decide)
 ·exact j1 (c:=94) (by decide) (by decide)
 ·exact ScK.mark2 (c:=61) (d:=61) (by decide)
 ·exact ScK.mark2 (c:=33) (d:=61) (by decide)
theorem Gn:∀ (N:Nat) (e:Ex) (lev:Int),SizeOf.sizeOf e<N→cB lev e=0→SB true (btI e) (bxK e)∧nh (btI e)
 |0,_,_,h,_=>absurd h (Nat.not_lt_zero _)
 |N+1,e,lev,h,hb=>by
  obtain ⟨hn,hk⟩:=jW hb
  obtain ⟨-,ho⟩:=jy hn
  have ih:∀ x∈e.kids,SB true (btI x) (bxK x)∧nh (btI x):=fun x hx=>Gn N x (lev+1) (by have:=fW hx;omega) (hk x hx)
  rcases ho with⟨s,hs,rfl⟩|⟨x,rfl⟩|⟨op,x,y,hop,rfl⟩
  ·have e:btI {Ex.zero with op:=1,names:=[s]}=s:=by rw[qg];rfl
   rw[e,Ao]
   exact⟨SB.name hs,rM (xJ hs)⟩
  ·obtain ⟨h1,h2⟩:=ih x (.head _)
   have ex:=sw x.op (nk (hk x (.head _)))
   have e:btI {Ex.zero with op:=2,kids:=[x]}=⟨#[33]⟩++ir (gz x.op) 5 (btI x):=by rw[qg];rfl
   rw[e,Ap]
   obtain ⟨p1,p2⟩:=wa (st:=gz x.op) (least:=5) (b:=decide (stN x.op<5)) (by rw[ex,decide_eq_decide];omega) h1 h2
   exact⟨xg p1 p2,nh.app ⟨33,[],rfl,by decide⟩ _⟩
  ·obtain ⟨h1,h2⟩:=ih x (.head _)
   obtain ⟨h3,h4⟩:=ih y (.tail _ (.head _))
   have ex:=sw x.op (nk (hk x (.head _)))
   have ey:=sw y.op (nk (hk y (.tail _ (.head _))))
   have es:eA op=(bxN op:Int):=by rcases hop with rfl|rfl|rfl|rfl|rfl <;> rfl
   have e:btI {Ex.zero with op:=op,kids:=[x,y]}=ir (gz x.op) (eA op) (btI x)++(⟨#[32]⟩++(jR op++(⟨#[32]⟩++ir (gz y.op) (eA op+1) (btI y)))):=by
    rw[qg,←aL,←aL,←aL]
    rcases hop with rfl|rfl|rfl|rfl|rfl <;> rfl
   rw[e,Aq (by omega) (by omega)]
   obtain ⟨p1,p2⟩:=wa (st:=gz x.op) (least:=eA op) (b:=decide (stN x.op<bxN op)) (by rw[ex,es,decide_eq_decide];omega) h1 h2
   obtain ⟨q1,q2⟩:=wa (st:=gz y.op) (least:=eA op+1) (b:=decide (stN y.op<bxN op+1)) (by rw[ey,es,decide_eq_decide];omega) h3 h4
   exact⟨p1.app (sb_sp.appF ((Fy hop).appF (sb_sp.appF q1))) fun _=>aE _ (by decide),p2.app _⟩
theorem E2 {e:Ex} (h:cB 1 e=0):SB true (btT e 0) (bxK e):=by
 have h1:=(Gn _ e 1 (Nat.lt_succ_self _) h).1
 unfold btT ir
 rw[if_neg ?_]
 ·exact h1
 ·rw[sw e.op (nk h)];omega
end Am
end Go.Proofs.YtkpodagbefnebaaGreatDoor
