import Derived.Test.YtkpodagbefnebaaGreatDoorYh23
import Derived.Test.YtkpodagbefnebaaGreatDoorYh9
set_option linter.unusedSimpArgs false
set_option linter.unusedVariables false
set_option linter.unusedSectionVars false
namespace Go.Proofs.YtkpodagbefnebaaGreatDoor
namespace Am
open Tk
set_option maxRecDepth 100000
set_option maxHeartbeats 4000000
def uK (u:LTok):Tok:=⟨u.kind,⟨u.text.toArray⟩,⟨0,0⟩⟩
def hdN:List UInt8→Bool
 |[]=>false
 |c :: _=>!nmB c
def ScK (n:Bool) (b:List UInt8) (ts:List Tok):Prop:=∀ (o:Nat) (r:List UInt8),(n=true→r=[]∨hdN r=true)→∃ us,us.map uK=ts∧dS o (b++r)=LR.app us (dS (o+b.length) r)
theorem rN (r:LR):LR.app [] r=r:=by cases r <;> rfl
theorem ScK.nil:ScK false [] []:=fun o r _=>⟨[],rfl,(rN _).symm⟩
theorem ScK.app {n m:Bool} {a b:List UInt8} {ts us:List Tok} (h1:ScK n a ts) (h2:ScK m b us) (hh:n=true→hdN b=true):ScK m (a++b) (ts++us):=fun o r hr=>by
 have hb:n=true→b++r=[]∨hdN (b++r)=true:=fun h=>by
  have:=hh h
  cases b with
  |nil=>cases this
  |cons c b=>exact .inr this
 obtain ⟨u1,e1,s1⟩:=h1 o (b++r) hb
 obtain ⟨u2,e2,s2⟩:=h2 (o+a.length) r hr
 refine⟨u1++u2,by rw[List.map_append,e1,e2],?_⟩
 rw[List.append_assoc,s1,s2,LR.app_app,List.length_append,Nat.add_assoc]
theorem ScK.weak {b:List UInt8} {ts:List Tok} (h:ScK false b ts) (n:Bool):ScK n b ts:=fun o r _=>h o r fun h=>by cases h
theorem yN {r:List UInt8} (h:r=[]∨hdN r=true):r=[]∨∃ c r',r=c :: r'∧nmB c=false:=by
 rcases h with h|h
 ·exact .inl h
 ·cases r with
  |nil=>exact .inl rfl
  |cons c r=>exact .inr ⟨c,r,rfl,by simpa [hdN] using h⟩
theorem ScK.name {s:ByteArray} (h:fk s.data.toList=true):ScK true s.data.toList [kN s]:=fun o r hr=>
 ⟨[⟨1,s.data.toList,o⟩],rfl,Ap o h (yN (hr rfl))⟩
theorem ScK.num {s:ByteArray} (h:D0 s.data.toList=true):ScK true s.data.toList [kI s]:=fun o r hr=>
 ⟨[⟨2,s.data.toList,o⟩],rfl,DF o h (by
   rcases yN (hr rfl) with h|⟨c,r',h1,h2⟩
   ·exact .inl h
   ·refine .inr ⟨c,r',h1,?_⟩
    unfold nmB at h2
    rw[Bool.or_eq_false_iff] at h2
    exact h2.2)⟩
theorem ScK.str {s:ByteArray} (h:quoB s.data.toList=true):ScK false (34 :: (s.data.toList++[34])) [kS s]:=fun o r _=>
 ⟨[⟨3,s.data.toList,o⟩],rfl,by
   have:=Aq (r:=r) o h
   rw[this];simp⟩
theorem ScK.mark1 {c:UInt8} (h:marks1.contains c=true) (h2:c≠33):ScK false [c] [kM ⟨#[c]⟩]:=fun o r _=>
 ⟨[⟨4,[c],o⟩],rfl,qf o h fun e=>absurd e h2⟩
theorem ScK.mark2 {c d:UInt8} (h:[c,d]∈marks2):ScK false [c,d] [kM ⟨#[c,d]⟩]:=fun o r _=>
 ⟨[⟨4,[c,d],o⟩],rfl,xE o h⟩
theorem ScK.sp:ScK false [32] []:=fun o r _=>⟨[],rfl,by rw[rN];exact GW o⟩
theorem ScK.nl:ScK false [10] []:=fun o r _=>⟨[],rfl,by
 rw[rN]
 exact qc (j:=1) o (by simp) (by simp[Tk.skipL,bi];omega)⟩
theorem ScK.bang {n:Bool} {b:List UInt8} {ts:List Tok} (h:ScK n b ts) (hb:∃ c r,b=c :: r∧c≠61):ScK n (33 :: b) (kM ⟨#[33]⟩ :: ts):=fun o r hr=>by
 obtain ⟨c,b',rfl,hc⟩:=hb
 obtain ⟨us,e1,e2⟩:=h (o+1) r hr
 refine⟨⟨4,[33],o⟩ :: us,by rw[List.map_cons,e1];rfl,?_⟩
 show dS o (33 :: (c :: b'++r))=_
 have hm:=qf (c:=33) (r:=c :: b'++r) o (by decide) fun _=>⟨c,b'++r,rfl,hc⟩
 rw[hm,e2,LR.app_app,List.length_cons,Nat.add_assoc,Nat.add_comm 1]
 rfl
def SB (n:Bool) (t:ByteArray) (ts:List Tok):Prop:=ScK n t.data.toList ts
theorem iy (a b:ByteArray):(a++b).data.toList=a.data.toList++b.data.toList:=by rw[ByteArray.data_append,Array.toList_append]
theorem SB.app {n m:Bool} {a b:ByteArray} {ts us:List Tok} (h1:SB n a ts) (h2:SB m b us) (hh:n=true→hdN b.data.toList=true):SB m (a++b) (ts++us):=by
 unfold SB
 rw[iy]
 exact ScK.app h1 h2 hh
theorem SB.appF {m:Bool} {a b:ByteArray} {ts us:List Tok} (h1:SB false a ts) (h2:SB m b us):SB m (a++b) (ts++us):=h1.app h2 fun h=>by cases h
theorem aF {a:ByteArray} (b:ByteArray) (h:hdN a.data.toList=true):hdN (a++b).data.toList=true:=by
 rw[iy]
 cases ha:a.data.toList with
 |nil=>rw[ha] at h;cases h
 |cons c l=>rw[ha] at h;exact h
theorem SB.scan {n:Bool} {t:ByteArray} {ts:List Tok} (h:SB n t ts) (hz:t.size≤65536):∃ l,gf t= .ok l∧l.map npT=ts++[⟨0,⟨#[]⟩,⟨0,0⟩⟩]:=by
 obtain ⟨us,e1,e2⟩:=h 0 [] fun _=>.inl rfl
 rw[List.append_nil] at e2
 have e3:∀ o,dS o []= .ok [⟨0,[],o⟩]:=fun o=>rfl
 rw[e3] at e2
 refine⟨(us++[(⟨0,[],0+t.data.toList.length⟩:LTok)]).map (LTok.at t.data.toList),?_,?_⟩
 ·rw[zi t hz,e2];rfl
 ·rw[← e1,List.map_append,List.map_append,List.map_map];rfl
end Am
namespace Am
open Tk
set_option maxRecDepth 100000
set_option maxHeartbeats 4000000
section
variable {l:List Tok} {k:Ix l} {r:List Tok}
def spK (s:Sp):List Tok:=kN s.frm :: (if s.to=⟨#[]⟩ then[] else[kM ⟨#[46]⟩,kN s.to])
def np:List Sp→List Tok
 |[]=>[]
 |[x]=>spK x
 |x :: y :: l=>spK x++kM ⟨#[44]⟩ :: np (y :: l)
def lvK (v:Lv):List Tok:=kN v.sens :: (if v.cats=[] then[] else kM ⟨#[58]⟩ :: np v.cats)
def rgK (g:Rg):List Tok:=lvK g.lo++(if iN g.hi=true then[] else kM ⟨#[45]⟩ :: lvK g.hi)
def cxK (c:Ct):List Tok:=kN c.user :: kM ⟨#[58]⟩ :: kN c.role :: kM ⟨#[58]⟩ :: kN c.type :: kM ⟨#[58]⟩ :: rgK c.rng
theorem yn {s:Sp} (hs:spB s=true) (hr:r≠[]) (hd:hM ⟨#[46]⟩ r=false) (h:l.drop k.1=spK s++r):∃ k',fu k= .ok (s,k')∧l.drop k'.1=r:=by
 unfold spB at hs
 simp only[Bool.and_eq_true,Bool.or_eq_true,decide_eq_true_eq] at hs
 unfold fu
 unfold spK at h
 by_cases ht:s.to=⟨#[]⟩
 ·rw[if_pos ht] at h
  have h:l.drop k.1=kN s.frm :: r:=h
  have h1:=aO h hr
  refine⟨nx k,?_,h1⟩
  rw[bw h hs.1,aa]
  dsimp only
  rw[cG h1,hd,if_neg (by decide),←ht]
 ·rw[if_neg ht] at h
  have h:l.drop k.1=kN s.frm :: kM ⟨#[46]⟩ :: kN s.to :: r:=h
  have h1:=aO h (by simp)
  have h2:=aO h1 (by simp)
  refine⟨nx (nx (nx k)),?_,aO h2 hr⟩
  rw[bw h hs.1,aa]
  dsimp only
  rw[cG h1,cr,if_pos rfl,bw h2 (hs.2.resolve_left ht)]
  rfl
theorem qM:∀ (cs:List Sp) (m:Nat) (v:Lv) (k:Ix l),cs.length<m→cs≠[]→r≠[]→hM ⟨#[46]⟩ r=false→hM ⟨#[44]⟩ r=false→cs.all spB=true→l.drop k.1=np cs++r→∃ k',cU m v k= .ok ({v with cats:=v.cats++cs},k')∧l.drop k'.1=r
 |[],_,_,_,_,h,_,_,_,_,_=>absurd rfl h
 |[x],m+1,v,k,hm,_,hr,hd,hc,hi,h=>by
  have hx:spB x=true:=by simpa using hi
  have h:l.drop k.1=spK x++r:=h
  obtain ⟨k',e1,e2⟩:=yn hx hr hd h
  refine⟨k',?_,e2⟩
  rw[cU,e1,aa]
  dsimp only
  rw[cG e2,hc,if_neg (by decide)]
 |x :: y :: cs,m+1,v,k,hm,_,hr,hd,hc,hi,h=>by
  rw[List.all_cons,Bool.and_eq_true] at hi
  have h:l.drop k.1=spK x++(kM ⟨#[44]⟩ :: (np (y :: cs)++r)):=by rw[h,np];simp
  obtain ⟨k1,e1,e2⟩:=yn hi.1 (r:=kM ⟨#[44]⟩ :: (np (y :: cs)++r)) (by simp) (bX (by decide) _) h
  obtain ⟨k',e3,e4⟩:=qM (y :: cs) m {v with cats:=v.cats++[x]} (nx k1) (by simp at hm ⊢;omega) (by simp) hr hd hc hi.2 (aO e2 (by simp[hr]))
  refine⟨k',?_,e4⟩
  rw[cU,e1,aa]
  dsimp only
  rw[cG e2,cr,if_pos rfl,e3]
  simp
theorem vH:∀ cs:List Sp,cs.length≤(np cs).length
 |[]=>Nat.le_refl _
 |[x]=>by simp[np,spK]
 |x :: y :: cs=>by
  have:=vH (y :: cs)
  rw[np]
  simp[spK] at this ⊢
  omega
theorem lN {v:Lv} (hv:lvB v=true) (hr:r≠[]) (hd:hM ⟨#[46]⟩ r=false) (hc:hM ⟨#[44]⟩ r=false) (hn:hM ⟨#[58]⟩ r=false) (h:l.drop k.1=lvK v++r):∃ k',eI k= .ok (v,k')∧l.drop k'.1=r:=by
 unfold lvB at hv
 rw[Bool.and_eq_true] at hv
 obtain ⟨se,cs⟩:=v
 unfold eI
 unfold lvK at h
 dsimp only at h hv ⊢
 by_cases h0:cs=[]
 ·subst h0
  have h:l.drop k.1=kN se :: r:=h
  have h1:=aO h hr
  refine⟨nx k,?_,h1⟩
  rw[bw h hv.1,aa]
  dsimp only
  rw[cG h1,hn,if_neg (by decide)]
 ·rw[if_neg h0] at h
  have h:l.drop k.1=kN se :: kM ⟨#[58]⟩ :: (np cs++r):=by rw[h];simp
  have h1:=aO h (by simp)
  have h2:=aO h1 (by simp[hr])
  obtain ⟨k',e1,e2⟩:=qM cs (fuel l) ⟨se,[]⟩ (nx (nx k)) (by have a:=mJ h2;have b:=vH cs;rw[List.length_append] at a;unfold fuel;omega) h0 hr hd hc hv.2 h2
  refine⟨k',?_,e2⟩
  rw[bw h hv.1,aa]
  dsimp only
  rw[cG h1,cr,if_pos rfl,e1]
  rfl
theorem wt {v:Lv} (h:iN v=true):v=Lv.zero:=by
 unfold iN at h
 simp only[Bool.and_eq_true,decide_eq_true_eq] at h
 obtain ⟨s,c⟩:=v
 have h1:s=⟨#[]⟩:=h.1
 have h2:c=[]:=List.eq_nil_of_length_eq_zero h.2
 subst h1 h2;rfl
theorem oP {g:Rg} (hg:rgB g=true) (hr:r≠[]) (hd:hM ⟨#[46]⟩ r=false) (hc:hM ⟨#[44]⟩ r=false) (hn:hM ⟨#[58]⟩ r=false) (hm:hM ⟨#[45]⟩ r=false) (h:l.drop k.1=rgK g++r):∃ k',fr k= .ok (g,k')∧l.drop k'.1=r:=by
 unfold rgB at hg
 simp only[Bool.and_eq_true,Bool.or_eq_true] at hg
 obtain ⟨lo,hi⟩:=g
 unfold fr
 unfold rgK at h
 dsimp only at h hg ⊢
 by_cases hb:iN hi=true
 ·rw[if_pos hb] at h
  rw[List.append_nil] at h
  obtain ⟨k',e1,e2⟩:=lN hg.1 hr hd hc hn h
  refine⟨k',?_,e2⟩
  rw[e1,aa]
  dsimp only
  rw[cG e2,hm,if_neg (by decide),wt hb]
 ·rw[if_neg hb] at h
  have h:l.drop k.1=lvK lo++(kM ⟨#[45]⟩ :: (lvK hi++r)):=by rw[h];simp
  obtain ⟨k1,e1,e2⟩:=lN hg.1 (r:=kM ⟨#[45]⟩ :: (lvK hi++r)) (by simp) (bX (by decide) _) (bX (by decide) _) (bX (by decide) _) h
  obtain ⟨k',e3,e4⟩:=lN (hg.2.resolve_left hb) hr hd hc hn (aO e2 (by simp[lvK]))
  refine⟨k',?_,e4⟩
  rw[e1,aa]
  dsimp only
  rw[cG e2,cr,if_pos rfl,e3,aa]
theorem oN {c:Ct} (hx:cxB c=true) (hr:r≠[]) (hd:hM ⟨#[46]⟩ r=false) (hc:hM ⟨#[44]⟩ r=false) (hn:hM ⟨#[58]⟩ r=false) (hm:hM ⟨#[45]⟩ r=false) (h:l.drop k.1=cxK c++r):∃ k',db k= .ok (c,k')∧l.drop k'.1=r:=by
 unfold cxB at hx
 simp only[Bool.and_eq_true] at hx
 obtain ⟨⟨⟨x1,x2⟩,x3⟩,x4⟩:=hx
 have h:l.drop k.1=kN c.user :: kM ⟨#[58]⟩ :: kN c.role :: kM ⟨#[58]⟩ :: kN c.type :: kM ⟨#[58]⟩ :: (rgK c.rng++r):=h
 have h1:=aO h (by simp)
 have h2:=aO h1 (by simp)
 have h3:=aO h2 (by simp)
 have h4:=aO h3 (by simp)
 have h5:=aO h4 (by simp)
 have h6:=aO h5 (by simp[hr])
 obtain ⟨k',e1,e2⟩:=oP x4 hr hd hc hn hm h6
 refine⟨k',?_,e2⟩
 unfold db
 rw[bw h x1,aa]
 dsimp only
 rw[fE h1,aa]
 dsimp only
 rw[bw h2 x2,aa]
 dsimp only
 rw[fE h3,aa]
 dsimp only
 rw[bw h4 x3,aa]
 dsimp only
 rw[fE h5,aa]
 dsimp only
 rw[e1,aa]
end
end Am
namespace Am
open Tk
set_option maxRecDepth 100000
set_option maxHeartbeats 4000000
theorem yP {s:ByteArray} (h:idB s=true):fk s.data.toList=true:=by
 unfold idB at h
 rw[Bool.and_eq_true] at h
 exact h.1
theorem SB.name {s:ByteArray} (h:idB s=true):SB true s [kN s]:=ScK.name (yP h)
theorem SB.weak {t:ByteArray} {ts:List Tok} {n:Bool} (h:SB n t ts):SB true t ts:=by
 cases n with
 |true=>exact h
 |false=>exact ScK.weak h true
theorem SB.nil:SB false ⟨#[]⟩ []:=ScK.nil
theorem sb_sp:SB false ⟨#[32]⟩ []:=ScK.sp
theorem Lw:SB false ⟨#[10]⟩ []:=ScK.nl
theorem jh {c:UInt8} (h:marks1.contains c=true) (h2:c≠33):SB false ⟨#[c]⟩ [kM ⟨#[c]⟩]:=ScK.mark1 h h2
theorem fB {w:ByteArray} (t:ByteArray) (h:fk w.data.toList=true) (ht:t.data.toList=w.data.toList++[32]):SB false t [kN w]:=by
 unfold SB
 rw[ht]
 exact(ScK.name h).app ScK.sp fun _=>by decide
theorem zg (c:UInt8) (t:ByteArray) (ht:t.data.toList=[c,32]) (h:marks1.contains c=true) (h2:c≠33):SB false t [kM ⟨#[c]⟩]:=by
 unfold SB
 rw[ht]
 exact(ScK.mark1 h h2).app ScK.sp fun h=>by cases h
theorem Lt (c:UInt8) (t:ByteArray) (ht:t.data.toList=[32,c]) (h:marks1.contains c=true) (h2:c≠33):SB false t [kM ⟨#[c]⟩]:=by
 unfold SB
 rw[ht]
 exact ScK.sp.app (ScK.mark1 h h2) fun h=>by cases h
theorem aL (a b c:ByteArray):a++b++c=a++(b++c):=ByteArray.append_assoc
theorem BD (a:ByteArray):a++(⟨#[]⟩:ByteArray)=a:=ByteArray.append_empty
theorem SB.sep {α:Type} {f:α→ByteArray} {g:α→List Tok} {sep:ByteArray} {S:List Tok} (hs:SB false sep S) (hh:hdN sep.data.toList=true):∀ (l:List α) (x:α),(∀ y∈x :: l,SB true (f y) (g y))→SB true (bC sep ((x :: l).map f)) (g x++(l.map fun y=>S++g y).flatten)
 |[],x,h=>by
  show SB true (f x++⟨#[]⟩) (g x++[])
  rw[BD,List.append_nil]
  exact h x (.head _)
 |y :: l,x,h=>by
  have ih:=SB.sep hs hh l y fun z hz=>h z (.tail _ hz)
  have e:bC sep ((x :: y :: l).map f)=f x++(sep++bC sep ((y :: l).map f)):=by
   show f x++(sep++f y++tlB sep (l.map f))=f x++(sep++(f y++tlB sep (l.map f)))
   rw[aL]
  rw[e]
  have e2:g x++((y :: l).map fun y=>S++g y).flatten=g x++(S++(g y++(l.map fun y=>S++g y).flatten)):=by simp
  rw[e2]
  exact(h x (.head _)).app (hs.appF ih) fun _=>aF _ hh
theorem rB {sep:ByteArray} {S:List Tok} (hs:SB false sep S) (hh:hdN sep.data.toList=true) {x:ByteArray} {l:List ByteArray} (hi:(x :: l).all idB=true):SB true (bC sep (x :: l)) (kN x :: (l.map fun y=>S++[kN y]).flatten):=by
 have h:=SB.sep (f:=fun s:ByteArray=>s) (g:=fun s=>[kN s]) hs hh l x fun y hy=>SB.name (by rw[List.all_eq_true] at hi;exact hi y hy)
 rw[List.map_id'] at h
 exact h
theorem uc {t:ByteArray} {ts:List Tok} (h:SB true t ts):SB false (⟨#[123,32]⟩++t++⟨#[32,125]⟩) (kM ⟨#[123]⟩ :: (ts++[kM ⟨#[125]⟩])):=by
 have h1:=(zg 123 ⟨#[123,32]⟩ rfl (by decide) (by decide)).appF h
 have h2:=h1.app (Lt 125 ⟨#[32,125]⟩ rfl (by decide) (by decide)) fun _=>by decide
 rw[List.append_assoc] at h2
 exact h2
theorem FN (l:List ByteArray):(l.map fun y=>([]:List Tok)++[kN y]).flatten=l.map kN:=by
 induction l with
 |nil=>rfl
 |cons x l ih=>rw[List.map_cons,List.flatten_cons,ih];rfl
theorem FM (l:List ByteArray):(l.map fun y=>[kM ⟨#[44]⟩]++[kN y]).flatten=coK l:=by
 induction l with
 |nil=>rfl
 |cons x l ih=>rw[List.map_cons,List.flatten_cons,ih];rfl
theorem ub {l:List ByteArray} (h0:l≠[]) (hi:l.all idB=true):SB false (brT l) (brK l):=by
 cases l with
 |nil=>exact absurd rfl h0
 |cons x l=>
  have h:=uc (rB sb_sp (by decide) hi)
  rw[FN] at h
  exact h
theorem sb_cs:SB false ⟨#[44,32]⟩ [kM ⟨#[44]⟩]:=zg 44 ⟨#[44,32]⟩ rfl (by decide) (by decide)
theorem me {l:List ByteArray} (h0:l≠[]) (hi:l.all idB=true):SB true (bC ⟨#[44,32]⟩ l) (liK l):=by
 cases l with
 |nil=>exact absurd rfl h0
 |cons x l=>
  have h:=rB sb_cs (by decide) hi
  rw[FM] at h
  exact h
def El.txt:El→ByteArray
 | .all=>⟨#[42]⟩
 | .self=>⟨#[115,101,108,102]⟩
 | .nm s=>s
 | .ex s=>⟨#[45,32]⟩++s
theorem HL {e:El} {self:Bool} (h:e.okE self=true):SB true e.txt e.tok:=by
 cases e with
 |all=>exact SB.weak (jh (c:=42) (by decide) (by decide))
 |self=>exact ScK.name (s:=⟨#[115,101,108,102]⟩) (by decide)
 |nm s=>exact SB.name h
 |ex s=>exact(zg 45 ⟨#[45,32]⟩ rfl (by decide) (by decide)).appF (SB.name h)
theorem xl (n:NS):nsL n=(elN n).map El.txt:=by
 unfold nsL sP lq elN
 simp only[List.map_append,List.map_map]
 have e1:(El.txt∘El.nm)=id:=rfl
 have e2:(El.txt∘El.ex)=fun s=>⟨#[45,32]⟩++s:=rfl
 rw[e1,e2,List.map_id]
 cases n.all <;> cases n.self <;> rfl
theorem IZ {es:List El} {self:Bool} (h0:es≠[]) (h:es.all (El.okE self)=true):SB true (bC ⟨#[32]⟩ (es.map El.txt)) (fX es):=by
 cases es with
 |nil=>exact absurd rfl h0
 |cons e es=>
  have h2:=SB.sep (f:=El.txt) (g:=El.tok) sb_sp (by decide) es e fun y hy=>HL (self:=self) (by rw[List.all_eq_true] at h;exact h y hy)
  have e2:(e.tok++(es.map fun y=>([]:List Tok)++y.tok).flatten)=fX (e :: es):=rfl
  rw[e2] at h2
  exact h2
theorem bU {n:NS} {self:Bool} (h:av n self=true):SB true (nsT n) (nsK n):=by
 obtain ⟨ho,h0⟩:=HK h
 have tl:SB false ⟨#[126,32]⟩ [kM ⟨#[126]⟩]:=zg 126 ⟨#[126,32]⟩ rfl (by decide) (by decide)
 have hl:(nsL n).length=(elN n).length:=by rw[xl,List.length_map]
 have hb:SB false (brT (nsL n)) (kM ⟨#[123]⟩ :: (fX (elN n)++[kM ⟨#[125]⟩])):=by
  unfold brT
  rw[xl]
  exact uc (IZ h0 ho)
 have h1:jn n=true→SB true ((nsL n).getD 0 ⟨#[]⟩) (fX (elN n)):=fun hs=>by
  obtain ⟨e,he,-⟩:=xJ hs
  rw[xl,he]
  rw[he] at ho
  have:=HL (e:=e) (self:=self) (by simpa using ho)
  have e2:fX [e]=e.tok:=by simp[fX]
  rw[e2]
  exact this
 have hs:jn n=true↔(nsL n).length=1∧n.except.length=0:=by
  unfold jn
  rw[hl,Bool.and_eq_true,decide_eq_true_eq,decide_eq_true_eq]
 unfold nsT nsK
 by_cases c1:n.nt=true∧(nsL n).length=1∧n.except.length=0∧n.names.length=1
 ·have c2:(n.nt&&jn n&&decide (n.names.length=1))=true:=by
   rw[c1.1,hs.2 ⟨c1.2.1,c1.2.2.1⟩,decide_eq_true c1.2.2.2];rfl
  rw[if_pos c1,if_pos c2]
  exact tl.appF (h1 (hs.2 ⟨c1.2.1,c1.2.2.1⟩))
 ·have c2:¬ (n.nt&&jn n&&decide (n.names.length=1))=true:=by
   intro c2
   simp only[Bool.and_eq_true,decide_eq_true_eq] at c2
   obtain ⟨q1,q2⟩:=hs.1 c2.1.2
   exact c1 ⟨c2.1.1,q1,q2,c2.2⟩
  rw[if_neg c1,if_neg c2]
  by_cases c3:n.nt=true
  ·rw[if_pos c3,if_pos c3]
   exact SB.weak (tl.appF hb)
  ·rw[if_neg c3,if_neg c3]
   by_cases c4:jn n=true
   ·rw[if_pos (hs.1 c4),if_pos c4]
    exact h1 c4
   ·rw[if_neg (fun h=>c4 (hs.2 h)),if_neg c4]
    exact SB.weak hb
theorem Lz {s:Sp} (h:spB s=true):SB true (spT s) (spK s):=by
 unfold spB at h
 simp only[Bool.and_eq_true,Bool.or_eq_true,decide_eq_true_eq] at h
 unfold spT spK
 by_cases ht:s.to=⟨#[]⟩
 ·rw[if_pos ht,if_pos ht]
  exact SB.name h.1
 ·rw[if_neg ht,if_neg ht,aL]
  exact(SB.name h.1).app ((jh (c:=46) (by decide) (by decide)).appF (SB.name (h.2.resolve_left ht))) fun _=>aF _ (by decide)
theorem uD:∀ (l:List Sp) (x:Sp),(spK x++(l.map fun y=>[kM ⟨#[44]⟩]++spK y).flatten)=np (x :: l)
 |[],x=>by simp[np]
 |y :: l,x=>by
  rw[np,←uD l y]
  simp
theorem yS {v:Lv} (h:lvB v=true):SB true (lvT v) (lvK v):=by
 unfold lvB at h
 rw[Bool.and_eq_true] at h
 unfold lvT lvK
 cases hc:v.cats with
 |nil=>
  rw[if_pos (show([]:List Sp).length=0 from rfl),if_pos rfl]
  exact SB.name h.1
 |cons x l=>
  rw[hc] at h
  rw[if_neg (by simp),if_neg (by simp),aL]
  have h2:=SB.sep (f:=spT) (g:=spK) (jh (c:=44) (by decide) (by decide)) (by decide) l x fun y hy=>Lz (by have:=h.2;rw[List.all_eq_true] at this;exact this y hy)
  rw[uD] at h2
  exact(SB.name h.1).app ((jh (c:=58) (by decide) (by decide)).appF h2) fun _=>aF _ (by decide)
theorem Dv {g:Rg} (h:rgB g=true):SB true (rgT g) (rgK g):=by
 unfold rgB at h
 simp only[Bool.and_eq_true,Bool.or_eq_true] at h
 unfold rgT rgK
 by_cases hb:iN g.hi=true
 ·rw[if_pos hb,if_pos hb,List.append_nil]
  exact yS h.1
 ·rw[if_neg hb,if_neg hb,aL]
  exact(yS h.1).app ((jh (c:=45) (by decide) (by decide)).appF (yS (h.2.resolve_left hb))) fun _=>aF _ (by decide)
theorem qT {c:Ct} (h:cxB c=true):SB true (cxT c) (cxK c):=by
 unfold cxB at h
 simp only[Bool.and_eq_true] at h
 obtain ⟨⟨⟨x1,x2⟩,x3⟩,x4⟩:=h
 unfold cxT cxK
 have col:SB false ⟨#[58]⟩ [kM ⟨#[58]⟩]:=jh (c:=58) (by decide) (by decide)
 simp only[aL]
 exact(SB.name x1).app (col.appF ((SB.name x2).app (col.appF ((SB.name x3).app (col.appF (Dv x4)) fun _=>aF _ (by decide))) fun _=>aF _ (by decide))) fun _=>aF _ (by decide)
end Am
namespace Am
open Tk
set_option maxRecDepth 100000
set_option maxHeartbeats 4000000
def atS (n:Nat):ByteArray:=⟨#[if n % 5=0 then 117 else if n % 5=1 then 114 else if n % 5=2 then 116 else if n % 5=3 then 108 else 104,49+UInt8.ofNat (n / 5)]⟩
theorem KT:∀ n,n<15→nr true (atS n)=some (n:Int):=by decide
theorem KS:∀ n,n<10→nr false (atS n)=some (n:Int):=by decide
def xx (n:Int):Tok:=if n=0 then kM ⟨#[61,61]⟩ else if n=1 then kM ⟨#[33,61]⟩ else if n=2 then kN ⟨#[100,111,109]⟩ else if n=3 then kN ⟨#[100,111,109,98,121]⟩ else kN ⟨#[105,110,99,111,109,112]⟩
def inK (l:List ByteArray):List Tok:=match l with
 |[x]=>[kN x]
 |_=>brK l
def lx (b:Bool) (t:List Tok):List Tok:=if b=true then kM ⟨#[40]⟩ :: (t++[kM ⟨#[41]⟩]) else t
def L6 (op a rel b:Int) (names:List ByteArray) (ts:List (List Tok)) (ops:List Int):List Tok:=
 if op=2 then kM ⟨#[33]⟩ :: lx (decide (ops.getD 0 0≠2)) (ts.getD 0 [])
 else if op=3 then lx (decide (ops.getD 0 0=4)) (ts.getD 0 [])++kM ⟨#[38,38]⟩ :: lx (decide (ops.getD 1 0=4) || decide (ops.getD 1 0=3)) (ts.getD 1 [])
 else if op=4 then ts.getD 0 []++kM ⟨#[124,124]⟩ :: lx (decide (ops.getD 1 0=4)) (ts.getD 1 [])
 else if op=9 then kN (atS a.toNat) :: kN ⟨#[105,110]⟩ :: inK names
 else[kN (atS a.toNat),xx rel,kN (atS b.toNat)]
mutual
def exK:Ex→List Tok
 |⟨op,a,rel,b,names,_,kids⟩=>L6 op a rel b names (C5 kids) (kids.map (·.op))
def C5:List Ex→List (List Tok)
 |[]=>[]
 |x :: l=>exK x :: C5 l
end
theorem ux:∀ l:List Ex,C5 l=l.map exK
 |[]=>by rw[C5];rfl
 |x :: l=>by rw[C5,ux l];rfl
theorem oZ (e:Ex):exK e=L6 e.op e.a e.rel e.b e.names (e.kids.map exK) (e.kids.map (·.op)):=by
 cases e;rw[exK,ux]
section
variable {l:List Tok} {k:Ix l} {r:List Tok}
abbrev sg (v:Bool):Int:=if v then 15 else 10
theorem rR {v:Bool} {a:Int} (h0:0≤a) (h1:a<sg v) (h:l.drop k.1=kN (atS a.toNat) :: r):gG v k= .ok (a,nx k):=by
 unfold gG
 have e:nr v (atS a.toNat)=some ((a.toNat:Nat):Int):=by
  cases v with
  |true=>exact KT _ (by simp[sg] at h1;omega)
  |false=>exact KS _ (by simp[sg] at h1;omega)
 have e2:((a.toNat:Nat):Int)=a:=Int.toNat_of_nonneg h0
 rw[gH h]
 dsimp only
 rw[e,e2]
 dsimp only
 rw[if_pos rfl]
theorem IL {n:Int} (h0:0≤n) (h1:n<5) (hr:r≠[]) (h:l.drop k.1=xx n :: r):jO k= .ok (n,nx k):=by
 unfold jO cY
 have hc:n=0∨n=1∨n=2∨n=3∨n=4:=by omega
 rcases hc with rfl|rfl|rfl|rfl|rfl
 ·have h:l.drop k.1=kM ⟨#[61,61]⟩ :: r:=h
  rw[cG h,cr,if_pos rfl]
 ·have h:l.drop k.1=kM ⟨#[33,61]⟩ :: r:=h
  rw[cG h,bX (by decide),if_neg (by decide),cG h,cr,if_pos rfl]
 ·have h:l.drop k.1=kN ⟨#[100,111,109]⟩ :: r:=h
  rw[cG h,jK,if_neg (by decide),cG h,jK,if_neg (by decide)]
  simp only[kK h,nU]
  rfl
 ·have h:l.drop k.1=kN ⟨#[100,111,109,98,121]⟩ :: r:=h
  rw[cG h,jK,if_neg (by decide),cG h,jK,if_neg (by decide)]
  simp only[kK h,nU]
  rfl
 ·have h:l.drop k.1=kN ⟨#[105,110,99,111,109,112]⟩ :: r:=h
  rw[cG h,jK,if_neg (by decide),cG h,jK,if_neg (by decide)]
  simp only[kK h,nU]
  rfl
theorem yQ {α:Type}:∀ {l:List α},l.length=2→∃ x y,l=[x,y]
 |[x,y],_=>⟨x,y,rfl⟩
theorem sL {lim lev:Int} {e:Ex} (h:fA lim lev e=true):e.kids.all (fA lim (lev+1))=true∧lev≤12∧
 ((∃ x,e= {Ex.zero with op:=2,kids:=[x]})∨(∃ x y,e= {Ex.zero with op:=3,kids:=[x,y]})∨(∃ x y,e= {Ex.zero with op:=4,kids:=[x,y]})∨
  (0≤e.a∧e.a<lim∧0≤e.b∧e.b<lim∧0≤e.rel∧e.rel<5∧e= {Ex.zero with op:=8,a:=e.a,rel:=e.rel,b:=e.b})∨
  (0≤e.a∧e.a<lim∧e.names≠[]∧e.names.all idB=true∧e= {Ex.zero with op:=9,a:=e.a,names:=e.names})):=by
 rw[j9,Bool.and_eq_true] at h
 obtain ⟨h,hk⟩:=h
 refine⟨hk,?_⟩
 obtain ⟨op,a,rel,b,names,set,kids⟩:=e
 unfold nB at h
 dsimp only at h ⊢
 simp only[Bool.and_eq_true,decide_eq_true_eq] at h
 obtain ⟨⟨h1,hs⟩,h⟩:=h
 refine⟨h1,?_⟩
 have hset:set=Se.zero:=by
  unfold Se.eqB at hs
  simp only[Bool.and_eq_true,decide_eq_true_eq] at hs
  obtain ⟨a1,a2,a3,a4⟩:=set
  obtain ⟨q1,q2,q3,q4⟩:=hs
  dsimp only at q1 q2 q3 q4
  rw[q1,q2,q3,q4]
 subst hset
 by_cases c1:op=2∨op=3∨op=4
 ·rw[if_pos c1] at h
  simp only[Bool.and_eq_true,decide_eq_true_eq] at h
  obtain ⟨⟨⟨⟨q1,q2⟩,q3⟩,q4⟩,q5⟩:=h
  have hn:names=[]:=List.eq_nil_of_length_eq_zero (by omega)
  subst q1 q2 q3 hn
  rcases c1 with rfl|rfl|rfl
  ·rw[if_pos rfl] at q5
   obtain ⟨x,rfl⟩:=List.length_eq_one_iff.1 (show kids.length=1 by omega)
   exact .inl ⟨x,rfl⟩
  ·rw[if_neg (by decide)] at q5
   obtain ⟨x,y,rfl⟩:=yQ (show kids.length=2 by omega)
   exact .inr (.inl ⟨x,y,rfl⟩)
  ·rw[if_neg (by decide)] at q5
   obtain ⟨x,y,rfl⟩:=yQ (show kids.length=2 by omega)
   exact .inr (.inr (.inl ⟨x,y,rfl⟩))
 rw[if_neg c1] at h
 by_cases c2:op=8
 ·rw[if_pos c2] at h
  simp only[Bool.and_eq_true,decide_eq_true_eq] at h
  obtain ⟨⟨⟨⟨⟨q1,q2⟩,q3,q4⟩,q5,q6⟩,q7⟩,q8⟩:=h
  have hn:names=[]:=List.eq_nil_of_length_eq_zero (by omega)
  have hkk:kids=[]:=List.eq_nil_of_length_eq_zero (by omega)
  subst c2 hn hkk
  exact .inr (.inr (.inr (.inl ⟨q1,q2,q3,q4,q5,q6,rfl⟩)))
 rw[if_neg c2] at h
 by_cases c3:op=9
 ·rw[if_pos c3] at h
  simp only[Bool.and_eq_true,decide_eq_true_eq] at h
  obtain ⟨⟨⟨⟨⟨q1,q2⟩,q3⟩,q4⟩,q5⟩,q6⟩:=h
  have hkk:kids=[]:=List.eq_nil_of_length_eq_zero (by omega)
  subst c3 q3 q4 hkk
  unfold kX at q5
  simp only[Bool.and_eq_true,decide_eq_true_eq] at q5
  refine .inr (.inr (.inr (.inr ⟨q1,q2,?_,?_,rfl⟩)))
  ·intro e;rw[e] at q5;simp at q5
  ·exact(by exact q5.2)
 ·rw[if_neg c3] at h;cases h
theorem J8 (x y:ByteArray) (r:List ByteArray):inK (x :: y :: r)=brK (x :: y :: r):=rfl
theorem Lb (x:ByteArray):inK [x]=[kN x]:=rfl
theorem Fg {v:Bool} {a rel b:Int} (a0:0≤a) (a1:a<sg v) (b0:0≤b) (b1:b<sg v) (r0:0≤rel) (r1:rel<5) (hr:r≠[]) (h:l.drop k.1=kN (atS a.toNat) :: xx rel :: kN (atS b.toNat) :: r):∃ k',kL v k= .ok ({Ex.zero with op:=8,a:=a,rel:=rel,b:=b},k')∧l.drop k'.1=r:=by
 have h1:=aO h (by simp)
 have h2:=aO h1 (by simp)
 refine⟨nx (nx (nx k)),?_,aO h2 hr⟩
 have hw:isW ⟨#[105,110]⟩ (nx k)=false:=by
  rw[kK h1]
  unfold xx
  repeat' split
  all_goals rfl
 unfold kL
 rw[rR a0 a1 h,aa]
 dsimp only
 rw[hw,if_neg (by decide),IL r0 r1 (by simp) h1,aa]
 dsimp only
 rw[rR b0 b1 h2,aa]
theorem Fh {v:Bool} {a:Int} {ns:List ByteArray} (a0:0≤a) (a1:a<sg v) (h0:ns≠[]) (hi:ns.all idB=true) (hr:r≠[]) (h:l.drop k.1=kN (atS a.toNat) :: kN ⟨#[105,110]⟩ :: (inK ns++r)):∃ k',kL v k= .ok ({Ex.zero with op:=9,a:=a,names:=ns},k')∧l.drop k'.1=r:=by
 have h1:=aO h (by simp)
 have h2:=aO h1 (by simp[hr])
 have hw:isW ⟨#[105,110]⟩ (nx k)=true:=by rw[kK h1,nU];simp
 unfold kL
 rw[rR a0 a1 h,aa]
 dsimp only
 rw[hw,if_pos rfl]
 cases ns with
 |nil=>exact absurd rfl h0
 |cons x ns=>
  cases ns with
  |nil=>
   rw[Lb] at h2
   have h2:l.drop (nx (nx k)).1=kN x :: r:=h2
   refine⟨nx (nx (nx k)),?_,aO h2 hr⟩
   rw[cG h2,jK,if_neg (by decide),bw h2 (by simpa using hi)]
   rfl
  |cons y ns=>
   rw[J8] at h2
   obtain ⟨k',e1,e2⟩:=iY (by simp) hr hi h2
   refine⟨k',?_,e2⟩
   have hm:isM ⟨#[123]⟩ (nx (nx k))=true:=by rw[cG h2];exact cr _ _
   rw[hm,if_pos rfl,e1]
   rfl
end
end Am
namespace Am
open Tk
set_option maxRecDepth 100000
set_option maxHeartbeats 4000000
theorem C0 (x:Ex):exK {Ex.zero with op:=2,kids:=[x]}=kM ⟨#[33]⟩ :: lx (decide (x.op≠2)) (exK x):=by rw[oZ];rfl
theorem C1 (x y:Ex):exK {Ex.zero with op:=3,kids:=[x,y]}=lx (decide (x.op=4)) (exK x)++kM ⟨#[38,38]⟩ :: lx (decide (y.op=4) || decide (y.op=3)) (exK y):=by rw[oZ];rfl
theorem C2 (x y:Ex):exK {Ex.zero with op:=4,kids:=[x,y]}=exK x++kM ⟨#[124,124]⟩ :: lx (decide (y.op=4)) (exK y):=by rw[oZ];rfl
theorem C3 (a rel b:Int):exK {Ex.zero with op:=8,a:=a,rel:=rel,b:=b}=[kN (atS a.toNat),xx rel,kN (atS b.toNat)]:=by rw[oZ];rfl
theorem C4 (a:Int) (ns:List ByteArray):exK {Ex.zero with op:=9,a:=a,names:=ns}=kN (atS a.toNat) :: kN ⟨#[105,110]⟩ :: inK ns:=by rw[oZ];rfl
theorem pM (b:Bool) (t:List Tok):(lx b t).length=t.length+if b=true then 2 else 0:=by
 unfold lx
 cases b <;> simp
section
variable {l:List Tok}
def XC (v:Bool) (l:List Tok) (t:List Tok) (e:Ex):Prop:=∀ (n:Nat) (k:Ix l) (r:List Tok),r≠[]→4*t.length+1≤n→l.drop k.1=t++r→∃ k',dH v n k= .ok (e,k')∧l.drop k'.1=r
def XB (v:Bool) (l:List Tok) (t:List Tok) (e:Ex):Prop:=∀ (n:Nat) (k:Ix l) (r:List Tok),r≠[]→4*t.length+2≤n→l.drop k.1=t++r→∃ n' k',fi v n k=cL v n' e k'∧n≤n'+t.length∧l.drop k'.1=r
def XE (v:Bool) (l:List Tok) (t:List Tok) (e:Ex):Prop:=∀ (n:Nat) (k:Ix l) (r:List Tok),r≠[]→hM ⟨#[38,38]⟩ r=false→4*t.length+3≤n→l.drop k.1=t++r→∃ n' k',fj v n k=cM v n' e k'∧n≤n'+t.length∧l.drop k'.1=r
theorem qP {v:Bool} {n:Nat} {e:Ex} {k:Ix l} {r:List Tok} (hn:0<n) (h:l.drop k.1=r) (hr:hM ⟨#[38,38]⟩ r=false):cL v n e k= .ok (e,k):=by
 obtain ⟨n,rfl⟩:∃ m,n=m+1:=⟨n - 1,by omega⟩
 rw[cL,cG h,hr,if_neg (by decide)]
theorem qV {v:Bool} {n:Nat} {e:Ex} {k:Ix l} {r:List Tok} (hn:0<n) (h:l.drop k.1=r) (hr:hM ⟨#[124,124]⟩ r=false):cM v n e k= .ok (e,k):=by
 obtain ⟨n,rfl⟩:∃ m,n=m+1:=⟨n - 1,by omega⟩
 rw[cM,cG h,hr,if_neg (by decide)]
variable {v:Bool} {t:List Tok} {e:Ex}
theorem XC.both (h:XC v l t e) (ht:1≤t.length):XB v l t e:=fun n k r hr hn hd=>by
 obtain ⟨n,rfl⟩:∃ m,n=m+1:=⟨n - 1,by omega⟩
 obtain ⟨k',e1,e2⟩:=h n k r hr (by omega) hd
 exact⟨n,k',by rw[fi,e1,aa],by omega,e2⟩
theorem XB.eith (h:XB v l t e) (ht:1≤t.length):XE v l t e:=fun n k r hr ha hn hd=>by
 obtain ⟨n,rfl⟩:∃ m,n=m+1:=⟨n - 1,by omega⟩
 obtain ⟨n',k',e1,e2,e3⟩:=h n k r hr (by omega) hd
 exact⟨n,k',by rw[fj,e1,qP (by omega) e3 ha,aa],by omega,e3⟩
theorem XE.par (h:XE v l t e):XC v l (lx true t) e:=fun n k r hr hn hd=>by
 rw[pM,if_pos rfl] at hn
 obtain ⟨n,rfl⟩:∃ m,n=m+1:=⟨n - 1,by omega⟩
 have hd:l.drop k.1=kM ⟨#[40]⟩ :: (t++kM ⟨#[41]⟩ :: r):=by rw[hd];simp[lx]
 have h1:=aO hd (by simp)
 obtain ⟨n',k',e1,e2,e3⟩:=h n (nx k) (kM ⟨#[41]⟩ :: r) (by simp) (bX (by decide) _) (by omega) h1
 refine⟨nx k',?_,aO e3 hr⟩
 rw[dH,cG hd,bX (by decide),if_neg (by decide),cG hd,cr,if_pos rfl,e1,qV (by omega) e3 (bX (by decide) _),aa]
 dsimp only
 rw[fE e3];rfl
theorem XB.fin (h:XB v l t e) {n:Nat} {k:Ix l} {r:List Tok} (hr:r≠[]) (ha:hM ⟨#[38,38]⟩ r=false) (hn:4*t.length+2≤n) (hd:l.drop k.1=t++r):∃ k',fi v n k= .ok (e,k')∧l.drop k'.1=r:=by
 obtain ⟨n',k',e1,e2,e3⟩:=h n k r hr hn hd
 exact⟨k',by rw[e1,qP (by omega) e3 ha],e3⟩
theorem XB.and {x y:Ex} {t u:List Tok} (hx:XB v l t x) (hy:XC v l u y):XB v l (t++kM ⟨#[38,38]⟩ :: u) {Ex.zero with op:=3,kids:=[x,y]}:=fun n k r hr hn hd=>by
 rw[List.length_append,List.length_cons] at hn ⊢
 have hd:l.drop k.1=t++(kM ⟨#[38,38]⟩ :: (u++r)):=by rw[hd];simp
 obtain ⟨n1,k1,e1,e2,e3⟩:=hx n k (kM ⟨#[38,38]⟩ :: (u++r)) (by simp) (by omega) hd
 obtain ⟨n1,rfl⟩:∃ m,n1=m+1:=⟨n1 - 1,by omega⟩
 obtain ⟨k2,e4,e5⟩:=hy n1 (nx k1) r hr (by omega) (aO e3 (by simp[hr]))
 exact⟨n1,k2,by rw[e1,cL,cG e3,cr,if_pos rfl,e4,aa],by omega,e5⟩
theorem XE.or {x y:Ex} {t u:List Tok} (hx:XE v l t x) (hy:XB v l u y):XE v l (t++kM ⟨#[124,124]⟩ :: u) {Ex.zero with op:=4,kids:=[x,y]}:=fun n k r hr ha hn hd=>by
 rw[List.length_append,List.length_cons] at hn ⊢
 have hd:l.drop k.1=t++(kM ⟨#[124,124]⟩ :: (u++r)):=by rw[hd];simp
 obtain ⟨n1,k1,e1,e2,e3⟩:=hx n k (kM ⟨#[124,124]⟩ :: (u++r)) (by simp) (bX (by decide) _) (by omega) hd
 obtain ⟨n1,rfl⟩:∃ m,n1=m+1:=⟨n1 - 1,by omega⟩
 obtain ⟨k2,e4,e5⟩:=hy.fin (n:=n1) (k:=nx k1) hr ha (by omega) (aO e3 (by simp[hr]))
 exact⟨n1,k2,by rw[e1,cM,cG e3,cr,if_pos rfl,e4,aa],by omega,e5⟩
theorem XC.not {x:Ex} {t:List Tok} (hx:XC v l t x):XC v l (kM ⟨#[33]⟩ :: t) {Ex.zero with op:=2,kids:=[x]}:=fun n k r hr hn hd=>by
 rw[List.length_cons] at hn
 obtain ⟨n,rfl⟩:∃ m,n=m+1:=⟨n - 1,by omega⟩
 have hd:l.drop k.1=kM ⟨#[33]⟩ :: (t++r):=hd
 obtain ⟨k2,e4,e5⟩:=hx n (nx k) r hr (by omega) (aO hd (by simp[hr]))
 exact⟨k2,by rw[dH,cG hd,cr,if_pos rfl,e4,aa],e5⟩
theorem FH:∀ (N:Nat) (e:Ex),SizeOf.sizeOf e<N→∀ {lim lev:Int},fA lim lev e=true→1≤(exK e).length
 |0,_,h,_,_,_=>absurd h (Nat.not_lt_zero _)
 |N+1,e,h,lim,lev,hn=>by
  obtain ⟨-,-,ho⟩:=sL hn
  rcases ho with⟨x,rfl⟩|⟨x,y,rfl⟩|⟨x,y,rfl⟩|⟨-,-,-,-,-,-,he⟩|⟨-,-,-,-,he⟩
  ·rw[C0,List.length_cons];omega
  ·rw[C1,List.length_append,List.length_cons];omega
  ·rw[C2,List.length_append,List.length_cons];omega
  ·rw[he,C3];simp
  ·rw[he,C4];simp
theorem HC (v:Bool):∀ (N:Nat) (e:Ex) (lev:Int),SizeOf.sizeOf e<N→fA (sg v) lev e=true→(e.op≠3→e.op≠4→XC v l (exK e) e)∧(e.op≠4→XB v l (exK e) e)∧XE v l (exK e) e
 |0,_,_,h,_=>absurd h (Nat.not_lt_zero _)
 |N+1,e,lev,h,hn=>by
  obtain ⟨hk,-,ho⟩:=sL hn
  have hp:=FH _ e (Nat.lt_succ_self _) hn
  have ih:∀ x∈e.kids,(x.op≠3→x.op≠4→XC v l (exK x) x)∧(x.op≠4→XB v l (exK x) x)∧XE v l (exK x) x:=fun x hx=>
   HC v N x (lev+1) (by have:=gi hx;omega) (by rw[List.all_eq_true] at hk;exact hk x hx)
  have opd:∀ x∈e.kids,∀ b:Bool,(b=false→x.op≠3∧x.op≠4)→XC v l (lx b (exK x)) x:=fun x hx b hb=>by
   cases b with
   |true=>exact(ih x hx).2.2.par
   |false=>exact(ih x hx).1 (hb rfl).1 (hb rfl).2
  have key:XC v l (exK e) e→(e.op≠3→e.op≠4→XC v l (exK e) e)∧(e.op≠4→XB v l (exK e) e)∧XE v l (exK e) e:=fun h=>
   ⟨fun _ _=>h,fun _=>h.both hp,(h.both hp).eith hp⟩
  rcases ho with⟨x,rfl⟩|⟨x,y,rfl⟩|⟨x,y,rfl⟩|⟨a0,a1,b0,b1,r0,r1,he⟩|⟨a0,a1,n0,n1,he⟩
  ·refine key ?_
   rw[C0]
   refine XC.not (opd x (.head _) _ fun hb=>?_)
   have:x.op=2:=by simpa using hb
   omega
  ·have hB:XB v l (exK {Ex.zero with op:=3,kids:=[x,y]}) {Ex.zero with op:=3,kids:=[x,y]}:=by
    rw[C1]
    have hy:=opd y (.tail _ (.head _)) (decide (y.op=4) || decide (y.op=3)) fun hb=>by
     simp only[Bool.or_eq_false_iff,decide_eq_false_iff_not] at hb
     exact⟨hb.2,hb.1⟩
    refine XB.and ?_ hy
    by_cases hx:x.op=4
    ·rw[decide_eq_true hx]
     exact(ih x (.head _)).2.2.par.both (by rw[pM];simp)
    ·rw[decide_eq_false hx]
     exact(ih x (.head _)).2.1 hx
   exact⟨fun h=>absurd rfl h,fun _=>hB,hB.eith hp⟩
  ·have hE:XE v l (exK {Ex.zero with op:=4,kids:=[x,y]}) {Ex.zero with op:=4,kids:=[x,y]}:=by
    rw[C2]
    refine XE.or (ih x (.head _)).2.2 ?_
    by_cases hy:y.op=4
    ·rw[decide_eq_true hy]
     exact(ih y (.tail _ (.head _))).2.2.par.both (by rw[pM];simp)
    ·rw[decide_eq_false hy]
     exact(ih y (.tail _ (.head _))).2.1 hy
   exact⟨fun _ h=>absurd rfl h,fun h=>absurd rfl h,hE⟩
  ·refine key fun n k r hr hn hd=>?_
   rw[he,C3] at hd hn
   obtain ⟨n,rfl⟩:∃ m,n=m+1:=⟨n - 1,by omega⟩
   obtain ⟨k',e1,e2⟩:=Fg a0 a1 b0 b1 r0 r1 hr (v:=v) hd
   refine⟨k',?_,e2⟩
   have m1:isM ⟨#[33]⟩ k=false:=by rw[cG hd];rfl
   have m2:isM ⟨#[40]⟩ k=false:=by rw[cG hd];rfl
   rw[dH,m1,m2,if_neg (by decide),if_neg (by decide),he]
   exact e1
  ·refine key fun n k r hr hn hd=>?_
   rw[he,C4] at hd hn
   obtain ⟨n,rfl⟩:∃ m,n=m+1:=⟨n - 1,by omega⟩
   obtain ⟨k',e1,e2⟩:=Fh a0 a1 n0 n1 hr (v:=v) hd
   refine⟨k',?_,e2⟩
   have m1:isM ⟨#[33]⟩ k=false:=by rw[cG hd];rfl
   have m2:isM ⟨#[40]⟩ k=false:=by rw[cG hd];rfl
   rw[dH,m1,m2,if_neg (by decide),if_neg (by decide),he]
   exact e1
mutual
theorem r7 (lim:Int):∀ (e:Ex) (lev:Int),fA lim lev e=true→(cD e:Int)+lev≤13
 |⟨op,a,rel,b,names,set,kids⟩,lev,h=>by
  rw[fA,Bool.and_eq_true] at h
  have h1:lev≤12:=by
   have:=h.1
   unfold nB at this
   simp only[Bool.and_eq_true,decide_eq_true_eq] at this
   exact this.1.1
  have h2:=po lim kids (lev+1) h.2
  rw[cD]
  omega
theorem po (lim:Int):∀ (l:List Ex) (lev:Int),ll lim lev l=true→cW l=0∨(cW l:Int)+lev≤13
 |[],_,_=>.inl (by rw[cW])
 |x :: l,lev,h=>by
  rw[ll,Bool.and_eq_true] at h
  have h1:=r7 lim x lev h.1
  have h2:=po lim l lev h.2
  rw[cW]
  omega
end
theorem qL {k:Ix l} {r:List Tok} (he:fy e v=true) (hr:r≠[]) (ha:hM ⟨#[38,38]⟩ r=false) (ho:hM ⟨#[124,124]⟩ r=false) (h:l.drop k.1=exK e++r):∃ k',dL v k= .ok (e,k')∧l.drop k'.1=r:=by
 have he:fA (sg v) 1 e=true:=he
 obtain ⟨n',k',e1,e2,e3⟩:=(HC (l:=l) v _ e 1 (Nat.lt_succ_self _) he).2.2 (fuel l) k r hr ha (by have:=mJ h;rw[List.length_append] at this;unfold fuel;omega) h
 have h1:(exK e).length≤l.length:=by have:=mJ h;rw[List.length_append] at this;omega
 refine⟨k',?_,e3⟩
 unfold dL
 rw[e1,qV (by unfold fuel at e2;omega) e3 ho,aa]
 dsimp only
 rw[if_neg (by have:=r7 _ e 1 he;omega)]
end
end Am
namespace Am
open Tk
set_option maxRecDepth 100000
set_option maxHeartbeats 4000000
def bxN (op:Int):Nat:=if op=6∨op=7 then 4 else if op=3 then 3 else if op=5 then 2 else 1
def bxM (op:Int):ByteArray:=if op=6 then⟨#[61,61]⟩ else if op=7 then⟨#[33,61]⟩ else if op=3 then⟨#[38,38]⟩ else if op=5 then⟨#[94]⟩ else⟨#[124,124]⟩
def stN (op:Int):Nat:=if op=1∨op=2 then 5 else bxN op
def jN (b:Bool) (t:List Tok):List Tok:=if b=true then kM ⟨#[40]⟩ :: (t++[kM ⟨#[41]⟩]) else t
def bxH (op:Int) (names:List ByteArray) (ts:List (List Tok)) (ops:List Int):List Tok:=
 if op=1 then[kN (names.getD 0 ⟨#[]⟩)]
 else if op=2 then kM ⟨#[33]⟩ :: jN (decide (stN (ops.getD 0 0)<5)) (ts.getD 0 [])
 else jN (decide (stN (ops.getD 0 0)<bxN op)) (ts.getD 0 [])++kM (bxM op) :: jN (decide (stN (ops.getD 1 0)<bxN op+1)) (ts.getD 1 [])
mutual
def bxK:Ex→List Tok
 |⟨op,_,_,_,names,_,kids⟩=>bxH op names (BO kids) (kids.map (·.op))
def BO:List Ex→List (List Tok)
 |[]=>[]
 |x :: l=>bxK x :: BO l
end
theorem uh:∀ l:List Ex,BO l=l.map bxK
 |[]=>by rw[BO];rfl
 |x :: l=>by rw[BO,uh l];rfl
theorem wv (e:Ex):bxK e=bxH e.op e.names (e.kids.map bxK) (e.kids.map (·.op)):=by
 cases e;rw[bxK,uh]
theorem BL (s:ByteArray):bxK {Ex.zero with op:=1,names:=[s]}=[kN s]:=by rw[wv];rfl
theorem BM (x:Ex):bxK {Ex.zero with op:=2,kids:=[x]}=kM ⟨#[33]⟩ :: jN (decide (stN x.op<5)) (bxK x):=by rw[wv];rfl
theorem BN {op:Int} (h1:op≠1) (h2:op≠2) (x y:Ex):bxK {Ex.zero with op:=op,kids:=[x,y]}=jN (decide (stN x.op<bxN op)) (bxK x)++kM (bxM op) :: jN (decide (stN y.op<bxN op+1)) (bxK y):=by
 rw[wv]
 show bxH op [] [bxK x,bxK y] [x.op,y.op]=_
 unfold bxH
 rw[if_neg h1,if_neg h2];rfl
theorem pL (b:Bool) (t:List Tok):(jN b t).length=t.length+if b=true then 2 else 0:=by
 unfold jN
 cases b <;> simp
def opH (r:List Tok) (n:Nat):Int:=
 if n=4 then(if hM ⟨#[61,61]⟩ r=true then 6 else if hM ⟨#[33,61]⟩ r=true then 7 else 0)
 else if n=3 then(if hM ⟨#[38,38]⟩ r=true then 3 else 0)
 else if n=2 then(if hM ⟨#[94]⟩ r=true then 5 else 0)
 else if n=1 then(if hM ⟨#[124,124]⟩ r=true then 4 else 0)
 else 0
section
variable {ts:List Tok} {i:Nat} {r t:List Tok} {e:Ex}
theorem pj (h:ts.drop i=r) (m:ByteArray):isK ts i m=hM m r:=by
 have e:ts[i]? =r[0]?:=by rw[← h,List.getElem?_drop];rfl
 unfold isK
 rw[e]
 cases r <;> rfl
theorem HZ (h:ts.drop i=r) (n:Nat):opK ts i n=opH r n:=by
 unfold opK opH
 simp only[pj h]
theorem lT {a b:List Tok} (h:ts.drop i=a++b):ts.drop (i+a.length)=b:=by
 rw[← List.drop_drop,h,List.drop_left]
theorem Lj {s:ByteArray} (h:ts.drop i=kN s :: r) (hs:idB s=true):nmK ts i=some s:=by
 have e:ts[i]? =some (kN s):=by
  have:(ts.drop i)[0]? =ts[i+0]?:=List.getElem?_drop
  rw[h] at this;exact this.symm
 unfold nmK
 rw[e]
 dsimp only
 rw[if_pos ⟨rfl,hs⟩]
def CS (n:Nat) (r:List Tok):Prop:=∀ m,n≤m→opH r m=0
def CN (dm:Nat) (ts t:List Tok) (e:Ex):Prop:=∀ (f i d:Nat) (r:List Tok),d≤dm→8*t.length≤f→ts.drop i=t++r→dy ts f i d= .ok (e,i+t.length)
def CB (n dm:Nat) (ts t:List Tok) (e:Ex):Prop:=∀ (f i d:Nat) (r:List Tok),d≤dm→8*t.length+6≤f+n→CS n r→ts.drop i=t++r→ek ts f n i d= .ok (e,i+t.length)
def CK (s dm:Nat) (ts t:List Tok) (e:Ex):Prop:=∀ (f i d:Nat) (r:List Tok),d≤dm→8*t.length+6≤f+s→CS (s+1) r→ts.drop i=t++r→∃ f',ek ts f s i d=eP ts f' s e (i+t.length) d∧f≤f'+t.length
theorem Ff {f n d:Nat} (hf:0<f) (h:ts.drop i=r) (h0:opH r n=0):eP ts f n e i d= .ok (e,i):=by
 obtain ⟨f,rfl⟩:∃ m,f=m+1:=⟨f - 1,by omega⟩
 rw[eP,HZ h,h0,if_pos rfl]
variable {dm:Nat}
theorem CN.bin (h:CN dm ts t e) (ht:1≤t.length):CB 5 dm ts t e:=fun f i d r hd hf ho hr=>by
 obtain ⟨f,rfl⟩:∃ m,f=m+1:=⟨f - 1,by omega⟩
 rw[ek,if_pos (by decide)]
 exact h f i d r hd (by omega) hr
theorem CB.down {n:Nat} (h:CB (n+1) dm ts t e) (ht:1≤t.length) (hn:n≤4):CK n dm ts t e:=fun f i d r hd hf ho hr=>by
 obtain ⟨f,rfl⟩:∃ m,f=m+1:=⟨f - 1,by omega⟩
 refine⟨f,?_,by omega⟩
 rw[ek,if_neg (by omega),h f i d r hd (by omega) ho hr,aa]
theorem CK.fin {n:Nat} (h:CK n dm ts t e) (ht:1≤t.length) (hn:n≤5):CB n dm ts t e:=fun f i d r hd hf ho hr=>by
 obtain ⟨f',e1,e2⟩:=h f i d r hd hf (fun m hm=>ho m (by omega)) hr
 rw[e1,Ff (by omega) (lT hr) (ho n (Nat.le_refl _))]
theorem CB.all1 (ht:1≤t.length):∀ (j n:Nat),CB (n+j) dm ts t e→n+j≤5→CB n dm ts t e
 |0,n,h,_=>h
 |j+1,n,h,hn=>by
  have h1:CB (n+1) dm ts t e:=CB.all1 ht j (n+1) (by rwa [show n+1+j=n+(j+1) by omega]) (by omega)
  exact(h1.down ht (by omega)).fin ht (by omega)
theorem CB.all {n m:Nat} (h:CB n dm ts t e) (ht:1≤t.length) (hn:n≤5) (hm:m≤n):CB m dm ts t e:=
 CB.all1 ht (n - m) m (by rwa [show m+(n - m)=n by omega]) (by omega)
theorem CN.name {s:ByteArray} (hs:idB s=true):CN dm ts [kN s] {Ex.zero with op:=1,names:=[s]}:=fun f i d r hd hf hr=>by
 have hf:8≤f:=hf
 obtain ⟨f,rfl⟩:∃ m,f=m+1:=⟨f - 1,by omega⟩
 have hr:ts.drop i=kN s :: r:=hr
 rw[dy,pj hr,jK,if_neg (by decide),pj hr,jK,if_neg (by decide),Lj hr hs]
 rfl
theorem CN.not {x:Ex} (h:CN (dm+1) ts t x) (hd:dm<12):CN dm ts (kM ⟨#[33]⟩ :: t) {Ex.zero with op:=2,kids:=[x]}:=fun f i d r hd2 hf hr=>by
 rw[List.length_cons] at hf ⊢
 obtain ⟨f,rfl⟩:∃ m,f=m+1:=⟨f - 1,by omega⟩
 have hr:ts.drop i=kM ⟨#[33]⟩ :: (t++r):=hr
 have h1:ts.drop (i+1)=t++r:=by rw[← List.drop_drop,hr];rfl
 rw[dy,pj hr,cr,if_pos rfl,if_neg (by omega),h f (i+1) (d+1) r (by omega) (by omega) h1,aa]
 dsimp only
 rw[show i+1+t.length=i+(t.length+1) by omega]
theorem CT (n:Nat) (r:List Tok):CS n (kM ⟨#[41]⟩ :: r):=fun m _=>by
 unfold opH
 simp only[bX (show decide ((⟨#[41]⟩:ByteArray)=⟨#[61,61]⟩)=false by decide),bX (show decide ((⟨#[41]⟩:ByteArray)=⟨#[33,61]⟩)=false by decide),bX (show decide ((⟨#[41]⟩:ByteArray)=⟨#[38,38]⟩)=false by decide),bX (show decide ((⟨#[41]⟩:ByteArray)=⟨#[94]⟩)=false by decide),bX (show decide ((⟨#[41]⟩:ByteArray)=⟨#[124,124]⟩)=false by decide),Bool.false_eq_true,if_false]
 repeat' split
 all_goals rfl
theorem CB.par (h:CB 1 (dm+1) ts t e) (hd:dm<12):CN dm ts (jN true t) e:=fun f i d r hd2 hf hr=>by
 rw[pL,if_pos rfl] at hf ⊢
 obtain ⟨f,rfl⟩:∃ m,f=m+1:=⟨f - 1,by omega⟩
 have hr:ts.drop i=kM ⟨#[40]⟩ :: (t++kM ⟨#[41]⟩ :: r):=by rw[hr];simp[jN]
 have h1:ts.drop (i+1)=t++kM ⟨#[41]⟩ :: r:=by rw[← List.drop_drop,hr];rfl
 rw[dy,pj hr,bX (by decide),if_neg (by decide),pj hr,cr,if_pos rfl,if_neg (by omega),h f (i+1) (d+1) (kM ⟨#[41]⟩ :: r) (by omega) (by omega) (CT _ _) h1,aa]
 dsimp only
 rw[pj (lT h1),cr,if_pos rfl,show i+1+t.length+1=i+(t.length+2) by omega]
theorem Ju {op:Int} (h:op=3∨op=4∨op=5∨op=6∨op=7) (r:List Tok):opH (kM (bxM op) :: r) (bxN op)=op∧CS (bxN op+1) (kM (bxM op) :: r)∧1≤bxN op∧bxN op≤4:=by
 have hm:∀ u s:ByteArray,hM s (kM u :: r)=decide (u=s):=fun u s=>by simp[hM]
 rcases h with rfl|rfl|rfl|rfl|rfl
 all_goals
  refine⟨?_,fun m hm2=>?_,by decide,by decide⟩
  ·unfold opH
   simp only[hm];decide
  ·unfold opH
   simp only[hm]
   have hs:bxN 3=3∧bxN 4=1∧bxN 5=2∧bxN 6=4∧bxN 7=4:=by decide
   simp only[hs] at hm2
   repeat' split
   all_goals first|rfl|omega|(rename_i h1 h2;revert h2;decide)
theorem CK.bin {op:Int} {x y:Ex} {u:List Tok} (h:op=3∨op=4∨op=5∨op=6∨op=7) (hx:CK (bxN op) dm ts t x) (hy:CB (bxN op+1) dm ts u y) (hu:1≤u.length):CK (bxN op) dm ts (t++kM (bxM op) :: u) {Ex.zero with op:=op,kids:=[x,y]}:=fun f i d r hd hf ho hr=>by
 rw[List.length_append,List.length_cons] at hf ⊢
 have hr:ts.drop i=t++(kM (bxM op) :: (u++r)):=by rw[hr];simp
 obtain ⟨s1,s2,s3,s4⟩:=Ju h (u++r)
 obtain ⟨f1,e1,e2⟩:=hx f i d (kM (bxM op) :: (u++r)) hd (by omega) s2 hr
 obtain ⟨f1,rfl⟩:∃ m,f1=m+1:=⟨f1 - 1,by omega⟩
 have h1:=lT hr
 have h2:ts.drop (i+t.length+1)=u++r:=by rw[← List.drop_drop,h1];rfl
 refine⟨f1,?_,by omega⟩
 have ne:¬ op=0:=by omega
 rw[e1,eP,HZ h1,s1,if_neg ne,hy f1 (i+t.length+1) d r hd (by omega) ho h2,aa]
 dsimp only
 rw[show i+t.length+1+u.length=i+(t.length+(u.length+1)) by omega]
end
end Am
namespace Am
open Tk
set_option maxRecDepth 100000
set_option maxHeartbeats 4000000
theorem LG {α:Type}:∀ {l:List α},l.length=2→∃ x y,l=[x,y]
 |[x,y],_=>⟨x,y,rfl⟩
theorem lR {e:Ex} {level:Int} (h:eQ e level=0):level≤12∧((∃ s,idB s=true∧e= {Ex.zero with op:=1,names:=[s]})∨(∃ x,e= {Ex.zero with op:=2,kids:=[x]})∨(∃ op x y,(op=3∨op=4∨op=5∨op=6∨op=7)∧e= {Ex.zero with op:=op,kids:=[x,y]})):=by
 unfold eQ at h
 by_cases h1:12<level
 ·rw[if_pos h1] at h;cases h
 rw[if_neg h1] at h
 refine⟨by omega,?_⟩
 by_cases h2:dh e.op<0∨e.a≠0∨e.b≠0∨e.rel≠0∨Se.eqB e.set Se.zero=false∨(e.kids.length:Int)≠dh e.op∨(e.names.length:Int)≠(if dh e.op=0 then 1 else 0)
 ·rw[if_pos h2] at h;cases h
 rw[if_neg h2] at h
 obtain ⟨op,a,rel,b,names,set,kids⟩:=e
 dsimp only at h h2
 simp only[not_or,Decidable.not_not] at h2
 obtain ⟨q1,q2,q3,q4,q5,q6,q7⟩:=h2
 have hset:set=Se.zero:=by
  have q5:Se.eqB set Se.zero=true:=by simpa using q5
  unfold Se.eqB at q5
  simp only[Bool.and_eq_true,decide_eq_true_eq] at q5
  obtain ⟨a1,a2,a3,a4⟩:=set
  obtain ⟨p1,p2,p3,p4⟩:=q5
  dsimp only at p1 p2 p3 p4
  rw[p1,p2,p3,p4]
 subst q2 q3 q4 hset
 by_cases o1:op=1
 ·subst o1
  have e1:dh 1=0:=rfl
  rw[e1] at q6 q7 h
  rw[if_pos rfl] at q7
  obtain ⟨s,rfl⟩:=List.length_eq_one_iff.1 (show names.length=1 by omega)
  have hk:kids=[]:=List.eq_nil_of_length_eq_zero (by omega)
  subst hk
  refine .inl ⟨s,?_,rfl⟩
  cases hi:idB s with
  |true=>rfl
  |false=>rw[if_pos ⟨rfl,hi⟩] at h;cases h
 by_cases o2:op=2
 ·subst o2
  have e1:dh 2=1:=rfl
  rw[e1] at q6 q7
  rw[if_neg (by decide)] at q7
  obtain ⟨x,rfl⟩:=List.length_eq_one_iff.1 (show kids.length=1 by omega)
  have hk:names=[]:=List.eq_nil_of_length_eq_zero (by omega)
  subst hk
  exact .inr (.inl ⟨x,rfl⟩)
 by_cases o3:op=3∨op=4∨op=5∨op=6∨op=7
 ·have e1:dh op=2:=by unfold dh;rw[if_neg o1,if_neg o2,if_pos o3]
  rw[e1] at q6 q7
  rw[if_neg (by decide)] at q7
  obtain ⟨x,y,rfl⟩:=LG (show kids.length=2 by omega)
  have hk:names=[]:=List.eq_nil_of_length_eq_zero (by omega)
  subst hk
  exact .inr (.inr ⟨op,x,y,o3,rfl⟩)
 ·exfalso
  unfold dh at q1
  rw[if_neg o1,if_neg o2,if_neg o3] at q1
  exact q1 (by decide)
theorem uB:∀ {l:List Int},gF l=0→∀ x∈l,x=0
 |[],_,_,h=>by cases h
 |y :: l,h0,x,h=>by
  rw[gF] at h0
  by_cases hy:y=0
  ·rw[if_pos hy] at h0
   rcases List.mem_cons.1 h with rfl|h
   ·exact hy
   ·exact uB h0 x h
  ·rw[if_neg hy] at h0;exact absurd h0 hy
theorem mI {e:Ex} {level:Int} (h:cP level e=0):eQ e level=0∧∀ x∈e.kids,cP (level+1) x=0:=by
 rw[lK] at h
 by_cases hb:eQ e level=0
 ·rw[if_pos hb] at h
  exact⟨hb,fun x hx=>uB h _ (List.mem_map.2 ⟨x,hx,rfl⟩)⟩
 ·rw[if_neg hb] at h;exact absurd h hb
section
variable {ts:List Tok}
theorem CN.mono {t:List Tok} {e:Ex} {a b:Nat} (h:CN b ts t e) (hab:a≤b):CN a ts t e:=fun f i d r hd hf hr=>h f i d r (by omega) hf hr
theorem CK.mono {t:List Tok} {e:Ex} {s a b:Nat} (h:CK s b ts t e) (hab:a≤b):CK s a ts t e:=fun f i d r hd hf ho hr=>h f i d r (by omega) hf ho hr
theorem LB {op:Int} (h:op=3∨op=4∨op=5∨op=6∨op=7):stN op=bxN op∧1≤bxN op∧bxN op≤4:=by
 rcases h with rfl|rfl|rfl|rfl|rfl <;> decide
structure BXs (ts:List Tok) (L:Nat) (e:Ex):Prop where
 ps:1≤(bxK e).length
 le:L≤12
 cn:stN e.op=5→CN (L - 1) ts (bxK e) e
 ck:stN e.op≠5→1≤stN e.op∧stN e.op≤4∧CK (stN e.op) L ts (bxK e) e
theorem BXs.cb {L:Nat} {e:Ex} (h:BXs ts L e) {n:Nat} (hn:n≤stN e.op):CB n (L - 1) ts (bxK e) e:=by
 by_cases h5:stN e.op=5
 ·exact((h.cn h5).bin h.ps).all h.ps (Nat.le_refl _) (by omega)
 ·obtain ⟨a,b,c⟩:=h.ck h5
  exact((c.mono (Nat.sub_le _ _)).fin h.ps (by omega)).all h.ps (by omega) hn
theorem BXs.cb1 {L:Nat} {e:Ex} (h:BXs ts L e) (h5:stN e.op≠5):CB 1 L ts (bxK e) e:=by
 obtain ⟨a,b,c⟩:=h.ck h5
 exact(c.fin h.ps (by omega)).all h.ps (by omega) a
theorem BXs.par {L:Nat} {e:Ex} (h:BXs ts (L+1) e) (h5:stN e.op≠5):CN L ts (jN true (bxK e)) e:=(h.cb1 h5).par (by have:=h.le;omega)
theorem BXs.opd {L:Nat} {e:Ex} (h:BXs ts (L+1) e) {s:Nat} (h0:1≤s) (hs:s≤5):CB s L ts (jN (decide (stN e.op<s)) (bxK e)) e∧1≤(jN (decide (stN e.op<s)) (bxK e)).length:=by
 by_cases hw:stN e.op<s
 ·rw[decide_eq_true hw]
  have hp:1≤(jN true (bxK e)).length:=by rw[pL];simp
  exact⟨((h.par (by omega)).bin hp).all hp (Nat.le_refl _) hs,hp⟩
 ·rw[decide_eq_false hw]
  exact⟨h.cb (by omega),h.ps⟩
theorem BXs.opk {L:Nat} {e:Ex} (h:BXs ts (L+1) e) {s:Nat} (h0:1≤s) (hs:s≤4):CK s L ts (jN (decide (stN e.op<s)) (bxK e)) e:=by
 by_cases hw:stN e.op<s
 ·rw[decide_eq_true hw]
  have hp:1≤(jN true (bxK e)).length:=by rw[pL];simp
  exact(((h.par (by omega)).bin hp).all hp (Nat.le_refl _) (show s+1≤5 by omega)).down hp hs
 ·rw[decide_eq_false hw]
  show CK s L ts (bxK e) e
  by_cases he:stN e.op=s
  ·obtain ⟨a,b,c⟩:=h.ck (by omega)
   rw[he] at c
   exact c.mono (Nat.le_succ L)
  ·exact CB.down (h.cb (n:=s+1) (by omega)) h.ps hs
theorem HB:∀ (N:Nat) (e:Ex) (L:Nat),SizeOf.sizeOf e<N→1≤L→cP (L:Int) e=0→BXs ts L e
 |0,_,_,h,_,_=>absurd h (Nat.not_lt_zero _)
 |N+1,e,L,h,hL,hb=>by
  obtain ⟨hn,hk⟩:=mI hb
  obtain ⟨hl,ho⟩:=lR hn
  have ih:∀ x∈e.kids,BXs ts (L+1) x:=fun x hx=>HB N x (L+1) (by have:=gi hx;omega) (by omega) (hk x hx)
  rcases ho with⟨s,hs,rfl⟩|⟨x,rfl⟩|⟨op,x,y,hop,rfl⟩
  ·exact⟨by rw[BL];simp,by omega,fun _=>(by rw[BL];exact CN.name hs),fun h=>absurd rfl h⟩
  ·have hx:=ih x (.head _)
   refine⟨by rw[BM];simp,by omega,fun _=>?_,fun h=>absurd rfl h⟩
   rw[BM]
   refine CN.not ?_ (by omega)
   rw[show L - 1+1=L by omega]
   by_cases h5:stN x.op=5
   ·rw[decide_eq_false (by omega)]
    exact hx.cn h5
   ·have:stN x.op<5:=by have:=(hx.ck h5).2.1;omega
    rw[decide_eq_true this]
    exact hx.par h5
  ·have hx:=ih x (.head _)
   have hy:=ih y (.tail _ (.head _))
   obtain ⟨s1,s2,s3⟩:=LB hop
   have h1:op≠1:=by omega
   have h2:op≠2:=by omega
   refine⟨by rw[BN h1 h2,List.length_append,List.length_cons];omega,by omega,fun h=>?_,fun _=>⟨by rw[show({Ex.zero with op:=op,kids:=[x,y]}:Ex).op=op from rfl];omega,by rw[show({Ex.zero with op:=op,kids:=[x,y]}:Ex).op=op from rfl];omega,?_⟩⟩
   ·have h:stN op=5:=h
    omega
   ·show CK (stN op) L ts _ _
    rw[BN h1 h2,s1]
    obtain ⟨c1,c2⟩:=hy.opd (s:=bxN op+1) (by omega) (by omega)
    exact CK.bin hop (hx.opk s2 s3) c1 c2
end
mutual
theorem r6:∀ (e:Ex) (lev:Int),cP lev e=0→(cD e:Int)+lev≤13
 |⟨op,a,rel,b,names,set,kids⟩,lev,h=>by
  rw[cP] at h
  by_cases hb:eQ ⟨op,a,rel,b,names,set,kids⟩ lev=0
  ·rw[if_pos hb] at h
   have h1:=(lR hb).1
   have h2:=pn kids (lev+1) h
   rw[cD]
   omega
  ·rw[if_neg hb] at h;exact absurd h hb
theorem pn:∀ (l:List Ex) (lev:Int),l8 lev l=0→cW l=0∨(cW l:Int)+lev≤13
 |[],_,_=>.inl (by rw[cW])
 |x :: l,lev,h=>by
  rw[l8] at h
  by_cases hb:cP lev x=0
  ·rw[if_pos hb] at h
   have h1:=r6 x lev hb
   have h2:=pn l lev h
   rw[cW]
   omega
  ·rw[if_neg hb] at h;exact absurd h hb
end
theorem Gj (n:Nat) (r:List Tok):CS n (kM ⟨#[123]⟩ :: r):=fun m _=>by
 unfold opH
 simp only[bX (show decide ((⟨#[123]⟩:ByteArray)=⟨#[61,61]⟩)=false by decide),bX (show decide ((⟨#[123]⟩:ByteArray)=⟨#[33,61]⟩)=false by decide),bX (show decide ((⟨#[123]⟩:ByteArray)=⟨#[38,38]⟩)=false by decide),bX (show decide ((⟨#[123]⟩:ByteArray)=⟨#[94]⟩)=false by decide),bX (show decide ((⟨#[123]⟩:ByteArray)=⟨#[124,124]⟩)=false by decide),Bool.false_eq_true,if_false]
 repeat' split
 all_goals rfl
theorem Fi {l:List Tok} {k:Ix l} {r:List Tok} {e:Ex} (he:cP 1 e=0) (h:l.drop k.1=bxK e++kM ⟨#[123]⟩ :: r):∃ k',ga tksK k= .ok (e,k')∧l.drop k'.1=kM ⟨#[123]⟩ :: r:=by
 have hb:=HB (ts:=l.drop k.1) _ e 1 (Nat.lt_succ_self _) (Nat.le_refl _) he
 have hs:1≤stN e.op:=by
  by_cases h5:stN e.op=5
  ·omega
  ·exact(hb.ck h5).1
 have e1:=hb.cb hs (8*(l.drop k.1).length+16) 0 0 (kM ⟨#[123]⟩ :: r) (by omega) (by rw[h,List.length_append];omega) (Gj _ _) h
 have hlt:k.1+(bxK e).length<l.length:=by
  have:=congrArg List.length h
  rw[List.length_drop,List.length_append,List.length_cons] at this
  omega
 have e2:uJ k (k.1+(bxK e).length)=⟨k.1+(bxK e).length,hlt⟩:=by unfold uJ;rw[dif_pos hlt]
 refine⟨⟨k.1+(bxK e).length,hlt⟩,?_,lT h⟩
 unfold ga tksK
 rw[e1,aa]
 dsimp only
 rw[if_neg (by have:=r6 e 1 he;omega),aa]
 dsimp only
 rw[Nat.zero_add,e2]
end Am
namespace Am
open Tk
set_option maxRecDepth 100000
set_option maxHeartbeats 4000000
theorem wj:∀ n,n<15→iM n=atS n:=by
 intro n h
 have hc:n=0∨n=1∨n=2∨n=3∨n=4∨n=5∨n=6∨n=7∨n=8∨n=9∨n=10∨n=11∨n=12∨n=13∨n=14:=by omega
 have d:∀ u,u<10→Lib.decDigits u=[UInt8.ofNat (48+u)]:=fun u h=>by rw[Lib.decDigits,dif_pos h]
 unfold iM
 rcases hc with rfl|rfl|rfl|rfl|rfl|rfl|rfl|rfl|rfl|rfl|rfl|rfl|rfl|rfl|rfl
 all_goals(rw[d _ (by decide)];rfl)
theorem oK:∀ n,n<15→fk (atS n).data.toList=true:=by decide
theorem wm {n:Nat} (h:n<15):SB true (iM n) [kN (atS n)]:=by
 rw[wj n h]
 exact ScK.name (oK n h)
def nh (b:ByteArray):Prop:=∃ c r,b.data.toList=c :: r∧c≠61
theorem nh.app {a:ByteArray} (h:nh a) (b:ByteArray):nh (a++b):=by
 obtain ⟨c,r,e,hc⟩:=h
 exact⟨c,r++b.data.toList,by rw[iy,e];rfl,hc⟩
theorem sK {s:ByteArray} (h:fk s.data.toList=true):nh s:=by
 unfold nh
 cases hs:s.data.toList with
 |nil=>rw[hs] at h;cases h
 |cons c r=>
  refine⟨c,r,rfl,?_⟩
  rintro rfl
  rw[hs] at h
  unfold fk at h
  simp only[Bool.and_eq_true,List.all_cons] at h
  exact absurd h.2.1 (by decide)
theorem JI {n:Int} (h0:0≤n) (h1:n<5):SB true (ti n) [xx n]:=by
 have hc:n=0∨n=1∨n=2∨n=3∨n=4:=by omega
 rcases hc with rfl|rfl|rfl|rfl|rfl
 ·exact ScK.weak (ScK.mark2 (c:=61) (d:=61) (by decide)) true
 ·exact ScK.weak (ScK.mark2 (c:=33) (d:=61) (by decide)) true
 ·exact ScK.name (s:=⟨#[100,111,109]⟩) (by decide)
 ·exact ScK.name (s:=⟨#[100,111,109,98,121]⟩) (by decide)
 ·exact ScK.name (s:=⟨#[105,110,99,111,109,112]⟩) (by decide)
theorem sb_in:SB false ⟨#[32,105,110,32]⟩ [kN ⟨#[105,110]⟩]:=
 ScK.sp.app ((ScK.name (s:=⟨#[105,110]⟩) (by decide)).app ScK.sp fun _=>by decide) fun h=>by cases h
theorem Lu {c d:UInt8} (t:ByteArray) (ht:t.data.toList=[32,c,d,32]) (h:[c,d]∈marks2):SB false t [kM ⟨#[c,d]⟩]:=by
 unfold SB
 rw[ht]
 exact ScK.sp.app ((ScK.mark2 h).app ScK.sp fun h=>by cases h) fun h=>by cases h
theorem Js {ns:List ByteArray} (h0:ns≠[]):nsK ⟨false,false,false,ns,[]⟩=inK ns:=by
 have e:elN ⟨false,false,false,ns,[]⟩=ns.map .nm:=by simp[elN]
 have e2:fX (ns.map El.nm)=ns.map kN:=by
  unfold fX
  rw[List.map_map]
  induction ns with
  |nil=>rfl
  |cons x l ih=>
   cases l with
   |nil=>rfl
   |cons y l=>
    rw[List.map_cons,List.flatten_cons,ih (by simp) (by simp[elN])]
    rfl
 unfold nsK jn
 rw[e,e2]
 cases ns with
 |nil=>exact absurd rfl h0
 |cons x l=>
  cases l with
  |nil=>rfl
  |cons y l=>
   rw[if_neg (by simp),if_neg (by simp),if_neg (by simp)]
   rfl
theorem ta {p:Bool} {t:ByteArray} {ts:List Tok} (h:SB true t ts):SB true (fY p t) (lx p ts):=by
 unfold fY lx
 cases p with
 |false=>exact h
 |true=>
  rw[if_pos rfl,if_pos rfl,aL]
  have h2:=(jh (c:=40) (by decide) (by decide)).appF (h.app (jh (c:=41) (by decide) (by decide)) fun _=>by decide)
  exact SB.weak h2
theorem Db {p:Bool} {t:ByteArray} (h:nh t):nh (fY p t):=by
 unfold fY
 cases p with
 |false=>exact h
 |true=>
  rw[if_pos rfl,aL]
  exact nh.app ⟨40,[],rfl,by decide⟩ _
theorem C9:∀ l:List Ex,uz l=l.map exT
 |[]=>by rw[uz];rfl
 |x :: l=>by rw[uz,C9 l];rfl
theorem uy (e:Ex):exT e=exH e.op e.a e.rel e.b e.names (e.kids.map exT) (e.kids.map (·.op)):=by
 cases e;rw[exT,C9]
theorem yi {n:Bool} {t:ByteArray} {ts:List Tok} (h:SB n t ts) (hn:nh t):SB n (⟨#[33]⟩++t) (kM ⟨#[33]⟩ :: ts):=by
 unfold SB
 rw[iy]
 exact ScK.bang h hn
theorem HM {lim:Int} (hl:lim≤15):∀ (N:Nat) (e:Ex) (lev:Int),SizeOf.sizeOf e<N→fA lim lev e=true→SB true (exT e) (exK e)∧nh (exT e)
 |0,_,_,h,_=>absurd h (Nat.not_lt_zero _)
 |N+1,e,lev,h,hn=>by
  obtain ⟨hk,-,ho⟩:=sL hn
  have ih:∀ x∈e.kids,SB true (exT x) (exK x)∧nh (exT x):=fun x hx=>HM hl N x (lev+1) (by have:=gi hx;omega) (by rw[List.all_eq_true] at hk;exact hk x hx)
  rcases ho with⟨x,rfl⟩|⟨x,y,rfl⟩|⟨x,y,rfl⟩|⟨a0,a1,b0,b1,r0,r1,he⟩|⟨a0,a1,n0,n1,he⟩
  ·obtain ⟨h1,h2⟩:=ih x (.head _)
   have e:exT {Ex.zero with op:=2,kids:=[x]}=⟨#[33]⟩++fY (decide (x.op≠2)) (exT x):=by rw[uy];rfl
   rw[e,C0]
   exact⟨yi (ta h1) (Db h2),nh.app ⟨33,[],rfl,by decide⟩ _⟩
  ·obtain ⟨h1,h2⟩:=ih x (.head _)
   obtain ⟨h3,h4⟩:=ih y (.tail _ (.head _))
   have e:exT {Ex.zero with op:=3,kids:=[x,y]}=fY (decide (x.op=4)) (exT x)++(⟨#[32,38,38,32]⟩++fY (decide (y.op=4) || decide (y.op=3)) (exT y)):=by rw[uy,←aL];rfl
   rw[e,C1]
   exact⟨(ta h1).app ((Lu ⟨#[32,38,38,32]⟩ rfl (by decide)).appF (ta h3)) fun _=>aF _ (by decide),(Db h2).app _⟩
  ·obtain ⟨h1,h2⟩:=ih x (.head _)
   obtain ⟨h3,h4⟩:=ih y (.tail _ (.head _))
   have e:exT {Ex.zero with op:=4,kids:=[x,y]}=exT x++(⟨#[32,124,124,32]⟩++fY (decide (y.op=4)) (exT y)):=by rw[uy,←aL];rfl
   rw[e,C2]
   exact⟨h1.app ((Lu ⟨#[32,124,124,32]⟩ rfl (by decide)).appF (ta h3)) fun _=>aF _ (by decide),h2.app _⟩
  ·have ea:e.a.toNat<15:=by omega
   have eb:e.b.toNat<15:=by omega
   have e1:exT e=iM e.a.toNat++(⟨#[32]⟩++(ti e.rel++(⟨#[32]⟩++iM e.b.toNat))):=by
    rw[uy,←aL,←aL,←aL]
    have:e.op=8:=by rw[he]
    rw[this];rfl
   have e2:exK e=[kN (atS e.a.toNat),xx e.rel,kN (atS e.b.toNat)]:=by rw[he,C3]
   rw[e1,e2]
   refine⟨(wm ea).app (sb_sp.appF ((JI r0 r1).app (sb_sp.appF (wm eb)) fun _=>aF _ (by decide))) fun _=>aF _ (by decide),?_⟩
   rw[wj _ ea]
   exact(sK (oK _ ea)).app _
  ·have ea:e.a.toNat<15:=by omega
   have hnb:av ⟨false,false,false,e.names,[]⟩ false=true:=by
    unfold av
    have:0<e.names.length:=List.length_pos_iff.2 n0
    simp[n1,this]
   have e1:exT e=iM e.a.toNat++(⟨#[32,105,110,32]⟩++nsT ⟨false,false,false,e.names,[]⟩):=by
    rw[uy,←aL]
    have:e.op=9:=by rw[he]
    rw[this];rfl
   have e2:exK e=kN (atS e.a.toNat) :: kN ⟨#[105,110]⟩ :: inK e.names:=by
    conv=>lhs;rw[he,C4]
   rw[e1,e2,←Js n0]
   refine⟨(wm ea).app (sb_in.appF (bU hnb)) fun _=>aF _ (by decide),?_⟩
   rw[wj _ ea]
   exact(sK (oK _ ea)).app _
theorem yA {e:Ex} {v:Bool} (h:fy e v=true):SB true (exT e) (exK e):=
 (HM (lim:=sg v) (by cases v <;> decide) _ e 1 (Nat.lt_succ_self _) h).1
theorem BK:∀ l:List Ex,ue l=l.map btI
 |[]=>by rw[ue];rfl
 |x :: l=>by rw[ue,BK l];rfl
theorem BJ (e:Ex):btI e=btH e.op e.names (e.kids.map btI) (e.kids.map (·.op)):=by
 cases e;rw[btI,BK]
theorem xp {st least:Int} {b:Bool} {t:ByteArray} {ts:List Tok} (hb:b=decide (st<least)) (h:SB true t ts) (hn:nh t):SB true (ia st least t) (jN b ts)∧nh (ia st least t):=by
 subst hb
 unfold ia jN
 by_cases hl:st<least
 ·rw[if_pos hl,decide_eq_true hl,if_pos rfl,aL]
  exact⟨SB.weak ((jh (c:=40) (by decide) (by decide)).appF (h.app (jh (c:=41) (by decide) (by decide)) fun _=>by decide)),nh.app ⟨40,[],rfl,by decide⟩ _⟩
 ·rw[if_neg hl,decide_eq_false hl,if_neg (by decide)]
  exact⟨h,hn⟩
theorem tx (op:Int) (h:op=1∨op=2∨op=3∨op=4∨op=5∨op=6∨op=7):gQ op=(stN op:Int):=by
 rcases h with rfl|rfl|rfl|rfl|rfl|rfl|rfl <;> rfl
theorem nZ {e:Ex} {lev:Int} (h:cP lev e=0):e.op=1∨e.op=2∨e.op=3∨e.op=4∨e.op=5∨e.op=6∨e.op=7:=by
 obtain ⟨-,ho⟩:=lR (mI h).1
 rcases ho with⟨s,-,rfl⟩|⟨x,rfl⟩|⟨op,x,y,hop,rfl⟩
 ·exact .inl rfl
 ·exact .inr (.inl rfl)
 ·exact .inr (.inr hop)
theorem GV {op:Int} (h:op=3∨op=4∨op=5∨op=6∨op=7):SB false (kW op) [kM (bxM op)]:=by
 rcases h with rfl|rfl|rfl|rfl|rfl
 ·exact ScK.mark2 (c:=38) (d:=38) (by decide)
 ·exact ScK.mark2 (c:=124) (d:=124) (by decide)
 ·exact jh (c:=94) (by decide) (by decide)
 ·exact ScK.mark2 (c:=61) (d:=61) (by decide)
 ·exact ScK.mark2 (c:=33) (d:=61) (by decide)
theorem HD:∀ (N:Nat) (e:Ex) (lev:Int),SizeOf.sizeOf e<N→cP lev e=0→SB true (btI e) (bxK e)∧nh (btI e)
 |0,_,_,h,_=>absurd h (Nat.not_lt_zero _)
 |N+1,e,lev,h,hb=>by
  obtain ⟨hn,hk⟩:=mI hb
  obtain ⟨-,ho⟩:=lR hn
  have ih:∀ x∈e.kids,SB true (btI x) (bxK x)∧nh (btI x):=fun x hx=>HD N x (lev+1) (by have:=gi hx;omega) (hk x hx)
  rcases ho with⟨s,hs,rfl⟩|⟨x,rfl⟩|⟨op,x,y,hop,rfl⟩
  ·have e:btI {Ex.zero with op:=1,names:=[s]}=s:=by rw[BJ];rfl
   rw[e,BL]
   exact⟨SB.name hs,sK (yP hs)⟩
  ·obtain ⟨h1,h2⟩:=ih x (.head _)
   have ex:=tx x.op (nZ (hk x (.head _)))
   have e:btI {Ex.zero with op:=2,kids:=[x]}=⟨#[33]⟩++ia (gQ x.op) 5 (btI x):=by rw[BJ];rfl
   rw[e,BM]
   obtain ⟨p1,p2⟩:=xp (st:=gQ x.op) (least:=5) (b:=decide (stN x.op<5)) (by rw[ex,decide_eq_decide];omega) h1 h2
   exact⟨yi p1 p2,nh.app ⟨33,[],rfl,by decide⟩ _⟩
  ·obtain ⟨h1,h2⟩:=ih x (.head _)
   obtain ⟨h3,h4⟩:=ih y (.tail _ (.head _))
   have ex:=tx x.op (nZ (hk x (.head _)))
   have ey:=tx y.op (nZ (hk y (.tail _ (.head _))))
   have es:dK op=(bxN op:Int):=by rcases hop with rfl|rfl|rfl|rfl|rfl <;> rfl
   have e:btI {Ex.zero with op:=op,kids:=[x,y]}=ia (gQ x.op) (dK op) (btI x)++(⟨#[32]⟩++(kW op++(⟨#[32]⟩++ia (gQ y.op) (dK op+1) (btI y)))):=by
    rw[BJ,←aL,←aL,←aL]
    rcases hop with rfl|rfl|rfl|rfl|rfl <;> rfl
   rw[e,BN (by omega) (by omega)]
   obtain ⟨p1,p2⟩:=xp (st:=gQ x.op) (least:=dK op) (b:=decide (stN x.op<bxN op)) (by rw[ex,es,decide_eq_decide];omega) h1 h2
   obtain ⟨q1,q2⟩:=xp (st:=gQ y.op) (least:=dK op+1) (b:=decide (stN y.op<bxN op+1)) (by rw[ey,es,decide_eq_decide];omega) h3 h4
   exact⟨p1.app (sb_sp.appF ((GV hop).appF (sb_sp.appF q1))) fun _=>aF _ (by decide),p2.app _⟩
theorem Fy {e:Ex} (h:cP 1 e=0):SB true (btT e 0) (bxK e):=by
 have h1:=(HD _ e 1 (Nat.lt_succ_self _) h).1
 unfold btT ia
 rw[if_neg ?_]
 ·exact h1
 ·rw[tx e.op (nZ h)];omega
end Am
end Go.Proofs.YtkpodagbefnebaaGreatDoor
