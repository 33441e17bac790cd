import Derived.Test.YtkpodagbefnebaaGreatDoorYf23
set_option linter.unusedSimpArgs false
set_option linter.unusedVariables false
set_option linter.unusedSectionVars false
namespace Go.Proofs.YtkpodagbefnebaaGreatDoor
namespace Am
open Tk Go.RowKit
set_option maxRecDepth 100000
set_option maxHeartbeats 4000000
section
variable {l:List Tok}
theorem lQ (hl:Fine l) (k:Ix l) (f:Fa):k.1≤(aB k f).2.1.1:=by
 rcases eX hl k f with⟨_,_,h⟩|⟨h,_⟩
 ·omega
 ·rw[h];exact Nat.le_refl _
theorem lP (s:ByteArray) (k:Ix l) (f:Fa):k.1≤(aO s k f).1.1:=rM
theorem oH (hl:Fine l):∀ (n:Nat) (acc:List ByteArray) (k:Ix l) (f:Fa),k.1≤(dV n acc k f).2.1.1
 |0,_,_,_=>Nat.le_refl _
 |n+1,acc,k,f=>by
  rw[dV]
  split
  ·exact Nat.le_trans (lQ hl k f) (oH hl n _ _ _)
  ·exact Nat.le_refl _
theorem zk (hl:Fine l) (k:Ix l) (f:Fa):k.1≤(bN k f).2.1.1:=
 Nat.le_trans (lP _ k f) (Nat.le_trans (lQ hl _ _) (Nat.le_trans (oH hl _ _ _ _) (lP _ _ _)))
theorem uR (ws:List ByteArray) (k:Ix l) (f:Fa):k.1≤(b9 ws k f).2.1.1:=by
 unfold b9
 split
 ·exact gv k
 ·exact Nat.le_refl _
theorem tJ (v:Bool) (k:Ix l) (f:Fa):k.1≤(dK v k f).2.1.1:=by
 unfold dK
 split
 ·exact gv k
 ·exact Nat.le_refl _
theorem D2 (k:Ix l) (f:Fa):k.1≤(pH k f).2.1.1:=by
 unfold pH
 split
 ·exact gv k
 ·split
  ·exact gv k
  ·exact uR _ k f
theorem w6 (hl:Fine l) (v:Bool) (k:Ix l) (f:Fa):k.1≤(jX v k f).2.1.1:=by
 unfold jX
 refine Nat.le_trans (tJ v k f) ?_
 unfold mN
 split
 ·split
  ·exact Nat.le_trans (gv _) (zk hl _ _)
  ·exact Nat.le_trans (gv _) (lQ hl _ _)
 ·exact Nat.le_trans (D2 _ _) (tJ v _ _)
theorem kT (hl:Fine l) (v:Bool):∀ n:Nat,(∀ (k:Ix l) (f:Fa),k.1≤(dx v n k f).2.1.1)∧(∀ (k:Ix l) (f:Fa),k.1≤(ek v n k f).2.1.1)∧(∀ (e:Ex) (k:Ix l) (f:Fa),k.1≤(fA v n e k f).2.1.1)∧
 (∀ (k:Ix l) (f:Fa),k.1≤(orQ v n k f).2.1.1)∧(∀ (e:Ex) (k:Ix l) (f:Fa),k.1≤(jj v n e k f).2.1.1)
 |0=>⟨fun k f=>(by rw[dx];exact Nat.le_refl _),fun k f=>(by rw[ek];exact Nat.le_refl _),fun e k f=>(by rw[fA];exact Nat.le_refl _),fun k f=>(by rw[orQ];exact Nat.le_refl _),fun e k f=>(by rw[jj];exact Nat.le_refl _)⟩
 |n+1=>by
  obtain ⟨i1,i2,i3,i4,i5⟩:=kT hl v n
  refine⟨fun k f=>?_,fun k f=>?_,fun e k f=>?_,fun k f=>?_,fun e k f=>?_⟩
  ·rw[dx]
   split
   ·exact Nat.le_trans (gv k) (i1 _ _)
   ·split
    ·exact Nat.le_trans (gv k) (Nat.le_trans (i4 _ _) (lP _ _ _))
    ·exact w6 hl v k f
  ·rw[ek];exact Nat.le_trans (i1 k f) (i3 _ _ _)
  ·rw[fA]
   split
   ·exact Nat.le_trans (gv k) (Nat.le_trans (i1 _ _) (i3 _ _ _))
   ·exact Nat.le_refl _
  ·rw[orQ];exact Nat.le_trans (i2 k f) (i5 _ _ _)
  ·rw[jj]
   split
   ·exact Nat.le_trans (gv k) (Nat.le_trans (i2 _ _) (i5 _ _ _))
   ·exact Nat.le_refl _
theorem CV (v:Bool) (k:Ix l) (f:Fa):br (jX v k f).1=1:=by
 unfold jX mN
 split
 ·split
  ·exact r5
  ·exact r5
 ·exact r5
theorem xp (hl:Fine l) (v:Bool):∀ n:Nat,(∀ (k:Ix l) (f:Fa),br (dx v n k f).1+k.1≤1+(dx v n k f).2.1.1)∧(∀ (k:Ix l) (f:Fa),br (ek v n k f).1+k.1≤1+(ek v n k f).2.1.1)∧(∀ (e:Ex) (k:Ix l) (f:Fa),br (fA v n e k f).1+k.1≤br e+(fA v n e k f).2.1.1)∧
 (∀ (k:Ix l) (f:Fa),br (orQ v n k f).1+k.1≤1+(orQ v n k f).2.1.1)∧(∀ (e:Ex) (k:Ix l) (f:Fa),br (jj v n e k f).1+k.1≤br e+(jj v n e k f).2.1.1)
 |0=>by
  have e0:br Ex.zero=1:=r5
  exact⟨fun k f=>(by rw[dx];dsimp only;omega),fun k f=>(by rw[ek];dsimp only;omega),fun e k f=>(by rw[fA];dsimp only;omega),fun k f=>(by rw[orQ];dsimp only;omega),fun e k f=>(by rw[jj];dsimp only;omega)⟩
 |n+1=>by
  obtain ⟨i1,i2,i3,i4,i5⟩:=xp hl v n
  obtain ⟨j1,j2,j3,j4,j5⟩:=kT hl v n
  have hx:∀ {f:Fa} {s:ByteArray} {k:Ix l},okM f s k=true→(nx k).1=k.1+1:=fun {f s k} h=>by
   unfold okM at h
   exact aW hl ((Bool.and_eq_true _ _).mp h).2
  refine⟨fun k f=>?_,fun k f=>?_,fun e k f=>?_,fun k f=>?_,fun e k f=>?_⟩
  ·rw[dx]
   split
   ·rename_i h
    have:=hx h
    have:=i1 (nx k) f
    dsimp only
    rw[Bz]
    omega
   ·split
    ·rename_i h
     have:=hx h
     have h1:=i4 (nx k) f
     have h2:=lP ⟨#[41]⟩ (orQ v n (nx k) f).2.1 (orQ v n (nx k) f).2.2
     dsimp only
     omega
    ·have h1:=CV v k f
     have h2:=w6 hl v k f
     omega
  ·rw[ek]
   have h1:=i1 k f
   have h2:=i3 (dx v n k f).1 (dx v n k f).2.1 (dx v n k f).2.2
   omega
  ·rw[fA]
   split
   ·rename_i h
    have h0:=hx h
    have h1:=i1 (nx k) f
    have h2:=i3 {Ex.zero with op:=3,kids:=[e,(dx v n (nx k) f).1]} (dx v n (nx k) f).2.1 (dx v n (nx k) f).2.2
    rw[vz] at h2
    have h3:=ik e
    have h4:=j1 (nx k) f
    omega
   ·exact Nat.le_refl _
  ·rw[orQ]
   have h1:=i2 k f
   have h2:=i5 (ek v n k f).1 (ek v n k f).2.1 (ek v n k f).2.2
   omega
  ·rw[jj]
   split
   ·rename_i h
    have h0:=hx h
    have h1:=i2 (nx k) f
    have h2:=i5 {Ex.zero with op:=4,kids:=[e,(ek v n (nx k) f).1]} (ek v n (nx k) f).2.1 (ek v n (nx k) f).2.2
    rw[vz] at h2
    have h3:=ik e
    have h4:=j2 (nx k) f
    omega
   ·exact Nat.le_refl _
variable {c:Int}
theorem Ba (hf:Fine l) (v:Bool) (k:Ix l) (f:Fa):MX Tryz.prog 319 [(0,qsO k f c)] [.c (.ptr 0 0),.c (sI (if v then 3 else 2))] (.ok (jX v k f):Except Fa (Ex×(Ix l×Fa))) (fun e=>.agg (exC e)) (fun b=>[(0,qsO b.1 b.2 c)]) pvS:=by
 have hl:=hf.le
 have m1:=ku (c:=c) hf v k f
 unfold jX
 generalize dK v k f=q at *
 obtain ⟨a,k1,f1⟩:=q
 dsimp only at m1 ⊢
 unfold mN
 have a1:=fZ (c:=c) hf k1 f1 ⟨#[105,110]⟩
 cases h1:okW f1 ⟨#[105,110]⟩ k1 with
 |true=>
  rw[h1] at a1
  have a1:MNL _ _ _ _ _ [(0,qsO (nx k1) f1 c)]:=a1
  rw[if_pos rfl]
  have is:=iM (c:=c) (nx k1) f1 ⟨#[123]⟩
  cases h2:okM f1 ⟨#[123]⟩ (nx k1) with
  |true=>
   rw[h2] at is
   rw[if_pos rfl]
   have m2:=gU (c:=c) hf (nx k1) f1
   generalize bN (nx k1) f1=q at *
   obtain ⟨x,k2,f2⟩:=q
   dsimp only at m2 ⊢
   refine MXA (fn:=Tryz.f319) Tryz.call319 Tryz.func319 rfl Tryz.ntmps319 Tryz.results319 rfl rfl ?_
   repeat'(first|(with_reducible first|apply AW.seq|apply AW.ret|apply aa|apply ak|apply y_e|refine ae ?_)|((with_reducible apply ai);first|refine t_v AS.v ?_|refine t_v (by exact az (hP:=is)) ?_|refine t_w AS.w ?_|refine t_w (by first|exact av (hP:=m1)|exact av (hP:=a1)|exact av (hP:=m2)) ?_)|((with_reducible apply ay);refine t_s AS.s ?_)|((with_reducible refine aq ?_);first|refine aI ?_|refine aJ ?_)|((with_reducible refine aD ?_);refine b8 (k:=?_))|fail)
   exact⟨{ Ex.zero with op:=9,a:=a,names:=x},(_,_),rfl,aU _,ar rfl⟩
  |false=>
   rw[h2] at is
   rw[if_neg ff]
   have m2:=bk (c:=c) hf (nx k1) f1
   generalize aB (nx k1) f1=q at *
   obtain ⟨x,k2,f2⟩:=q
   dsimp only at m2 ⊢
   refine MXA (fn:=Tryz.f319) Tryz.call319 Tryz.func319 rfl Tryz.ntmps319 Tryz.results319 rfl rfl ?_
   repeat'(first|(with_reducible first|apply AW.seq|apply AW.ret|apply aa|apply ak|apply y_e|refine ae ?_)|((with_reducible apply ai);first|refine t_v AS.v ?_|refine t_v (by exact az (hP:=is)) ?_|refine t_w AS.w ?_|refine t_w (by first|exact av (hP:=m1)|exact av (hP:=a1)|exact av (hP:=m2)) ?_)|((with_reducible apply ay);refine t_s AS.s ?_)|((with_reducible refine aq ?_);first|refine aI ?_|refine aJ ?_)|((with_reducible refine aD ?_);refine b8 (k:=?_))|fail)
   exact⟨{ Ex.zero with op:=9,a:=a,names:=[x]},(_,_),rfl,aU {Ex.zero with op:=9,a:=a,names:=[x]},ar rfl⟩
 |false=>
  rw[h1] at a1
  have a1:MNL _ _ _ _ _ [(0,qsO k1 f1 c)]:=a1
  rw[if_neg ff]
  unfold pH
  have a2:=ch (c:=c) hf k1 f1 ⟨#[61,61]⟩
  cases h2:okM f1 ⟨#[61,61]⟩ k1 with
  |true=>
   rw[h2] at a2
   have a2:MNL _ _ _ _ _ [(0,qsO (nx k1) f1 c)]:=a2
   rw[if_pos rfl]
   dsimp only
   unfold oB
   have m2:=ku (c:=c) hf v (nx k1) f1
   generalize dK v (nx k1) f1=q at *
   obtain ⟨b,k2,f2⟩:=q
   dsimp only at m2 ⊢
   refine MXA (fn:=Tryz.f319) Tryz.call319 Tryz.func319 rfl Tryz.ntmps319 Tryz.results319 rfl rfl ?_
   repeat'(first|(with_reducible first|apply AW.seq|apply AW.block|apply AW.skip|apply AW.ret|apply aa|apply aw|apply y_e|refine ae ?_)|((with_reducible apply ai);first|refine t_v AS.v ?_|refine t_w AS.w ?_|refine t_w (by first|exact av (hP:=m1)|exact av (hP:=a1)|exact av (hP:=a2)|exact av (hP:=m2)) ?_)|((with_reducible apply ay);refine t_s AS.s ?_)|((with_reducible refine aq ?_);first|refine aI ?_|refine aJ ?_)|((with_reducible refine aD ?_);refine b8 (k:=?_))|fail)
   exact⟨{ Ex.zero with op:=8,a:=a,rel:=0,b:=b},(_,_),rfl,aU {Ex.zero with op:=8,a:=a,rel:=0,b:=b},ar rfl⟩
  |false=>
   rw[h2] at a2
   have a2:MNL _ _ _ _ _ [(0,qsO k1 f1 c)]:=a2
   rw[if_neg ff]
   have a3:=ch (c:=c) hf k1 f1 ⟨#[33,61]⟩
   cases h3:okM f1 ⟨#[33,61]⟩ k1 with
   |true=>
    rw[h3] at a3
    have a3:MNL _ _ _ _ _ [(0,qsO (nx k1) f1 c)]:=a3
    rw[if_pos rfl]
    dsimp only
    unfold oB
    have m2:=ku (c:=c) hf v (nx k1) f1
    generalize dK v (nx k1) f1=q at *
    obtain ⟨b,k2,f2⟩:=q
    dsimp only at m2 ⊢
    refine MXA (fn:=Tryz.f319) Tryz.call319 Tryz.func319 rfl Tryz.ntmps319 Tryz.results319 rfl rfl ?_
    repeat'(first|(with_reducible first|apply AW.seq|apply AW.block|apply AW.skip|apply AW.ret|apply aa|apply aw|apply y_e|refine ae ?_)|((with_reducible apply ai);first|refine t_v AS.v ?_|refine t_w AS.w ?_|refine t_w (by first|exact av (hP:=m1)|exact av (hP:=a1)|exact av (hP:=a2)|exact av (hP:=a3)|exact av (hP:=m2)) ?_)|((with_reducible apply ay);refine t_s AS.s ?_)|((with_reducible refine aq ?_);first|refine aI ?_|refine aJ ?_)|((with_reducible refine aD ?_);refine b8 (k:=?_))|fail)
    exact⟨{ Ex.zero with op:=8,a:=a,rel:=1,b:=b},(_,_),rfl,aU {Ex.zero with op:=8,a:=a,rel:=1,b:=b},ar rfl⟩
   |false=>
    rw[h3] at a3
    have a3:MNL _ _ _ _ _ [(0,qsO k1 f1 c)]:=a3
    rw[if_neg ff]
    have m3:=gm (c:=c) hf [⟨#[100,111,109]⟩,⟨#[100,111,109,98,121]⟩,⟨#[105,110,99,111,109,112]⟩] (by decide) k1 f1
    have hb:=nE [⟨#[100,111,109]⟩,⟨#[100,111,109,98,121]⟩,⟨#[105,110,99,111,109,112]⟩] k1 f1
    generalize b9 [⟨#[100,111,109]⟩,⟨#[100,111,109,98,121]⟩,⟨#[105,110,99,111,109,112]⟩] k1 f1=q at *
    obtain ⟨r,k3,f3⟩:=q
    have hb:0≤r∧r≤3:=hb
    dsimp only at m3 ⊢
    unfold oB
    have m2:=ku (c:=c) hf v k3 f3
    generalize dK v k3 f3=q at *
    obtain ⟨b,k2,f2⟩:=q
    dsimp only at m2 ⊢
    refine MXA (fn:=Tryz.f319) Tryz.call319 Tryz.func319 rfl Tryz.ntmps319 Tryz.results319 rfl rfl ?_
    repeat'(first|(with_reducible first|apply AW.seq|apply AW.block|apply AW.skip|apply AW.ret|apply aa|apply aw|apply y_e|refine ae ?_)|((with_reducible apply ai);first|refine t_v AS.v ?_|refine t_w AS.w ?_|refine t_w (by first|exact av (hP:=m1)|exact av (hP:=a1)|exact av (hP:=a2)|exact av (hP:=a3)|exact av (hP:=m3)|exact av (hP:=m2)) ?_)|((with_reducible apply ay);refine t_s AS.s ?_)|((with_reducible refine aq ?_);refine aJ ?_)|((with_reducible refine aD ?_);refine b8 (k:=?_))|fail)
    try rw[wrap64 (by omega) (by omega)]
    exact⟨{ Ex.zero with op:=8,a:=a,rel:=1+r,b:=b},(_,_),rfl,aU {Ex.zero with op:=8,a:=a,rel:=1+r,b:=b},ar rfl⟩
theorem Aq (hf:Fine l) (v:Bool) (k:Ix l) (f:Fa):MNL Tryz.prog 319 [(0,qsO k f c)] [.c (.ptr 0 0),.c (sI (if v then 3 else 2))] (.agg (exC (jX v k f).1)) [(0,qsO (jX v k f).2.1 (jX v k f).2.2 c)]:=(Ba hf v k f).ok (jX v k f).1 (jX v k f).2 rfl
theorem zY (hf:Fine l) (v:Bool) (n:Nat):(∀ (k:Ix l) (f:Fa),4*(l.length - k.1)+1≤n→MX Tryz.prog 265 [(0,qsO k f c)] [.c (.ptr 0 0),.c (sI (if v then 3 else 2))] (.ok (dx v n k f):Except Fa (Ex×(Ix l×Fa))) (fun e=>.agg (exC e)) (fun b=>[(0,qsO b.1 b.2 c)]) pvS)∧
 (∀ (k:Ix l) (f:Fa),4*(l.length - k.1)+2≤n→MX Tryz.prog 192 [(0,qsO k f c)] [.c (.ptr 0 0),.c (sI (if v then 3 else 2))] (.ok (ek v n k f):Except Fa (Ex×(Ix l×Fa))) (fun e=>.agg (exC e)) (fun b=>[(0,qsO b.1 b.2 c)]) pvS)∧
 (∀ (k:Ix l) (f:Fa),4*(l.length - k.1)+3≤n→MX Tryz.prog 134 [(0,qsO k f c)] [.c (.ptr 0 0),.c (sI (if v then 3 else 2))] (.ok (orQ v n k f):Except Fa (Ex×(Ix l×Fa))) (fun e=>.agg (exC e)) (fun b=>[(0,qsO b.1 b.2 c)]) pvS):=by
 induction n using Nat.strongRecOn with
 |ind n ih=>
  cases n with
  |zero=>exact⟨fun k f h=>(by omega),fun k f h=>(by omega),fun k f h=>(by omega)⟩
  |succ n=>
  have hl:=hf.le
  obtain ⟨ih1,ih2,ih3⟩:=ih n (Nat.lt_succ_self n)
  refine⟨fun k f hn=>?_,fun k f hn=>?_,fun k f hn=>?_⟩
  ·have hk:=k.2
   have a1:=ch (c:=c) hf k f ⟨#[33]⟩
   have a2:=ch (c:=c) hf k f ⟨#[40]⟩
   rw[dx]
   cases h1:okM f ⟨#[33]⟩ k with
   |true=>
    have hx:(nx k).1=k.1+1:=by
     unfold okM at h1
     exact aW hf ((Bool.and_eq_true _ _).mp h1).2
    rw[h1] at a1
    have a1:MNL _ _ _ _ _ [(0,qsO (nx k) f c)]:=a1
    rw[if_pos rfl]
    have i1:=(ih1 (nx k) f (by omega)).ok (dx v n (nx k) f).1 (dx v n (nx k) f).2 rfl
    generalize dx v n (nx k) f=q at *
    obtain ⟨x,k2,f2⟩:=q
    dsimp only at i1 ⊢
    clear ih ih1 ih2 ih3 a2
    refine MXA (fn:=Tryz.f265) Tryz.call265 Tryz.func265 rfl Tryz.ntmps265 Tryz.results265 rfl rfl ?_
    repeat'(first|(with_reducible first|apply AW.seq|apply AW.block|apply AW.skip|apply AW.ret|apply aa|apply ak|apply aw|apply y_e|refine ae ?_|refine b7 ?_)|((with_reducible apply ai);first|refine t_v AS.v ?_|refine t_w AS.w ?_|refine t_w (by first|exact av (hP:=a1)|exact av (hP:=i1)) ?_)|((with_reducible apply ay);refine t_s AS.s ?_)|((with_reducible refine aq ?_);refine aI ?_)|((with_reducible refine aD ?_);refine b8 (k:=?_))|(refine⟨by decide +kernel,?_⟩)|fail)
    exact⟨{ Ex.zero with op:=2,kids:=[x]},(_,_),rfl,aU {Ex.zero with op:=2,kids:=[x]},ar rfl⟩
   |false=>
    rw[h1] at a1
    have a1:MNL _ _ _ _ _ [(0,qsO k f c)]:=a1
    rw[if_neg ff]
    cases h2:okM f ⟨#[40]⟩ k with
    |true=>
     have hx:(nx k).1=k.1+1:=by
      unfold okM at h2
      exact aW hf ((Bool.and_eq_true _ _).mp h2).2
     rw[h2] at a2
     have a2:MNL _ _ _ _ _ [(0,qsO (nx k) f c)]:=a2
     rw[if_pos rfl]
     have i1:=(ih3 (nx k) f (by omega)).ok (orQ v n (nx k) f).1 (orQ v n (nx k) f).2 rfl
     generalize orQ v n (nx k) f=q at *
     obtain ⟨x,k2,f2⟩:=q
     dsimp only at i1 ⊢
     have m3:=bV (c:=c) hf k2 f2 ⟨#[41]⟩
     generalize aO ⟨#[41]⟩ k2 f2=q at *
     obtain ⟨k3,f3⟩:=q
     dsimp only at m3 ⊢
     clear ih ih1 ih2 ih3
     refine MXA (fn:=Tryz.f265) Tryz.call265 Tryz.func265 rfl Tryz.ntmps265 Tryz.results265 rfl rfl ?_
     repeat'(first|(with_reducible first|apply AW.seq|apply AW.skip|apply AW.ret|apply aa|apply ak|apply y_e|refine ae ?_)|((with_reducible apply ai);first|refine t_v AS.v ?_|refine t_w AS.w ?_|refine t_w (by first|exact av (hP:=a1)|exact av (hP:=a2)|exact av (hP:=i1)|exact av (hP:=m3)) ?_)|((with_reducible apply ay);refine t_s AS.s ?_)|((with_reducible refine aq ?_);first|refine aI ?_|refine aJ ?_)|((with_reducible refine aD ?_);refine b8 (k:=?_))|fail)
     exact⟨x,(_,_),rfl,aU x,ar rfl⟩
    |false=>
     rw[h2] at a2
     have a2:MNL _ _ _ _ _ [(0,qsO k f c)]:=a2
     rw[if_neg ff]
     have m3:=Aq (c:=c) hf v k f
     generalize jX v k f=q at *
     obtain ⟨x,k2,f2⟩:=q
     dsimp only at m3 ⊢
     clear ih ih1 ih2 ih3
     refine MXA (fn:=Tryz.f265) Tryz.call265 Tryz.func265 rfl Tryz.ntmps265 Tryz.results265 rfl rfl ?_
     repeat'(first|(with_reducible first|apply AW.seq|apply AW.skip|apply AW.ret|apply aa|apply y_e|refine ae ?_)|((with_reducible apply ai);first|refine t_v AS.v ?_|refine t_w AS.w ?_|refine t_w (by first|exact av (hP:=a1)|exact av (hP:=a2)|exact av (hP:=m3)) ?_)|((with_reducible apply ay);refine t_s AS.s ?_)|((with_reducible refine aq ?_);refine aJ ?_)|((with_reducible refine aD ?_);refine b8 (k:=?_))|fail)
     exact⟨x,(_,_),rfl,aU x,ar rfl⟩
  ·have hk:=k.2
   have i1:=(ih1 k f (by omega)).ok (dx v n k f).1 (dx v n k f).2 rfl
   have hle:=(kT hf v n).1 k f
   rw[ek]
   generalize dx v n k f=q at *
   obtain ⟨x,k2,f2⟩:=q
   dsimp only at i1 hle ⊢
   clear ih1 ih2 ih3
   refine MXA (fn:=Tryz.f192) Tryz.call192 Tryz.func192 rfl Tryz.ntmps192 Tryz.results192 rfl rfl ?_
   repeat'(first|(with_reducible first|apply AW.seq|apply AW.block|apply aa|apply y_e|refine ae ?_)|((with_reducible apply ai);first|refine t_v AS.v ?_|refine t_w AS.w ?_|refine t_w (by exact av (hP:=i1)) ?_)|((with_reducible apply ay);refine t_s AS.s ?_)|fail)
   generalize hsp:fA v n x k2 f2=sp
   refine AW.loop (fun m σ=>∃ e k' f',fA v m e k' f'=sp∧m≤n∧4*(l.length - k'.1)+1≤m∧σ=mk [(0,.c (.ptr 0 0)),(1,.c (sI (if v then 3 else 2))),(4,.c (.ptr 4 0)),(5,.c (.ptr 5 0))] [(5,.obj 49 (exC e)),(0,qsO k' f' c),(4,.obj 49 (exC Ex.zero))]) n ?_ ?_
   ·exact⟨_,wkA,x,k2,f2,hsp,Nat.le_refl _,by omega,rfl⟩
   clear hle hsp i1
   rintro m σ ⟨e,k',f',hm,hm1,hm2,rfl⟩
   subst hm
   have hk':=k'.2
   obtain ⟨m,rfl⟩:∃ n,m=n+1:=⟨m - 1,by omega⟩
   have a1:=ch (c:=c) hf k' f' ⟨#[38,38]⟩
   rw[fA]
   cases hb:okM f' ⟨#[38,38]⟩ k' with
   |true=>
    have hx:(nx k').1=k'.1+1:=by
     unfold okM at hb
     exact aW hf ((Bool.and_eq_true _ _).mp hb).2
    rw[hb] at a1
    have a1:MNL _ _ _ _ _ [(0,qsO (nx k') f' c)]:=a1
    rw[if_pos rfl]
    have i1:=((ih m (by omega)).1 (nx k') f' (by omega)).ok (dx v m (nx k') f').1 (dx v m (nx k') f').2 rfl
    have hle:=(kT hf v m).1 (nx k') f'
    generalize dx v m (nx k') f'=q at *
    obtain ⟨y,k3,f3⟩:=q
    dsimp only at i1 hle ⊢
    clear ih
    repeat'(first|(with_reducible first|apply AW.seq|apply AW.block|apply AW.skip|apply AW.ret|apply aa|apply ak|apply aw|apply y_e|refine ae ?_|refine b7 ?_)|((with_reducible apply ai);first|refine t_v AS.v ?_|refine t_w AS.w ?_|refine t_w (by first|exact av (hP:=a1)|exact av (hP:=i1)) ?_)|((with_reducible apply ay);refine t_s AS.s ?_)|((with_reducible refine aq ?_);refine aI ?_)|((with_reducible refine aD ?_);refine b8 (k:=?_))|(refine⟨by decide +kernel,?_⟩)|fail)
    exact⟨m,_,Nat.lt_succ_self m,wkA,_,k3,f3,rfl,by omega,by omega,rfl⟩
   |false=>
    rw[hb] at a1
    have a1:MNL _ _ _ _ _ [(0,qsO k' f' c)]:=a1
    rw[if_neg ff]
    clear ih
    repeat'(first|(with_reducible first|apply AW.seq|apply AW.ret|apply AW.exit|apply aa|apply aE|apply aH|apply y_e|refine ae ?_)|((with_reducible apply ai);first|refine t_v AS.v ?_|refine t_w (by exact av (hP:=a1)) ?_)|((with_reducible apply ay);refine t_s AS.s ?_)|((with_reducible refine aq ?_);refine aJ ?_)|((with_reducible refine aD ?_);refine b8 (k:=?_))|fail)
    exact⟨e,(_,_),rfl,aU e,ar rfl⟩
  ·have hk:=k.2
   have i1:=(ih2 k f (by omega)).ok (ek v n k f).1 (ek v n k f).2 rfl
   have hle:=(kT hf v n).2.1 k f
   rw[orQ]
   generalize ek v n k f=q at *
   obtain ⟨x,k2,f2⟩:=q
   dsimp only at i1 hle ⊢
   clear ih1 ih2 ih3
   refine MXA (fn:=Tryz.f134) Tryz.call134 Tryz.func134 rfl Tryz.ntmps134 Tryz.results134 rfl rfl ?_
   repeat'(first|(with_reducible first|apply AW.seq|apply AW.block|apply aa|apply y_e|refine ae ?_)|((with_reducible apply ai);first|refine t_v AS.v ?_|refine t_w AS.w ?_|refine t_w (by exact av (hP:=i1)) ?_)|((with_reducible apply ay);refine t_s AS.s ?_)|fail)
   generalize hsp:jj v n x k2 f2=sp
   refine AW.loop (fun m σ=>∃ e k' f',jj v m e k' f'=sp∧m≤n∧4*(l.length - k'.1)+1≤m∧σ=mk [(0,.c (.ptr 0 0)),(1,.c (sI (if v then 3 else 2))),(4,.c (.ptr 4 0)),(5,.c (.ptr 5 0))] [(5,.obj 49 (exC e)),(0,qsO k' f' c),(4,.obj 49 (exC Ex.zero))]) n ?_ ?_
   ·exact⟨_,wkA,x,k2,f2,hsp,Nat.le_refl _,by omega,rfl⟩
   clear hle hsp i1
   rintro m σ ⟨e,k',f',hm,hm1,hm2,rfl⟩
   subst hm
   have hk':=k'.2
   obtain ⟨m,rfl⟩:∃ n,m=n+1:=⟨m - 1,by omega⟩
   have a1:=ch (c:=c) hf k' f' ⟨#[124,124]⟩
   rw[jj]
   cases hb:okM f' ⟨#[124,124]⟩ k' with
   |true=>
    have hx:(nx k').1=k'.1+1:=by
     unfold okM at hb
     exact aW hf ((Bool.and_eq_true _ _).mp hb).2
    rw[hb] at a1
    have a1:MNL _ _ _ _ _ [(0,qsO (nx k') f' c)]:=a1
    rw[if_pos rfl]
    have i1:=((ih m (by omega)).2.1 (nx k') f' (by omega)).ok (ek v m (nx k') f').1 (ek v m (nx k') f').2 rfl
    have hle:=(kT hf v m).2.1 (nx k') f'
    generalize ek v m (nx k') f'=q at *
    obtain ⟨y,k3,f3⟩:=q
    dsimp only at i1 hle ⊢
    clear ih
    repeat'(first|(with_reducible first|apply AW.seq|apply AW.block|apply AW.skip|apply AW.ret|apply aa|apply ak|apply aw|apply y_e|refine ae ?_|refine b7 ?_)|((with_reducible apply ai);first|refine t_v AS.v ?_|refine t_w AS.w ?_|refine t_w (by first|exact av (hP:=a1)|exact av (hP:=i1)) ?_)|((with_reducible apply ay);refine t_s AS.s ?_)|((with_reducible refine aq ?_);refine aI ?_)|((with_reducible refine aD ?_);refine b8 (k:=?_))|(refine⟨by decide +kernel,?_⟩)|fail)
    exact⟨m,_,Nat.lt_succ_self m,wkA,_,k3,f3,rfl,by omega,by omega,rfl⟩
   |false=>
    rw[hb] at a1
    have a1:MNL _ _ _ _ _ [(0,qsO k' f' c)]:=a1
    rw[if_neg ff]
    clear ih
    repeat'(first|(with_reducible first|apply AW.seq|apply AW.ret|apply AW.exit|apply aa|apply aE|apply aH|apply y_e|refine ae ?_)|((with_reducible apply ai);first|refine t_v AS.v ?_|refine t_w (by exact av (hP:=a1)) ?_)|((with_reducible apply ay);refine t_s AS.s ?_)|((with_reducible refine aq ?_);refine aJ ?_)|((with_reducible refine aD ?_);refine b8 (k:=?_))|fail)
    exact⟨e,(_,_),rfl,aU e,ar rfl⟩
theorem zc (hf:Fine l) (v:Bool) (k:Ix l) (f:Fa):MX Tryz.prog 67 [(0,qsO k f c)] [.c (.ptr 0 0),.c (sB v)] (.ok (gZ v k f):Except Fa (Ex×(Ix l×Fa))) (fun e=>.agg (exC e)) (fun b=>[(0,qsO b.1 b.2 c)]) pvS:=by
 have hl:=hf.le
 have nw:=cj (l:=l) (k:=k) (f:=f) (c:=c)
 have m1:=((zY (c:=c) hf v (fuel l)).2.2 k f (by unfold fuel;omega)).ok (orQ v (fuel l) k f).1 (orQ v (fuel l) k f).2 rfl
 have hlv:=(xp hf v (fuel l)).2.2.2.1 k f
 unfold gZ
 generalize orQ v (fuel l) k f=q at *
 obtain ⟨x,k2,f2⟩:=q
 dsimp only at m1 hlv ⊢
 have hk2:=k2.2
 have lv:=sj x (by omega)
 have fl:=cw (c:=c) k2 f2 4 (tk k)
 by_cases h:12<br x
 ·rw[if_pos h]
  cases v with
  |true=>
   refine MXA (fn:=Tryz.f67) Tryz.call67 Tryz.func67 rfl Tryz.ntmps67 Tryz.results67 rfl rfl ?_
   repeat'(first|(with_reducible first|apply AW.seq|apply AW.skip|apply AW.ret|apply aa|apply y_e|refine ae ?_)|((with_reducible apply ai);first|refine t_v AS.v ?_|refine t_v (by first|exact aj (hP:=lv)|exact az (hP:=nw)) ?_|refine t_w AS.w ?_|refine t_w (by first|exact av (hP:=m1)|exact av (hP:=fl)) ?_)|((with_reducible apply ay);refine t_s AS.s ?_)|((with_reducible refine aq ?_);first|refine aI ?_|refine aJ ?_|(refine ah (fun hc=>?_) (fun hc=>?_);all_goals(try(exfalso;revert hc;simp;omega))))|((with_reducible refine aD ?_);refine b8 (k:=?_))|fail)
   all_goals first|exact⟨x,(_,_),rfl,aU x,ar rfl⟩|trace_state
  |false=>
   refine MXA (fn:=Tryz.f67) Tryz.call67 Tryz.func67 rfl Tryz.ntmps67 Tryz.results67 rfl rfl ?_
   repeat'(first|(with_reducible first|apply AW.seq|apply AW.skip|apply AW.ret|apply aa|apply y_e|refine ae ?_)|((with_reducible apply ai);first|refine t_v AS.v ?_|refine t_v (by first|exact aj (hP:=lv)|exact az (hP:=nw)) ?_|refine t_w AS.w ?_|refine t_w (by first|exact av (hP:=m1)|exact av (hP:=fl)) ?_)|((with_reducible apply ay);refine t_s AS.s ?_)|((with_reducible refine aq ?_);first|refine aI ?_|refine aJ ?_|(refine ah (fun hc=>?_) (fun hc=>?_);all_goals(try(exfalso;revert hc;simp;omega))))|((with_reducible refine aD ?_);refine b8 (k:=?_))|fail)
   all_goals exact⟨x,(_,_),rfl,aU x,ar rfl⟩
 ·rw[if_neg h]
  cases v with
  |true=>
   refine MXA (fn:=Tryz.f67) Tryz.call67 Tryz.func67 rfl Tryz.ntmps67 Tryz.results67 rfl rfl ?_
   repeat'(first|(with_reducible first|apply AW.seq|apply AW.skip|apply AW.ret|apply aa|apply y_e|refine ae ?_)|((with_reducible apply ai);first|refine t_v AS.v ?_|refine t_v (by first|exact aj (hP:=lv)|exact az (hP:=nw)) ?_|refine t_w AS.w ?_|refine t_w (by first|exact av (hP:=m1)|exact av (hP:=fl)) ?_)|((with_reducible apply ay);refine t_s AS.s ?_)|((with_reducible refine aq ?_);first|refine aI ?_|refine aJ ?_|(refine ah (fun hc=>?_) (fun hc=>?_);all_goals(try(exfalso;revert hc;simp;omega))))|((with_reducible refine aD ?_);refine b8 (k:=?_))|fail)
   all_goals first|exact⟨x,(_,_),rfl,aU x,ar rfl⟩|trace_state
  |false=>
   refine MXA (fn:=Tryz.f67) Tryz.call67 Tryz.func67 rfl Tryz.ntmps67 Tryz.results67 rfl rfl ?_
   repeat'(first|(with_reducible first|apply AW.seq|apply AW.skip|apply AW.ret|apply aa|apply y_e|refine ae ?_)|((with_reducible apply ai);first|refine t_v AS.v ?_|refine t_v (by first|exact aj (hP:=lv)|exact az (hP:=nw)) ?_|refine t_w AS.w ?_|refine t_w (by first|exact av (hP:=m1)|exact av (hP:=fl)) ?_)|((with_reducible apply ay);refine t_s AS.s ?_)|((with_reducible refine aq ?_);first|refine aI ?_|refine aJ ?_|(refine ah (fun hc=>?_) (fun hc=>?_);all_goals(try(exfalso;revert hc;simp;omega))))|((with_reducible refine aD ?_);refine b8 (k:=?_))|fail)
   all_goals exact⟨x,(_,_),rfl,aU x,ar rfl⟩
theorem r7 (hf:Fine l) (v:Bool) (k:Ix l) (f:Fa):MNL Tryz.prog 67 [(0,qsO k f c)] [.c (.ptr 0 0),.c (sB v)] (.agg (exC (gZ v k f).1)) [(0,qsO (gZ v k f).2.1 (gZ v k f).2.2 c)]:=(zc hf v k f).ok (gZ v k f).1 (gZ v k f).2 rfl
end
end Am
namespace Am
open Tk
section
variable {l:List Tok}
def fE (k:Ix l) (f:Fa):List ByteArray×(Ix l×Fa):=fG (fuel l) [] k f
def ef (ob:Bool) (k:Ix l) (f:Fa):ByteArray×(Ix l×Fa):=
 if(decide (f.code=0)&&decide ((tk k).kind=3))=true then((tk k).text,(nx k,if(decide ((tk k).text=⟨#[]⟩) || (ob&& !gr (tk k).text))=true then bZ f 10 (tk k) else f)) else(⟨#[]⟩,(k,bZ f 9 (tk k)))
def rr (s:Stm) (k:Ix l) (f:Fa):Stm×(Ix l×Fa):=({s with list:=(bN k f).1},(bN k f).2)
def kL (s:Stm) (k:Ix l) (f:Fa):Stm×(Ix l×Fa):=({s with list:=(fE k f).1},(fE k f).2)
def uj (s:Stm) (k:Ix l) (f:Fa):Stm×(Ix l×Fa):=if okW f ⟨#[97,108,105,97,115]⟩ k=true then kL {s with aliases:=(bN (nx k) f).1} (bN (nx k) f).2.1 (bN (nx k) f).2.2 else kL s k f
def u9 (s:Stm) (y:ByteArray) (k:Ix l) (f:Fa):Stm×(Ix l×Fa):=({s with list:=[y]++(fE k f).1},(fE k f).2)
def vM (s:Stm) (k:Ix l) (f:Fa):Stm×(Ix l×Fa):=u9 s (aB k f).1 (aB k f).2.1 (aB k f).2.2
def tp (s:Stm) (k:Ix l) (f:Fa):Stm×(Ix l×Fa):=if okW f ⟨#[116,121,112,101,115]⟩ k=true then({s with source:=(bz false (nx k) f).1},(bz false (nx k) f).2) else(s,(k,f))
def sv (s:Stm) (k:Ix l) (f:Fa):Stm×(Ix l×Fa):=({s with range:=(du k f).1},(du k f).2)
def pC (s:Stm) (k:Ix l) (f:Fa):Stm×(Ix l×Fa):=sv s (iu ⟨#[114,97,110,103,101]⟩ k f).1 (iu ⟨#[114,97,110,103,101]⟩ k f).2
def pd (s:Stm) (k:Ix l) (f:Fa):Stm×(Ix l×Fa):=pC {s with level:=(cA k f).1} (cA k f).2.1 (cA k f).2.2
def py (s:Stm) (k:Ix l) (f:Fa):Stm×(Ix l×Fa):=pd s (iu ⟨#[108,101,118,101,108]⟩ k f).1 (iu ⟨#[108,101,118,101,108]⟩ k f).2
def pN (s:Stm) (k:Ix l) (f:Fa):Stm×(Ix l×Fa):=py {s with list:=(bN k f).1} (bN k f).2.1 (bN k f).2.2
def tf (s:Stm) (k:Ix l) (f:Fa):Stm×(Ix l×Fa):=pN s (iu ⟨#[114,111,108,101,115]⟩ k f).1 (iu ⟨#[114,111,108,101,115]⟩ k f).2
def ud (s:Stm) (k:Ix l) (f:Fa):Stm×(Ix l×Fa):=({s with value:=decide ((b9 [⟨#[116,114,117,101]⟩,⟨#[102,97,108,115,101]⟩] k f).1=1)},(b9 [⟨#[116,114,117,101]⟩,⟨#[102,97,108,115,101]⟩] k f).2)
def jH (s:Stm) (k:Ix l) (f:Fa):Stm×(Ix l×Fa):=
 if s.kind=1 then rr s k f else if s.kind=2 then uj s k f else if s.kind=4 then vM s k f else if s.kind=5 then tp s k f else if s.kind=8 then tf s k f else if s.kind=9 then ud s k f else(s,(k,f))
def cm (s:Stm) (k:Ix l) (f:Fa):Stm×(Ix l×Fa):=jH {s with name:=(aB k f).1} (aB k f).2.1 (aB k f).2.2
variable {f:Fa} {k:Ix l}
theorem tE (hl:Fine l):∀ (n:Nat) (acc:List ByteArray) (k:Ix l) (f:Fa),l.length<n+k.1→RQ f (b5 n acc k) (fG n acc k f)
 |0,_,k,_,h=>absurd k.2 (by omega)
 |n+1,acc,k,f,h=>by
  rw[b5,fG]
  show RQ f _ (if okM f ⟨#[44]⟩ k=true then _ else _)
  by_cases hm:isM ⟨#[44]⟩ k=true
  ·have hx:=aW hl hm
   refine RQ.iteM ?_ (.ok _ _)
   refine RQ.bindK (t:=aB (nx k) f) (u:=fun x k f=>fG n (acc++[x]) k f) (bT (nx k) f) (aP _) (fun x k' hk=>?_) fun x k' f' h'=>?_
   ·have h2:=(bh hl hk).2
    exact tE hl n _ k' f (by omega)
   ·show(fG n _ k' f').2.2=f'
    rw[uv h']
  ·have hm2:okM f ⟨#[44]⟩ k=false:=by unfold okM;rw[Bool.eq_false_iff.2 hm];simp
   rw[hm2,if_neg ff,if_neg hm];exact .ok _ _
theorem qF (hl:Fine l) (k:Ix l) (f:Fa):RQ f (b5 (fuel l) [] k) (fE k f):=tE hl _ _ _ _ (by unfold fuel;omega)
theorem ll:∀ (n:Nat) (a acc:List ByteArray) (k:Ix l),b5 n (a++acc) k=b5 n acc k>>=fun x=>.ok (a++x.1,x.2)
 |0,_,_,_=>rfl
 |n+1,a,acc,k=>by
  rw[b5,b5]
  by_cases hm:isM ⟨#[44]⟩ k=true
  ·rw[if_pos hm,if_pos hm]
   cases aQ (nx k) with
   |error e=>rfl
   |ok x=>
    rw[ag,ag,List.append_assoc,ll n a _ x.2]
  ·rw[if_neg hm,if_neg hm];rfl
theorem Ac (k:Ix l) (f:Fa):RQ f (gQ k) (ef false k f):=by
 unfold gQ ef
 by_cases hf:f.code=0
 ·by_cases h3:(tk k).kind=3
  ·have e1:(decide (f.code=0)&&decide ((tk k).kind=3))=true:=by simp[hf,h3]
   rw[if_pos h3,if_pos e1]
   by_cases h0:(tk k).text=⟨#[]⟩
   ·have e2:(decide ((tk k).text=⟨#[]⟩) || (false&& !gr (tk k).text))=true:=by simp[h0]
    rw[if_pos h0,if_pos e2];exact .err _ k _
   ·have e2:¬ (decide ((tk k).text=⟨#[]⟩) || (false&& !gr (tk k).text))=true:=by simp[h0]
    rw[if_neg h0,if_neg e2];exact .ok _ _
  ·have e1:¬ (decide (f.code=0)&&decide ((tk k).kind=3))=true:=by simp[h3]
   rw[if_neg h3,if_neg e1];exact .err _ k _
 ·have e1:¬ (decide (f.code=0)&&decide ((tk k).kind=3))=true:=by simp[hf]
  rw[if_neg e1];exact⟨fun h=>dJ h,fun h=>absurd h hf⟩
theorem RQ.map {α β:Type} {sp:Except Fa (α×Ix l)} {t:α×(Ix l×Fa)} {g:α→β} (h:RQ f sp t):RQ f (sp>>=fun x=>.ok (g x.1,x.2)) (g t.1,t.2):=by
 refine⟨fun hf=>h.1 hf,fun hf=>?_⟩
 have h2:=h.2 hf
 cases sp with
 |ok x=>
  have h2:t=(x.1,(x.2,f)):=h2
  rw[h2];rfl
 |error e=>exact h2
theorem wV (hl:Fine l) (s:Stm) (k:Ix l) (f:Fa):RQ f (bq k>>=fun y=>.ok ({s with list:=y.1},y.2)) (rr s k f):=
 RQ.map (g:=fun y=>{s with list:=y}) (j9 hl k f)
theorem qA (hl:Fine l) (s:Stm) (k:Ix l) (f:Fa):RQ f (b5 (fuel l) [] k>>=fun y=>.ok ({s with list:=y.1},y.2)) (kL s k f):=
 RQ.map (g:=fun y=>{s with list:=y}) (qF hl k f)
theorem Bq (hl:Fine l) (s:Stm) (k:Ix l) (f:Fa):RQ f (if isW ⟨#[97,108,105,97,115]⟩ k then bq (nx k)>>=fun y=>b5 (fuel l) [] y.2>>=fun z=>.ok ({s with aliases:=y.1,list:=z.1},z.2)
 else b5 (fuel l) [] k>>=fun z=>.ok ({s with list:=z.1},z.2)) (uj s k f):=by
 unfold uj
 refine RQ.iteW ?_ (qA hl s k f)
 refine RQ.bind (t:=bN (nx k) f) (u:=fun y k f=>kL {s with aliases:=y} k f) (j9 hl (nx k) f) (dz _) fun y k f=>?_
 exact qA hl {s with aliases:=y} k f
theorem yL (hl:Fine l) (s:Stm) (k:Ix l) (f:Fa):RQ f (cn k>>=fun y=>.ok ({s with list:=y.1},y.2)) (vM s k f):=by
 have e:(cn k>>=fun y=>.ok ({s with list:=y.1},y.2))=aQ k>>=fun y=>b5 (fuel l) [] y.2>>=fun z=>.ok ({s with list:=[y.1]++z.1},z.2):=by
  unfold cn
  cases aQ k with
  |error e=>rfl
  |ok y=>
   rw[ag,ag]
   have:=ll (fuel l) [y.1] [] y.2
   rw[List.append_nil] at this
   rw[this]
   cases b5 (fuel l) [] y.2 with
   |error e=>rfl
   |ok z=>rfl
 rw[e]
 unfold vM
 refine RQ.bind (t:=aB k f) (u:=fun y k f=>u9 s y k f) (bT k f) (aP k) fun y k f=>?_
 exact RQ.map (g:=fun z=>{s with list:=[y]++z}) (qF hl k f)
theorem zA (hl:Fine l) (s:Stm) (k:Ix l) (f:Fa):RQ f (if isW ⟨#[116,121,112,101,115]⟩ k then b6 false (nx k)>>=fun y=>.ok ({s with source:=y.1},y.2) else .ok (s,k)) (tp s k f):=by
 unfold tp
 exact RQ.iteW (RQ.map (g:=fun y=>{s with source:=y}) (fe hl false (nx k) f)) (.ok _ _)
theorem A7 (hl:Fine l) (s:Stm) (k:Ix l) (f:Fa):RQ f (cX ⟨#[114,111,108,101,115]⟩ k>>=fun a=>bq a.2>>=fun y=>cX ⟨#[108,101,118,101,108]⟩ y.2>>=fun b=>dH b.2>>=fun v=>cX ⟨#[114,97,110,103,101]⟩ v.2>>=fun c=>cG c.2>>=fun g=>.ok ({s with list:=y.1,level:=v.1,range:=g.1},g.2)) (tf s k f):=by
 unfold tf
 refine RQ.bind (t:=((),iu ⟨#[114,111,108,101,115]⟩ k f)) (u:=fun _ k f=>pN s k f) (oV _ k f) (eJ _ k) fun _ k f=>?_
 unfold pN
 refine RQ.bind (t:=bN k f) (u:=fun y k f=>py {s with list:=y} k f) (j9 hl k f) (dz k) fun y k f=>?_
 unfold py
 refine RQ.bind (t:=((),iu ⟨#[108,101,118,101,108]⟩ k f)) (u:=fun _ k f=>pd {s with list:=y} k f) (oV _ k f) (eJ _ k) fun _ k f=>?_
 unfold pd
 refine RQ.bind (t:=cA k f) (u:=fun v k f=>pC {s with list:=y,level:=v} k f) (my hl k f) (gT k) fun v k f=>?_
 unfold pC
 refine RQ.bind (t:=((),iu ⟨#[114,97,110,103,101]⟩ k f)) (u:=fun _ k f=>sv {s with list:=y,level:=v} k f) (oV _ k f) (eJ _ k) fun _ k f=>?_
 exact RQ.map (g:=fun g=>{s with list:=y,level:=v,range:=g}) (mS hl k f)
theorem BL (s:Stm) (k:Ix l) (f:Fa):RQ f (bb [⟨#[102,97,108,115,101]⟩,⟨#[116,114,117,101]⟩] k>>=fun y=>.ok ({s with value:=decide (y.1=1)},y.2)) (ud s k f):=by
 have h:=ie [⟨#[116,114,117,101]⟩,⟨#[102,97,108,115,101]⟩] k f
 refine⟨fun hf=>h.1 hf,fun hf=>?_⟩
 have h2:=h.2 hf
 unfold ud
 generalize b9 [⟨#[116,114,117,101]⟩,⟨#[102,97,108,115,101]⟩] k f=q at *
 have hd:(isW ⟨#[116,114,117,101]⟩ k&&isW ⟨#[102,97,108,115,101]⟩ k)=false:=by
  unfold isW
  by_cases e:(tk k).text=⟨#[116,114,117,101]⟩
  ·rw[e];simp
  ·simp[e]
 unfold bb at *
 simp only[List.findIdx?_cons,List.findIdx?_nil] at *
 cases ht:isW ⟨#[116,114,117,101]⟩ k with
 |true=>
  cases hfs:isW ⟨#[102,97,108,115,101]⟩ k with
  |true=>rw[ht,hfs] at hd;cases hd
  |false=>
   rw[ht] at h2
   have h2:q=((0:Int)+1,(nx k,f)):=h2
   subst h2
   rfl
 |false=>
  cases hfs:isW ⟨#[102,97,108,115,101]⟩ k with
  |true=>
   rw[ht,hfs] at h2
   have h2:q=((1:Int)+1,(nx k,f)):=h2
   subst h2
   rfl
  |false=>
   rw[ht,hfs] at h2
   exact h2
end
end Am
namespace Am
open Tk
section
variable {l:List Tok}
def jM (s:Stm) (k:Ix l) (f:Fa):Stm×(Ix l×Fa):=if(decide (s.kind=13)&&decide (s.op=1)&&decide (f.code=0)&&decide ((tk k).kind=3))=true then({s with text:=(ef true k f).1},(ef true k f).2) else(s,(k,f))
def gj (s:Stm) (k:Ix l) (f:Fa):Stm×(Ix l×Fa):=
 if s.kind=12 then({s with perms:=(bz false k f).1},(bz false k f).2)
 else if s.kind=14 then({s with range:=(du k f).1},(du k f).2)
 else jM {s with result:=(aB k f).1} (aB k f).2.1 (aB k f).2.2
def jK (s:Stm) (k:Ix l) (f:Fa):Stm×(Ix l×Fa):=gj {s with cls:=(bz false k f).1} (bz false k f).2.1 (bz false k f).2.2
def gI (s:Stm) (k:Ix l) (f:Fa):Stm×(Ix l×Fa):=if s.kind=6 then(s,(k,f)) else jK s (aO ⟨#[58]⟩ k f).1 (aO ⟨#[58]⟩ k f).2
def gL (s:Stm) (k:Ix l) (f:Fa):Stm×(Ix l×Fa):=gI {s with target:=(bz (decide (s.kind=12)) k f).1} (bz (decide (s.kind=12)) k f).2.1 (bz (decide (s.kind=12)) k f).2.2
def bL (s:Stm) (k:Ix l) (f:Fa):Stm×(Ix l×Fa):=gL {s with source:=(bz false k f).1} (bz false k f).2.1 (bz false k f).2.2
def wt (s:Stm) (k:Ix l) (f:Fa):Stm×(Ix l×Fa):=({s with list:=(bN k f).1},(bN k f).2)
def tV (s:Stm) (k:Ix l) (f:Fa):Stm×(Ix l×Fa):=if s.op=1 then wt {s with name:=(aB k f).1} (aB k f).2.1 (aB k f).2.2 else vM s k f
def lE (s:Stm) (k:Ix l) (f:Fa):Stm×(Ix l×Fa):=tV {s with op:=(b9 gX k f).1} (b9 gX k f).2.1 (b9 gX k f).2.2
def oo (s:Stm) (v:Bool) (k:Ix l) (f:Fa):Stm×(Ix l×Fa):=({s with cond:=(gZ v k f).1},(gZ v k f).2)
def tQ (s:Stm) (k:Ix l) (f:Fa):Stm×(Ix l×Fa):=oo {s with perms:=(bz false k f).1} false (bz false k f).2.1 (bz false k f).2.2
def zP (s:Stm) (k:Ix l) (f:Fa):Stm×(Ix l×Fa):=tQ {s with cls:=(bz false k f).1} (bz false k f).2.1 (bz false k f).2.2
def Bj (s:Stm) (k:Ix l) (f:Fa):Stm×(Ix l×Fa):=oo {s with cls:=(bz false k f).1} true (bz false k f).2.1 (bz false k f).2.2
def o0 (s:Stm) (k:Ix l) (f:Fa):Stm×(Ix l×Fa):=({s with ctx:=(cY k f).1},(cY k f).2)
def BE (s:Stm) (k:Ix l) (f:Fa):Stm×(Ix l×Fa):=o0 {s with name:=(aB k f).1} (aB k f).2.1 (aB k f).2.2
def p9 (s:Stm) (k:Ix l) (f:Fa):Stm×(Ix l×Fa):=o0 {s with op:=(b9 eU k f).1 - 1} (b9 eU k f).2.1 (b9 eU k f).2.2
def uh (s:Stm) (k:Ix l) (f:Fa):Stm×(Ix l×Fa):=p9 {s with text:=(ef false k f).1} (ef false k f).2.1 (ef false k f).2.2
def tr (s:Stm) (k:Ix l) (f:Fa):Stm×(Ix l×Fa):=({s with source:=(bz false k f).1},(bz false k f).2)
def xV (s:Stm) (k:Ix l) (f:Fa):Stm×(Ix l×Fa):=({s with target:=(bz false k f).1},(bz false k f).2)
def tU (s:Stm) (k:Ix l) (f:Fa):Stm×(Ix l×Fa):=xV {s with source:=(bz false k f).1} (bz false k f).2.1 (bz false k f).2.2
def tu (s:Stm) (k:Ix l) (f:Fa):Stm×(Ix l×Fa):=tU {s with op:=(b9 iK k f).1} (b9 iK k f).2.1 (b9 iK k f).2.2
def wS (s:Stm) (k:Ix l) (f:Fa):Stm×(Ix l×Fa):=tu {s with name:=(aB k f).1} (aB k f).2.1 (aB k f).2.2
def bB (s:Stm) (k:Ix l) (f:Fa):Stm×(Ix l×Fa):=
 if s.kind=15 then zP s k f else if s.kind=16 then Bj s k f else if s.kind=19 then lE s k f else if s.kind=20 then BE s k f else if s.kind=21 then uh s k f else if s.kind=22 then tr s k f else if s.kind=23 then wS s k f else(s,(k,f))
variable {f:Fa} {k:Ix l}
theorem yo (k:Ix l) (f:Fa) (h:(tk k).kind=3):RQ f (if gr (tk k).text then .ok ((tk k).text,nx k) else .error (flt 10 (tk k))) (ef true k f):=by
 have h0:gr ⟨#[]⟩=false:=by rfl
 unfold ef
 by_cases hf:f.code=0
 ·have e1:(decide (f.code=0)&&decide ((tk k).kind=3))=true:=by simp[hf,h]
  rw[if_pos e1]
  cases ho:gr (tk k).text with
  |true=>
   have hn:¬ (tk k).text=⟨#[]⟩:=fun e=>by rw[e,h0] at ho;cases ho
   have e2:¬ (decide ((tk k).text=⟨#[]⟩) || (true&& !true))=true:=by simp[hn]
   rw[if_pos rfl,if_neg e2];exact .ok _ _
  |false=>
   have e2:(decide ((tk k).text=⟨#[]⟩) || (true&& !false))=true:=by simp
   rw[if_neg ff,if_pos e2];exact .err _ k _
 ·have e1:¬ (decide (f.code=0)&&decide ((tk k).kind=3))=true:=by simp[hf]
  rw[if_neg e1];exact⟨fun h=>dJ h,fun h=>absurd h hf⟩
theorem BQ (hl:Fine l) (s:Stm) (k:Ix l) (f:Fa):RQ f (b6 false k>>=fun x=>.ok ({s with source:=x.1},x.2)) (tr s k f):=RQ.map (g:=fun x=>{s with source:=x}) (fe hl false k f)
theorem CQ (hl:Fine l) (s:Stm) (k:Ix l) (f:Fa):RQ f (aQ k>>=fun x=>bR x.2>>=fun y=>.ok ({s with name:=x.1,ctx:=y.1},y.2)) (BE s k f):=by
 unfold BE
 refine RQ.bind (t:=aB k f) (u:=fun x k f=>o0 {s with name:=x} k f) (bT k f) (aP k) fun x k f=>?_
 exact RQ.map (g:=fun y=>{s with name:=x,ctx:=y}) (mq hl k f)
theorem Db (hl:Fine l) (s:Stm) (k:Ix l) (f:Fa):RQ f (b6 false k>>=fun x=>cI true x.2>>=fun z=>.ok ({s with cls:=x.1,cond:=z.1},z.2)) (Bj s k f):=by
 unfold Bj
 refine RQ.bind (t:=bz false k f) (u:=fun x k f=>oo {s with cls:=x} true k f) (fe hl false k f) (aX _ k) fun x k f=>?_
 exact RQ.map (g:=fun y=>{s with cls:=x,cond:=y}) (tn hl true k f)
theorem Dx (hl:Fine l) (s:Stm) (k:Ix l) (f:Fa):RQ f (b6 false k>>=fun x=>b6 false x.2>>=fun y=>cI false y.2>>=fun z=>.ok ({s with cls:=x.1,perms:=y.1,cond:=z.1},z.2)) (zP s k f):=by
 unfold zP
 refine RQ.bind (t:=bz false k f) (u:=fun x k f=>tQ {s with cls:=x} k f) (fe hl false k f) (aX _ k) fun x k f=>?_
 unfold tQ
 refine RQ.bind (t:=bz false k f) (u:=fun y k f=>oo {s with cls:=x,perms:=y} false k f) (fe hl false k f) (aX _ k) fun y k f=>?_
 exact RQ.map (g:=fun z=>{s with cls:=x,perms:=y,cond:=z}) (tn hl false k f)
theorem D0 (hl:Fine l) (s:Stm) (k:Ix l) (f:Fa):RQ f (aQ k>>=fun x=>bb iK x.2>>=fun y=>b6 false y.2>>=fun z=>b6 false z.2>>=fun u=>.ok ({s with name:=x.1,op:=y.1+1,source:=z.1,target:=u.1},u.2)) (wS s k f):=by
 unfold wS
 refine RQ.bind (t:=aB k f) (u:=fun x k f=>tu {s with name:=x} k f) (bT k f) (aP k) fun x k f=>?_
 have e:(bb iK k>>=fun y=>b6 false y.2>>=fun z=>b6 false z.2>>=fun u=>.ok ({s with name:=x,op:=y.1+1,source:=z.1,target:=u.1},u.2):Except Fa (Stm×Ix l))=(bb iK k>>=fun x=>.ok (x.1+1,x.2))>>=fun y=>b6 false y.2>>=fun z=>b6 false z.2>>=fun u=>.ok ({s with name:=x,op:=y.1,source:=z.1,target:=u.1},u.2):=by
  cases bb iK k <;> rfl
 show RQ f (bb iK k>>=fun y=>b6 false y.2>>=fun z=>b6 false z.2>>=fun u=>.ok ({s with name:=x,op:=y.1+1,source:=z.1,target:=u.1},u.2)) _
 rw[e]
 unfold tu
 refine RQ.bind (t:=b9 iK k f) (u:=fun y k f=>tU {s with name:=x,op:=y} k f) (ie iK k f) (NZ.bind (dy _ k) fun _=>NZ.ok _) fun y k f=>?_
 unfold tU
 refine RQ.bind (t:=bz false k f) (u:=fun z k f=>xV {s with name:=x,op:=y,source:=z} k f) (fe hl false k f) (aX _ k) fun z k f=>?_
 exact RQ.map (g:=fun u=>{s with name:=x,op:=y,source:=z,target:=u}) (fe hl false k f)
end
end Am
namespace Am
open Tk
section
variable {l:List Tok} {f:Fa} {k:Ix l}
theorem Aj (hl:Fine l) (s:Stm) (k:Ix l) (f:Fa):RQ f (gQ k>>=fun x=>bb eU x.2>>=fun y=>bR y.2>>=fun z=>.ok ({s with text:=x.1,op:=y.1,ctx:=z.1},z.2)) (uh s k f):=by
 unfold uh
 refine RQ.bind (t:=ef false k f) (u:=fun x k f=>p9 {s with text:=x} k f) (Ac k f) (oW k) fun x k f=>?_
 have e:(bb eU k>>=fun y=>bR y.2>>=fun z=>.ok ({s with text:=x,op:=y.1,ctx:=z.1},z.2):Except Fa (Stm×Ix l))=(bb eU k>>=fun x=>.ok (x.1+1,x.2))>>=fun y=>bR y.2>>=fun z=>.ok ({s with text:=x,op:=y.1 - 1,ctx:=z.1},z.2):=by
  cases bb eU k with
  |error e=>rfl
  |ok y=>
   rw[ag,ag,ag]
   have e:y.1+1 - 1=y.1:=by omega
   dsimp only
   rw[e]
 show RQ f (bb eU k>>=fun y=>bR y.2>>=fun z=>.ok ({s with text:=x,op:=y.1,ctx:=z.1},z.2)) _
 rw[e]
 unfold p9
 refine RQ.bind (t:=b9 eU k f) (u:=fun y k f=>o0 {s with text:=x,op:=y - 1} k f) (ie eU k f) (NZ.bind (dy _ k) fun _=>NZ.ok _) fun y k f=>?_
 exact RQ.map (g:=fun z=>{s with text:=x,op:=y - 1,ctx:=z}) (mq hl k f)
theorem E1 (hl:Fine l) (s:Stm) (k:Ix l) (f:Fa):RQ f (bb gX k>>=fun x=>if x.1=0 then aQ x.2>>=fun y=>bq y.2>>=fun z=>.ok ({s with op:=1,name:=y.1,list:=z.1},z.2) else cn x.2>>=fun y=>.ok ({s with op:=1+x.1,list:=y.1},y.2)) (lE s k f):=by
 have e:(bb gX k>>=fun x=>if x.1=0 then aQ x.2>>=fun y=>bq y.2>>=fun z=>.ok ({s with op:=1,name:=y.1,list:=z.1},z.2) else cn x.2>>=fun y=>.ok ({s with op:=1+x.1,list:=y.1},y.2):Except Fa (Stm×Ix l)) =
  (bb gX k>>=fun x=>.ok (x.1+1,x.2))>>=fun x=>if x.1=1 then aQ x.2>>=fun y=>bq y.2>>=fun z=>.ok ({s with op:=x.1,name:=y.1,list:=z.1},z.2) else cn x.2>>=fun y=>.ok ({s with op:=x.1,list:=y.1},y.2):=by
  cases bb gX k with
  |error e=>rfl
  |ok y=>
   rw[ag,ag,ag]
   dsimp only
   by_cases h:y.1=0
   ·rw[if_pos h,if_pos (by omega),h];rfl
   ·rw[if_neg h,if_neg (by omega),Int.add_comm]
 rw[e]
 unfold lE
 refine RQ.bind (t:=b9 gX k f) (u:=fun y k f=>tV {s with op:=y} k f) (ie gX k f) (NZ.bind (dy _ k) fun _=>NZ.ok _) fun y k f=>?_
 unfold tV
 dsimp only
 by_cases h:y=1
 ·rw[if_pos h,if_pos h]
  refine RQ.bind (t:=aB k f) (u:=fun x k f=>wt {s with op:=y,name:=x} k f) (bT k f) (aP k) fun x k f=>?_
  exact RQ.map (g:=fun z=>{s with op:=y,name:=x,list:=z}) (j9 hl k f)
 ·rw[if_neg h,if_neg h]
  exact yL hl {s with op:=y} k f
theorem lT (hl:Fine l) (s:Stm) (b:Bool) (hb:decide (s.kind=12)=b) (h6:¬ s.kind=6) {g:Stm×Ix l→Except Fa (Stm×Ix l)} (hg:∀ (x y z:NS) (k:Ix l) (f:Fa),RQ f (g ({s with source:=x,target:=y,cls:=z},k)) (gj {s with source:=x,target:=y,cls:=z} k f)) (k:Ix l) (f:Fa) :
 RQ f (b6 false k>>=fun x=>b6 b x.2>>=fun y=>aT ⟨#[58]⟩ y.2>>=fun a=>b6 false a.2>>=fun z=>g ({s with source:=x.1,target:=y.1,cls:=z.1},z.2)) (bL s k f):=by
 subst hb
 unfold bL
 refine RQ.bind (t:=bz false k f) (u:=fun x k f=>gL {s with source:=x} k f) (fe hl false k f) (aX _ k) fun x k f=>?_
 unfold gL
 refine RQ.bind (t:=bz (decide (s.kind=12)) k f) (u:=fun y k f=>gI {s with source:=x,target:=y} k f) (fe hl _ k f) (aX _ k) fun y k f=>?_
 unfold gI
 dsimp only
 rw[if_neg h6]
 refine RQ.bind (t:=((),aO ⟨#[58]⟩ k f)) (u:=fun _ k f=>jK {s with source:=x,target:=y} k f) (fm _ k f) (bo _ k) fun _ k f=>?_
 unfold jK
 refine RQ.bind (t:=bz false k f) (u:=fun z k f=>gj {s with source:=x,target:=y,cls:=z} k f) (fe hl false k f) (aX _ k) fun z k f=>?_
 exact hg x y z k f
theorem jw (hl:Fine l) (s:Stm) (h:s.kind=12) (k:Ix l) (f:Fa):RQ f (b6 false k>>=fun x=>b6 true x.2>>=fun y=>aT ⟨#[58]⟩ y.2>>=fun a=>b6 false a.2>>=fun z=>b6 false z.2>>=fun p=>.ok ({s with source:=x.1,target:=y.1,cls:=z.1,perms:=p.1},p.2)) (bL s k f):=by
 refine lT hl s true (by rw[h];rfl) (by rw[h];decide) (g:=fun z=>b6 false z.2>>=fun p=>.ok ({z.1 with perms:=p.1},p.2)) (fun x y z k f=>?_) k f
 unfold gj
 dsimp only
 rw[if_pos h]
 exact RQ.map (g:=fun p=>{s with source:=x,target:=y,cls:=z,perms:=p}) (fe hl false k f)
theorem uT (hl:Fine l) (s:Stm) (h:s.kind=14) (k:Ix l) (f:Fa):RQ f (b6 false k>>=fun x=>b6 false x.2>>=fun y=>aT ⟨#[58]⟩ y.2>>=fun a=>b6 false a.2>>=fun z=>cG z.2>>=fun p=>.ok ({s with source:=x.1,target:=y.1,cls:=z.1,range:=p.1},p.2)) (bL s k f):=by
 refine lT hl s false (by rw[h];rfl) (by rw[h];decide) (g:=fun z=>cG z.2>>=fun p=>.ok ({z.1 with range:=p.1},p.2)) (fun x y z k f=>?_) k f
 unfold gj
 dsimp only
 rw[if_neg (by rw[h];decide),if_pos h]
 exact RQ.map (g:=fun p=>{s with source:=x,target:=y,cls:=z,range:=p}) (mS hl k f)
theorem yy (hl:Fine l) (s:Stm) (h:s.kind=7) (k:Ix l) (f:Fa):RQ f (b6 false k>>=fun x=>b6 false x.2>>=fun y=>aT ⟨#[58]⟩ y.2>>=fun a=>b6 false a.2>>=fun z=>aQ z.2>>=fun p=>.ok ({s with source:=x.1,target:=y.1,cls:=z.1,result:=p.1},p.2)) (bL s k f):=by
 refine lT hl s false (by rw[h];rfl) (by rw[h];decide) (g:=fun z=>aQ z.2>>=fun p=>.ok ({z.1 with result:=p.1},p.2)) (fun x y z k f=>?_) k f
 unfold gj
 dsimp only
 rw[if_neg (by rw[h];decide),if_neg (by rw[h];decide)]
 refine RQ.bind (t:=aB k f) (u:=fun p k f=>jM {s with source:=x,target:=y,cls:=z,result:=p} k f) (bT k f) (aP k) fun p k f=>?_
 unfold jM
 have e:¬ (decide (s.kind=13)&&decide (s.op=1)&&decide (f.code=0)&&decide ((tk k).kind=3))=true:=by simp[h]
 rw[if_neg e];exact .ok _ _
theorem kQ (hl:Fine l) (s:Stm) (h:s.kind=13) (k:Ix l) (f:Fa):RQ f (b6 false k>>=fun x=>b6 false x.2>>=fun y=>aT ⟨#[58]⟩ y.2>>=fun a=>b6 false a.2>>=fun z=>aQ z.2>>=fun p=>
 if s.op=1∧(tk p.2).kind=3 then(if gr (tk p.2).text then .ok ({s with source:=x.1,target:=y.1,cls:=z.1,result:=p.1,text:=(tk p.2).text},nx p.2) else .error (flt 10 (tk p.2))) else .ok ({s with source:=x.1,target:=y.1,cls:=z.1,result:=p.1},p.2)) (bL s k f):=by
 refine lT hl s false (by rw[h];rfl) (by rw[h];decide) (g:=fun z=>aQ z.2>>=fun p=>if s.op=1∧(tk p.2).kind=3 then(if gr (tk p.2).text then .ok ({z.1 with result:=p.1,text:=(tk p.2).text},nx p.2) else .error (flt 10 (tk p.2))) else .ok ({z.1 with result:=p.1},p.2)) (fun x y z k f=>?_) k f
 unfold gj
 dsimp only
 rw[if_neg (by rw[h];decide),if_neg (by rw[h];decide)]
 refine RQ.bind (t:=aB k f) (u:=fun p k f=>jM {s with source:=x,target:=y,cls:=z,result:=p} k f) (bT k f) (aP k) fun p k f=>?_
 unfold jM
 dsimp only
 by_cases hf:f.code=0
 ·by_cases hc:s.op=1∧(tk k).kind=3
  ·have e:(decide (s.kind=13)&&decide (s.op=1)&&decide (f.code=0)&&decide ((tk k).kind=3))=true:=by simp[h,hf,hc.1,hc.2]
   rw[if_pos hc,if_pos e]
   have ht:=yo k f hc.2
   have e2:(if gr (tk k).text then .ok ({s with source:=x,target:=y,cls:=z,result:=p,text:=(tk k).text},nx k) else .error (flt 10 (tk k)):Except Fa (Stm×Ix l))=(if gr (tk k).text then .ok ((tk k).text,nx k) else .error (flt 10 (tk k)))>>=fun w=>.ok ({s with source:=x,target:=y,cls:=z,result:=p,text:=w.1},w.2):=by
    cases gr (tk k).text <;> rfl
   rw[e2]
   exact RQ.map (g:=fun w=>{s with source:=x,target:=y,cls:=z,result:=p,text:=w}) ht
  ·have e:¬ (decide (s.kind=13)&&decide (s.op=1)&&decide (f.code=0)&&decide ((tk k).kind=3))=true:=by
    intro e
    simp only[Bool.and_eq_true,decide_eq_true_eq] at e
    exact hc ⟨e.1.1.2,e.2⟩
   rw[if_neg hc,if_neg e];exact .ok _ _
 ·have e:¬ (decide (s.kind=13)&&decide (s.op=1)&&decide (f.code=0)&&decide ((tk k).kind=3))=true:=by simp[hf]
  rw[if_neg e]
  exact⟨fun _=>rfl,fun h=>absurd h hf⟩
theorem vV (hl:Fine l) (s:Stm) (h:s.kind=6) (k:Ix l) (f:Fa):RQ f (b6 false k>>=fun x=>b6 false x.2>>=fun y=>.ok ({s with source:=x.1,target:=y.1},y.2)) (bL s k f):=by
 unfold bL
 refine RQ.bind (t:=bz false k f) (u:=fun x k f=>gL {s with source:=x} k f) (fe hl false k f) (aX _ k) fun x k f=>?_
 unfold gL
 dsimp only
 have e:decide (s.kind=12)=false:=by rw[h];rfl
 rw[e]
 refine RQ.bind (t:=bz false k f) (u:=fun y k f=>gI {s with source:=x,target:=y} k f) (fe hl _ k f) (aX _ k) fun y k f=>?_
 unfold gI
 dsimp only
 rw[if_pos h];exact .ok _ _
end
end Am
end Go.Proofs.YtkpodagbefnebaaGreatDoor
