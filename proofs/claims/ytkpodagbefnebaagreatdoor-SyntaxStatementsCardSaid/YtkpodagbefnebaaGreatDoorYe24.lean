import Derived.Test.YtkpodagbefnebaaGreatDoorYe23
set_option linter.unusedSimpArgs false
set_option linter.unusedVariables false
set_option linter.unusedSectionVars false
namespace Go.Proofs.YtkpodagbefnebaaGreatDoor
namespace Am
open Tk Go.RowKit
set_option maxRecDepth 100000
set_option maxHeartbeats 4000000
section
variable {l:List Tok}
theorem lG (hl:Fine l) (k:Ix l) (f:Fa):k.1≤(aB k f).2.1.1:=by
 rcases eU hl k f with⟨_,_,h⟩|⟨h,_⟩
 ·omega
 ·rw[h];exact Nat.le_refl _
theorem lE (s:ByteArray) (k:Ix l) (f:Fa):k.1≤(aO s k f).1.1:=sW
theorem nY (hl:Fine l):∀ (n:Nat) (acc:List ByteArray) (k:Ix l) (f:Fa),k.1≤(dU n acc k f).2.1.1
 |0,_,_,_=>Nat.le_refl _
 |n+1,acc,k,f=>by
  rw[dU]
  split
  ·exact Nat.le_trans (lG hl k f) (nY hl n _ _ _)
  ·exact Nat.le_refl _
theorem yr (hl:Fine l) (k:Ix l) (f:Fa):k.1≤(bN k f).2.1.1:=
 Nat.le_trans (lE _ k f) (Nat.le_trans (lG hl _ _) (Nat.le_trans (nY hl _ _ _ _) (lE _ _ _)))
theorem vb (ws:List ByteArray) (k:Ix l) (f:Fa):k.1≤(b9 ws k f).2.1.1:=by
 unfold b9
 split
 ·exact gq k
 ·exact Nat.le_refl _
theorem tC (v:Bool) (k:Ix l) (f:Fa):k.1≤(dM v k f).2.1.1:=by
 unfold dM
 split
 ·exact gq k
 ·exact Nat.le_refl _
theorem CI (k:Ix l) (f:Fa):k.1≤(pw k f).2.1.1:=by
 unfold pw
 split
 ·exact gq k
 ·split
  ·exact gq k
  ·exact vb _ k f
theorem yn (hl:Fine l) (v:Bool) (k:Ix l) (f:Fa):k.1≤(jS v k f).2.1.1:=by
 unfold jS
 refine Nat.le_trans (tC v k f) ?_
 unfold mi
 split
 ·split
  ·exact Nat.le_trans (gq _) (yr hl _ _)
  ·exact Nat.le_trans (gq _) (lG hl _ _)
 ·exact Nat.le_trans (CI _ _) (tC v _ _)
theorem l6 (hl:Fine l) (v:Bool):∀ n:Nat,(∀ (k:Ix l) (f:Fa),k.1≤(dv v n k f).2.1.1)∧(∀ (k:Ix l) (f:Fa),k.1≤(dZ v n k f).2.1.1)∧(∀ (e:Ex) (k:Ix l) (f:Fa),k.1≤(fh v n e k f).2.1.1)∧
 (∀ (k:Ix l) (f:Fa),k.1≤(orQ v n k f).2.1.1)∧(∀ (e:Ex) (k:Ix l) (f:Fa),k.1≤(j9 v n e k f).2.1.1)
 |0=>⟨fun k f=>(by rw[dv];exact Nat.le_refl _),fun k f=>(by rw[dZ];exact Nat.le_refl _),fun e k f=>(by rw[fh];exact Nat.le_refl _),fun k f=>(by rw[orQ];exact Nat.le_refl _),fun e k f=>(by rw[j9];exact Nat.le_refl _)⟩
 |n+1=>by
  obtain ⟨i1,i2,i3,i4,i5⟩:=l6 hl v n
  refine⟨fun k f=>?_,fun k f=>?_,fun e k f=>?_,fun k f=>?_,fun e k f=>?_⟩
  ·rw[dv]
   split
   ·exact Nat.le_trans (gq k) (i1 _ _)
   ·split
    ·exact Nat.le_trans (gq k) (Nat.le_trans (i4 _ _) (lE _ _ _))
    ·exact yn hl v k f
  ·rw[dZ];exact Nat.le_trans (i1 k f) (i3 _ _ _)
  ·rw[fh]
   split
   ·exact Nat.le_trans (gq k) (Nat.le_trans (i1 _ _) (i3 _ _ _))
   ·exact Nat.le_refl _
  ·rw[orQ];exact Nat.le_trans (i2 k f) (i5 _ _ _)
  ·rw[j9]
   split
   ·exact Nat.le_trans (gq k) (Nat.le_trans (i2 _ _) (i5 _ _ _))
   ·exact Nat.le_refl _
theorem DW (v:Bool) (k:Ix l) (f:Fa):br (jS v k f).1=1:=by
 unfold jS mi
 split
 ·split
  ·exact qo
  ·exact qo
 ·exact qo
theorem wC (hl:Fine l) (v:Bool):∀ n:Nat,(∀ (k:Ix l) (f:Fa),br (dv v n k f).1+k.1≤1+(dv v n k f).2.1.1)∧(∀ (k:Ix l) (f:Fa),br (dZ v n k f).1+k.1≤1+(dZ v n k f).2.1.1)∧(∀ (e:Ex) (k:Ix l) (f:Fa),br (fh v n e k f).1+k.1≤br e+(fh v n e k f).2.1.1)∧
 (∀ (k:Ix l) (f:Fa),br (orQ v n k f).1+k.1≤1+(orQ v n k f).2.1.1)∧(∀ (e:Ex) (k:Ix l) (f:Fa),br (j9 v n e k f).1+k.1≤br e+(j9 v n e k f).2.1.1)
 |0=>by
  have e0:br Ex.zero=1:=qo
  exact⟨fun k f=>(by rw[dv];dsimp only;omega),fun k f=>(by rw[dZ];dsimp only;omega),fun e k f=>(by rw[fh];dsimp only;omega),fun k f=>(by rw[orQ];dsimp only;omega),fun e k f=>(by rw[j9];dsimp only;omega)⟩
 |n+1=>by
  obtain ⟨i1,i2,i3,i4,i5⟩:=wC hl v n
  obtain ⟨j1,j2,j3,j4,j5⟩:=l6 hl v n
  have hx:∀ {f:Fa} {s:ByteArray} {k:Ix l},okM f s k=true→(nx k).1=k.1+1:=fun {f s k} h=>by
   unfold okM at h
   exact aW hl ((Bool.and_eq_true _ _).mp h).2
  refine⟨fun k f=>?_,fun k f=>?_,fun e k f=>?_,fun k f=>?_,fun e k f=>?_⟩
  ·rw[dv]
   split
   ·rename_i h
    have:=hx h
    have:=i1 (nx k) f
    dsimp only
    rw[AE]
    omega
   ·split
    ·rename_i h
     have:=hx h
     have h1:=i4 (nx k) f
     have h2:=lE ⟨#[41]⟩ (orQ v n (nx k) f).2.1 (orQ v n (nx k) f).2.2
     dsimp only
     omega
    ·have h1:=DW v k f
     have h2:=yn hl v k f
     omega
  ·rw[dZ]
   have h1:=i1 k f
   have h2:=i3 (dv v n k f).1 (dv v n k f).2.1 (dv v n k f).2.2
   omega
  ·rw[fh]
   split
   ·rename_i h
    have h0:=hx h
    have h1:=i1 (nx k) f
    have h2:=i3 {Ex.zero with op:=3,kids:=[e,(dv v n (nx k) f).1]} (dv v n (nx k) f).2.1 (dv v n (nx k) f).2.2
    rw[vy] at h2
    have h3:=gU e
    have h4:=j1 (nx k) f
    omega
   ·exact Nat.le_refl _
  ·rw[orQ]
   have h1:=i2 k f
   have h2:=i5 (dZ v n k f).1 (dZ v n k f).2.1 (dZ v n k f).2.2
   omega
  ·rw[j9]
   split
   ·rename_i h
    have h0:=hx h
    have h1:=i2 (nx k) f
    have h2:=i5 {Ex.zero with op:=4,kids:=[e,(dZ v n (nx k) f).1]} (dZ v n (nx k) f).2.1 (dZ v n (nx k) f).2.2
    rw[vy] at h2
    have h3:=gU e
    have h4:=j2 (nx k) f
    omega
   ·exact Nat.le_refl _
variable {c:Int}
theorem A0 (hf:Fine l) (v:Bool) (k:Ix l) (f:Fa):MX Tryz.prog 319 [(0,qsO k f c)] [.c (.ptr 0 0),.c (sI (if v then 3 else 2))] (.ok (jS v k f):Except Fa (Ex×(Ix l×Fa))) (fun e=>.agg (exC e)) (fun b=>[(0,qsO b.1 b.2 c)]) pvS:=by
 have hl:=hf.le
 have m1:=ki (c:=c) hf v k f
 unfold jS
 generalize dM v k f=q at *
 obtain ⟨a,k1,f1⟩:=q
 dsimp only at m1 ⊢
 unfold mi
 have a1:=fZ (c:=c) hf k1 f1 ⟨#[105,110]⟩
 cases h1:okW f1 ⟨#[105,110]⟩ k1 with
 |true=>
  rw[h1] at a1
  have a1:MNL _ _ _ _ _ [(0,qsO (nx k1) f1 c)]:=a1
  rw[if_pos rfl]
  have is:=iE (c:=c) (nx k1) f1 ⟨#[123]⟩
  cases h2:okM f1 ⟨#[123]⟩ (nx k1) with
  |true=>
   rw[h2] at is
   rw[if_pos rfl]
   have m2:=gO (c:=c) hf (nx k1) f1
   generalize bN (nx k1) f1=q at *
   obtain ⟨x,k2,f2⟩:=q
   dsimp only at m2 ⊢
   refine MXA (fn:=Tryz.f319) Tryz.call319 Tryz.func319 rfl Tryz.ntmps319 Tryz.results319 rfl rfl ?_
   repeat'(first|(with_reducible first|apply AW.seq|apply AW.ret|apply aa|apply ak|apply y_e|refine ae ?_)|((with_reducible apply ai);first|refine t_v AS.v ?_|refine t_v (by exact az (hP:=is)) ?_|refine t_w AS.w ?_|refine t_w (by first|exact av (hP:=m1)|exact av (hP:=a1)|exact av (hP:=m2)) ?_)|((with_reducible apply ay);refine t_s AS.s ?_)|((with_reducible refine aq ?_);first|refine aJ ?_|refine aI ?_)|((with_reducible refine aE ?_);refine b8 (k:=?_))|fail)
   exact⟨{ Ex.zero with op:=9,a:=a,names:=x},(_,_),rfl,aV _,ar rfl⟩
  |false=>
   rw[h2] at is
   rw[if_neg ff]
   have m2:=bm (c:=c) hf (nx k1) f1
   generalize aB (nx k1) f1=q at *
   obtain ⟨x,k2,f2⟩:=q
   dsimp only at m2 ⊢
   refine MXA (fn:=Tryz.f319) Tryz.call319 Tryz.func319 rfl Tryz.ntmps319 Tryz.results319 rfl rfl ?_
   repeat'(first|(with_reducible first|apply AW.seq|apply AW.ret|apply aa|apply ak|apply y_e|refine ae ?_)|((with_reducible apply ai);first|refine t_v AS.v ?_|refine t_v (by exact az (hP:=is)) ?_|refine t_w AS.w ?_|refine t_w (by first|exact av (hP:=m1)|exact av (hP:=a1)|exact av (hP:=m2)) ?_)|((with_reducible apply ay);refine t_s AS.s ?_)|((with_reducible refine aq ?_);first|refine aJ ?_|refine aI ?_)|((with_reducible refine aE ?_);refine b8 (k:=?_))|fail)
   exact⟨{ Ex.zero with op:=9,a:=a,names:=[x]},(_,_),rfl,aV {Ex.zero with op:=9,a:=a,names:=[x]},ar rfl⟩
 |false=>
  rw[h1] at a1
  have a1:MNL _ _ _ _ _ [(0,qsO k1 f1 c)]:=a1
  rw[if_neg ff]
  unfold pw
  have a2:=ca (c:=c) hf k1 f1 ⟨#[61,61]⟩
  cases h2:okM f1 ⟨#[61,61]⟩ k1 with
  |true=>
   rw[h2] at a2
   have a2:MNL _ _ _ _ _ [(0,qsO (nx k1) f1 c)]:=a2
   rw[if_pos rfl]
   dsimp only
   unfold nZ
   have m2:=ki (c:=c) hf v (nx k1) f1
   generalize dM v (nx k1) f1=q at *
   obtain ⟨b,k2,f2⟩:=q
   dsimp only at m2 ⊢
   refine MXA (fn:=Tryz.f319) Tryz.call319 Tryz.func319 rfl Tryz.ntmps319 Tryz.results319 rfl rfl ?_
   repeat'(first|(with_reducible first|apply AW.seq|apply AW.block|apply AW.skip|apply AW.ret|apply aa|apply aw|apply y_e|refine ae ?_)|((with_reducible apply ai);first|refine t_v AS.v ?_|refine t_w AS.w ?_|refine t_w (by first|exact av (hP:=m1)|exact av (hP:=a1)|exact av (hP:=a2)|exact av (hP:=m2)) ?_)|((with_reducible apply ay);refine t_s AS.s ?_)|((with_reducible refine aq ?_);first|refine aJ ?_|refine aI ?_)|((with_reducible refine aE ?_);refine b8 (k:=?_))|fail)
   exact⟨{ Ex.zero with op:=8,a:=a,rel:=0,b:=b},(_,_),rfl,aV {Ex.zero with op:=8,a:=a,rel:=0,b:=b},ar rfl⟩
  |false=>
   rw[h2] at a2
   have a2:MNL _ _ _ _ _ [(0,qsO k1 f1 c)]:=a2
   rw[if_neg ff]
   have a3:=ca (c:=c) hf k1 f1 ⟨#[33,61]⟩
   cases h3:okM f1 ⟨#[33,61]⟩ k1 with
   |true=>
    rw[h3] at a3
    have a3:MNL _ _ _ _ _ [(0,qsO (nx k1) f1 c)]:=a3
    rw[if_pos rfl]
    dsimp only
    unfold nZ
    have m2:=ki (c:=c) hf v (nx k1) f1
    generalize dM v (nx k1) f1=q at *
    obtain ⟨b,k2,f2⟩:=q
    dsimp only at m2 ⊢
    refine MXA (fn:=Tryz.f319) Tryz.call319 Tryz.func319 rfl Tryz.ntmps319 Tryz.results319 rfl rfl ?_
    repeat'(first|(with_reducible first|apply AW.seq|apply AW.block|apply AW.skip|apply AW.ret|apply aa|apply aw|apply y_e|refine ae ?_)|((with_reducible apply ai);first|refine t_v AS.v ?_|refine t_w AS.w ?_|refine t_w (by first|exact av (hP:=m1)|exact av (hP:=a1)|exact av (hP:=a2)|exact av (hP:=a3)|exact av (hP:=m2)) ?_)|((with_reducible apply ay);refine t_s AS.s ?_)|((with_reducible refine aq ?_);first|refine aJ ?_|refine aI ?_)|((with_reducible refine aE ?_);refine b8 (k:=?_))|fail)
    exact⟨{ Ex.zero with op:=8,a:=a,rel:=1,b:=b},(_,_),rfl,aV {Ex.zero with op:=8,a:=a,rel:=1,b:=b},ar rfl⟩
   |false=>
    rw[h3] at a3
    have a3:MNL _ _ _ _ _ [(0,qsO k1 f1 c)]:=a3
    rw[if_neg ff]
    have m3:=fX (c:=c) hf [⟨#[100,111,109]⟩,⟨#[100,111,109,98,121]⟩,⟨#[105,110,99,111,109,112]⟩] (by decide) k1 f1
    have hb:=nf [⟨#[100,111,109]⟩,⟨#[100,111,109,98,121]⟩,⟨#[105,110,99,111,109,112]⟩] k1 f1
    generalize b9 [⟨#[100,111,109]⟩,⟨#[100,111,109,98,121]⟩,⟨#[105,110,99,111,109,112]⟩] k1 f1=q at *
    obtain ⟨r,k3,f3⟩:=q
    have hb:0≤r∧r≤3:=hb
    dsimp only at m3 ⊢
    unfold nZ
    have m2:=ki (c:=c) hf v k3 f3
    generalize dM v k3 f3=q at *
    obtain ⟨b,k2,f2⟩:=q
    dsimp only at m2 ⊢
    refine MXA (fn:=Tryz.f319) Tryz.call319 Tryz.func319 rfl Tryz.ntmps319 Tryz.results319 rfl rfl ?_
    repeat'(first|(with_reducible first|apply AW.seq|apply AW.block|apply AW.skip|apply AW.ret|apply aa|apply aw|apply y_e|refine ae ?_)|((with_reducible apply ai);first|refine t_v AS.v ?_|refine t_w AS.w ?_|refine t_w (by first|exact av (hP:=m1)|exact av (hP:=a1)|exact av (hP:=a2)|exact av (hP:=a3)|exact av (hP:=m3)|exact av (hP:=m2)) ?_)|((with_reducible apply ay);refine t_s AS.s ?_)|((with_reducible refine aq ?_);refine aI ?_)|((with_reducible refine aE ?_);refine b8 (k:=?_))|fail)
    try rw[wrap64 (by omega) (by omega)]
    exact⟨{ Ex.zero with op:=8,a:=a,rel:=1+r,b:=b},(_,_),rfl,aV {Ex.zero with op:=8,a:=a,rel:=1+r,b:=b},ar rfl⟩
theorem zE (hf:Fine l) (v:Bool) (k:Ix l) (f:Fa):MNL Tryz.prog 319 [(0,qsO k f c)] [.c (.ptr 0 0),.c (sI (if v then 3 else 2))] (.agg (exC (jS v k f).1)) [(0,qsO (jS v k f).2.1 (jS v k f).2.2 c)]:=(A0 hf v k f).ok (jS v k f).1 (jS v k f).2 rfl
theorem Bq (hf:Fine l) (v:Bool) (n:Nat):(∀ (k:Ix l) (f:Fa),4*(l.length - k.1)+1≤n→MX Tryz.prog 265 [(0,qsO k f c)] [.c (.ptr 0 0),.c (sI (if v then 3 else 2))] (.ok (dv v n k f):Except Fa (Ex×(Ix l×Fa))) (fun e=>.agg (exC e)) (fun b=>[(0,qsO b.1 b.2 c)]) pvS)∧
 (∀ (k:Ix l) (f:Fa),4*(l.length - k.1)+2≤n→MX Tryz.prog 192 [(0,qsO k f c)] [.c (.ptr 0 0),.c (sI (if v then 3 else 2))] (.ok (dZ v n k f):Except Fa (Ex×(Ix l×Fa))) (fun e=>.agg (exC e)) (fun b=>[(0,qsO b.1 b.2 c)]) pvS)∧
 (∀ (k:Ix l) (f:Fa),4*(l.length - k.1)+3≤n→MX Tryz.prog 134 [(0,qsO k f c)] [.c (.ptr 0 0),.c (sI (if v then 3 else 2))] (.ok (orQ v n k f):Except Fa (Ex×(Ix l×Fa))) (fun e=>.agg (exC e)) (fun b=>[(0,qsO b.1 b.2 c)]) pvS):=by
 induction n using Nat.strongRecOn with
 |ind n ih=>
  cases n with
  |zero=>exact⟨fun k f h=>(by omega),fun k f h=>(by omega),fun k f h=>(by omega)⟩
  |succ n=>
  have hl:=hf.le
  obtain ⟨ih1,ih2,ih3⟩:=ih n (Nat.lt_succ_self n)
  refine⟨fun k f hn=>?_,fun k f hn=>?_,fun k f hn=>?_⟩
  ·have hk:=k.2
   have a1:=ca (c:=c) hf k f ⟨#[33]⟩
   have a2:=ca (c:=c) hf k f ⟨#[40]⟩
   rw[dv]
   cases h1:okM f ⟨#[33]⟩ k with
   |true=>
    have hx:(nx k).1=k.1+1:=by
     unfold okM at h1
     exact aW hf ((Bool.and_eq_true _ _).mp h1).2
    rw[h1] at a1
    have a1:MNL _ _ _ _ _ [(0,qsO (nx k) f c)]:=a1
    rw[if_pos rfl]
    have i1:=(ih1 (nx k) f (by omega)).ok (dv v n (nx k) f).1 (dv v n (nx k) f).2 rfl
    generalize dv v n (nx k) f=q at *
    obtain ⟨x,k2,f2⟩:=q
    dsimp only at i1 ⊢
    clear ih ih1 ih2 ih3 a2
    refine MXA (fn:=Tryz.f265) Tryz.call265 Tryz.func265 rfl Tryz.ntmps265 Tryz.results265 rfl rfl ?_
    repeat'(first|(with_reducible first|apply AW.seq|apply AW.block|apply AW.skip|apply AW.ret|apply aa|apply ak|apply aw|apply y_e|refine ae ?_|refine b6 ?_)|((with_reducible apply ai);first|refine t_v AS.v ?_|refine t_w AS.w ?_|refine t_w (by first|exact av (hP:=a1)|exact av (hP:=i1)) ?_)|((with_reducible apply ay);refine t_s AS.s ?_)|((with_reducible refine aq ?_);refine aJ ?_)|((with_reducible refine aE ?_);refine b8 (k:=?_))|(refine⟨by decide +kernel,?_⟩)|fail)
    exact⟨{ Ex.zero with op:=2,kids:=[x]},(_,_),rfl,aV {Ex.zero with op:=2,kids:=[x]},ar rfl⟩
   |false=>
    rw[h1] at a1
    have a1:MNL _ _ _ _ _ [(0,qsO k f c)]:=a1
    rw[if_neg ff]
    cases h2:okM f ⟨#[40]⟩ k with
    |true=>
     have hx:(nx k).1=k.1+1:=by
      unfold okM at h2
      exact aW hf ((Bool.and_eq_true _ _).mp h2).2
     rw[h2] at a2
     have a2:MNL _ _ _ _ _ [(0,qsO (nx k) f c)]:=a2
     rw[if_pos rfl]
     have i1:=(ih3 (nx k) f (by omega)).ok (orQ v n (nx k) f).1 (orQ v n (nx k) f).2 rfl
     generalize orQ v n (nx k) f=q at *
     obtain ⟨x,k2,f2⟩:=q
     dsimp only at i1 ⊢
     have m3:=bX (c:=c) hf k2 f2 ⟨#[41]⟩
     generalize aO ⟨#[41]⟩ k2 f2=q at *
     obtain ⟨k3,f3⟩:=q
     dsimp only at m3 ⊢
     clear ih ih1 ih2 ih3
     refine MXA (fn:=Tryz.f265) Tryz.call265 Tryz.func265 rfl Tryz.ntmps265 Tryz.results265 rfl rfl ?_
     repeat'(first|(with_reducible first|apply AW.seq|apply AW.skip|apply AW.ret|apply aa|apply ak|apply y_e|refine ae ?_)|((with_reducible apply ai);first|refine t_v AS.v ?_|refine t_w AS.w ?_|refine t_w (by first|exact av (hP:=a1)|exact av (hP:=a2)|exact av (hP:=i1)|exact av (hP:=m3)) ?_)|((with_reducible apply ay);refine t_s AS.s ?_)|((with_reducible refine aq ?_);first|refine aJ ?_|refine aI ?_)|((with_reducible refine aE ?_);refine b8 (k:=?_))|fail)
     exact⟨x,(_,_),rfl,aV x,ar rfl⟩
    |false=>
     rw[h2] at a2
     have a2:MNL _ _ _ _ _ [(0,qsO k f c)]:=a2
     rw[if_neg ff]
     have m3:=zE (c:=c) hf v k f
     generalize jS v k f=q at *
     obtain ⟨x,k2,f2⟩:=q
     dsimp only at m3 ⊢
     clear ih ih1 ih2 ih3
     refine MXA (fn:=Tryz.f265) Tryz.call265 Tryz.func265 rfl Tryz.ntmps265 Tryz.results265 rfl rfl ?_
     repeat'(first|(with_reducible first|apply AW.seq|apply AW.skip|apply AW.ret|apply aa|apply y_e|refine ae ?_)|((with_reducible apply ai);first|refine t_v AS.v ?_|refine t_w AS.w ?_|refine t_w (by first|exact av (hP:=a1)|exact av (hP:=a2)|exact av (hP:=m3)) ?_)|((with_reducible apply ay);refine t_s AS.s ?_)|((with_reducible refine aq ?_);refine aI ?_)|((with_reducible refine aE ?_);refine b8 (k:=?_))|fail)
     exact⟨x,(_,_),rfl,aV x,ar rfl⟩
  ·have hk:=k.2
   have i1:=(ih1 k f (by omega)).ok (dv v n k f).1 (dv v n k f).2 rfl
   have hle:=(l6 hf v n).1 k f
   rw[dZ]
   generalize dv v n k f=q at *
   obtain ⟨x,k2,f2⟩:=q
   dsimp only at i1 hle ⊢
   clear ih1 ih2 ih3
   refine MXA (fn:=Tryz.f192) Tryz.call192 Tryz.func192 rfl Tryz.ntmps192 Tryz.results192 rfl rfl ?_
   repeat'(first|(with_reducible first|apply AW.seq|apply AW.block|apply aa|apply y_e|refine ae ?_)|((with_reducible apply ai);first|refine t_v AS.v ?_|refine t_w AS.w ?_|refine t_w (by exact av (hP:=i1)) ?_)|((with_reducible apply ay);refine t_s AS.s ?_)|fail)
   generalize hsp:fh v n x k2 f2=sp
   refine AW.loop (fun m σ=>∃ e k' f',fh v m e k' f'=sp∧m≤n∧4*(l.length - k'.1)+1≤m∧σ=mk [(0,.c (.ptr 0 0)),(1,.c (sI (if v then 3 else 2))),(4,.c (.ptr 4 0)),(5,.c (.ptr 5 0))] [(5,.obj 49 (exC e)),(0,qsO k' f' c),(4,.obj 49 (exC Ex.zero))]) n ?_ ?_
   ·exact⟨_,wkA,x,k2,f2,hsp,Nat.le_refl _,by omega,rfl⟩
   clear hle hsp i1
   rintro m σ ⟨e,k',f',hm,hm1,hm2,rfl⟩
   subst hm
   have hk':=k'.2
   obtain ⟨m,rfl⟩:∃ n,m=n+1:=⟨m - 1,by omega⟩
   have a1:=ca (c:=c) hf k' f' ⟨#[38,38]⟩
   rw[fh]
   cases hb:okM f' ⟨#[38,38]⟩ k' with
   |true=>
    have hx:(nx k').1=k'.1+1:=by
     unfold okM at hb
     exact aW hf ((Bool.and_eq_true _ _).mp hb).2
    rw[hb] at a1
    have a1:MNL _ _ _ _ _ [(0,qsO (nx k') f' c)]:=a1
    rw[if_pos rfl]
    have i1:=((ih m (by omega)).1 (nx k') f' (by omega)).ok (dv v m (nx k') f').1 (dv v m (nx k') f').2 rfl
    have hle:=(l6 hf v m).1 (nx k') f'
    generalize dv v m (nx k') f'=q at *
    obtain ⟨y,k3,f3⟩:=q
    dsimp only at i1 hle ⊢
    clear ih
    repeat'(first|(with_reducible first|apply AW.seq|apply AW.block|apply AW.skip|apply AW.ret|apply aa|apply ak|apply aw|apply y_e|refine ae ?_|refine b6 ?_)|((with_reducible apply ai);first|refine t_v AS.v ?_|refine t_w AS.w ?_|refine t_w (by first|exact av (hP:=a1)|exact av (hP:=i1)) ?_)|((with_reducible apply ay);refine t_s AS.s ?_)|((with_reducible refine aq ?_);refine aJ ?_)|((with_reducible refine aE ?_);refine b8 (k:=?_))|(refine⟨by decide +kernel,?_⟩)|fail)
    exact⟨m,_,Nat.lt_succ_self m,wkA,_,k3,f3,rfl,by omega,by omega,rfl⟩
   |false=>
    rw[hb] at a1
    have a1:MNL _ _ _ _ _ [(0,qsO k' f' c)]:=a1
    rw[if_neg ff]
    clear ih
    repeat'(first|(with_reducible first|apply AW.seq|apply AW.ret|apply AW.exit|apply aa|apply aD|apply aH|apply y_e|refine ae ?_)|((with_reducible apply ai);first|refine t_v AS.v ?_|refine t_w (by exact av (hP:=a1)) ?_)|((with_reducible apply ay);refine t_s AS.s ?_)|((with_reducible refine aq ?_);refine aI ?_)|((with_reducible refine aE ?_);refine b8 (k:=?_))|fail)
    exact⟨e,(_,_),rfl,aV e,ar rfl⟩
  ·have hk:=k.2
   have i1:=(ih2 k f (by omega)).ok (dZ v n k f).1 (dZ v n k f).2 rfl
   have hle:=(l6 hf v n).2.1 k f
   rw[orQ]
   generalize dZ v n k f=q at *
   obtain ⟨x,k2,f2⟩:=q
   dsimp only at i1 hle ⊢
   clear ih1 ih2 ih3
   refine MXA (fn:=Tryz.f134) Tryz.call134 Tryz.func134 rfl Tryz.ntmps134 Tryz.results134 rfl rfl ?_
   repeat'(first|(with_reducible first|apply AW.seq|apply AW.block|apply aa|apply y_e|refine ae ?_)|((with_reducible apply ai);first|refine t_v AS.v ?_|refine t_w AS.w ?_|refine t_w (by exact av (hP:=i1)) ?_)|((with_reducible apply ay);refine t_s AS.s ?_)|fail)
   generalize hsp:j9 v n x k2 f2=sp
   refine AW.loop (fun m σ=>∃ e k' f',j9 v m e k' f'=sp∧m≤n∧4*(l.length - k'.1)+1≤m∧σ=mk [(0,.c (.ptr 0 0)),(1,.c (sI (if v then 3 else 2))),(4,.c (.ptr 4 0)),(5,.c (.ptr 5 0))] [(5,.obj 49 (exC e)),(0,qsO k' f' c),(4,.obj 49 (exC Ex.zero))]) n ?_ ?_
   ·exact⟨_,wkA,x,k2,f2,hsp,Nat.le_refl _,by omega,rfl⟩
   clear hle hsp i1
   rintro m σ ⟨e,k',f',hm,hm1,hm2,rfl⟩
   subst hm
   have hk':=k'.2
   obtain ⟨m,rfl⟩:∃ n,m=n+1:=⟨m - 1,by omega⟩
   have a1:=ca (c:=c) hf k' f' ⟨#[124,124]⟩
   rw[j9]
   cases hb:okM f' ⟨#[124,124]⟩ k' with
   |true=>
    have hx:(nx k').1=k'.1+1:=by
     unfold okM at hb
     exact aW hf ((Bool.and_eq_true _ _).mp hb).2
    rw[hb] at a1
    have a1:MNL _ _ _ _ _ [(0,qsO (nx k') f' c)]:=a1
    rw[if_pos rfl]
    have i1:=((ih m (by omega)).2.1 (nx k') f' (by omega)).ok (dZ v m (nx k') f').1 (dZ v m (nx k') f').2 rfl
    have hle:=(l6 hf v m).2.1 (nx k') f'
    generalize dZ v m (nx k') f'=q at *
    obtain ⟨y,k3,f3⟩:=q
    dsimp only at i1 hle ⊢
    clear ih
    repeat'(first|(with_reducible first|apply AW.seq|apply AW.block|apply AW.skip|apply AW.ret|apply aa|apply ak|apply aw|apply y_e|refine ae ?_|refine b6 ?_)|((with_reducible apply ai);first|refine t_v AS.v ?_|refine t_w AS.w ?_|refine t_w (by first|exact av (hP:=a1)|exact av (hP:=i1)) ?_)|((with_reducible apply ay);refine t_s AS.s ?_)|((with_reducible refine aq ?_);refine aJ ?_)|((with_reducible refine aE ?_);refine b8 (k:=?_))|(refine⟨by decide +kernel,?_⟩)|fail)
    exact⟨m,_,Nat.lt_succ_self m,wkA,_,k3,f3,rfl,by omega,by omega,rfl⟩
   |false=>
    rw[hb] at a1
    have a1:MNL _ _ _ _ _ [(0,qsO k' f' c)]:=a1
    rw[if_neg ff]
    clear ih
    repeat'(first|(with_reducible first|apply AW.seq|apply AW.ret|apply AW.exit|apply aa|apply aD|apply aH|apply y_e|refine ae ?_)|((with_reducible apply ai);first|refine t_v AS.v ?_|refine t_w (by exact av (hP:=a1)) ?_)|((with_reducible apply ay);refine t_s AS.s ?_)|((with_reducible refine aq ?_);refine aI ?_)|((with_reducible refine aE ?_);refine b8 (k:=?_))|fail)
    exact⟨e,(_,_),rfl,aV e,ar rfl⟩
theorem xQ (hf:Fine l) (v:Bool) (k:Ix l) (f:Fa):MX Tryz.prog 67 [(0,qsO k f c)] [.c (.ptr 0 0),.c (sB v)] (.ok (gZ v k f):Except Fa (Ex×(Ix l×Fa))) (fun e=>.agg (exC e)) (fun b=>[(0,qsO b.1 b.2 c)]) pvS:=by
 have hl:=hf.le
 have nw:=cB (l:=l) (k:=k) (f:=f) (c:=c)
 have m1:=((Bq (c:=c) hf v (fuel l)).2.2 k f (by unfold fuel;omega)).ok (orQ v (fuel l) k f).1 (orQ v (fuel l) k f).2 rfl
 have hlv:=(wC hf v (fuel l)).2.2.2.1 k f
 unfold gZ
 generalize orQ v (fuel l) k f=q at *
 obtain ⟨x,k2,f2⟩:=q
 dsimp only at m1 hlv ⊢
 have hk2:=k2.2
 have lv:=rA x (by omega)
 have fl:=du (c:=c) k2 f2 4 (tk k)
 by_cases h:12<br x
 ·rw[if_pos h]
  cases v with
  |true=>
   refine MXA (fn:=Tryz.f67) Tryz.call67 Tryz.func67 rfl Tryz.ntmps67 Tryz.results67 rfl rfl ?_
   repeat'(first|(with_reducible first|apply AW.seq|apply AW.skip|apply AW.ret|apply aa|apply y_e|refine ae ?_)|((with_reducible apply ai);first|refine t_v AS.v ?_|refine t_v (by first|exact aj (hP:=lv)|exact az (hP:=nw)) ?_|refine t_w AS.w ?_|refine t_w (by first|exact av (hP:=m1)|exact av (hP:=fl)) ?_)|((with_reducible apply ay);refine t_s AS.s ?_)|((with_reducible refine aq ?_);first|refine aJ ?_|refine aI ?_|(refine ah (fun hc=>?_) (fun hc=>?_);all_goals(try(exfalso;revert hc;simp;omega))))|((with_reducible refine aE ?_);refine b8 (k:=?_))|fail)
   all_goals first|exact⟨x,(_,_),rfl,aV x,ar rfl⟩|trace_state
  |false=>
   refine MXA (fn:=Tryz.f67) Tryz.call67 Tryz.func67 rfl Tryz.ntmps67 Tryz.results67 rfl rfl ?_
   repeat'(first|(with_reducible first|apply AW.seq|apply AW.skip|apply AW.ret|apply aa|apply y_e|refine ae ?_)|((with_reducible apply ai);first|refine t_v AS.v ?_|refine t_v (by first|exact aj (hP:=lv)|exact az (hP:=nw)) ?_|refine t_w AS.w ?_|refine t_w (by first|exact av (hP:=m1)|exact av (hP:=fl)) ?_)|((with_reducible apply ay);refine t_s AS.s ?_)|((with_reducible refine aq ?_);first|refine aJ ?_|refine aI ?_|(refine ah (fun hc=>?_) (fun hc=>?_);all_goals(try(exfalso;revert hc;simp;omega))))|((with_reducible refine aE ?_);refine b8 (k:=?_))|fail)
   all_goals exact⟨x,(_,_),rfl,aV x,ar rfl⟩
 ·rw[if_neg h]
  cases v with
  |true=>
   refine MXA (fn:=Tryz.f67) Tryz.call67 Tryz.func67 rfl Tryz.ntmps67 Tryz.results67 rfl rfl ?_
   repeat'(first|(with_reducible first|apply AW.seq|apply AW.skip|apply AW.ret|apply aa|apply y_e|refine ae ?_)|((with_reducible apply ai);first|refine t_v AS.v ?_|refine t_v (by first|exact aj (hP:=lv)|exact az (hP:=nw)) ?_|refine t_w AS.w ?_|refine t_w (by first|exact av (hP:=m1)|exact av (hP:=fl)) ?_)|((with_reducible apply ay);refine t_s AS.s ?_)|((with_reducible refine aq ?_);first|refine aJ ?_|refine aI ?_|(refine ah (fun hc=>?_) (fun hc=>?_);all_goals(try(exfalso;revert hc;simp;omega))))|((with_reducible refine aE ?_);refine b8 (k:=?_))|fail)
   all_goals first|exact⟨x,(_,_),rfl,aV x,ar rfl⟩|trace_state
  |false=>
   refine MXA (fn:=Tryz.f67) Tryz.call67 Tryz.func67 rfl Tryz.ntmps67 Tryz.results67 rfl rfl ?_
   repeat'(first|(with_reducible first|apply AW.seq|apply AW.skip|apply AW.ret|apply aa|apply y_e|refine ae ?_)|((with_reducible apply ai);first|refine t_v AS.v ?_|refine t_v (by first|exact aj (hP:=lv)|exact az (hP:=nw)) ?_|refine t_w AS.w ?_|refine t_w (by first|exact av (hP:=m1)|exact av (hP:=fl)) ?_)|((with_reducible apply ay);refine t_s AS.s ?_)|((with_reducible refine aq ?_);first|refine aJ ?_|refine aI ?_|(refine ah (fun hc=>?_) (fun hc=>?_);all_goals(try(exfalso;revert hc;simp;omega))))|((with_reducible refine aE ?_);refine b8 (k:=?_))|fail)
   all_goals exact⟨x,(_,_),rfl,aV x,ar rfl⟩
theorem qe (hf:Fine l) (v:Bool) (k:Ix l) (f:Fa):MNL Tryz.prog 67 [(0,qsO k f c)] [.c (.ptr 0 0),.c (sB v)] (.agg (exC (gZ v k f).1)) [(0,qsO (gZ v k f).2.1 (gZ v k f).2.2 c)]:=(xQ hf v k f).ok (gZ v k f).1 (gZ v k f).2 rfl
end
end Am
namespace Am
open Tk
section
variable {l:List Tok}
def fC (k:Ix l) (f:Fa):List ByteArray×(Ix l×Fa):=fA (fuel l) [] k f
def eg (ob:Bool) (k:Ix l) (f:Fa):ByteArray×(Ix l×Fa):=
 if(decide (f.code=0)&&decide ((tk k).kind=3))=true then((tk k).text,(nx k,if(decide ((tk k).text=⟨#[]⟩) || (ob&& !gk (tk k).text))=true then cA f 10 (tk k) else f)) else(⟨#[]⟩,(k,cA f 9 (tk k)))
def rz (s:Stm) (k:Ix l) (f:Fa):Stm×(Ix l×Fa):=({s with list:=(bN k f).1},(bN k f).2)
def l3 (s:Stm) (k:Ix l) (f:Fa):Stm×(Ix l×Fa):=({s with list:=(fC k f).1},(fC k f).2)
def tQ (s:Stm) (k:Ix l) (f:Fa):Stm×(Ix l×Fa):=if okW f ⟨#[97,108,105,97,115]⟩ k=true then l3 {s with aliases:=(bN (nx k) f).1} (bN (nx k) f).2.1 (bN (nx k) f).2.2 else l3 s k f
def tY (s:Stm) (y:ByteArray) (k:Ix l) (f:Fa):Stm×(Ix l×Fa):=({s with list:=[y]++(fC k f).1},(fC k f).2)
def vw (s:Stm) (k:Ix l) (f:Fa):Stm×(Ix l×Fa):=tY s (aB k f).1 (aB k f).2.1 (aB k f).2.2
def tA (s:Stm) (k:Ix l) (f:Fa):Stm×(Ix l×Fa):=if okW f ⟨#[116,121,112,101,115]⟩ k=true then({s with source:=(bz false (nx k) f).1},(bz false (nx k) f).2) else(s,(k,f))
def rY (s:Stm) (k:Ix l) (f:Fa):Stm×(Ix l×Fa):=({s with range:=(dm k f).1},(dm k f).2)
def oV (s:Stm) (k:Ix l) (f:Fa):Stm×(Ix l×Fa):=rY s (jC ⟨#[114,97,110,103,101]⟩ k f).1 (jC ⟨#[114,97,110,103,101]⟩ k f).2
def oX (s:Stm) (k:Ix l) (f:Fa):Stm×(Ix l×Fa):=oV {s with level:=(cu k f).1} (cu k f).2.1 (cu k f).2.2
def oF (s:Stm) (k:Ix l) (f:Fa):Stm×(Ix l×Fa):=oX s (jC ⟨#[108,101,118,101,108]⟩ k f).1 (jC ⟨#[108,101,118,101,108]⟩ k f).2
def oP (s:Stm) (k:Ix l) (f:Fa):Stm×(Ix l×Fa):=oF {s with list:=(bN k f).1} (bN k f).2.1 (bN k f).2.2
def ud (s:Stm) (k:Ix l) (f:Fa):Stm×(Ix l×Fa):=oP s (jC ⟨#[114,111,108,101,115]⟩ k f).1 (jC ⟨#[114,111,108,101,115]⟩ k f).2
def tc (s:Stm) (k:Ix l) (f:Fa):Stm×(Ix l×Fa):=({s with value:=decide ((b9 [⟨#[116,114,117,101]⟩,⟨#[102,97,108,115,101]⟩] k f).1=1)},(b9 [⟨#[116,114,117,101]⟩,⟨#[102,97,108,115,101]⟩] k f).2)
def jE (s:Stm) (k:Ix l) (f:Fa):Stm×(Ix l×Fa):=
 if s.kind=1 then rz s k f else if s.kind=2 then tQ s k f else if s.kind=4 then vw s k f else if s.kind=5 then tA s k f else if s.kind=8 then ud s k f else if s.kind=9 then tc s k f else(s,(k,f))
def cg (s:Stm) (k:Ix l) (f:Fa):Stm×(Ix l×Fa):=jE {s with name:=(aB k f).1} (aB k f).2.1 (aB k f).2.2
variable {f:Fa} {k:Ix l}
theorem ti (hl:Fine l):∀ (n:Nat) (acc:List ByteArray) (k:Ix l) (f:Fa),l.length<n+k.1→RQ f (b5 n acc k) (fA n acc k f)
 |0,_,k,_,h=>absurd k.2 (by omega)
 |n+1,acc,k,f,h=>by
  rw[b5,fA]
  show RQ f _ (if okM f ⟨#[44]⟩ k=true then _ else _)
  by_cases hm:isM ⟨#[44]⟩ k=true
  ·have hx:=aW hl hm
   refine RQ.iteM ?_ (.ok _ _)
   refine RQ.bindK (t:=aB (nx k) f) (u:=fun x k f=>fA n (acc++[x]) k f) (bW (nx k) f) (aQ _) (fun x k' hk=>?_) fun x k' f' h'=>?_
   ·have h2:=(bh hl hk).2
    exact ti hl n _ k' f (by omega)
   ·show(fA n _ k' f').2.2=f'
    rw[vh h']
  ·have hm2:okM f ⟨#[44]⟩ k=false:=by unfold okM;rw[Bool.eq_false_iff.2 hm];simp
   rw[hm2,if_neg ff,if_neg hm];exact .ok _ _
theorem qC (hl:Fine l) (k:Ix l) (f:Fa):RQ f (b5 (fuel l) [] k) (fC k f):=ti hl _ _ _ _ (by unfold fuel;omega)
theorem lk:∀ (n:Nat) (a acc:List ByteArray) (k:Ix l),b5 n (a++acc) k=b5 n acc k>>=fun x=>.ok (a++x.1,x.2)
 |0,_,_,_=>rfl
 |n+1,a,acc,k=>by
  rw[b5,b5]
  by_cases hm:isM ⟨#[44]⟩ k=true
  ·rw[if_pos hm,if_pos hm]
   cases aP (nx k) with
   |error e=>rfl
   |ok x=>
    rw[ag,ag,List.append_assoc,lk n a _ x.2]
  ·rw[if_neg hm,if_neg hm];rfl
theorem AX (k:Ix l) (f:Fa):RQ f (hY k) (eg false k f):=by
 unfold hY eg
 by_cases hf:f.code=0
 ·by_cases h3:(tk k).kind=3
  ·have e1:(decide (f.code=0)&&decide ((tk k).kind=3))=true:=by simp[hf,h3]
   rw[if_pos h3,if_pos e1]
   by_cases h0:(tk k).text=⟨#[]⟩
   ·have e2:(decide ((tk k).text=⟨#[]⟩) || (false&& !gk (tk k).text))=true:=by simp[h0]
    rw[if_pos h0,if_pos e2];exact .err _ k _
   ·have e2:¬ (decide ((tk k).text=⟨#[]⟩) || (false&& !gk (tk k).text))=true:=by simp[h0]
    rw[if_neg h0,if_neg e2];exact .ok _ _
  ·have e1:¬ (decide (f.code=0)&&decide ((tk k).kind=3))=true:=by simp[h3]
   rw[if_neg h3,if_neg e1];exact .err _ k _
 ·have e1:¬ (decide (f.code=0)&&decide ((tk k).kind=3))=true:=by simp[hf]
  rw[if_neg e1];exact⟨fun h=>dT h,fun h=>absurd h hf⟩
theorem RQ.map {α β:Type} {sp:Except Fa (α×Ix l)} {t:α×(Ix l×Fa)} {g:α→β} (h:RQ f sp t):RQ f (sp>>=fun x=>.ok (g x.1,x.2)) (g t.1,t.2):=by
 refine⟨fun hf=>h.1 hf,fun hf=>?_⟩
 have h2:=h.2 hf
 cases sp with
 |ok x=>
  have h2:t=(x.1,(x.2,f)):=h2
  rw[h2];rfl
 |error e=>exact h2
theorem xX (hl:Fine l) (s:Stm) (k:Ix l) (f:Fa):RQ f (bq k>>=fun y=>.ok ({s with list:=y.1},y.2)) (rz s k f):=
 RQ.map (g:=fun y=>{s with list:=y}) (iZ hl k f)
theorem qu (hl:Fine l) (s:Stm) (k:Ix l) (f:Fa):RQ f (b5 (fuel l) [] k>>=fun y=>.ok ({s with list:=y.1},y.2)) (l3 s k f):=
 RQ.map (g:=fun y=>{s with list:=y}) (qC hl k f)
theorem Bi (hl:Fine l) (s:Stm) (k:Ix l) (f:Fa):RQ f (if isW ⟨#[97,108,105,97,115]⟩ k then bq (nx k)>>=fun y=>b5 (fuel l) [] y.2>>=fun z=>.ok ({s with aliases:=y.1,list:=z.1},z.2)
 else b5 (fuel l) [] k>>=fun z=>.ok ({s with list:=z.1},z.2)) (tQ s k f):=by
 unfold tQ
 refine RQ.iteW ?_ (qu hl s k f)
 refine RQ.bind (t:=bN (nx k) f) (u:=fun y k f=>l3 {s with aliases:=y} k f) (iZ hl (nx k) f) (dx _) fun y k f=>?_
 exact qu hl {s with aliases:=y} k f
theorem wI (hl:Fine l) (s:Stm) (k:Ix l) (f:Fa):RQ f (ch k>>=fun y=>.ok ({s with list:=y.1},y.2)) (vw s k f):=by
 have e:(ch k>>=fun y=>.ok ({s with list:=y.1},y.2))=aP k>>=fun y=>b5 (fuel l) [] y.2>>=fun z=>.ok ({s with list:=[y.1]++z.1},z.2):=by
  unfold ch
  cases aP k with
  |error e=>rfl
  |ok y=>
   rw[ag,ag]
   have:=lk (fuel l) [y.1] [] y.2
   rw[List.append_nil] at this
   rw[this]
   cases b5 (fuel l) [] y.2 with
   |error e=>rfl
   |ok z=>rfl
 rw[e]
 unfold vw
 refine RQ.bind (t:=aB k f) (u:=fun y k f=>tY s y k f) (bW k f) (aQ k) fun y k f=>?_
 exact RQ.map (g:=fun z=>{s with list:=[y]++z}) (qC hl k f)
theorem BM (hl:Fine l) (s:Stm) (k:Ix l) (f:Fa):RQ f (if isW ⟨#[116,121,112,101,115]⟩ k then b7 false (nx k)>>=fun y=>.ok ({s with source:=y.1},y.2) else .ok (s,k)) (tA s k f):=by
 unfold tA
 exact RQ.iteW (RQ.map (g:=fun y=>{s with source:=y}) (eW hl false (nx k) f)) (.ok _ _)
theorem BS (hl:Fine l) (s:Stm) (k:Ix l) (f:Fa):RQ f (cX ⟨#[114,111,108,101,115]⟩ k>>=fun a=>bq a.2>>=fun y=>cX ⟨#[108,101,118,101,108]⟩ y.2>>=fun b=>dJ b.2>>=fun v=>cX ⟨#[114,97,110,103,101]⟩ v.2>>=fun c=>cG c.2>>=fun g=>.ok ({s with list:=y.1,level:=v.1,range:=g.1},g.2)) (ud s k f):=by
 unfold ud
 refine RQ.bind (t:=((),jC ⟨#[114,111,108,101,115]⟩ k f)) (u:=fun _ k f=>oP s k f) (rN _ k f) (fo _ k) fun _ k f=>?_
 unfold oP
 refine RQ.bind (t:=bN k f) (u:=fun y k f=>oF {s with list:=y} k f) (iZ hl k f) (dx k) fun y k f=>?_
 unfold oF
 refine RQ.bind (t:=((),jC ⟨#[108,101,118,101,108]⟩ k f)) (u:=fun _ k f=>oX {s with list:=y} k f) (rN _ k f) (fo _ k) fun _ k f=>?_
 unfold oX
 refine RQ.bind (t:=cu k f) (u:=fun v k f=>oV {s with list:=y,level:=v} k f) (mQ hl k f) (hZ k) fun v k f=>?_
 unfold oV
 refine RQ.bind (t:=((),jC ⟨#[114,97,110,103,101]⟩ k f)) (u:=fun _ k f=>rY {s with list:=y,level:=v} k f) (rN _ k f) (fo _ k) fun _ k f=>?_
 exact RQ.map (g:=fun g=>{s with list:=y,level:=v,range:=g}) (nv hl k f)
theorem zy (s:Stm) (k:Ix l) (f:Fa):RQ f (bb [⟨#[102,97,108,115,101]⟩,⟨#[116,114,117,101]⟩] k>>=fun y=>.ok ({s with value:=decide (y.1=1)},y.2)) (tc s k f):=by
 have h:=ie [⟨#[116,114,117,101]⟩,⟨#[102,97,108,115,101]⟩] k f
 refine⟨fun hf=>h.1 hf,fun hf=>?_⟩
 have h2:=h.2 hf
 unfold tc
 generalize b9 [⟨#[116,114,117,101]⟩,⟨#[102,97,108,115,101]⟩] k f=q at *
 have hd:(isW ⟨#[116,114,117,101]⟩ k&&isW ⟨#[102,97,108,115,101]⟩ k)=false:=by
  unfold isW
  by_cases e:(tk k).text=⟨#[116,114,117,101]⟩
  ·rw[e];simp
  ·simp[e]
 unfold bb at *
 simp only[List.findIdx?_cons,List.findIdx?_nil] at *
 cases ht:isW ⟨#[116,114,117,101]⟩ k with
 |true=>
  cases hfs:isW ⟨#[102,97,108,115,101]⟩ k with
  |true=>rw[ht,hfs] at hd;cases hd
  |false=>
   rw[ht] at h2
   have h2:q=((0:Int)+1,(nx k,f)):=h2
   subst h2
   rfl
 |false=>
  cases hfs:isW ⟨#[102,97,108,115,101]⟩ k with
  |true=>
   rw[ht,hfs] at h2
   have h2:q=((1:Int)+1,(nx k,f)):=h2
   subst h2
   rfl
  |false=>
   rw[ht,hfs] at h2
   exact h2
end
end Am
namespace Am
open Tk
section
variable {l:List Tok}
def jJ (s:Stm) (k:Ix l) (f:Fa):Stm×(Ix l×Fa):=if(decide (s.kind=13)&&decide (s.op=1)&&decide (f.code=0)&&decide ((tk k).kind=3))=true then({s with text:=(eg true k f).1},(eg true k f).2) else(s,(k,f))
def gf (s:Stm) (k:Ix l) (f:Fa):Stm×(Ix l×Fa):=
 if s.kind=12 then({s with perms:=(bz false k f).1},(bz false k f).2)
 else if s.kind=14 then({s with range:=(dm k f).1},(dm k f).2)
 else jJ {s with result:=(aB k f).1} (aB k f).2.1 (aB k f).2.2
def jT (s:Stm) (k:Ix l) (f:Fa):Stm×(Ix l×Fa):=gf {s with cls:=(bz false k f).1} (bz false k f).2.1 (bz false k f).2.2
def gH (s:Stm) (k:Ix l) (f:Fa):Stm×(Ix l×Fa):=if s.kind=6 then(s,(k,f)) else jT s (aO ⟨#[58]⟩ k f).1 (aO ⟨#[58]⟩ k f).2
def gJ (s:Stm) (k:Ix l) (f:Fa):Stm×(Ix l×Fa):=gH {s with target:=(bz (decide (s.kind=12)) k f).1} (bz (decide (s.kind=12)) k f).2.1 (bz (decide (s.kind=12)) k f).2.2
def bL (s:Stm) (k:Ix l) (f:Fa):Stm×(Ix l×Fa):=gJ {s with source:=(bz false k f).1} (bz false k f).2.1 (bz false k f).2.2
def xK (s:Stm) (k:Ix l) (f:Fa):Stm×(Ix l×Fa):=({s with list:=(bN k f).1},(bN k f).2)
def tp (s:Stm) (k:Ix l) (f:Fa):Stm×(Ix l×Fa):=if s.op=1 then xK {s with name:=(aB k f).1} (aB k f).2.1 (aB k f).2.2 else vw s k f
def lq (s:Stm) (k:Ix l) (f:Fa):Stm×(Ix l×Fa):=tp {s with op:=(b9 hC k f).1} (b9 hC k f).2.1 (b9 hC k f).2.2
def nU (s:Stm) (v:Bool) (k:Ix l) (f:Fa):Stm×(Ix l×Fa):=({s with cond:=(gZ v k f).1},(gZ v k f).2)
def tP (s:Stm) (k:Ix l) (f:Fa):Stm×(Ix l×Fa):=nU {s with perms:=(bz false k f).1} false (bz false k f).2.1 (bz false k f).2.2
def B6 (s:Stm) (k:Ix l) (f:Fa):Stm×(Ix l×Fa):=tP {s with cls:=(bz false k f).1} (bz false k f).2.1 (bz false k f).2.2
def AO (s:Stm) (k:Ix l) (f:Fa):Stm×(Ix l×Fa):=nU {s with cls:=(bz false k f).1} true (bz false k f).2.1 (bz false k f).2.2
def oy (s:Stm) (k:Ix l) (f:Fa):Stm×(Ix l×Fa):=({s with ctx:=(db k f).1},(db k f).2)
def Ap (s:Stm) (k:Ix l) (f:Fa):Stm×(Ix l×Fa):=oy {s with name:=(aB k f).1} (aB k f).2.1 (aB k f).2.2
def oZ (s:Stm) (k:Ix l) (f:Fa):Stm×(Ix l×Fa):=oy {s with op:=(b9 eQ k f).1 - 1} (b9 eQ k f).2.1 (b9 eQ k f).2.2
def u6 (s:Stm) (k:Ix l) (f:Fa):Stm×(Ix l×Fa):=oZ {s with text:=(eg false k f).1} (eg false k f).2.1 (eg false k f).2.2
def ub (s:Stm) (k:Ix l) (f:Fa):Stm×(Ix l×Fa):=({s with source:=(bz false k f).1},(bz false k f).2)
def yA (s:Stm) (k:Ix l) (f:Fa):Stm×(Ix l×Fa):=({s with target:=(bz false k f).1},(bz false k f).2)
def ta (s:Stm) (k:Ix l) (f:Fa):Stm×(Ix l×Fa):=yA {s with source:=(bz false k f).1} (bz false k f).2.1 (bz false k f).2.2
def tt (s:Stm) (k:Ix l) (f:Fa):Stm×(Ix l×Fa):=ta {s with op:=(b9 ir k f).1} (b9 ir k f).2.1 (b9 ir k f).2.2
def xz (s:Stm) (k:Ix l) (f:Fa):Stm×(Ix l×Fa):=tt {s with name:=(aB k f).1} (aB k f).2.1 (aB k f).2.2
def bA (s:Stm) (k:Ix l) (f:Fa):Stm×(Ix l×Fa):=
 if s.kind=15 then B6 s k f else if s.kind=16 then AO s k f else if s.kind=19 then lq s k f else if s.kind=20 then Ap s k f else if s.kind=21 then u6 s k f else if s.kind=22 then ub s k f else if s.kind=23 then xz s k f else(s,(k,f))
variable {f:Fa} {k:Ix l}
theorem yL (k:Ix l) (f:Fa) (h:(tk k).kind=3):RQ f (if gk (tk k).text then .ok ((tk k).text,nx k) else .error (flt 10 (tk k))) (eg true k f):=by
 have h0:gk ⟨#[]⟩=false:=by rfl
 unfold eg
 by_cases hf:f.code=0
 ·have e1:(decide (f.code=0)&&decide ((tk k).kind=3))=true:=by simp[hf,h]
  rw[if_pos e1]
  cases ho:gk (tk k).text with
  |true=>
   have hn:¬ (tk k).text=⟨#[]⟩:=fun e=>by rw[e,h0] at ho;cases ho
   have e2:¬ (decide ((tk k).text=⟨#[]⟩) || (true&& !true))=true:=by simp[hn]
   rw[if_pos rfl,if_neg e2];exact .ok _ _
  |false=>
   have e2:(decide ((tk k).text=⟨#[]⟩) || (true&& !false))=true:=by simp
   rw[if_neg ff,if_pos e2];exact .err _ k _
 ·have e1:¬ (decide (f.code=0)&&decide ((tk k).kind=3))=true:=by simp[hf]
  rw[if_neg e1];exact⟨fun h=>dT h,fun h=>absurd h hf⟩
theorem zq (hl:Fine l) (s:Stm) (k:Ix l) (f:Fa):RQ f (b7 false k>>=fun x=>.ok ({s with source:=x.1},x.2)) (ub s k f):=RQ.map (g:=fun x=>{s with source:=x}) (eW hl false k f)
theorem Dn (hl:Fine l) (s:Stm) (k:Ix l) (f:Fa):RQ f (aP k>>=fun x=>bP x.2>>=fun y=>.ok ({s with name:=x.1,ctx:=y.1},y.2)) (Ap s k f):=by
 unfold Ap
 refine RQ.bind (t:=aB k f) (u:=fun x k f=>oy {s with name:=x} k f) (bW k f) (aQ k) fun x k f=>?_
 exact RQ.map (g:=fun y=>{s with name:=x,ctx:=y}) (mD hl k f)
theorem Dl (hl:Fine l) (s:Stm) (k:Ix l) (f:Fa):RQ f (b7 false k>>=fun x=>cI true x.2>>=fun z=>.ok ({s with cls:=x.1,cond:=z.1},z.2)) (AO s k f):=by
 unfold AO
 refine RQ.bind (t:=bz false k f) (u:=fun x k f=>nU {s with cls:=x} true k f) (eW hl false k f) (aX _ k) fun x k f=>?_
 exact RQ.map (g:=fun y=>{s with cls:=x,cond:=y}) (u4 hl true k f)
theorem Dg (hl:Fine l) (s:Stm) (k:Ix l) (f:Fa):RQ f (b7 false k>>=fun x=>b7 false x.2>>=fun y=>cI false y.2>>=fun z=>.ok ({s with cls:=x.1,perms:=y.1,cond:=z.1},z.2)) (B6 s k f):=by
 unfold B6
 refine RQ.bind (t:=bz false k f) (u:=fun x k f=>tP {s with cls:=x} k f) (eW hl false k f) (aX _ k) fun x k f=>?_
 unfold tP
 refine RQ.bind (t:=bz false k f) (u:=fun y k f=>nU {s with cls:=x,perms:=y} false k f) (eW hl false k f) (aX _ k) fun y k f=>?_
 exact RQ.map (g:=fun z=>{s with cls:=x,perms:=y,cond:=z}) (u4 hl false k f)
theorem CJ (hl:Fine l) (s:Stm) (k:Ix l) (f:Fa):RQ f (aP k>>=fun x=>bb ir x.2>>=fun y=>b7 false y.2>>=fun z=>b7 false z.2>>=fun u=>.ok ({s with name:=x.1,op:=y.1+1,source:=z.1,target:=u.1},u.2)) (xz s k f):=by
 unfold xz
 refine RQ.bind (t:=aB k f) (u:=fun x k f=>tt {s with name:=x} k f) (bW k f) (aQ k) fun x k f=>?_
 have e:(bb ir k>>=fun y=>b7 false y.2>>=fun z=>b7 false z.2>>=fun u=>.ok ({s with name:=x,op:=y.1+1,source:=z.1,target:=u.1},u.2):Except Fa (Stm×Ix l))=(bb ir k>>=fun x=>.ok (x.1+1,x.2))>>=fun y=>b7 false y.2>>=fun z=>b7 false z.2>>=fun u=>.ok ({s with name:=x,op:=y.1,source:=z.1,target:=u.1},u.2):=by
  cases bb ir k <;> rfl
 show RQ f (bb ir k>>=fun y=>b7 false y.2>>=fun z=>b7 false z.2>>=fun u=>.ok ({s with name:=x,op:=y.1+1,source:=z.1,target:=u.1},u.2)) _
 rw[e]
 unfold tt
 refine RQ.bind (t:=b9 ir k f) (u:=fun y k f=>ta {s with name:=x,op:=y} k f) (ie ir k f) (NZ.bind (dz _ k) fun _=>NZ.ok _) fun y k f=>?_
 unfold ta
 refine RQ.bind (t:=bz false k f) (u:=fun z k f=>yA {s with name:=x,op:=y,source:=z} k f) (eW hl false k f) (aX _ k) fun z k f=>?_
 exact RQ.map (g:=fun u=>{s with name:=x,op:=y,source:=z,target:=u}) (eW hl false k f)
end
end Am
namespace Am
open Tk
section
variable {l:List Tok} {f:Fa} {k:Ix l}
theorem An (hl:Fine l) (s:Stm) (k:Ix l) (f:Fa):RQ f (hY k>>=fun x=>bb eQ x.2>>=fun y=>bP y.2>>=fun z=>.ok ({s with text:=x.1,op:=y.1,ctx:=z.1},z.2)) (u6 s k f):=by
 unfold u6
 refine RQ.bind (t:=eg false k f) (u:=fun x k f=>oZ {s with text:=x} k f) (AX k f) (pA k) fun x k f=>?_
 have e:(bb eQ k>>=fun y=>bP y.2>>=fun z=>.ok ({s with text:=x,op:=y.1,ctx:=z.1},z.2):Except Fa (Stm×Ix l))=(bb eQ k>>=fun x=>.ok (x.1+1,x.2))>>=fun y=>bP y.2>>=fun z=>.ok ({s with text:=x,op:=y.1 - 1,ctx:=z.1},z.2):=by
  cases bb eQ k with
  |error e=>rfl
  |ok y=>
   rw[ag,ag,ag]
   have e:y.1+1 - 1=y.1:=by omega
   dsimp only
   rw[e]
 show RQ f (bb eQ k>>=fun y=>bP y.2>>=fun z=>.ok ({s with text:=x,op:=y.1,ctx:=z.1},z.2)) _
 rw[e]
 unfold oZ
 refine RQ.bind (t:=b9 eQ k f) (u:=fun y k f=>oy {s with text:=x,op:=y - 1} k f) (ie eQ k f) (NZ.bind (dz _ k) fun _=>NZ.ok _) fun y k f=>?_
 exact RQ.map (g:=fun z=>{s with text:=x,op:=y - 1,ctx:=z}) (mD hl k f)
theorem CP (hl:Fine l) (s:Stm) (k:Ix l) (f:Fa):RQ f (bb hC k>>=fun x=>if x.1=0 then aP x.2>>=fun y=>bq y.2>>=fun z=>.ok ({s with op:=1,name:=y.1,list:=z.1},z.2) else ch x.2>>=fun y=>.ok ({s with op:=1+x.1,list:=y.1},y.2)) (lq s k f):=by
 have e:(bb hC k>>=fun x=>if x.1=0 then aP x.2>>=fun y=>bq y.2>>=fun z=>.ok ({s with op:=1,name:=y.1,list:=z.1},z.2) else ch x.2>>=fun y=>.ok ({s with op:=1+x.1,list:=y.1},y.2):Except Fa (Stm×Ix l)) =
  (bb hC k>>=fun x=>.ok (x.1+1,x.2))>>=fun x=>if x.1=1 then aP x.2>>=fun y=>bq y.2>>=fun z=>.ok ({s with op:=x.1,name:=y.1,list:=z.1},z.2) else ch x.2>>=fun y=>.ok ({s with op:=x.1,list:=y.1},y.2):=by
  cases bb hC k with
  |error e=>rfl
  |ok y=>
   rw[ag,ag,ag]
   dsimp only
   by_cases h:y.1=0
   ·rw[if_pos h,if_pos (by omega),h];rfl
   ·rw[if_neg h,if_neg (by omega),Int.add_comm]
 rw[e]
 unfold lq
 refine RQ.bind (t:=b9 hC k f) (u:=fun y k f=>tp {s with op:=y} k f) (ie hC k f) (NZ.bind (dz _ k) fun _=>NZ.ok _) fun y k f=>?_
 unfold tp
 dsimp only
 by_cases h:y=1
 ·rw[if_pos h,if_pos h]
  refine RQ.bind (t:=aB k f) (u:=fun x k f=>xK {s with op:=y,name:=x} k f) (bW k f) (aQ k) fun x k f=>?_
  exact RQ.map (g:=fun z=>{s with op:=y,name:=x,list:=z}) (iZ hl k f)
 ·rw[if_neg h,if_neg h]
  exact wI hl {s with op:=y} k f
theorem lL (hl:Fine l) (s:Stm) (b:Bool) (hb:decide (s.kind=12)=b) (h6:¬ s.kind=6) {g:Stm×Ix l→Except Fa (Stm×Ix l)} (hg:∀ (x y z:NS) (k:Ix l) (f:Fa),RQ f (g ({s with source:=x,target:=y,cls:=z},k)) (gf {s with source:=x,target:=y,cls:=z} k f)) (k:Ix l) (f:Fa) :
 RQ f (b7 false k>>=fun x=>b7 b x.2>>=fun y=>aT ⟨#[58]⟩ y.2>>=fun a=>b7 false a.2>>=fun z=>g ({s with source:=x.1,target:=y.1,cls:=z.1},z.2)) (bL s k f):=by
 subst hb
 unfold bL
 refine RQ.bind (t:=bz false k f) (u:=fun x k f=>gJ {s with source:=x} k f) (eW hl false k f) (aX _ k) fun x k f=>?_
 unfold gJ
 refine RQ.bind (t:=bz (decide (s.kind=12)) k f) (u:=fun y k f=>gH {s with source:=x,target:=y} k f) (eW hl _ k f) (aX _ k) fun y k f=>?_
 unfold gH
 dsimp only
 rw[if_neg h6]
 refine RQ.bind (t:=((),aO ⟨#[58]⟩ k f)) (u:=fun _ k f=>jT {s with source:=x,target:=y} k f) (fP _ k f) (bo _ k) fun _ k f=>?_
 unfold jT
 refine RQ.bind (t:=bz false k f) (u:=fun z k f=>gf {s with source:=x,target:=y,cls:=z} k f) (eW hl false k f) (aX _ k) fun z k f=>?_
 exact hg x y z k f
theorem jk (hl:Fine l) (s:Stm) (h:s.kind=12) (k:Ix l) (f:Fa):RQ f (b7 false k>>=fun x=>b7 true x.2>>=fun y=>aT ⟨#[58]⟩ y.2>>=fun a=>b7 false a.2>>=fun z=>b7 false z.2>>=fun p=>.ok ({s with source:=x.1,target:=y.1,cls:=z.1,perms:=p.1},p.2)) (bL s k f):=by
 refine lL hl s true (by rw[h];rfl) (by rw[h];decide) (g:=fun z=>b7 false z.2>>=fun p=>.ok ({z.1 with perms:=p.1},p.2)) (fun x y z k f=>?_) k f
 unfold gf
 dsimp only
 rw[if_pos h]
 exact RQ.map (g:=fun p=>{s with source:=x,target:=y,cls:=z,perms:=p}) (eW hl false k f)
theorem vk (hl:Fine l) (s:Stm) (h:s.kind=14) (k:Ix l) (f:Fa):RQ f (b7 false k>>=fun x=>b7 false x.2>>=fun y=>aT ⟨#[58]⟩ y.2>>=fun a=>b7 false a.2>>=fun z=>cG z.2>>=fun p=>.ok ({s with source:=x.1,target:=y.1,cls:=z.1,range:=p.1},p.2)) (bL s k f):=by
 refine lL hl s false (by rw[h];rfl) (by rw[h];decide) (g:=fun z=>cG z.2>>=fun p=>.ok ({z.1 with range:=p.1},p.2)) (fun x y z k f=>?_) k f
 unfold gf
 dsimp only
 rw[if_neg (by rw[h];decide),if_pos h]
 exact RQ.map (g:=fun p=>{s with source:=x,target:=y,cls:=z,range:=p}) (nv hl k f)
theorem yd (hl:Fine l) (s:Stm) (h:s.kind=7) (k:Ix l) (f:Fa):RQ f (b7 false k>>=fun x=>b7 false x.2>>=fun y=>aT ⟨#[58]⟩ y.2>>=fun a=>b7 false a.2>>=fun z=>aP z.2>>=fun p=>.ok ({s with source:=x.1,target:=y.1,cls:=z.1,result:=p.1},p.2)) (bL s k f):=by
 refine lL hl s false (by rw[h];rfl) (by rw[h];decide) (g:=fun z=>aP z.2>>=fun p=>.ok ({z.1 with result:=p.1},p.2)) (fun x y z k f=>?_) k f
 unfold gf
 dsimp only
 rw[if_neg (by rw[h];decide),if_neg (by rw[h];decide)]
 refine RQ.bind (t:=aB k f) (u:=fun p k f=>jJ {s with source:=x,target:=y,cls:=z,result:=p} k f) (bW k f) (aQ k) fun p k f=>?_
 unfold jJ
 have e:¬ (decide (s.kind=13)&&decide (s.op=1)&&decide (f.code=0)&&decide ((tk k).kind=3))=true:=by simp[h]
 rw[if_neg e];exact .ok _ _
theorem kP (hl:Fine l) (s:Stm) (h:s.kind=13) (k:Ix l) (f:Fa):RQ f (b7 false k>>=fun x=>b7 false x.2>>=fun y=>aT ⟨#[58]⟩ y.2>>=fun a=>b7 false a.2>>=fun z=>aP z.2>>=fun p=>
 if s.op=1∧(tk p.2).kind=3 then(if gk (tk p.2).text then .ok ({s with source:=x.1,target:=y.1,cls:=z.1,result:=p.1,text:=(tk p.2).text},nx p.2) else .error (flt 10 (tk p.2))) else .ok ({s with source:=x.1,target:=y.1,cls:=z.1,result:=p.1},p.2)) (bL s k f):=by
 refine lL hl s false (by rw[h];rfl) (by rw[h];decide) (g:=fun z=>aP z.2>>=fun p=>if s.op=1∧(tk p.2).kind=3 then(if gk (tk p.2).text then .ok ({z.1 with result:=p.1,text:=(tk p.2).text},nx p.2) else .error (flt 10 (tk p.2))) else .ok ({z.1 with result:=p.1},p.2)) (fun x y z k f=>?_) k f
 unfold gf
 dsimp only
 rw[if_neg (by rw[h];decide),if_neg (by rw[h];decide)]
 refine RQ.bind (t:=aB k f) (u:=fun p k f=>jJ {s with source:=x,target:=y,cls:=z,result:=p} k f) (bW k f) (aQ k) fun p k f=>?_
 unfold jJ
 dsimp only
 by_cases hf:f.code=0
 ·by_cases hc:s.op=1∧(tk k).kind=3
  ·have e:(decide (s.kind=13)&&decide (s.op=1)&&decide (f.code=0)&&decide ((tk k).kind=3))=true:=by simp[h,hf,hc.1,hc.2]
   rw[if_pos hc,if_pos e]
   have ht:=yL k f hc.2
   have e2:(if gk (tk k).text then .ok ({s with source:=x,target:=y,cls:=z,result:=p,text:=(tk k).text},nx k) else .error (flt 10 (tk k)):Except Fa (Stm×Ix l))=(if gk (tk k).text then .ok ((tk k).text,nx k) else .error (flt 10 (tk k)))>>=fun w=>.ok ({s with source:=x,target:=y,cls:=z,result:=p,text:=w.1},w.2):=by
    cases gk (tk k).text <;> rfl
   rw[e2]
   exact RQ.map (g:=fun w=>{s with source:=x,target:=y,cls:=z,result:=p,text:=w}) ht
  ·have e:¬ (decide (s.kind=13)&&decide (s.op=1)&&decide (f.code=0)&&decide ((tk k).kind=3))=true:=by
    intro e
    simp only[Bool.and_eq_true,decide_eq_true_eq] at e
    exact hc ⟨e.1.1.2,e.2⟩
   rw[if_neg hc,if_neg e];exact .ok _ _
 ·have e:¬ (decide (s.kind=13)&&decide (s.op=1)&&decide (f.code=0)&&decide ((tk k).kind=3))=true:=by simp[hf]
  rw[if_neg e]
  exact⟨fun _=>rfl,fun h=>absurd h hf⟩
theorem xY (hl:Fine l) (s:Stm) (h:s.kind=6) (k:Ix l) (f:Fa):RQ f (b7 false k>>=fun x=>b7 false x.2>>=fun y=>.ok ({s with source:=x.1,target:=y.1},y.2)) (bL s k f):=by
 unfold bL
 refine RQ.bind (t:=bz false k f) (u:=fun x k f=>gJ {s with source:=x} k f) (eW hl false k f) (aX _ k) fun x k f=>?_
 unfold gJ
 dsimp only
 have e:decide (s.kind=12)=false:=by rw[h];rfl
 rw[e]
 refine RQ.bind (t:=bz false k f) (u:=fun y k f=>gH {s with source:=x,target:=y} k f) (eW hl _ k f) (aX _ k) fun y k f=>?_
 unfold gH
 dsimp only
 rw[if_pos h];exact .ok _ _
end
end Am
end Go.Proofs.YtkpodagbefnebaaGreatDoor
