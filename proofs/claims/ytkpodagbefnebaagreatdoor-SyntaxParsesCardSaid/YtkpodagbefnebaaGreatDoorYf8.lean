import Derived.Test.YtkpodagbefnebaaGreatDoorRows
import Derived.Test.YtkpodagbefnebaaGreatDoorYf1
import Derived.WalkKit
import Derived.WalkSpells
import Derived.WalkLawsBesides
import Derived.Lib.Hide
import Derived.Test.YtkpodagbefnebaaGreatDoorYf7
set_option linter.unusedSimpArgs false
set_option linter.unusedVariables false
set_option linter.unusedSectionVars false
namespace Go.Proofs.YtkpodagbefnebaaGreatDoor.Tk
def eA (c:Int):Bool:=decide (97≤c∧c≤122) || decide (65≤c∧c≤90) || decide (c=95)
def eP (c:Int):Bool:=decide (48≤c∧c≤57)
def D4 (c:Int):Bool:=decide (32≤c∧c≤126∧c≠34)
def bi (c:UInt8):Int:=(c.toNat:Int)
def nmB (c:UInt8):Bool:=eA (bi c) || eP (bi c)
def dgB (c:UInt8):Bool:=eP (bi c)
def ptB (c:UInt8):Bool:=D4 (bi c)
def fH (l:List UInt8):Bool:=!l.isEmpty&&decide (l.length≤32)&& !dgB (l.getD 0 0)&&l.all nmB
def vL (l:List UInt8):Bool:=!l.isEmpty&&decide (l.length≤9)&&(decide (l.length≤1) || !decide (bi (l.getD 0 0)=48))&&l.all dgB
def words:List UInt8→List UInt8→List (List UInt8)
 |_,[]=>[]
 |acc,c :: l=>if c=32 then acc :: words [] l else words (acc++[c]) l
def gC (s ws:List UInt8):Bool:=!s.isEmpty&&(words [] ws).contains s
def eK (s ws:List UInt8) (f k:Nat):Bool:=!s.isEmpty&&(words ((ws.drop f).take (k - f)) (ws.drop k)).contains s
theorem pq (s ws:List UInt8):eK s ws 0 0=gC s ws:=by simp[eK,gC]
theorem rz (s ws:List UInt8) (f k:Nat) (h:ws.length≤k):eK s ws f k=false:=by
 simp[eK,List.drop_of_length_le h,words]
theorem sg (s ws:List UInt8) (f k:Nat) (h:k<ws.length) (hb:ws[k]=32) (hs:(ws.drop f).take (k - f)=s) (hn:s.isEmpty=false):eK s ws f k=true:=by
 simp[eK,List.drop_eq_getElem_cons h,hb,words,hs,hn]
theorem qo (s ws:List UInt8) (f k:Nat) (h:k<ws.length) (hb:ws[k]=32) (hs:¬ ((ws.drop f).take (k - f)=s∧s.isEmpty=false)):eK s ws f k=eK s ws (k+1) (k+1):=by
 by_cases hn:s.isEmpty=false
 ·have h1:¬ (ws.drop f).take (k - f)=s:=fun h'=>hs ⟨h',hn⟩
  have h2:¬ s=(ws.drop f).take (k - f):=fun h'=>h1 h'.symm
  simp[eK,List.drop_eq_getElem_cons h,hb,words,h2]
 ·have hn':s.isEmpty=true:=by simpa using hn
  simp[eK,hn']
theorem pB (s ws:List UInt8) (f k:Nat) (hf:f≤k) (h:k<ws.length) (hb:¬ ws[k]=32):eK s ws f k=eK s ws f (k+1):=by
 have ht:(ws.drop f).take (k - f)++[ws[k]]=(ws.drop f).take (k+1 - f):=by
  have hl:k - f<(ws.drop f).length:=by simp;omega
  rw[show k+1 - f=(k - f)+1 by omega,List.take_succ_eq_append_getElem hl]
  simp[show f+(k - f)=k by omega]
 simp only[eK]
 rw[List.drop_eq_getElem_cons h,words,if_neg hb,ht]
theorem nJ {p:UInt8→Bool} (l:List UInt8) (k:Nat) (h:k<l.length):(l.take (k+1)).all p=((l.take k).all p&&p l[k]):=by
 rw[List.take_succ_eq_append_getElem h,List.all_append];simp
theorem pj {p:UInt8→Bool} (l:List UInt8) (k:Nat) (h:k<l.length) (hp:p l[k]=false):l.all p=false:=by
 rw[List.all_eq_false];exact⟨l[k],List.getElem_mem h,by simp[hp]⟩
theorem qu {p:UInt8→Bool} (l:List UInt8) (k:Nat) (h:l.length≤k) (hp:(l.take k).all p=true):l.all p=true:=by
 rwa [List.take_of_length_le h] at hp
theorem sz (s:ByteArray):s.data.toList.length=s.size:=Array.length_toList
theorem at_ (s:ByteArray) (k:Nat) (h:k<s.size):s.data.toList[k]'(by rw[sz];exact h)=s[k]:=rfl
theorem ir {p:UInt8→Bool} (s:ByteArray) (k:Nat) (h:k<s.size) (ha:(s.data.toList.take k).all p=true) (hp:p s[k]=true):(s.data.toList.take (k+1)).all p=true:=by
 rw[nJ _ _ (by rw[sz];exact h),ha,at_ s k h,hp];rfl
theorem xr {p:UInt8→Bool} (s:ByteArray) (k:Nat) (h:k<s.size) (hp:p s[k]=false):s.data.toList.all p=false:=
 pj _ k (by rw[sz];exact h) (by rw[at_ s k h];exact hp)
theorem wN {p:UInt8→Bool} (s:ByteArray) (k:Nat) (h:s.size≤k) (ha:(s.data.toList.take k).all p=true):s.data.toList.all p=true:=
 qu _ k (by rw[sz];exact h) ha
theorem mQ (s:ByteArray) (h:0<s.size):s.data.toList.isEmpty=false:=by
 cases hl:s.data.toList with
 |nil=>have:=sz s;rw[hl] at this;simp at this;omega
 |cons=>rfl
theorem jL (s:ByteArray) (h:¬ 0<s.size):s.data.toList=[]:=by
 cases hl:s.data.toList with
 |nil=>rfl
 |cons=>have:=sz s;rw[hl] at this;simp at this;omega
theorem tt (s:ByteArray) (h:0<s.size):s.data.toList.getD 0 0=s[0]:=by
 rw[List.getD_eq_getElem?_getD,List.getElem?_eq_getElem (by rw[sz];exact h)];rfl
def aft (p:Int×Int) (c:UInt8):Int×Int:=if bi c=10 then(p.1+1,1) else(p.1,p.2+1)
def loc (l:List UInt8) (k:Nat):Int×Int:=(l.take k).foldl aft (1,1)
theorem wK (l:List UInt8):loc l 0=(1,1):=by simp[loc]
theorem q7 (l:List UInt8) (k:Nat) (h:k<l.length):loc l (k+1)=aft (loc l k) l[k]:=by
 unfold loc;rw[List.take_succ_eq_append_getElem h,List.foldl_append];rfl
theorem wc (l:List UInt8):∀ k:Nat,1≤(loc l k).1∧(loc l k).1≤k+1∧1≤(loc l k).2∧(loc l k).2≤k+1
 |0=>by rw[wK];simp
 |k+1=>by
  have ih:=wc l k
  rcases Nat.lt_or_ge k l.length with h|h
  ·rw[q7 l k h];unfold aft;split <;> simp <;> omega
  ·have:loc l (k+1)=loc l k:=by unfold loc;rw[List.take_of_length_le h,List.take_of_length_le (by omega)]
   rw[this];omega
def tw (p:UInt8→Bool) (l:List UInt8):Nat:=(l.takeWhile p).length
theorem yH (p:UInt8→Bool) (l:List UInt8):tw p l≤l.length:=(List.takeWhile_sublist p).length_le
theorem lW (p:UInt8→Bool) (c:UInt8) (l:List UInt8):tw p (c :: l)=if p c=true then tw p l+1 else 0:=by
 unfold tw;rw[List.takeWhile_cons];split <;> simp
theorem rQ (p:UInt8→Bool) (l:List UInt8) (k:Nat) (h:k<l.length) (hp:p l[k]=true):tw p (l.drop k)=tw p (l.drop (k+1))+1:=by
 rw[List.drop_eq_getElem_cons h,lW,if_pos hp]
theorem xg (p:UInt8→Bool) (l:List UInt8) (k:Nat) (h:k<l.length) (hp:p l[k]=false):tw p (l.drop k)=0:=by
 rw[List.drop_eq_getElem_cons h,lW,if_neg (by simp[hp])]
theorem rH (p:UInt8→Bool) (l:List UInt8) (k:Nat) (h:l.length≤k):tw p (l.drop k)=0:=by
 rw[List.drop_of_length_le h];rfl
inductive Res where
 |err (c:Int) (off:Nat)
 |ok (kind:Int) (n:Nat)
def iY (l:List UInt8):Res:=if 32<tw nmB l then .err 10 0 else .ok 1 (tw nmB l)
def mx (l:List UInt8):Res:=if 9<tw dgB l then .err 3 0 else if 1<tw dgB l∧bi (l.getD 0 0)=48 then .err 9 0 else .ok 2 (tw dgB l)
def textR (l:List UInt8):Res:=
 if(l.drop 1).length≤tw ptB (l.drop 1) then .err 5 0
 else if ¬ bi ((l.drop 1).getD (tw ptB (l.drop 1)) 0)=34 then .err 9 (1+tw ptB (l.drop 1))
 else if 256<tw ptB (l.drop 1) then .err 4 0 else .ok 3 (tw ptB (l.drop 1)+2)
def marks2:List (List UInt8):=[[61,61],[33,61],[38,38],[124,124]]
def marks1:List UInt8:=[123,125,40,41,59,58,44,46,45,126,42,33,94]
def dN (l:List UInt8):Nat:=if marks2.contains (l.take 2) then 2 else if(match l with|[]=>false|c :: _=>marks1.contains c) then 1 else 0
def iW (l:List UInt8):Res:=if dN l=0 then .err 9 0 else .ok 4 (dN l)
def dY (l:List UInt8):Res:=
 if eA (bi (l.getD 0 0)) then iY l else if eP (bi (l.getD 0 0)) then mx l else if bi (l.getD 0 0)=34 then textR l else iW l
def skipL:Bool→List UInt8→Nat
 |_,[]=>0
 |c,b :: l=>if bi b=10 then skipL false l+1 else if bi b=35 then skipL true l+1 else if c=true∨bi b=32∨bi b=9 then skipL c l+1 else 0
theorem skipL_le:∀ (c:Bool) (l:List UInt8),skipL c l≤l.length
 |_,[]=>by simp[skipL]
 |c,b :: l=>by
  have h1:=skipL_le false l
  have h2:=skipL_le true l
  have h3:=skipL_le c l
  unfold skipL
  repeat' split
  all_goals simp only[List.length_cons];omega
def kwList:List (List UInt8):=[[109,111,100,117,108,101],
 [99,108,97,115,115],
 [116,121,112,101],
 [97,108,105,97,115],
 [116,121,112,101,97,116,116,114,105,98,117,116,101],
 [97,116,116,114,105,98,117,116,101],
 [114,111,108,101],
 [116,121,112,101,115],
 [114,111,108,101,97,108,108,111,119],
 [114,111,108,101,95,116,114,97,110,115,105,116,105,111,110],
 [117,115,101,114],
 [114,111,108,101,115],
 [108,101,118,101,108],
 [114,97,110,103,101],
 [98,111,111,108],
 [116,114,117,101],
 [102,97,108,115,101],
 [115,101,110,115,105,116,105,118,105,116,121],
 [99,97,116,101,103,111,114,121],
 [97,108,108,111,119],
 [97,117,100,105,116,97,108,108,111,119],
 [100,111,110,116,97,117,100,105,116],
 [110,101,118,101,114,97,108,108,111,119],
 [116,121,112,101,95,116,114,97,110,115,105,116,105,111,110],
 [116,121,112,101,95,99,104,97,110,103,101],
 [116,121,112,101,95,109,101,109,98,101,114],
 [114,97,110,103,101,95,116,114,97,110,115,105,116,105,111,110],
 [99,111,110,115,116,114,97,105,110],
 [118,97,108,105,100,97,116,101,116,114,97,110,115],
 [105,102],
 [101,108,115,101],
 [111,112,116,105,111,110,97,108],
 [114,101,113,117,105,114,101],
 [115,105,100],
 [102,105,108,101,99,111,110],
 [112,101,114,109,105,115,115,105,118,101],
 [97,115,115,101,114,116],
 [115,101,108,102],
 [105,110]]
def kwB (l:List UInt8):Bool:=kwList.contains l
theorem Cw (l:List UInt8) (k:Nat):(l.drop k).drop 1=l.drop (k+1):=by rw[List.drop_drop]
theorem vS (l:List UInt8) (k:Nat) (h:k<l.length):(l.drop k).getD 0 0=l[k]:=by
 rw[List.drop_eq_getElem_cons h];rfl
end Go.Proofs.YtkpodagbefnebaaGreatDoor.Tk
namespace Go.Proofs.YtkpodagbefnebaaGreatDoor
open Go.RowKit Tk
@[go_sem] theorem C8 (c:UInt8):wrap32 (c.toNat:Int)=(c.toNat:Int):=by
  have:=c.toNat_lt;exact IntWalk.wrap32_in _ ⟨by omega,by omega⟩
@[go_sem] theorem Cd (c:UInt8):wrap64 (c.toNat:Int)=(c.toNat:Int):=by
  have:=c.toNat_lt;exact IntWalk.wrap64_in _ ⟨by omega,by omega⟩
@[go_sem] theorem zW (c:UInt8):IntKind.i32.wrap (c.toNat:Int)=(c.toNat:Int):=by
  have:=c.toNat_lt;exact IntWalk.i32_in _ ⟨by omega,by omega⟩
@[go_sem] theorem zO (c:UInt8):IntKind.i64.wrap (c.toNat:Int)=(c.toNat:Int):=by
  have:=c.toNat_lt;exact IntWalk.i64_in _ ⟨by omega,by omega⟩
theorem bY {a b:Bool} (h:a=b):Ending.returned (.bool a)= .returned (.bool b):=by rw[h]
theorem bl (s:ByteArray):s.toList=s.data.toList:=by rw[ByteArray.toList_eq]
theorem B5 {s:ByteArray} (h:0<s.size):¬ s.toList=[]∧s.toList.isEmpty=false:=by
 have:=mQ s h
 rw[bl]
 exact⟨fun h'=>(by rw[h'] at this;cases this),this⟩
theorem BB {s:ByteArray} (h:¬ 0<s.size):s.toList=[]:=by rw[bl];exact jL s h
end Go.Proofs.YtkpodagbefnebaaGreatDoor
namespace Go.Proofs.YtkpodagbefnebaaGreatDoor
open Go.RowKit Tk
set_option maxHeartbeats 400000 in
theorem fW (c:Int) (w:World):Calls Tryz.prog 142 #[.int .i32 c] w fun e w'=>e= .returned (.bool (eP c))∧w=w':=by
 go_enter Tryz.func142,Tryz.ntmps142
 go_wp2
 all_goals(go_ret;exact⟨bY (by simp[eP];omega),rfl⟩)
set_option maxHeartbeats 400000 in
theorem iA (c:Int) (w:World):Calls Tryz.prog 120 #[.int .u8 c] w fun e w'=>e= .returned (.bool (eP c))∧w=w':=by
 go_enter Tryz.func120,Tryz.ntmps120
 go_wp2
 all_goals(go_ret;exact⟨bY (by simp[eP];omega),rfl⟩)
set_option maxHeartbeats 400000 in
theorem mn (c:Int) (w:World):Calls Tryz.prog 143 #[.int .i32 c] w fun e w'=>e= .returned (.bool (eA c))∧w=w':=by
 go_enter Tryz.func143,Tryz.ntmps143
 go_wp2
 all_goals(go_ret;exact⟨bY (by rw[Bool.eq_iff_iff];simp[eA];omega),rfl⟩)
set_option maxHeartbeats 400000 in
theorem gA (c:Int) (w:World):Calls Tryz.prog 118 #[.int .u8 c] w fun e w'=>e= .returned (.bool (eA c))∧w=w':=by
 go_enter Tryz.func118,Tryz.ntmps118
 go_wp2
 all_goals(go_ret;exact⟨bY (by rw[Bool.eq_iff_iff];simp[eA];omega),rfl⟩)
theorem mw (s:ByteArray) (h:32<s.size):fH s.data.toList=false:=by simp[fH];omega
theorem nX (s:ByteArray) (h:0<s.size) (hd:dgB s[0]=true):fH s.data.toList=false:=by
 unfold fH;rw[tt s h,hd];simp
theorem l9 (s:ByteArray) (k:Nat) (h:k<s.size) (hk:nmB s[k]=false):fH s.data.toList=false:=by
 unfold fH;rw[xr s k h hk];simp
theorem qB (s:ByteArray) (k:Nat) (h:0<s.size) (h2:¬ 32<s.size) (hd:dgB s[0]=false) (hk:s.size≤k) (ha:(s.data.toList.take k).all nmB=true):fH s.data.toList=true:=by
 unfold fH;rw[tt s h,hd,wN s k hk ha,mQ s h];simp;omega
set_option maxHeartbeats 400000 in
theorem v7 (s:ByteArray) (hs:s.size≤maxLen) (w:World):Calls Tryz.prog 76 #[.string s] w fun e w'=>e= .returned (.bool (fH s.data.toList))∧w=w':=by
 unfold maxLen at hs
 by_cases h0:0<s.size
 ·obtain ⟨he1,he2⟩:=B5 h0
  by_cases h32:32<s.size
  ·go_enter Tryz.func76,Tryz.ntmps76
   go_wp2_with (((go_at_call 142;((with_reducible refine(fW _ _).mono ?_);rintro e w' ⟨rfl,rfl⟩))))
   go_ret
   exact⟨bY (mw s h32).symm,rfl⟩
  ·by_cases hd:eP (s[0].toNat:Int)=true
   ·go_enter Tryz.func76,Tryz.ntmps76
    go_wp2_with (((go_at_call 142;((with_reducible refine(fW _ _).mono ?_);rintro e w' ⟨rfl,rfl⟩))))
    go_ret
    exact⟨bY (nX s h0 hd).symm,rfl⟩
   ·have hd2:eP (s[0].toNat:Int)=false:=by simpa using hd
    clear hd
    go_enter Tryz.func76,Tryz.ntmps76
    go_wp2_with (((go_at_call 142;((with_reducible refine(fW _ _).mono ?_);rintro e w' ⟨rfl,rfl⟩))))
    go_loop [20] (fun i=>∃ k:Nat,k≤s.size∧i= .int .i64 k∧Hid ((s.data.toList.take k).all nmB=true)) (fun i=>s.size - (intOf i).toNat)
    case atStart=>exact⟨0,by omega,rfl,by simp[Hid]⟩
    case round=>
     obtain ⟨k,hk,rfl,hall⟩:=hrel
     by_cases hlt:k<s.size
     ·by_cases hn:nmB s[k]=true
      ·have hcase:eA (s[k].toNat:Int)=true∨eA (s[k].toNat:Int)=false∧eP (s[k].toNat:Int)=true:=by
        cases hl:eA (s[k].toNat:Int)
        ·simp[nmB,bi,hl] at hn;exact .inr ⟨rfl,hn⟩
        ·exact .inl rfl
       have HN:=Lib.hid hn
       clear hn
       rcases hcase with hl|⟨hl,hg⟩
       all_goals
        go_wp2_with (first|(go_at_call 142;((with_reducible refine(fW _ _).mono ?_);rintro e w' ⟨rfl,rfl⟩))|(go_at_call 143;((with_reducible refine(mn _ _).mono ?_);rintro e w' ⟨rfl,rfl⟩)))
        go_round
        case rel=>exact⟨k+1,by omega,by go_num,ir s k hlt hall.out HN.out⟩
        case measure=>simp[intOf];omega
      ·have hn2:nmB s[k]=false:=by simpa using hn
       have hl:eA (s[k].toNat:Int)=false:=by simp[nmB,bi] at hn2;exact hn2.1
       have hg:eP (s[k].toNat:Int)=false:=by simp[nmB,bi] at hn2;exact hn2.2
       have HN:=Lib.hid hn2
       clear hn2 hn
       go_wp2_with (first|(go_at_call 142;((with_reducible refine(fW _ _).mono ?_);rintro e w' ⟨rfl,rfl⟩))|(go_at_call 143;((with_reducible refine(mn _ _).mono ?_);rintro e w' ⟨rfl,rfl⟩)))
       go_ret
       exact⟨bY (l9 s k hlt HN.out).symm,rfl⟩
     ·go_wp2
      go_ret
      exact⟨bY (qB s k h0 h32 hd2 (by omega) hall.out).symm,rfl⟩
 ·have he:=BB h0
  go_enter Tryz.func76,Tryz.ntmps76
  go_wp2_with (((go_at_call 142;((with_reducible refine(fW _ _).mono ?_);rintro e w' ⟨rfl,rfl⟩))))
  go_ret
  exact⟨bY (by rw[jL s h0];rfl),rfl⟩
set_option maxHeartbeats 400000 in
theorem uu (s:ByteArray) (hs:s.size≤maxLen) (w:World):Calls Tryz.prog 124 #[.string s] w fun e w'=>e= .returned (.bool (fH s.data.toList))∧w=w':=by
 unfold maxLen at hs
 go_enter Tryz.func124,Tryz.ntmps124
 go_wp2_with (fail)
 go_loop [3] (fun i=>∃ k:Nat,k≤s.size∧i= .int .i64 k∧Hid ((s.data.toList.take k).all nmB=true∧∀ h:0<s.size,0<k→dgB s[0]=false)) (fun i=>s.size - (intOf i).toNat)
 case atStart=>exact⟨0,by omega,rfl,by simp[Hid]⟩
 case round=>
  obtain ⟨k,hk,rfl,hall⟩:=hrel
  by_cases hlt:k<s.size
  ·by_cases hl:eA (s[k].toNat:Int)=true
   ·go_wp2_with (first|(go_at_call 118;((with_reducible refine(gA _ _).mono ?_);rintro e w' ⟨rfl,rfl⟩))|(go_at_call 120;((with_reducible refine(iA _ _).mono ?_);rintro e w' ⟨rfl,rfl⟩)))
    go_round
    case rel=>
     refine⟨k+1,by omega,by go_num,ir s k hlt hall.out.1 (by simp[nmB,bi,hl]),fun h0 _=>?_⟩
     by_cases hk0:k=0
     ·subst hk0
      simp only[eA,Bool.or_eq_true,decide_eq_true_eq] at hl
      exact decide_eq_false (fun h=>by unfold bi at h;omega)
     ·exact hall.out.2 h0 (by omega)
    case measure=>simp[intOf];omega
   ·have hl2:eA (s[k].toNat:Int)=false:=by simpa using hl
    by_cases hk0:k=0
    ·have hk0b:((k:Int) == 0)=true:=by simp;omega
     have HK:=Lib.hid hk0
     clear hk0
     go_wp2_with (first|(go_at_call 118;((with_reducible refine(gA _ _).mono ?_);rintro e w' ⟨rfl,rfl⟩))|(go_at_call 120;((with_reducible refine(iA _ _).mono ?_);rintro e w' ⟨rfl,rfl⟩)))
     go_ret
     refine⟨bY ?_,rfl⟩
     have:=HK.out
     subst this
     cases hd:dgB s[0]
     ·exact(l9 s 0 hlt (by unfold nmB;unfold bi;rw[hl2];exact hd)).symm
     ·exact(nX s hlt hd).symm
    ·have hk0b:((k:Int) == 0)=false:=by simp;omega
     by_cases hg:eP (s[k].toNat:Int)=true
     ·go_wp2_with (first|(go_at_call 118;((with_reducible refine(gA _ _).mono ?_);rintro e w' ⟨rfl,rfl⟩))|(go_at_call 120;((with_reducible refine(iA _ _).mono ?_);rintro e w' ⟨rfl,rfl⟩)))
      go_round
      case rel=>exact⟨k+1,by omega,by go_num,ir s k hlt hall.out.1 (by simp[nmB,bi,hg]),fun h0 _=>hall.out.2 h0 (by omega)⟩
      case measure=>simp[intOf];omega
     ·have hg2:eP (s[k].toNat:Int)=false:=by simpa using hg
      go_wp2_with (first|(go_at_call 118;((with_reducible refine(gA _ _).mono ?_);rintro e w' ⟨rfl,rfl⟩))|(go_at_call 120;((with_reducible refine(iA _ _).mono ?_);rintro e w' ⟨rfl,rfl⟩)))
      go_ret
      exact⟨bY (l9 s k hlt (by simp[nmB,bi,hl2,hg2])).symm,rfl⟩
  ·by_cases h0:0<s.size
   ·by_cases h32:32<s.size
    ·go_wp2
     go_ret
     exact⟨bY (by rw[mw s h32];simp;omega),rfl⟩
    ·go_wp2
     go_ret
     exact⟨bY (by rw[qB s k h0 h32 (hall.out.2 h0 (by omega)) (by omega) hall.out.1];simp;omega),rfl⟩
   ·go_wp2
    go_ret
    exact⟨bY (by rw[jL s h0];simp[fH];try omega),rfl⟩
theorem pR (s:ByteArray) (f k:Nat):(s.extract f k).toList=(s.data.toList.drop f).take (k - f):=by
 rw[bl];simp[ByteArray.data_extract]
set_option maxHeartbeats 400000 in
theorem nG (s ws:ByteArray) (hw:ws.size≤maxLen) (w:World):Calls Tryz.prog 123 #[.string s,.string ws] w fun e w'=>e= .returned (.bool (gC s.data.toList ws.data.toList))∧w=w':=by
 unfold maxLen at hw
 go_enter Tryz.func123,Tryz.ntmps123
 go_wp2_with (fail)
 go_loop [5,6] (fun x i=>∃ f k:Nat,k≤ws.size∧f≤k∧x= .int .i64 f∧i= .int .i64 k∧Hid (eK s.data.toList ws.data.toList f k=gC s.data.toList ws.data.toList)) (fun _ i=>ws.size - (intOf i).toNat)
 case atStart=>exact⟨0,0,by omega,by omega,rfl,rfl,pq _ _⟩
 case round=>
  obtain ⟨f,k,hk,hf,rfl,rfl,hall⟩:=hrel
  by_cases hlt:k<ws.size
  ·by_cases hb:(ws[k].toNat:Int)=32
   ·have hbb:((ws[k].toNat:Int) != 32)=false:=by simpa using hb
    have hb2:ws.data.toList[k]'(by rw[sz];exact hlt)=32:=by
     rw[at_ ws k hlt];apply UInt8.toNat_inj.1;simp;omega
    have HB:=Lib.hid hb2
    clear hb hb2
    have hL:k<ws.data.toList.length:=by rw[sz];exact hlt
    go_wp2
    ·have h1:(ws.extract f k).toList=s.toList:=by assumption
     have h2:(!s.toList.isEmpty)=true:=by assumption
     go_ret
     refine⟨bY ?_,rfl⟩
     rw[← hall.out]
     rw[pR,bl] at h1
     rw[bl] at h2
     exact(sg _ _ f k hL HB.out h1 (by simpa using h2)).symm
    all_goals
     go_round
     case rel=>
      refine⟨k+1,k+1,by omega,by omega,by go_num,by go_num,?_⟩
      refine(qo _ _ f k hL HB.out ?_).symm.trans hall.out
      rintro ⟨h1,h2⟩
      rw[← pR,←bl] at h1
      rw[← bl] at h2
      first
       |(have h3:¬ (ws.extract f k).toList=s.toList:=by assumption
         exact h3 h1)
       |(have h3:(!s.toList.isEmpty)=false:=by assumption
         rw[h2] at h3;cases h3)
     case measure=>simp[intOf];omega
   ·have hbb:((ws[k].toNat:Int) != 32)=true:=by simpa using hb
    have HB:=Lib.hid hb
    clear hb
    go_wp2
    go_round
    case rel=>
     refine⟨f,k+1,by omega,by omega,rfl,by go_num,?_⟩
     refine(pB _ _ f k hf (by rw[sz];exact hlt) ?_).symm.trans hall.out
     rw[at_ ws k hlt]
     intro h
     exact HB.out (by rw[h];rfl)
    case measure=>simp[intOf];omega
  ·go_wp2
   go_ret
   exact⟨bY (by rw[← hall.out,rz];rw[sz];omega),rfl⟩
theorem sO (l ws:List UInt8) (h:words [] ws=kwList):gC l ws=kwB l:=by
 unfold gC kwB
 rw[h]
 cases l with
 |nil=>decide
 |cons=>simp
set_option maxHeartbeats 400000 in
set_option maxRecDepth 100000 in
theorem pG (s:ByteArray) (w:World):Calls Tryz.prog 136 #[.string s] w fun e w'=>e= .returned (.bool (kwB s.data.toList))∧w=w':=by
 go_enter Tryz.func136,Tryz.ntmps136
 go_wp2_with (((go_at_call 123;((with_reducible refine(nG _ _ ?_ _).mono ?_);(· decide +kernel);rintro e w' ⟨rfl,rfl⟩))))
 go_ret
 exact⟨bY (sO _ _ (by decide +kernel)),rfl⟩
theorem EF (s:ByteArray) (h:kwB s.data.toList=true):s.toList=[109,111,100,117,108,101]∨s.toList=[99,108,97,115,115]∨s.toList=[116,121,112,101]∨s.toList=[97,108,105,97,115]∨s.toList=[116,121,112,101,97,116,116,114,105,98,117,116,101]∨s.toList=[97,116,116,114,105,98,117,116,101]∨s.toList=[114,111,108,101]∨s.toList=[116,121,112,101,115]∨s.toList=[114,111,108,101,97,108,108,111,119]∨s.toList=[114,111,108,101,95,116,114,97,110,115,105,116,105,111,110]∨s.toList=[117,115,101,114]∨s.toList=[114,111,108,101,115]∨s.toList=[108,101,118,101,108]∨s.toList=[114,97,110,103,101]∨s.toList=[98,111,111,108]∨s.toList=[116,114,117,101]∨s.toList=[102,97,108,115,101]∨s.toList=[115,101,110,115,105,116,105,118,105,116,121]∨s.toList=[99,97,116,101,103,111,114,121]∨s.toList=[97,108,108,111,119]∨s.toList=[97,117,100,105,116,97,108,108,111,119]∨s.toList=[100,111,110,116,97,117,100,105,116]∨s.toList=[110,101,118,101,114,97,108,108,111,119]∨s.toList=[116,121,112,101,95,116,114,97,110,115,105,116,105,111,110]∨s.toList=[116,121,112,101,95,99,104,97,110,103,101]∨s.toList=[116,121,112,101,95,109,101,109,98,101,114]∨s.toList=[114,97,110,103,101,95,116,114,97,110,115,105,116,105,111,110]∨s.toList=[99,111,110,115,116,114,97,105,110]∨s.toList=[118,97,108,105,100,97,116,101,116,114,97,110,115]∨s.toList=[105,102]∨s.toList=[101,108,115,101]∨s.toList=[111,112,116,105,111,110,97,108]∨s.toList=[114,101,113,117,105,114,101]∨s.toList=[115,105,100]∨s.toList=[102,105,108,101,99,111,110]∨s.toList=[112,101,114,109,105,115,115,105,118,101]∨s.toList=[97,115,115,101,114,116]∨s.toList=[115,101,108,102]∨s.toList=[105,110]:=by
 rw[bl]
 simpa [kwB,kwList] using h
theorem bn (s:ByteArray) (h:kwB s.data.toList=false) (x:List UInt8) (hx:x∈kwList):(s.toList == x)=false:=by
 rw[bl]
 cases he:s.data.toList == x
 ·rfl
 ·rw[beq_iff_eq] at he
  rw[← he] at hx
  have:kwB s.data.toList=true:=by simpa [kwB] using hx
  rw[this] at h
  cases h
set_option maxHeartbeats 2000000 in
theorem oY (s:ByteArray) (w:World):Calls Tryz.prog 32 #[.string s] w fun e w'=>e= .returned (.bool (kwB s.data.toList))∧w=w':=by
 cases hk:kwB s.data.toList
 ·have h0:=bn s hk [109,111,100,117,108,101] (by decide +kernel)
  have h1:=bn s hk [99,108,97,115,115] (by decide +kernel)
  have h2:=bn s hk [116,121,112,101] (by decide +kernel)
  have h3:=bn s hk [97,108,105,97,115] (by decide +kernel)
  have h4:=bn s hk [116,121,112,101,97,116,116,114,105,98,117,116,101] (by decide +kernel)
  have h5:=bn s hk [97,116,116,114,105,98,117,116,101] (by decide +kernel)
  have h6:=bn s hk [114,111,108,101] (by decide +kernel)
  have h7:=bn s hk [116,121,112,101,115] (by decide +kernel)
  have h8:=bn s hk [114,111,108,101,97,108,108,111,119] (by decide +kernel)
  have h9:=bn s hk [114,111,108,101,95,116,114,97,110,115,105,116,105,111,110] (by decide +kernel)
  have h10:=bn s hk [117,115,101,114] (by decide +kernel)
  have h11:=bn s hk [114,111,108,101,115] (by decide +kernel)
  have h12:=bn s hk [108,101,118,101,108] (by decide +kernel)
  have h13:=bn s hk [114,97,110,103,101] (by decide +kernel)
  have h14:=bn s hk [98,111,111,108] (by decide +kernel)
  have h15:=bn s hk [116,114,117,101] (by decide +kernel)
  have h16:=bn s hk [102,97,108,115,101] (by decide +kernel)
  have h17:=bn s hk [115,101,110,115,105,116,105,118,105,116,121] (by decide +kernel)
  have h18:=bn s hk [99,97,116,101,103,111,114,121] (by decide +kernel)
  have h19:=bn s hk [97,108,108,111,119] (by decide +kernel)
  have h20:=bn s hk [97,117,100,105,116,97,108,108,111,119] (by decide +kernel)
  have h21:=bn s hk [100,111,110,116,97,117,100,105,116] (by decide +kernel)
  have h22:=bn s hk [110,101,118,101,114,97,108,108,111,119] (by decide +kernel)
  have h23:=bn s hk [116,121,112,101,95,116,114,97,110,115,105,116,105,111,110] (by decide +kernel)
  have h24:=bn s hk [116,121,112,101,95,99,104,97,110,103,101] (by decide +kernel)
  have h25:=bn s hk [116,121,112,101,95,109,101,109,98,101,114] (by decide +kernel)
  have h26:=bn s hk [114,97,110,103,101,95,116,114,97,110,115,105,116,105,111,110] (by decide +kernel)
  have h27:=bn s hk [99,111,110,115,116,114,97,105,110] (by decide +kernel)
  have h28:=bn s hk [118,97,108,105,100,97,116,101,116,114,97,110,115] (by decide +kernel)
  have h29:=bn s hk [105,102] (by decide +kernel)
  have h30:=bn s hk [101,108,115,101] (by decide +kernel)
  have h31:=bn s hk [111,112,116,105,111,110,97,108] (by decide +kernel)
  have h32:=bn s hk [114,101,113,117,105,114,101] (by decide +kernel)
  have h33:=bn s hk [115,105,100] (by decide +kernel)
  have h34:=bn s hk [102,105,108,101,99,111,110] (by decide +kernel)
  have h35:=bn s hk [112,101,114,109,105,115,115,105,118,101] (by decide +kernel)
  have h36:=bn s hk [97,115,115,101,114,116] (by decide +kernel)
  have h37:=bn s hk [115,101,108,102] (by decide +kernel)
  have h38:=bn s hk [105,110] (by decide +kernel)
  clear hk
  go_enter Tryz.func32,Tryz.ntmps32
  go_wp2_with fail
  go_ret
  exact⟨rfl,rfl⟩
 ·rcases EF s hk with h|h|h|h|h|h|h|h|h|h|h|h|h|h|h|h|h|h|h|h|h|h|h|h|h|h|h|h|h|h|h|h|h|h|h|h|h|h|h
  all_goals
   clear hk
   go_enter Tryz.func32,Tryz.ntmps32
   go_wp2_with fail
   go_ret
   exact⟨rfl,rfl⟩
set_option maxHeartbeats 400000 in
theorem lx (s:ByteArray) (hs:s.size≤maxLen) (w:World):Calls Tryz.prog 31 #[.string s] w fun e w'=>e= .returned (.bool (fH s.data.toList&& !kwB s.data.toList))∧w=w':=by
 cases hn:fH s.data.toList
 all_goals
  go_enter Tryz.func31,Tryz.ntmps31
  go_wp2_with (first|(go_at_call 76;((with_reducible refine(v7 _ (by assumption) _).mono ?_);rintro e w' ⟨rfl,rfl⟩))|(go_at_call 32;((with_reducible refine(oY _ _).mono ?_);rintro e w' ⟨rfl,rfl⟩)))
  go_ret
  exact⟨rfl,rfl⟩
set_option maxHeartbeats 400000 in
theorem iO (s:ByteArray) (hs:s.size≤maxLen) (w:World):Calls Tryz.prog 69 #[.string s] w fun e w'=>e= .returned (.bool (fH s.data.toList&& !kwB s.data.toList))∧w=w':=by
 cases hn:fH s.data.toList
 all_goals
  go_enter Tryz.func69,Tryz.ntmps69
  go_wp2_with (first|(go_at_call 124;((with_reducible refine(uu _ (by assumption) _).mono ?_);rintro e w' ⟨rfl,rfl⟩))|(go_at_call 136;((with_reducible refine(pG _ _).mono ?_);rintro e w' ⟨rfl,rfl⟩)))
  go_ret
  exact⟨rfl,rfl⟩
end Go.Proofs.YtkpodagbefnebaaGreatDoor
namespace Go.Proofs.YtkpodagbefnebaaGreatDoor
namespace Am
open Tk
set_option maxRecDepth 100000
def idB (s:ByteArray):Bool:=fH s.data.toList&& !kwB s.data.toList
theorem pn (s:ByteArray):Pure Tryz.prog 31 [.c (sS s)] (.c (sB (idB s))):=
 Pure.of_calls (vs:=[.string s]) Tryz.call31 (.sc rfl) fun hs w=>lx s (of_decide_eq_true (hs _ (.head _))) w
section
variable {α:Type} {l:List α} {p:α→Bool} {j:Nat} {x:α}
theorem ir (hx:l[j]? =some x) (ha:(l.take j).all p=true) (hp:p x=true):(l.take (j+1)).all p=true:=by
 rw[List.take_add_one,hx,List.all_append,ha];simp[hp]
theorem w9 (hx:l[j]? =some x) (hp:p x=false):l.all p=false:=by
 rw[Bool.eq_false_iff];intro h
 have:=List.all_eq_true.1 h x (List.mem_of_getElem? hx)
 rw[hp] at this;cases this
theorem tj (ha:(l.take j).all p=true) (hj:l.length≤j):l.all p=true:=by rwa [List.take_of_length_le hj] at ha
end
end Am
namespace Am
set_option maxRecDepth 100000
set_option maxHeartbeats 1000000
def mX (c:UInt8):Bool:=!(decide (c.toNat<33) || decide (126<c.toNat) || decide (c.toNat=47) || decide (c.toNat=34))
def gr (s:ByteArray):Bool:=s.data.toList.all mX&&(decide (s≠⟨#[]⟩)&&decide (s.size≤32))
theorem bc (s:ByteArray):s.size=s.data.toList.length:=by cases s;simp[ByteArray.size]
theorem sF (s:ByteArray):Pure Tryz.prog 254 [.c (sS s)] (.c (sB (gr s))):=by
 refine fn1 (fn:=Tryz.f254) Tryz.call254 Tryz.func254 rfl Tryz.ntmps254 Tryz.results254 rfl (by rfl) ?_
 refine AW.fact (t:=0) rfl (fun κ w x hr=>jO hr) fun hn=>?_
 repeat'(first|(with_reducible first|apply AW.seq|apply AW.block|apply AW.skip|apply AW.ret|apply AW.exit|apply aa|apply ak|apply aE|apply aw|apply aL|apply aH|apply y_e|refine ae ?_)|((with_reducible apply ai);refine t_v AS.v ?_)|((with_reducible apply aK);refine t_m (hs:=fun hg=>AS.v) (k:=?_))|((with_reducible refine aq ?_);((refine ah (fun hc=>?_) (fun hc=>?_);all_goals(try(exfalso;simp[*] at hc;done)))))|((with_reducible refine aM ?_);refine k_b ?_)|fail)
 refine AW.loop (fun n σ=>∃ j,n=s.size - j∧j≤s.size∧(s.data.toList.take j).all mX=true∧σ=mk [(0,.c (sS s)),(5,.c (sI s.size)),(6,.c (sI j))] []) s.size ?_ ?_
 ·exact⟨_,wkA,0,rfl,Nat.zero_le _,rfl,rfl⟩
 rintro n σ ⟨j,rfl,hj,ha,rfl⟩
 by_cases hlt:j<s.size
 ·obtain ⟨x,hx⟩:∃ x,s.data.toList[j]? =some x:=⟨_,List.getElem?_eq_getElem (by have:=bc s;omega)⟩
  repeat'(first|(with_reducible first|apply AW.seq|apply AW.block|apply AW.skip|apply AW.ret|apply AW.exit|apply aa|apply ak|apply aE|apply aw|apply aL|apply aH|apply y_e|refine ae ?_)|((with_reducible apply ai);refine t_v AS.v ?_)|((with_reducible apply aK);refine t_m (hs:=fun hg=>AS.v) (k:=?_))|((with_reducible refine aq ?_);((refine ah (fun hc=>?_) (fun hc=>?_);all_goals(try(exfalso;simp[*] at hc;done)))))|((with_reducible refine aM ?_);refine k_b ?_)|fail)
  ·have e:mX x=false:=by simp only[mX];simp at hc ⊢;omega
   rw[gr,w9 hx e,Bool.false_and]
  ·have e:mX x=true:=by simp only[mX];simp at hc ⊢;omega
   exact⟨_,_,(show s.size - (j+1)<s.size - j by omega),wkA,j+1,rfl,hlt,ir hx ha e,rfl⟩
 ·have e:=tj ha (by have:=bc s;omega)
  repeat'(first|(with_reducible first|apply AW.seq|apply AW.block|apply AW.skip|apply AW.ret|apply AW.exit|apply aa|apply ak|apply aE|apply aw|apply aL|apply aH|apply y_e|refine ae ?_)|((with_reducible apply ai);refine t_v AS.v ?_)|((with_reducible apply aK);refine t_m (hs:=fun hg=>AS.v) (k:=?_))|((with_reducible refine aq ?_);((refine ah (fun hc=>?_) (fun hc=>?_);all_goals(try(exfalso;simp[*] at hc;done)))))|((with_reducible refine aM ?_);refine k_b ?_)|fail)
  rw[gr,e,Bool.true_and,show decide ((s.size:Int)≤32)=decide (s.size≤32) from decide_eq_decide.2 (by omega)]
  simp
end Am
namespace Am
open Tk
theorem ag {ε α β:Type} (a:α) (f:α→Except ε β):(Except.ok a>>=f)=f a:=rfl
theorem au {ε α β:Type} (e:ε) (f:α→Except ε β):((Except.error e:Except ε α)>>=f)= .error e:=rfl
abbrev Ix (l:List Tok):=Fin l.length
section
variable {l:List Tok}
def tk (k:Ix l):Tok:=l[k.1]
def nx (k:Ix l):Ix l:=if h:k.1+1<l.length then⟨k.1+1,h⟩ else k
def uQ (k:Ix l) (m:Nat):Ix l:=if h:m<l.length then⟨m,h⟩ else k
def fuel (l:List Tok):Nat:=8*l.length+16
def flt (c:Int) (t:Tok):Fa:=⟨c,t.pos,t.text⟩
def isM (s:ByteArray) (k:Ix l):Bool:=decide ((tk k).kind=4)&&decide ((tk k).text=s)
def isW (s:ByteArray) (k:Ix l):Bool:=decide ((tk k).kind=1)&&decide ((tk k).text=s)
def adv (b:Bool) (k:Ix l):Ix l:=if b then nx k else k
def aT (s:ByteArray) (k:Ix l):Except Fa (Unit×Ix l):=if isM s k then .ok ((),nx k) else .error (flt 9 (tk k))
def cX (s:ByteArray) (k:Ix l):Except Fa (Unit×Ix l):=if isW s k then .ok ((),nx k) else .error (flt 9 (tk k))
def cb (k:Ix l):Bool:=decide ((tk k).kind=1)&&idB (tk k).text
def aQ (k:Ix l):Except Fa (ByteArray×Ix l):=if cb k then .ok ((tk k).text,nx k) else .error (flt 9 (tk k))
def cW:Nat→List ByteArray→Ix l→Except Fa (List ByteArray×Ix l)
 |0,_,k=>.error (flt 9 (tk k))
 |n+1,acc,k=>if isM ⟨#[125]⟩ k then .ok (acc,nx k) else aQ k>>=fun x=>cW n (acc++[x.1]) x.2
def bq (k:Ix l):Except Fa (List ByteArray×Ix l):=aT ⟨#[123]⟩ k>>=fun x=>aQ x.2>>=fun y=>cW (fuel l) [y.1] y.2
def b5:Nat→List ByteArray→Ix l→Except Fa (List ByteArray×Ix l)
 |0,_,k=>.error (flt 9 (tk k))
 |n+1,acc,k=>if isM ⟨#[44]⟩ k then aQ (nx k)>>=fun x=>b5 n (acc++[x.1]) x.2 else .ok (acc,k)
def cn (k:Ix l):Except Fa (List ByteArray×Ix l):=aQ k>>=fun y=>b5 (fuel l) [y.1] y.2
def dM (self minus:Bool) (n:NS) (k:Ix l):Except Fa (NS×Ix l):=
 if isM ⟨#[42]⟩ k then .ok ({n with all:=true},nx k)
 else if self&&isW ⟨#[115,101,108,102]⟩ k then .ok ({n with self:=true},nx k)
 else if minus&&isM ⟨#[45]⟩ k then aQ (nx k)>>=fun x=>.ok ({n with except:=n.except++[x.1]},x.2)
 else aQ k>>=fun x=>.ok ({n with names:=n.names++[x.1]},x.2)
def jG (self:Bool):Nat→NS→Ix l→Except Fa (NS×Ix l)
 |0,_,k=>.error (flt 9 (tk k))
 |m+1,n,k=>if isM ⟨#[125]⟩ k then .ok (n,nx k) else dM self true n k>>=fun x=>jG self m x.1 x.2
def ns0 (b:Bool):NS:=⟨false,b,false,[],[]⟩
def b6 (self:Bool) (k:Ix l):Except Fa (NS×Ix l):=
 if isM ⟨#[123]⟩ (adv (isM ⟨#[126]⟩ k) k) then dM self true (ns0 (isM ⟨#[126]⟩ k)) (nx (adv (isM ⟨#[126]⟩ k) k))>>=fun x=>jG self (fuel l) x.1 x.2
 else if isM ⟨#[126]⟩ k then aQ (nx k)>>=fun x=>.ok (⟨false,true,false,[x.1],[]⟩,x.2)
 else dM self false (ns0 false) k
def er (k:Ix l):Except Fa (Sp×Ix l):=aQ k>>=fun x=>if isM ⟨#[46]⟩ x.2 then aQ (nx x.2)>>=fun y=>.ok (⟨x.1,y.1⟩,y.2) else .ok (⟨x.1,⟨#[]⟩⟩,x.2)
def dA:Nat→Lv→Ix l→Except Fa (Lv×Ix l)
 |0,_,k=>.error (flt 9 (tk k))
 |n+1,v,k=>er k>>=fun x=>if isM ⟨#[44]⟩ x.2 then dA n {v with cats:=v.cats++[x.1]} (nx x.2) else .ok ({v with cats:=v.cats++[x.1]},x.2)
def dH (k:Ix l):Except Fa (Lv×Ix l):=aQ k>>=fun x=>if isM ⟨#[58]⟩ x.2 then dA (fuel l) ⟨x.1,[]⟩ (nx x.2) else .ok (⟨x.1,[]⟩,x.2)
def cG (k:Ix l):Except Fa (Rg×Ix l):=dH k>>=fun x=>if isM ⟨#[45]⟩ x.2 then dH (nx x.2)>>=fun y=>.ok (⟨x.1,y.1⟩,y.2) else .ok (⟨x.1,Lv.zero⟩,x.2)
def bR (k:Ix l):Except Fa (Ct×Ix l):=aQ k>>=fun u=>aT ⟨#[58]⟩ u.2>>=fun a=>aQ a.2>>=fun r=>aT ⟨#[58]⟩ r.2>>=fun b=>aQ b.2>>=fun t=>aT ⟨#[58]⟩ t.2>>=fun c=>cG c.2>>=fun g=>.ok (⟨u.1,r.1,t.1,g.1⟩,g.2)
def bb (ws:List ByteArray) (k:Ix l):Except Fa (Int×Ix l):=match ws.findIdx? (fun s=>isW s k) with|some i=>.ok ((i:Int),nx k)|none=>.error (flt 9 (tk k))
def inB (ws:List UInt8) (c:UInt8):Option Nat:=ws.findIdx? (fun d=>d == c)
def fF:Option Nat→Option Nat→Option Int
 |some i,some j=>some (((j*5+i:Nat)):Int)
 |_,_=>none
def ke (v:Bool) (s:ByteArray):Option Int:=match s.data.toList with
 |[a,b]=>fF (inB [117,114,116,108,104] a) (inB (if v then[49,50,51] else[49,50]) b)
 |_=>none
def gy (v:Bool) (k:Ix l):Except Fa (Int×Ix l):=match ke v (tk k).text with
 |some n=>if(tk k).kind=1 then .ok (n,nx k) else .error (flt 9 (tk k))
 |none=>.error (flt 9 (tk k))
def jF (k:Ix l):Except Fa (Int×Ix l):=if isM ⟨#[61,61]⟩ k then .ok (0,nx k) else if isM ⟨#[33,61]⟩ k then .ok (1,nx k) else bb [⟨#[100,111,109]⟩,⟨#[100,111,109,98,121]⟩,⟨#[105,110,99,111,109,112]⟩] k>>=fun x=>.ok (2+x.1,x.2)
def mA (v:Bool) (k:Ix l):Except Fa (Ex×Ix l):=gy v k>>=fun a=>
 if isW ⟨#[105,110]⟩ a.2 then(if isM ⟨#[123]⟩ (nx a.2) then bq (nx a.2)>>=fun x=>.ok ({Ex.zero with op:=9,a:=a.1,names:=x.1},x.2) else aQ (nx a.2)>>=fun x=>.ok ({Ex.zero with op:=9,a:=a.1,names:=[x.1]},x.2))
 else jF a.2>>=fun r=>gy v r.2>>=fun b=>.ok ({Ex.zero with op:=8,a:=a.1,rel:=r.1,b:=b.1},b.2)
mutual
def ew (v:Bool):Nat→Ix l→Except Fa (Ex×Ix l)
 |0,k=>.error (flt 9 (tk k))
 |n+1,k=>if isM ⟨#[33]⟩ k then ew v n (nx k)>>=fun x=>.ok ({Ex.zero with op:=2,kids:=[x.1]},x.2)
  else if isM ⟨#[40]⟩ k then fy v n (nx k)>>=fun x=>aT ⟨#[41]⟩ x.2>>=fun y=>.ok (x.1,y.2)
  else mA v k
def fI (v:Bool):Nat→Ix l→Except Fa (Ex×Ix l)
 |0,k=>.error (flt 9 (tk k))
 |n+1,k=>ew v n k>>=fun x=>cT v n x.1 x.2
def cT (v:Bool):Nat→Ex→Ix l→Except Fa (Ex×Ix l)
 |0,_,k=>.error (flt 9 (tk k))
 |n+1,e,k=>if isM ⟨#[38,38]⟩ k then ew v n (nx k)>>=fun x=>cT v n {Ex.zero with op:=3,kids:=[e,x.1]} x.2 else .ok (e,k)
def fy (v:Bool):Nat→Ix l→Except Fa (Ex×Ix l)
 |0,k=>.error (flt 9 (tk k))
 |n+1,k=>fI v n k>>=fun x=>cU v n x.1 x.2
def cU (v:Bool):Nat→Ex→Ix l→Except Fa (Ex×Ix l)
 |0,_,k=>.error (flt 9 (tk k))
 |n+1,e,k=>if isM ⟨#[124,124]⟩ k then fI v n (nx k)>>=fun x=>cU v n {Ex.zero with op:=4,kids:=[e,x.1]} x.2 else .ok (e,k)
end
mutual
def br:Ex→Nat
 |⟨_,_,_,_,_,_,kids⟩=>cF kids+1
def cF:List Ex→Nat
 |[]=>0
 |x :: l=>max (br x) (cF l)
end
def cI (v:Bool) (k:Ix l):Except Fa (Ex×Ix l):=fy v (fuel l) k>>=fun x=>if 12<br x.1 then .error (flt 4 (tk k)) else .ok x
def ig (cnd:List Tok→Except Fa (Ex×Nat)) (k:Ix l):Except Fa (Ex×Ix l):=cnd (l.drop k.1)>>=fun x=>.ok (x.1,uQ k (k.1+x.2))
def gQ (k:Ix l):Except Fa (ByteArray×Ix l):=if(tk k).kind=3 then(if(tk k).text=⟨#[]⟩ then .error (flt 10 (tk k)) else .ok ((tk k).text,nx k)) else .error (flt 9 (tk k))
def beginW:List ByteArray:=[⟨#[99,108,97,115,115]⟩,⟨#[116,121,112,101]⟩,⟨#[97,116,116,114,105,98,117,116,101]⟩,⟨#[116,121,112,101,97,116,116,114,105,98,117,116,101]⟩,⟨#[114,111,108,101]⟩,⟨#[114,111,108,101,97,108,108,111,119]⟩,⟨#[114,111,108,101,95,116,114,97,110,115,105,116,105,111,110]⟩,⟨#[117,115,101,114]⟩,⟨#[98,111,111,108]⟩,⟨#[115,101,110,115,105,116,105,118,105,116,121]⟩,⟨#[99,97,116,101,103,111,114,121]⟩,⟨#[97,108,108,111,119]⟩,⟨#[97,117,100,105,116,97,108,108,111,119]⟩,⟨#[100,111,110,116,97,117,100,105,116]⟩,⟨#[110,101,118,101,114,97,108,108,111,119]⟩,⟨#[116,121,112,101,95,116,114,97,110,115,105,116,105,111,110]⟩,⟨#[116,121,112,101,95,99,104,97,110,103,101]⟩,⟨#[116,121,112,101,95,109,101,109,98,101,114]⟩,⟨#[114,97,110,103,101,95,116,114,97,110,115,105,116,105,111,110]⟩,⟨#[99,111,110,115,116,114,97,105,110]⟩,⟨#[118,97,108,105,100,97,116,101,116,114,97,110,115]⟩,⟨#[105,102]⟩,⟨#[111,112,116,105,111,110,97,108]⟩,⟨#[114,101,113,117,105,114,101]⟩,⟨#[115,105,100]⟩,⟨#[102,105,108,101,99,111,110]⟩,⟨#[112,101,114,109,105,115,115,105,118,101]⟩,⟨#[97,115,115,101,114,116]⟩]
def iS (s:ByteArray):Bool:=beginW.any fun x=>decide (s=x)
def bJ (w:ByteArray) (s:Stm) (k:Ix l):Except Fa (Bool×(Stm×Ix l)):=
 if w=⟨#[99,108,97,115,115]⟩ then aQ k>>=fun x=>bq x.2>>=fun y=>.ok (true,({s with kind:=1,name:=x.1,list:=y.1},y.2))
 else if w=⟨#[116,121,112,101]⟩ then aQ k>>=fun x=>if isW ⟨#[97,108,105,97,115]⟩ x.2 then bq (nx x.2)>>=fun y=>b5 (fuel l) s.list y.2>>=fun z=>.ok (true,({s with kind:=2,name:=x.1,aliases:=y.1,list:=z.1},z.2))
  else b5 (fuel l) s.list x.2>>=fun z=>.ok (true,({s with kind:=2,name:=x.1,list:=z.1},z.2))
 else if w=⟨#[97,116,116,114,105,98,117,116,101]⟩ then aQ k>>=fun x=>.ok (true,({s with kind:=3,name:=x.1},x.2))
 else if w=⟨#[116,121,112,101,97,116,116,114,105,98,117,116,101]⟩ then aQ k>>=fun x=>cn x.2>>=fun y=>.ok (true,({s with kind:=4,name:=x.1,list:=y.1},y.2))
 else if w=⟨#[114,111,108,101]⟩ then aQ k>>=fun x=>if isW ⟨#[116,121,112,101,115]⟩ x.2 then b6 false (nx x.2)>>=fun y=>.ok (true,({s with kind:=5,name:=x.1,source:=y.1},y.2)) else .ok (true,({s with kind:=5,name:=x.1},x.2))
 else if w=⟨#[117,115,101,114]⟩ then aQ k>>=fun x=>cX ⟨#[114,111,108,101,115]⟩ x.2>>=fun a=>bq a.2>>=fun y=>cX ⟨#[108,101,118,101,108]⟩ y.2>>=fun b=>dH b.2>>=fun v=>cX ⟨#[114,97,110,103,101]⟩ v.2>>=fun c=>cG c.2>>=fun g=>.ok (true,({s with kind:=8,name:=x.1,list:=y.1,level:=v.1,range:=g.1},g.2))
 else if w=⟨#[98,111,111,108]⟩ then aQ k>>=fun x=>bb [⟨#[102,97,108,115,101]⟩,⟨#[116,114,117,101]⟩] x.2>>=fun y=>.ok (true,({s with kind:=9,name:=x.1,value:=decide (y.1=1)},y.2))
 else if w=⟨#[115,101,110,115,105,116,105,118,105,116,121]⟩ then aQ k>>=fun x=>.ok (true,({s with kind:=10,name:=x.1},x.2))
 else if w=⟨#[99,97,116,101,103,111,114,121]⟩ then aQ k>>=fun x=>.ok (true,({s with kind:=11,name:=x.1},x.2))
 else .ok (false,(s,k))
def cJ (self:Bool) (s:Stm) (k:Ix l):Except Fa (Unit×(Stm×Ix l)):=b6 false k>>=fun x=>b6 self x.2>>=fun y=>aT ⟨#[58]⟩ y.2>>=fun a=>b6 false a.2>>=fun z=>.ok ((),({s with source:=x.1,target:=y.1,cls:=z.1},z.2))
def cc (s:ByteArray) (ws:List ByteArray):Int:=match ws.findIdx? (fun x=>decide (x=s)) with|some i=>(i:Int)+1|none=>0
def ruleW:List ByteArray:=[⟨#[97,108,108,111,119]⟩,⟨#[97,117,100,105,116,97,108,108,111,119]⟩,⟨#[100,111,110,116,97,117,100,105,116]⟩,⟨#[110,101,118,101,114,97,108,108,111,119]⟩]
def transW:List ByteArray:=[⟨#[116,121,112,101,95,116,114,97,110,115,105,116,105,111,110]⟩,⟨#[116,121,112,101,95,99,104,97,110,103,101]⟩,⟨#[116,121,112,101,95,109,101,109,98,101,114]⟩]
def dE (w:ByteArray) (s:Stm) (k:Ix l):Except Fa (Bool×(Stm×Ix l)):=
 if 0<cc w ruleW then cJ true {s with kind:=12,op:=cc w ruleW} k>>=fun x=>b6 false x.2.2>>=fun y=>.ok (true,({x.2.1 with perms:=y.1},y.2))
 else if 0<cc w transW then cJ false {s with kind:=13,op:=cc w transW} k>>=fun x=>aQ x.2.2>>=fun y=>
  if cc w transW=1∧(tk y.2).kind=3 then(if gr (tk y.2).text then .ok (true,({x.2.1 with result:=y.1,text:=(tk y.2).text},nx y.2)) else .error (flt 10 (tk y.2)))
  else .ok (true,({x.2.1 with result:=y.1},y.2))
 else if w=⟨#[114,97,110,103,101,95,116,114,97,110,115,105,116,105,111,110]⟩ then cJ false {s with kind:=14} k>>=fun x=>cG x.2.2>>=fun y=>.ok (true,({x.2.1 with range:=y.1},y.2))
 else if w=⟨#[114,111,108,101,95,116,114,97,110,115,105,116,105,111,110]⟩ then cJ false {s with kind:=7} k>>=fun x=>aQ x.2.2>>=fun y=>.ok (true,({x.2.1 with result:=y.1},y.2))
 else if w=⟨#[114,111,108,101,97,108,108,111,119]⟩ then b6 false k>>=fun x=>b6 false x.2>>=fun y=>.ok (true,({s with kind:=6,source:=x.1,target:=y.1},y.2))
 else if w=⟨#[99,111,110,115,116,114,97,105,110]⟩ then b6 false k>>=fun x=>b6 false x.2>>=fun y=>cI false y.2>>=fun z=>.ok (true,({s with kind:=15,cls:=x.1,perms:=y.1,cond:=z.1},z.2))
 else if w=⟨#[118,97,108,105,100,97,116,101,116,114,97,110,115]⟩ then b6 false k>>=fun x=>cI true x.2>>=fun z=>.ok (true,({s with kind:=16,cls:=x.1,cond:=z.1},z.2))
 else .ok (false,(s,k))
def gX:List ByteArray:=[⟨#[99,108,97,115,115]⟩,⟨#[116,121,112,101]⟩,⟨#[97,116,116,114,105,98,117,116,101]⟩,⟨#[114,111,108,101]⟩,⟨#[117,115,101,114]⟩,⟨#[98,111,111,108]⟩,⟨#[115,101,110,115,105,116,105,118,105,116,121]⟩,⟨#[99,97,116,101,103,111,114,121]⟩]
def eU:List ByteArray:=[⟨#[97,110,121]⟩,⟨#[114,101,103,117,108,97,114]⟩,⟨#[100,105,114,101,99,116,111,114,121]⟩,⟨#[108,105,110,107]⟩,⟨#[115,111,99,107,101,116]⟩]
def iK:List ByteArray:=[⟨#[110,111,102,108,111,119]⟩,⟨#[110,111,100,111,109,97,105,110]⟩,⟨#[115,101,112,97,114,97,116,101]⟩]
def dw (w:ByteArray) (s:Stm) (k:Ix l):Except Fa (Unit×(Stm×Ix l)):=
 if w=⟨#[114,101,113,117,105,114,101]⟩ then bb gX k>>=fun x=>if x.1=0 then aQ x.2>>=fun y=>bq y.2>>=fun z=>.ok ((),({s with kind:=19,op:=1,name:=y.1,list:=z.1},z.2))
  else cn x.2>>=fun y=>.ok ((),({s with kind:=19,op:=1+x.1,list:=y.1},y.2))
 else if w=⟨#[115,105,100]⟩ then aQ k>>=fun x=>bR x.2>>=fun y=>.ok ((),({s with kind:=20,name:=x.1,ctx:=y.1},y.2))
 else if w=⟨#[102,105,108,101,99,111,110]⟩ then gQ k>>=fun x=>bb eU x.2>>=fun y=>bR y.2>>=fun z=>.ok ((),({s with kind:=21,text:=x.1,op:=y.1,ctx:=z.1},z.2))
 else if w=⟨#[112,101,114,109,105,115,115,105,118,101]⟩ then b6 false k>>=fun x=>.ok ((),({s with kind:=22,source:=x.1},x.2))
 else if w=⟨#[97,115,115,101,114,116]⟩ then aQ k>>=fun x=>bb iK x.2>>=fun y=>b6 false y.2>>=fun z=>b6 false z.2>>=fun u=>.ok ((),({s with kind:=23,name:=x.1,op:=1+y.1,source:=z.1,target:=u.1},u.2))
 else .ok ((),(s,k))
def aG (w:ByteArray) (s:Stm) (k:Ix l):Except Fa (Stm×Ix l):=
 bJ w s k>>=fun x=>(if x.1 then .ok x.2 else dE w x.2.1 x.2.2>>=fun y=>if y.1 then .ok y.2 else dw w y.2.1 y.2.2>>=fun z=>.ok z.2)>>=fun y=>aT ⟨#[59]⟩ y.2>>=fun z=>.ok (y.1,z.2)
mutual
def cq (cnd:List Tok→Except Fa (Ex×Nat)):Nat→Nat→Ix l→Nat→Except Fa (Stm×(Ix l×Nat))
 |0,_,k,_=>.error (flt 9 (tk k))
 |n+1,d,k,c=>
  if(tk k).kind=1∧iS (tk k).text=true then
   if 1024≤c then .error (flt 4 (tk k))
   else if(tk k).text=⟨#[105,102]⟩∨(tk k).text=⟨#[111,112,116,105,111,110,97,108]⟩ then
    if 12≤d then .error (flt 4 (tk k))
    else bU cnd n d (decide ((tk k).text=⟨#[105,102]⟩)) {Stm.zero with pos:=(tk k).pos} (nx k) (c+1)>>=fun x=>.ok (x.2.1,x.2.2)
   else aG (tk k).text {Stm.zero with pos:=(tk k).pos} (nx k)>>=fun x=>.ok (x.1,(x.2,c+1))
  else .error (flt 9 (tk k))
def bU (cnd:List Tok→Except Fa (Ex×Nat)):Nat→Nat→Bool→Stm→Ix l→Nat→Except Fa (Unit×(Stm×(Ix l×Nat)))
 |0,_,_,_,k,_=>.error (flt 9 (tk k))
 |n+1,d,i,s,k,c=>
  (if i then ig cnd k>>=fun x=>.ok ({s with kind:=17,cond:=x.1},x.2) else .ok ({s with kind:=18},k))>>=fun y=>
  bF cnd n d y.2 c>>=fun z=>if isW ⟨#[101,108,115,101]⟩ z.2.1 then bF cnd n d (nx z.2.1) z.2.2>>=fun u=>.ok ((),({y.1 with thn:=z.1,els:=u.1},u.2)) else .ok ((),({y.1 with thn:=z.1},z.2))
def bF (cnd:List Tok→Except Fa (Ex×Nat)):Nat→Nat→Ix l→Nat→Except Fa (List Stm×(Ix l×Nat))
 |0,_,k,_=>.error (flt 9 (tk k))
 |n+1,d,k,c=>aT ⟨#[123]⟩ k>>=fun a=>if isM ⟨#[125]⟩ a.2 then .error (flt 9 (tk a.2)) else bH cnd n (d+1) [] a.2 c>>=fun x=>aT ⟨#[125]⟩ x.2.1>>=fun y=>.ok (x.1,(y.2,x.2.2))
def bH (cnd:List Tok→Except Fa (Ex×Nat)):Nat→Nat→List Stm→Ix l→Nat→Except Fa (List Stm×(Ix l×Nat))
 |0,_,_,k,_=>.error (flt 9 (tk k))
 |n+1,d,acc,k,c=>if(tk k).kind=0∨(0<d∧isM ⟨#[125]⟩ k=true) then .ok (acc,(k,c)) else cq cnd n d k c>>=fun x=>bH cnd n d (acc++[x.1]) x.2.1 x.2.2
end
def ja (s:ByteArray):Nat:=s.data.toList.foldl (fun n c=>10*n+(c.toNat - 48)) 0
def gG (k:Ix l):Except Fa (Mo×Ix l):=cX ⟨#[109,111,100,117,108,101]⟩ k>>=fun a=>aQ a.2>>=fun x=>
 if(tk x.2).kind=2 then(if 9999<ja (tk x.2).text then .error (flt 3 (tk x.2)) else aT ⟨#[59]⟩ (nx x.2)>>=fun y=>.ok (⟨x.1,(ja (tk x.2).text:Int),[]⟩,y.2)) else .error (flt 9 (tk x.2))
structure Fine (l:List Tok):Prop where
 pos:0<l.length
 le:l.length≤4294967296
 en:∀ k:Ix l,(tk k).kind≠0→k.1+1<l.length
 nm:∀ k:Ix l,(tk k).kind=2→0<(tk k).text.data.toList.length∧(tk k).text.data.toList.length≤9∧(tk k).text.data.toList.all dgB=true
theorem eG (hf:Fine l) {k:Ix l} (h:(tk k).kind≠0):((nx k).1:Nat)=k.1+1:=by unfold nx;rw[dif_pos (hf.en k h)]
theorem gv (k:Ix l):k.1≤(nx k).1:=by unfold nx;split <;> simp
end
end Am
end Go.Proofs.YtkpodagbefnebaaGreatDoor
