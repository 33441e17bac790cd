import Derived.Test.YtkpodagbefnebaaGreatDoorRows
import Derived.Test.YtkpodagbefnebaaGreatDoorYg1
import Derived.WalkKit
import Derived.WalkSpells
import Derived.WalkLawsBesides
import Derived.Lib.Hide
import Derived.Test.YtkpodagbefnebaaGreatDoorYg7
import Derived.Lib.ItoaNum
import Derived.Lib.Repeat
import Derived.Lib.Small
set_option linter.unusedSimpArgs false
set_option linter.unusedVariables false
set_option linter.unusedSectionVars false
namespace Go.Proofs.YtkpodagbefnebaaGreatDoor.Tk
def gI (c:Int):Bool:=decide (97≤c∧c≤122) || decide (65≤c∧c≤90) || decide (c=95)
def fC (c:Int):Bool:=decide (48≤c∧c≤57)
def z7 (c:Int):Bool:=decide (32≤c∧c≤126∧c≠34)
def bi (c:UInt8):Int:=(c.toNat:Int)
def nmB (c:UInt8):Bool:=gI (bi c) || fC (bi c)
def dgB (c:UInt8):Bool:=fC (bi c)
def ptB (c:UInt8):Bool:=z7 (bi c)
def dW (l:List UInt8):Bool:=!l.isEmpty&&decide (l.length≤32)&& !dgB (l.getD 0 0)&&l.all nmB
def BF (l:List UInt8):Bool:=!l.isEmpty&&decide (l.length≤9)&&(decide (l.length≤1) || !decide (bi (l.getD 0 0)=48))&&l.all dgB
def quoB (l:List UInt8):Bool:=decide (l.length≤256)&&l.all ptB
def words:List UInt8→List UInt8→List (List UInt8)
 |_,[]=>[]
 |acc,c :: l=>if c=32 then acc :: words [] l else words (acc++[c]) l
def jY (s ws:List UInt8):Bool:=!s.isEmpty&&(words [] ws).contains s
def fF (s ws:List UInt8) (f k:Nat):Bool:=!s.isEmpty&&(words ((ws.drop f).take (k - f)) (ws.drop k)).contains s
theorem rb (s ws:List UInt8):fF s ws 0 0=jY s ws:=by simp[fF,jY]
theorem vS (s ws:List UInt8) (f k:Nat) (h:ws.length≤k):fF s ws f k=false:=by
 simp[fF,List.drop_of_length_le h,words]
theorem vT (s ws:List UInt8) (f k:Nat) (h:k<ws.length) (hb:ws[k]=32) (hs:(ws.drop f).take (k - f)=s) (hn:s.isEmpty=false):fF s ws f k=true:=by
 simp[fF,List.drop_eq_getElem_cons h,hb,words,hs,hn]
theorem tE (s ws:List UInt8) (f k:Nat) (h:k<ws.length) (hb:ws[k]=32) (hs:¬ ((ws.drop f).take (k - f)=s∧s.isEmpty=false)):fF s ws f k=fF s ws (k+1) (k+1):=by
 by_cases hn:s.isEmpty=false
 ·have h1:¬ (ws.drop f).take (k - f)=s:=fun h'=>hs ⟨h',hn⟩
  have h2:¬ s=(ws.drop f).take (k - f):=fun h'=>h1 h'.symm
  simp[fF,List.drop_eq_getElem_cons h,hb,words,h2]
 ·have hn':s.isEmpty=true:=by simpa using hn
  simp[fF,hn']
theorem ra (s ws:List UInt8) (f k:Nat) (hf:f≤k) (h:k<ws.length) (hb:¬ ws[k]=32):fF s ws f k=fF s ws f (k+1):=by
 have ht:(ws.drop f).take (k - f)++[ws[k]]=(ws.drop f).take (k+1 - f):=by
  have hl:k - f<(ws.drop f).length:=by simp;omega
  rw[show k+1 - f=(k - f)+1 by omega,List.take_succ_eq_append_getElem hl]
  simp[show f+(k - f)=k by omega]
 simp only[fF]
 rw[List.drop_eq_getElem_cons h,words,if_neg hb,ht]
theorem pW {p:UInt8→Bool} (l:List UInt8) (k:Nat) (h:k<l.length):(l.take (k+1)).all p=((l.take k).all p&&p l[k]):=by
 rw[List.take_succ_eq_append_getElem h,List.all_append];simp
theorem qP {p:UInt8→Bool} (l:List UInt8) (k:Nat) (h:k<l.length) (hp:p l[k]=false):l.all p=false:=by
 rw[List.all_eq_false];exact⟨l[k],List.getElem_mem h,by simp[hp]⟩
theorem sQ {p:UInt8→Bool} (l:List UInt8) (k:Nat) (h:l.length≤k) (hp:(l.take k).all p=true):l.all p=true:=by
 rwa [List.take_of_length_le h] at hp
theorem sz (s:ByteArray):s.data.toList.length=s.size:=Array.length_toList
theorem at_ (s:ByteArray) (k:Nat) (h:k<s.size):s.data.toList[k]'(by rw[sz];exact h)=s[k]:=rfl
theorem ek {p:UInt8→Bool} (s:ByteArray) (k:Nat) (h:k<s.size) (ha:(s.data.toList.take k).all p=true) (hp:p s[k]=true):(s.data.toList.take (k+1)).all p=true:=by
 rw[pW _ _ (by rw[sz];exact h),ha,at_ s k h,hp];rfl
theorem Ad {p:UInt8→Bool} (s:ByteArray) (k:Nat) (h:k<s.size) (hp:p s[k]=false):s.data.toList.all p=false:=
 qP _ k (by rw[sz];exact h) (by rw[at_ s k h];exact hp)
theorem Ac {p:UInt8→Bool} (s:ByteArray) (k:Nat) (h:s.size≤k) (ha:(s.data.toList.take k).all p=true):s.data.toList.all p=true:=
 sQ _ k (by rw[sz];exact h) ha
theorem ow (s:ByteArray) (h:0<s.size):s.data.toList.isEmpty=false:=by
 cases hl:s.data.toList with
 |nil=>have:=sz s;rw[hl] at this;simp at this;omega
 |cons=>rfl
theorem kA (s:ByteArray) (h:¬ 0<s.size):s.data.toList=[]:=by
 cases hl:s.data.toList with
 |nil=>rfl
 |cons=>have:=sz s;rw[hl] at this;simp at this;omega
theorem xG (s:ByteArray) (h:0<s.size):s.data.toList.getD 0 0=s[0]:=by
 rw[List.getD_eq_getElem?_getD,List.getElem?_eq_getElem (by rw[sz];exact h)];rfl
def aft (p:Int×Int) (c:UInt8):Int×Int:=if bi c=10 then(p.1+1,1) else(p.1,p.2+1)
def loc (l:List UInt8) (k:Nat):Int×Int:=(l.take k).foldl aft (1,1)
theorem Bn (l:List UInt8):loc l 0=(1,1):=by simp[loc]
theorem tS (l:List UInt8) (k:Nat) (h:k<l.length):loc l (k+1)=aft (loc l k) l[k]:=by
 unfold loc;rw[List.take_succ_eq_append_getElem h,List.foldl_append];rfl
theorem Bm (l:List UInt8):∀ k:Nat,1≤(loc l k).1∧(loc l k).1≤k+1∧1≤(loc l k).2∧(loc l k).2≤k+1
 |0=>by rw[Bn];simp
 |k+1=>by
  have ih:=Bm l k
  rcases Nat.lt_or_ge k l.length with h|h
  ·rw[tS l k h];unfold aft;split <;> simp <;> omega
  ·have:loc l (k+1)=loc l k:=by unfold loc;rw[List.take_of_length_le h,List.take_of_length_le (by omega)]
   rw[this];omega
def tw (p:UInt8→Bool) (l:List UInt8):Nat:=(l.takeWhile p).length
theorem CL (p:UInt8→Bool) (l:List UInt8):tw p l≤l.length:=(List.takeWhile_sublist p).length_le
theorem nH (p:UInt8→Bool) (c:UInt8) (l:List UInt8):tw p (c :: l)=if p c=true then tw p l+1 else 0:=by
 unfold tw;rw[List.takeWhile_cons];split <;> simp
theorem IJ (p:UInt8→Bool) (l:List UInt8) (k:Nat) (h:k<l.length) (hp:p l[k]=true):tw p (l.drop k)=tw p (l.drop (k+1))+1:=by
 rw[List.drop_eq_getElem_cons h,nH,if_pos hp]
theorem Kf (p:UInt8→Bool) (l:List UInt8) (k:Nat) (h:k<l.length) (hp:p l[k]=false):tw p (l.drop k)=0:=by
 rw[List.drop_eq_getElem_cons h,nH,if_neg (by simp[hp])]
theorem II (p:UInt8→Bool) (l:List UInt8) (k:Nat) (h:l.length≤k):tw p (l.drop k)=0:=by
 rw[List.drop_of_length_le h];rfl
inductive Res where
 |err (c:Int) (off:Nat)
 |ok (kind:Int) (n:Nat)
def mQ (l:List UInt8):Res:=if 32<tw nmB l then .err 10 0 else .ok 1 (tw nmB l)
def ud (l:List UInt8):Res:=if 9<tw dgB l then .err 3 0 else if 1<tw dgB l∧bi (l.getD 0 0)=48 then .err 9 0 else .ok 2 (tw dgB l)
def textR (l:List UInt8):Res:=
 if(l.drop 1).length≤tw ptB (l.drop 1) then .err 5 0
 else if ¬ bi ((l.drop 1).getD (tw ptB (l.drop 1)) 0)=34 then .err 9 (1+tw ptB (l.drop 1))
 else if 256<tw ptB (l.drop 1) then .err 4 0 else .ok 3 (tw ptB (l.drop 1)+2)
def marks2:List (List UInt8):=[[61,61],[33,61],[38,38],[124,124]]
def marks1:List UInt8:=[123,125,40,41,59,58,44,46,45,126,42,33,94]
def eu (l:List UInt8):Nat:=if marks2.contains (l.take 2) then 2 else if(match l with|[]=>false|c :: _=>marks1.contains c) then 1 else 0
def lu (l:List UInt8):Res:=if eu l=0 then .err 9 0 else .ok 4 (eu l)
def fK (l:List UInt8):Res:=
 if gI (bi (l.getD 0 0)) then mQ l else if fC (bi (l.getD 0 0)) then ud l else if bi (l.getD 0 0)=34 then textR l else lu l
def skipL:Bool→List UInt8→Nat
 |_,[]=>0
 |c,b :: l=>if bi b=10 then skipL false l+1 else if bi b=35 then skipL true l+1 else if c=true∨bi b=32∨bi b=9 then skipL c l+1 else 0
theorem skipL_le:∀ (c:Bool) (l:List UInt8),skipL c l≤l.length
 |_,[]=>by simp[skipL]
 |c,b :: l=>by
  have h1:=skipL_le false l
  have h2:=skipL_le true l
  have h3:=skipL_le c l
  unfold skipL
  repeat' split
  all_goals simp only[List.length_cons];omega
def kwList:List (List UInt8):=[[109,111,100,117,108,101],
 [99,108,97,115,115],
 [116,121,112,101],
 [97,108,105,97,115],
 [116,121,112,101,97,116,116,114,105,98,117,116,101],
 [97,116,116,114,105,98,117,116,101],
 [114,111,108,101],
 [116,121,112,101,115],
 [114,111,108,101,97,108,108,111,119],
 [114,111,108,101,95,116,114,97,110,115,105,116,105,111,110],
 [117,115,101,114],
 [114,111,108,101,115],
 [108,101,118,101,108],
 [114,97,110,103,101],
 [98,111,111,108],
 [116,114,117,101],
 [102,97,108,115,101],
 [115,101,110,115,105,116,105,118,105,116,121],
 [99,97,116,101,103,111,114,121],
 [97,108,108,111,119],
 [97,117,100,105,116,97,108,108,111,119],
 [100,111,110,116,97,117,100,105,116],
 [110,101,118,101,114,97,108,108,111,119],
 [116,121,112,101,95,116,114,97,110,115,105,116,105,111,110],
 [116,121,112,101,95,99,104,97,110,103,101],
 [116,121,112,101,95,109,101,109,98,101,114],
 [114,97,110,103,101,95,116,114,97,110,115,105,116,105,111,110],
 [99,111,110,115,116,114,97,105,110],
 [118,97,108,105,100,97,116,101,116,114,97,110,115],
 [105,102],
 [101,108,115,101],
 [111,112,116,105,111,110,97,108],
 [114,101,113,117,105,114,101],
 [115,105,100],
 [102,105,108,101,99,111,110],
 [112,101,114,109,105,115,115,105,118,101],
 [97,115,115,101,114,116],
 [115,101,108,102],
 [105,110]]
def kwB (l:List UInt8):Bool:=kwList.contains l
theorem Gu (l:List UInt8) (k:Nat):(l.drop k).drop 1=l.drop (k+1):=by rw[List.drop_drop]
theorem yG (l:List UInt8) (k:Nat) (h:k<l.length):(l.drop k).getD 0 0=l[k]:=by
 rw[List.drop_eq_getElem_cons h];rfl
end Go.Proofs.YtkpodagbefnebaaGreatDoor.Tk
namespace Go.Proofs.YtkpodagbefnebaaGreatDoor
open Go.RowKit Tk
@[go_sem] theorem GT (c:UInt8):wrap32 (c.toNat:Int)=(c.toNat:Int):=by
  have:=c.toNat_lt;exact IntWalk.wrap32_in _ ⟨by omega,by omega⟩
@[go_sem] theorem GU (c:UInt8):wrap64 (c.toNat:Int)=(c.toNat:Int):=by
  have:=c.toNat_lt;exact IntWalk.wrap64_in _ ⟨by omega,by omega⟩
@[go_sem] theorem EC (c:UInt8):IntKind.i32.wrap (c.toNat:Int)=(c.toNat:Int):=by
  have:=c.toNat_lt;exact IntWalk.i32_in _ ⟨by omega,by omega⟩
@[go_sem] theorem ED (c:UInt8):IntKind.i64.wrap (c.toNat:Int)=(c.toNat:Int):=by
  have:=c.toNat_lt;exact IntWalk.i64_in _ ⟨by omega,by omega⟩
theorem cI {a b:Bool} (h:a=b):Ending.returned (.bool a)= .returned (.bool b):=by rw[h]
theorem bl (s:ByteArray):s.toList=s.data.toList:=by rw[ByteArray.toList_eq]
theorem FG {s:ByteArray} (h:0<s.size):¬ s.toList=[]∧s.toList.isEmpty=false:=by
 have:=ow s h
 rw[bl]
 exact⟨fun h'=>(by rw[h'] at this;cases this),this⟩
theorem EP {s:ByteArray} (h:¬ 0<s.size):s.toList=[]:=by rw[bl];exact kA s h
end Go.Proofs.YtkpodagbefnebaaGreatDoor
namespace Go.Proofs.YtkpodagbefnebaaGreatDoor
open Go.RowKit Tk
set_option maxHeartbeats 400000 in
theorem gP (c:Int) (w:World):Calls Tryz.prog 142 #[.int .i32 c] w fun e w'=>e= .returned (.bool (fC c))∧w=w':=by
 go_enter Tryz.func142,Tryz.ntmps142
 go_wp2
 all_goals(go_ret;exact⟨cI (by simp[fC];omega),rfl⟩)
set_option maxHeartbeats 400000 in
theorem ji (c:Int) (w:World):Calls Tryz.prog 120 #[.int .u8 c] w fun e w'=>e= .returned (.bool (fC c))∧w=w':=by
 go_enter Tryz.func120,Tryz.ntmps120
 go_wp2
 all_goals(go_ret;exact⟨cI (by simp[fC];omega),rfl⟩)
set_option maxHeartbeats 400000 in
theorem oA (c:Int) (w:World):Calls Tryz.prog 143 #[.int .i32 c] w fun e w'=>e= .returned (.bool (gI c))∧w=w':=by
 go_enter Tryz.func143,Tryz.ntmps143
 go_wp2
 all_goals(go_ret;exact⟨cI (by rw[Bool.eq_iff_iff];simp[gI];omega),rfl⟩)
set_option maxHeartbeats 400000 in
theorem iF (c:Int) (w:World):Calls Tryz.prog 118 #[.int .u8 c] w fun e w'=>e= .returned (.bool (gI c))∧w=w':=by
 go_enter Tryz.func118,Tryz.ntmps118
 go_wp2
 all_goals(go_ret;exact⟨cI (by rw[Bool.eq_iff_iff];simp[gI];omega),rfl⟩)
theorem oH (s:ByteArray) (h:32<s.size):dW s.data.toList=false:=by simp[dW];omega
theorem qu (s:ByteArray) (h:0<s.size) (hd:dgB s[0]=true):dW s.data.toList=false:=by
 unfold dW;rw[xG s h,hd];simp
theorem mm (s:ByteArray) (k:Nat) (h:k<s.size) (hk:nmB s[k]=false):dW s.data.toList=false:=by
 unfold dW;rw[Ad s k h hk];simp
theorem tX (s:ByteArray) (k:Nat) (h:0<s.size) (h2:¬ 32<s.size) (hd:dgB s[0]=false) (hk:s.size≤k) (ha:(s.data.toList.take k).all nmB=true):dW s.data.toList=true:=by
 unfold dW;rw[xG s h,hd,Ac s k hk ha,ow s h];simp;omega
set_option maxHeartbeats 400000 in
theorem yT (s:ByteArray) (hs:s.size≤maxLen) (w:World):Calls Tryz.prog 76 #[.string s] w fun e w'=>e= .returned (.bool (dW s.data.toList))∧w=w':=by
 unfold maxLen at hs
 by_cases h0:0<s.size
 ·obtain ⟨he1,he2⟩:=FG h0
  by_cases h32:32<s.size
  ·go_enter Tryz.func76,Tryz.ntmps76
   go_wp2_with (((go_at_call 142;((with_reducible refine(gP _ _).mono ?_);rintro e w' ⟨rfl,rfl⟩))))
   go_ret
   exact⟨cI (oH s h32).symm,rfl⟩
  ·by_cases hd:fC (s[0].toNat:Int)=true
   ·go_enter Tryz.func76,Tryz.ntmps76
    go_wp2_with (((go_at_call 142;((with_reducible refine(gP _ _).mono ?_);rintro e w' ⟨rfl,rfl⟩))))
    go_ret
    exact⟨cI (qu s h0 hd).symm,rfl⟩
   ·have hd2:fC (s[0].toNat:Int)=false:=by simpa using hd
    clear hd
    go_enter Tryz.func76,Tryz.ntmps76
    go_wp2_with (((go_at_call 142;((with_reducible refine(gP _ _).mono ?_);rintro e w' ⟨rfl,rfl⟩))))
    go_loop [20] (fun i=>∃ k:Nat,k≤s.size∧i= .int .i64 k∧Hid ((s.data.toList.take k).all nmB=true)) (fun i=>s.size - (intOf i).toNat)
    case atStart=>exact⟨0,by omega,rfl,by simp[Hid]⟩
    case round=>
     obtain ⟨k,hk,rfl,hall⟩:=hrel
     by_cases hlt:k<s.size
     ·by_cases hn:nmB s[k]=true
      ·have hcase:gI (s[k].toNat:Int)=true∨gI (s[k].toNat:Int)=false∧fC (s[k].toNat:Int)=true:=by
        cases hl:gI (s[k].toNat:Int)
        ·simp[nmB,bi,hl] at hn;exact .inr ⟨rfl,hn⟩
        ·exact .inl rfl
       have HN:=Lib.hid hn
       clear hn
       rcases hcase with hl|⟨hl,hg⟩
       all_goals
        go_wp2_with (first|(go_at_call 142;((with_reducible refine(gP _ _).mono ?_);rintro e w' ⟨rfl,rfl⟩))|(go_at_call 143;((with_reducible refine(oA _ _).mono ?_);rintro e w' ⟨rfl,rfl⟩)))
        go_round
        case rel=>exact⟨k+1,by omega,by go_num,ek s k hlt hall.out HN.out⟩
        case measure=>simp[intOf];omega
      ·have hn2:nmB s[k]=false:=by simpa using hn
       have hl:gI (s[k].toNat:Int)=false:=by simp[nmB,bi] at hn2;exact hn2.1
       have hg:fC (s[k].toNat:Int)=false:=by simp[nmB,bi] at hn2;exact hn2.2
       have HN:=Lib.hid hn2
       clear hn2 hn
       go_wp2_with (first|(go_at_call 142;((with_reducible refine(gP _ _).mono ?_);rintro e w' ⟨rfl,rfl⟩))|(go_at_call 143;((with_reducible refine(oA _ _).mono ?_);rintro e w' ⟨rfl,rfl⟩)))
       go_ret
       exact⟨cI (mm s k hlt HN.out).symm,rfl⟩
     ·go_wp2
      go_ret
      exact⟨cI (tX s k h0 h32 hd2 (by omega) hall.out).symm,rfl⟩
 ·have he:=EP h0
  go_enter Tryz.func76,Tryz.ntmps76
  go_wp2_with (((go_at_call 142;((with_reducible refine(gP _ _).mono ?_);rintro e w' ⟨rfl,rfl⟩))))
  go_ret
  exact⟨cI (by rw[kA s h0];rfl),rfl⟩
set_option maxHeartbeats 400000 in
theorem zg (s:ByteArray) (hs:s.size≤maxLen) (w:World):Calls Tryz.prog 124 #[.string s] w fun e w'=>e= .returned (.bool (dW s.data.toList))∧w=w':=by
 unfold maxLen at hs
 go_enter Tryz.func124,Tryz.ntmps124
 go_wp2_with (fail)
 go_loop [3] (fun i=>∃ k:Nat,k≤s.size∧i= .int .i64 k∧Hid ((s.data.toList.take k).all nmB=true∧∀ h:0<s.size,0<k→dgB s[0]=false)) (fun i=>s.size - (intOf i).toNat)
 case atStart=>exact⟨0,by omega,rfl,by simp[Hid]⟩
 case round=>
  obtain ⟨k,hk,rfl,hall⟩:=hrel
  by_cases hlt:k<s.size
  ·by_cases hl:gI (s[k].toNat:Int)=true
   ·go_wp2_with (first|(go_at_call 118;((with_reducible refine(iF _ _).mono ?_);rintro e w' ⟨rfl,rfl⟩))|(go_at_call 120;((with_reducible refine(ji _ _).mono ?_);rintro e w' ⟨rfl,rfl⟩)))
    go_round
    case rel=>
     refine⟨k+1,by omega,by go_num,ek s k hlt hall.out.1 (by simp[nmB,bi,hl]),fun h0 _=>?_⟩
     by_cases hk0:k=0
     ·subst hk0
      simp only[gI,Bool.or_eq_true,decide_eq_true_eq] at hl
      exact decide_eq_false (fun h=>by unfold bi at h;omega)
     ·exact hall.out.2 h0 (by omega)
    case measure=>simp[intOf];omega
   ·have hl2:gI (s[k].toNat:Int)=false:=by simpa using hl
    by_cases hk0:k=0
    ·have hk0b:((k:Int) == 0)=true:=by simp;omega
     have HK:=Lib.hid hk0
     clear hk0
     go_wp2_with (first|(go_at_call 118;((with_reducible refine(iF _ _).mono ?_);rintro e w' ⟨rfl,rfl⟩))|(go_at_call 120;((with_reducible refine(ji _ _).mono ?_);rintro e w' ⟨rfl,rfl⟩)))
     go_ret
     refine⟨cI ?_,rfl⟩
     have:=HK.out
     subst this
     cases hd:dgB s[0]
     ·exact(mm s 0 hlt (by unfold nmB;unfold bi;rw[hl2];exact hd)).symm
     ·exact(qu s hlt hd).symm
    ·have hk0b:((k:Int) == 0)=false:=by simp;omega
     by_cases hg:fC (s[k].toNat:Int)=true
     ·go_wp2_with (first|(go_at_call 118;((with_reducible refine(iF _ _).mono ?_);rintro e w' ⟨rfl,rfl⟩))|(go_at_call 120;((with_reducible refine(ji _ _).mono ?_);rintro e w' ⟨rfl,rfl⟩)))
      go_round
      case rel=>exact⟨k+1,by omega,by go_num,ek s k hlt hall.out.1 (by simp[nmB,bi,hg]),fun h0 _=>hall.out.2 h0 (by omega)⟩
      case measure=>simp[intOf];omega
     ·have hg2:fC (s[k].toNat:Int)=false:=by simpa using hg
      go_wp2_with (first|(go_at_call 118;((with_reducible refine(iF _ _).mono ?_);rintro e w' ⟨rfl,rfl⟩))|(go_at_call 120;((with_reducible refine(ji _ _).mono ?_);rintro e w' ⟨rfl,rfl⟩)))
      go_ret
      exact⟨cI (mm s k hlt (by simp[nmB,bi,hl2,hg2])).symm,rfl⟩
  ·by_cases h0:0<s.size
   ·by_cases h32:32<s.size
    ·go_wp2
     go_ret
     exact⟨cI (by rw[oH s h32];simp;omega),rfl⟩
    ·go_wp2
     go_ret
     exact⟨cI (by rw[tX s k h0 h32 (hall.out.2 h0 (by omega)) (by omega) hall.out.1];simp;omega),rfl⟩
   ·go_wp2
    go_ret
    exact⟨cI (by rw[kA s h0];simp[dW];try omega),rfl⟩
theorem tv (s:ByteArray) (f k:Nat):(s.extract f k).toList=(s.data.toList.drop f).take (k - f):=by
 rw[bl];simp[ByteArray.data_extract]
set_option maxHeartbeats 400000 in
theorem xa (s ws:ByteArray) (hw:ws.size≤maxLen) (w:World):Calls Tryz.prog 123 #[.string s,.string ws] w fun e w'=>e= .returned (.bool (jY s.data.toList ws.data.toList))∧w=w':=by
 unfold maxLen at hw
 go_enter Tryz.func123,Tryz.ntmps123
 go_wp2_with (fail)
 go_loop [5,6] (fun x i=>∃ f k:Nat,k≤ws.size∧f≤k∧x= .int .i64 f∧i= .int .i64 k∧Hid (fF s.data.toList ws.data.toList f k=jY s.data.toList ws.data.toList)) (fun _ i=>ws.size - (intOf i).toNat)
 case atStart=>exact⟨0,0,by omega,by omega,rfl,rfl,rb _ _⟩
 case round=>
  obtain ⟨f,k,hk,hf,rfl,rfl,hall⟩:=hrel
  by_cases hlt:k<ws.size
  ·by_cases hb:(ws[k].toNat:Int)=32
   ·have hbb:((ws[k].toNat:Int) != 32)=false:=by simpa using hb
    have hb2:ws.data.toList[k]'(by rw[sz];exact hlt)=32:=by
     rw[at_ ws k hlt];apply UInt8.toNat_inj.1;simp;omega
    have HB:=Lib.hid hb2
    clear hb hb2
    have hL:k<ws.data.toList.length:=by rw[sz];exact hlt
    go_wp2
    ·have h1:(ws.extract f k).toList=s.toList:=by assumption
     have h2:(!s.toList.isEmpty)=true:=by assumption
     go_ret
     refine⟨cI ?_,rfl⟩
     rw[← hall.out]
     rw[tv,bl] at h1
     rw[bl] at h2
     exact(vT _ _ f k hL HB.out h1 (by simpa using h2)).symm
    all_goals
     go_round
     case rel=>
      refine⟨k+1,k+1,by omega,by omega,by go_num,by go_num,?_⟩
      refine(tE _ _ f k hL HB.out ?_).symm.trans hall.out
      rintro ⟨h1,h2⟩
      rw[← tv,←bl] at h1
      rw[← bl] at h2
      first
       |(have h3:¬ (ws.extract f k).toList=s.toList:=by assumption
         exact h3 h1)
       |(have h3:(!s.toList.isEmpty)=false:=by assumption
         rw[h2] at h3;cases h3)
     case measure=>simp[intOf];omega
   ·have hbb:((ws[k].toNat:Int) != 32)=true:=by simpa using hb
    have HB:=Lib.hid hb
    clear hb
    go_wp2
    go_round
    case rel=>
     refine⟨f,k+1,by omega,by omega,rfl,by go_num,?_⟩
     refine(ra _ _ f k hf (by rw[sz];exact hlt) ?_).symm.trans hall.out
     rw[at_ ws k hlt]
     intro h
     exact HB.out (by rw[h];rfl)
    case measure=>simp[intOf];omega
  ·go_wp2
   go_ret
   exact⟨cI (by rw[← hall.out,vS];rw[sz];omega),rfl⟩
theorem vU (l ws:List UInt8) (h:words [] ws=kwList):jY l ws=kwB l:=by
 unfold jY kwB
 rw[h]
 cases l with
 |nil=>decide
 |cons=>simp
set_option maxHeartbeats 400000 in
set_option maxRecDepth 100000 in
theorem sg (s:ByteArray) (w:World):Calls Tryz.prog 136 #[.string s] w fun e w'=>e= .returned (.bool (kwB s.data.toList))∧w=w':=by
 go_enter Tryz.func136,Tryz.ntmps136
 go_wp2_with (((go_at_call 123;((with_reducible refine(xa _ _ ?_ _).mono ?_);(· decide +kernel);rintro e w' ⟨rfl,rfl⟩))))
 go_ret
 exact⟨cI (vU _ _ (by decide +kernel)),rfl⟩
theorem JP (s:ByteArray) (h:kwB s.data.toList=true):s.toList=[109,111,100,117,108,101]∨s.toList=[99,108,97,115,115]∨s.toList=[116,121,112,101]∨s.toList=[97,108,105,97,115]∨s.toList=[116,121,112,101,97,116,116,114,105,98,117,116,101]∨s.toList=[97,116,116,114,105,98,117,116,101]∨s.toList=[114,111,108,101]∨s.toList=[116,121,112,101,115]∨s.toList=[114,111,108,101,97,108,108,111,119]∨s.toList=[114,111,108,101,95,116,114,97,110,115,105,116,105,111,110]∨s.toList=[117,115,101,114]∨s.toList=[114,111,108,101,115]∨s.toList=[108,101,118,101,108]∨s.toList=[114,97,110,103,101]∨s.toList=[98,111,111,108]∨s.toList=[116,114,117,101]∨s.toList=[102,97,108,115,101]∨s.toList=[115,101,110,115,105,116,105,118,105,116,121]∨s.toList=[99,97,116,101,103,111,114,121]∨s.toList=[97,108,108,111,119]∨s.toList=[97,117,100,105,116,97,108,108,111,119]∨s.toList=[100,111,110,116,97,117,100,105,116]∨s.toList=[110,101,118,101,114,97,108,108,111,119]∨s.toList=[116,121,112,101,95,116,114,97,110,115,105,116,105,111,110]∨s.toList=[116,121,112,101,95,99,104,97,110,103,101]∨s.toList=[116,121,112,101,95,109,101,109,98,101,114]∨s.toList=[114,97,110,103,101,95,116,114,97,110,115,105,116,105,111,110]∨s.toList=[99,111,110,115,116,114,97,105,110]∨s.toList=[118,97,108,105,100,97,116,101,116,114,97,110,115]∨s.toList=[105,102]∨s.toList=[101,108,115,101]∨s.toList=[111,112,116,105,111,110,97,108]∨s.toList=[114,101,113,117,105,114,101]∨s.toList=[115,105,100]∨s.toList=[102,105,108,101,99,111,110]∨s.toList=[112,101,114,109,105,115,115,105,118,101]∨s.toList=[97,115,115,101,114,116]∨s.toList=[115,101,108,102]∨s.toList=[105,110]:=by
 rw[bl]
 simpa [kwB,kwList] using h
theorem bL (s:ByteArray) (h:kwB s.data.toList=false) (x:List UInt8) (hx:x∈kwList):(s.toList == x)=false:=by
 rw[bl]
 cases he:s.data.toList == x
 ·rfl
 ·rw[beq_iff_eq] at he
  rw[← he] at hx
  have:kwB s.data.toList=true:=by simpa [kwB] using hx
  rw[this] at h
  cases h
set_option maxHeartbeats 2000000 in
theorem sy (s:ByteArray) (w:World):Calls Tryz.prog 32 #[.string s] w fun e w'=>e= .returned (.bool (kwB s.data.toList))∧w=w':=by
 cases hk:kwB s.data.toList
 ·have h0:=bL s hk [109,111,100,117,108,101] (by decide +kernel)
  have h1:=bL s hk [99,108,97,115,115] (by decide +kernel)
  have h2:=bL s hk [116,121,112,101] (by decide +kernel)
  have h3:=bL s hk [97,108,105,97,115] (by decide +kernel)
  have h4:=bL s hk [116,121,112,101,97,116,116,114,105,98,117,116,101] (by decide +kernel)
  have h5:=bL s hk [97,116,116,114,105,98,117,116,101] (by decide +kernel)
  have h6:=bL s hk [114,111,108,101] (by decide +kernel)
  have h7:=bL s hk [116,121,112,101,115] (by decide +kernel)
  have h8:=bL s hk [114,111,108,101,97,108,108,111,119] (by decide +kernel)
  have h9:=bL s hk [114,111,108,101,95,116,114,97,110,115,105,116,105,111,110] (by decide +kernel)
  have h10:=bL s hk [117,115,101,114] (by decide +kernel)
  have h11:=bL s hk [114,111,108,101,115] (by decide +kernel)
  have h12:=bL s hk [108,101,118,101,108] (by decide +kernel)
  have h13:=bL s hk [114,97,110,103,101] (by decide +kernel)
  have h14:=bL s hk [98,111,111,108] (by decide +kernel)
  have h15:=bL s hk [116,114,117,101] (by decide +kernel)
  have h16:=bL s hk [102,97,108,115,101] (by decide +kernel)
  have h17:=bL s hk [115,101,110,115,105,116,105,118,105,116,121] (by decide +kernel)
  have h18:=bL s hk [99,97,116,101,103,111,114,121] (by decide +kernel)
  have h19:=bL s hk [97,108,108,111,119] (by decide +kernel)
  have h20:=bL s hk [97,117,100,105,116,97,108,108,111,119] (by decide +kernel)
  have h21:=bL s hk [100,111,110,116,97,117,100,105,116] (by decide +kernel)
  have h22:=bL s hk [110,101,118,101,114,97,108,108,111,119] (by decide +kernel)
  have h23:=bL s hk [116,121,112,101,95,116,114,97,110,115,105,116,105,111,110] (by decide +kernel)
  have h24:=bL s hk [116,121,112,101,95,99,104,97,110,103,101] (by decide +kernel)
  have h25:=bL s hk [116,121,112,101,95,109,101,109,98,101,114] (by decide +kernel)
  have h26:=bL s hk [114,97,110,103,101,95,116,114,97,110,115,105,116,105,111,110] (by decide +kernel)
  have h27:=bL s hk [99,111,110,115,116,114,97,105,110] (by decide +kernel)
  have h28:=bL s hk [118,97,108,105,100,97,116,101,116,114,97,110,115] (by decide +kernel)
  have h29:=bL s hk [105,102] (by decide +kernel)
  have h30:=bL s hk [101,108,115,101] (by decide +kernel)
  have h31:=bL s hk [111,112,116,105,111,110,97,108] (by decide +kernel)
  have h32:=bL s hk [114,101,113,117,105,114,101] (by decide +kernel)
  have h33:=bL s hk [115,105,100] (by decide +kernel)
  have h34:=bL s hk [102,105,108,101,99,111,110] (by decide +kernel)
  have h35:=bL s hk [112,101,114,109,105,115,115,105,118,101] (by decide +kernel)
  have h36:=bL s hk [97,115,115,101,114,116] (by decide +kernel)
  have h37:=bL s hk [115,101,108,102] (by decide +kernel)
  have h38:=bL s hk [105,110] (by decide +kernel)
  clear hk
  go_enter Tryz.func32,Tryz.ntmps32
  go_wp2_with fail
  go_ret
  exact⟨rfl,rfl⟩
 ·rcases JP s hk with h|h|h|h|h|h|h|h|h|h|h|h|h|h|h|h|h|h|h|h|h|h|h|h|h|h|h|h|h|h|h|h|h|h|h|h|h|h|h
  all_goals
   clear hk
   go_enter Tryz.func32,Tryz.ntmps32
   go_wp2_with fail
   go_ret
   exact⟨rfl,rfl⟩
set_option maxHeartbeats 400000 in
theorem ng (s:ByteArray) (hs:s.size≤maxLen) (w:World):Calls Tryz.prog 31 #[.string s] w fun e w'=>e= .returned (.bool (dW s.data.toList&& !kwB s.data.toList))∧w=w':=by
 cases hn:dW s.data.toList
 all_goals
  go_enter Tryz.func31,Tryz.ntmps31
  go_wp2_with (first|(go_at_call 76;((with_reducible refine(yT _ (by assumption) _).mono ?_);rintro e w' ⟨rfl,rfl⟩))|(go_at_call 32;((with_reducible refine(sy _ _).mono ?_);rintro e w' ⟨rfl,rfl⟩)))
  go_ret
  exact⟨rfl,rfl⟩
set_option maxHeartbeats 400000 in
theorem nf (s:ByteArray) (hs:s.size≤maxLen) (w:World):Calls Tryz.prog 69 #[.string s] w fun e w'=>e= .returned (.bool (dW s.data.toList&& !kwB s.data.toList))∧w=w':=by
 cases hn:dW s.data.toList
 all_goals
  go_enter Tryz.func69,Tryz.ntmps69
  go_wp2_with (first|(go_at_call 124;((with_reducible refine(zg _ (by assumption) _).mono ?_);rintro e w' ⟨rfl,rfl⟩))|(go_at_call 136;((with_reducible refine(sg _ _).mono ?_);rintro e w' ⟨rfl,rfl⟩)))
  go_ret
  exact⟨rfl,rfl⟩
end Go.Proofs.YtkpodagbefnebaaGreatDoor
namespace Go.Proofs.YtkpodagbefnebaaGreatDoor
namespace Am
open Tk
set_option maxRecDepth 100000
def idB (s:ByteArray):Bool:=dW s.data.toList&& !kwB s.data.toList
theorem r9 (s:ByteArray):Pure Tryz.prog 31 [.c (sS s)] (.c (sB (idB s))):=
 Pure.of_calls (vs:=[.string s]) Tryz.call31 (.sc rfl) fun hs w=>ng s (of_decide_eq_true (hs _ (.head _))) w
section
variable {α:Type} {l:List α} {p:α→Bool} {j:Nat} {x:α}
theorem ek (hx:l[j]? =some x) (ha:(l.take j).all p=true) (hp:p x=true):(l.take (j+1)).all p=true:=by
 rw[List.take_add_one,hx,List.all_append,ha];simp[hp]
theorem j8 (hx:l[j]? =some x) (hp:p x=false):l.all p=false:=by
 rw[Bool.eq_false_iff];intro h
 have:=List.all_eq_true.1 h x (List.mem_of_getElem? hx)
 rw[hp] at this;cases this
theorem iu (ha:(l.take j).all p=true) (hj:l.length≤j):l.all p=true:=by rwa [List.take_of_length_le hj] at ha
end
def gU (l:Lv):Bool:=decide (l.sens=⟨#[]⟩)&&decide (l.cats.length=0)
def lO (l:List ByteArray):Bool:=decide (0<l.length)&&l.all idB
def au (n:NS) (self:Bool):Bool:=!(n.self&& !self)&&((n.all || n.self || decide (0<n.names.length) || decide (0<n.except.length))&&n.names.all idB&&n.except.all idB)
def spB (s:Sp):Bool:=idB s.frm&&(decide (s.to=⟨#[]⟩) || idB s.to)
def lvB (l:Lv):Bool:=idB l.sens&&l.cats.all spB
def rgB (r:Rg):Bool:=lvB r.lo&&(gU r.hi || lvB r.hi)
def cxB (c:Ct):Bool:=idB c.user&&idB c.role&&idB c.type&&rgB c.rng
end Am
namespace Am
set_option maxRecDepth 100000
section
variable {α:Type} {l m:List α} {x y:α} {j:Nat}
theorem tq (h:l.take j=m.take j) (hx:l[j]? =some x) (hy:m[j]? =some y) (e:x=y):l.take (j+1)=m.take (j+1):=by rw[List.take_add_one,List.take_add_one,h,hx,hy,e]
theorem AA (hx:l[j]? =some x) (hy:m[j]? =some y) (e:x≠y):l≠m:=fun h=>by subst h;rw[hx] at hy;injection hy with hy;exact e hy
theorem xA (h:l.take j=m.take j) (h1:l.length≤j) (h2:l.length=m.length):l=m:=by rwa [List.take_of_length_le h1,List.take_of_length_le (by omega)] at h
end
def cA (a b:NS):Bool:=(a.all == b.all)&&(a.nt == b.nt)&&(a.self == b.self)&&decide (a.names=b.names)&&decide (a.except=b.except)
def eg (a b:Lv):Bool:=decide (a.sens=b.sens)&&decide (a.cats=b.cats)
def eF (a b:Rg):Bool:=eg a.lo b.lo&&eg a.hi b.hi
end Am
namespace Am
set_option maxRecDepth 100000
set_option maxHeartbeats 1000000
def mO (limit level op a rel b:Int) (names:List ByteArray) (set:Se) (n:Nat):Bool:=
 decide (level≤12)&&Se.eqB set Se.zero &&
  (if op=2∨op=3∨op=4 then decide (a=0)&&decide (rel=0)&&decide (b=0)&&decide ((names.length:Int)=0)&&decide ((n:Int)=if op=2 then 1 else 2)
   else if op=8 then(decide (0≤a)&&decide (a<limit))&&(decide (0≤b)&&decide (b<limit))&&(decide (0≤rel)&&decide (rel<5))&&decide ((names.length:Int)=0)&&decide ((n:Int)=0)
   else if op=9 then(decide (0≤a)&&decide (a<limit))&&decide (rel=0)&&decide (b=0)&&lO names&&decide ((n:Int)=0)
   else false)
mutual
def fy (limit level:Int):Ex→Bool
 |⟨op,a,rel,b,names,set,kids⟩=>mO limit level op a rel b names set kids.length&&kF limit (level+1) kids
def kF (limit level:Int):List Ex→Bool
 |[]=>true
 |e :: l=>fy limit level e&&kF limit level l
end
theorem oK (limit level:Int):∀ l:List Ex,kF limit level l=l.all (fy limit level)
 |[]=>by rw[kF];rfl
 |e :: l=>by rw[kF,oK limit level l];rfl
theorem lA (limit level:Int) (e:Ex):fy limit level e=(mO limit level e.op e.a e.rel e.b e.names e.set e.kids.length&&e.kids.all (fy limit (level+1))):=by
 cases e;rw[fy,oK]
theorem fW {e x:Ex} (h:x∈e.kids):SizeOf.sizeOf x<SizeOf.sizeOf e:=by
 cases e
 have:=List.sizeOf_lt_of_mem h
 simp only[Ex.mk.sizeOf_spec] at this ⊢
 omega
def gE (e:Ex) (validate:Bool):Bool:=fy (if validate then 15 else 10) 1 e
end Am
namespace Am
set_option maxRecDepth 100000
set_option maxHeartbeats 1000000
def cV (op:Int):Int:=if op=1 then 0 else if op=2 then 1 else if op=3∨op=4∨op=5∨op=6∨op=7 then 2 else -1
def cZ (e:Ex) (level:Int):Int:=
 if 12<level then 4
 else if cV e.op<0∨e.a≠0∨e.b≠0∨e.rel≠0∨Se.eqB e.set Se.zero=false∨(e.kids.length:Int)≠cV e.op∨(e.names.length:Int)≠(if cV e.op=0 then 1 else 0) then 2
 else if cV e.op=0∧idB (e.names.getD 0 ⟨#[]⟩)=false then 10 else 0
end Am
namespace Am
set_option maxRecDepth 100000
set_option maxHeartbeats 1000000
def gA:List Int→Int
 |[]=>0
 |x :: l=>if x=0 then gA l else x
mutual
def cB (level:Int):Ex→Int
 |⟨op,a,rel,b,names,set,kids⟩=>if cZ ⟨op,a,rel,b,names,set,kids⟩ level=0 then kv (level+1) kids else cZ ⟨op,a,rel,b,names,set,kids⟩ level
def kv (level:Int):List Ex→Int
 |[]=>0
 |e :: l=>if cB level e=0 then kv level l else cB level e
end
theorem kV (level:Int):∀ l:List Ex,kv level l=gA (l.map (cB level))
 |[]=>by rw[kv];rfl
 |e :: l=>by rw[kv,kV level l];rfl
theorem nQ (level:Int) (e:Ex):cB level e=if cZ e level=0 then gA (e.kids.map (cB (level+1))) else cZ e level:=by
 cases e;rw[cB,kV]
theorem lj {α:Type} {f:α→Int}:∀ {l:List α} {j:Nat} {x:α},l[j]? =some x→(∀ y∈l.take j,f y=0)→f x≠0→gA (l.map f)=f x
 |[],j,x,h,_,_=>by simp at h
 |a :: l,0,x,h,_,hf=>by
  obtain rfl:a=x:=by simpa using h
  simp[gA,hf]
 |a :: l,j+1,x,h,ha,hf=>by
  have h0:=ha a (by simp)
  simp only[List.map_cons,gA,h0,if_true]
  exact lj (j:=j) (by simpa using h) (fun y hy=>ha y (by simp[hy])) hf
theorem jX {α:Type} {f:α→Int}:∀ {l:List α} {j:Nat},(∀ y∈l.take j,f y=0)→l.length≤j→gA (l.map f)=0
 |[],_,_,_=>rfl
 |a :: l,0,_,h=>by simp at h
 |a :: l,j+1,ha,h=>by
  simp only[List.map_cons,gA,ha a (by simp),if_true]
  exact jX (j:=j) (fun y hy=>ha y (by simp[hy])) (by simpa using h)
theorem mJ {α:Type} {f:α→Int} {l:List α} {j:Nat} {x:α} (h:l[j]? =some x) (ha:∀ y∈l.take j,f y=0) (h0:f x=0):∀ y∈l.take (j+1),f y=0:=by
 intro y hy
 rw[List.take_add_one,h] at hy
 rcases List.mem_append.mp hy with h1|h1
 ·exact ha y h1
 ·simp at h1;rw[h1];exact h0
end Am
namespace Am
set_option maxRecDepth 100000
def tlB (sep:ByteArray):List ByteArray→ByteArray
 |[]=>⟨#[]⟩
 |x :: l=>sep++x++tlB sep l
def cq (sep:ByteArray):List ByteArray→ByteArray
 |[]=>⟨#[]⟩
 |x :: l=>x++tlB sep l
def brT (l:List ByteArray):ByteArray:=⟨#[123,32]⟩++cq ⟨#[32]⟩ l++⟨#[32,125]⟩
def spT (s:Sp):ByteArray:=if s.to=⟨#[]⟩ then s.frm else s.frm++⟨#[46]⟩++s.to
def lvT (l:Lv):ByteArray:=if l.cats.length=0 then l.sens else l.sens++⟨#[58]⟩++cq ⟨#[44]⟩ (l.cats.map spT)
def rgT (r:Rg):ByteArray:=if gU r.hi then lvT r.lo else lvT r.lo++⟨#[45]⟩++lvT r.hi
def cxT (c:Ct):ByteArray:=c.user++⟨#[58]⟩++c.role++⟨#[58]⟩++c.type++⟨#[58]⟩++rgT c.rng
def si (n:Int):ByteArray:=if n=0 then⟨#[61,61]⟩ else if n=1 then⟨#[33,61]⟩ else if n=2 then⟨#[100,111,109]⟩ else if n=3 then⟨#[100,111,109,98,121]⟩ else⟨#[105,110,99,111,109,112]⟩
def ko (n:NS):List ByteArray:=(if n.all then[⟨#[42]⟩] else[])++n.names
def pR (n:NS):List ByteArray:=ko n++n.except.map (⟨#[45,32]⟩++ ·)
def nsL (n:NS):List ByteArray:=pR n++(if n.self then[⟨#[115,101,108,102]⟩] else[])
def nsT (n:NS):ByteArray:=
 if n.nt=true∧(nsL n).length=1∧n.except.length=0∧n.names.length=1 then⟨#[126,32]⟩++(nsL n).getD 0 ⟨#[]⟩
 else if n.nt then⟨#[126,32]⟩++brT (nsL n)
 else if(nsL n).length=1∧n.except.length=0 then(nsL n).getD 0 ⟨#[]⟩
 else brT (nsL n)
def Fp (s:ByteArray) (c:Nat):ByteArray:=⟨(Lib.repeatL s.data.toList c).toArray⟩
def jb (n:Nat):ByteArray:=Fp ⟨#[32,32]⟩ n
def gT (n:Nat):ByteArray:=(⟨#[117,114,116,108,104]⟩:ByteArray).extract (n % 5) (n % 5+1)++⟨(Lib.decDigits (n / 5+1)).toArray⟩
def fi (p:Bool) (s:ByteArray):ByteArray:=if p then⟨#[40]⟩++s++⟨#[41]⟩ else s
def exH (op a rel b:Int) (names:List ByteArray) (ts:List ByteArray) (ops:List Int):ByteArray:=
 if op=2 then⟨#[33]⟩++fi (decide (ops.getD 0 0≠2)) (ts.getD 0 ⟨#[]⟩)
 else if op=3 then fi (decide (ops.getD 0 0=4)) (ts.getD 0 ⟨#[]⟩)++⟨#[32,38,38,32]⟩++fi (decide (ops.getD 1 0=4) || decide (ops.getD 1 0=3)) (ts.getD 1 ⟨#[]⟩)
 else if op=4 then ts.getD 0 ⟨#[]⟩++⟨#[32,124,124,32]⟩++fi (decide (ops.getD 1 0=4)) (ts.getD 1 ⟨#[]⟩)
 else if op=9 then gT a.toNat++⟨#[32,105,110,32]⟩++nsT ⟨false,false,false,names,[]⟩
 else gT a.toNat++⟨#[32]⟩++si rel++⟨#[32]⟩++gT b.toNat
mutual
def exT:Ex→ByteArray
 |⟨op,a,rel,b,names,_,kids⟩=>exH op a rel b names (tt kids) (kids.map (·.op))
def tt:List Ex→List ByteArray
 |[]=>[]
 |x :: l=>exT x :: tt l
end
def jR (op:Int):ByteArray:=if op=6 then⟨#[61,61]⟩ else if op=7 then⟨#[33,61]⟩ else if op=3 then⟨#[38,38]⟩ else if op=5 then⟨#[94]⟩ else⟨#[124,124]⟩
def eA (op:Int):Int:=if op=6 then 4 else if op=7 then 4 else if op=3 then 3 else if op=5 then 2 else 1
def gz (op:Int):Int:=if cV op<2 then 5 else eA op
def ir (st least:Int) (s:ByteArray):ByteArray:=if st<least then⟨#[40]⟩++s++⟨#[41]⟩ else s
def btH (op:Int) (names ts:List ByteArray) (ops:List Int):ByteArray:=
 if cV op=0 then names.getD 0 ⟨#[]⟩
 else if cV op=1 then⟨#[33]⟩++ir (gz (ops.getD 0 0)) 5 (ts.getD 0 ⟨#[]⟩)
 else ir (gz (ops.getD 0 0)) (eA op) (ts.getD 0 ⟨#[]⟩)++⟨#[32]⟩++jR op++⟨#[32]⟩++ir (gz (ops.getD 1 0)) (eA op+1) (ts.getD 1 ⟨#[]⟩)
mutual
def btI:Ex→ByteArray
 |⟨op,_,_,_,names,_,kids⟩=>btH op names (tc kids) (kids.map (·.op))
def tc:List Ex→List ByteArray
 |[]=>[]
 |x :: l=>btI x :: tc l
end
def btT (e:Ex) (least:Int):ByteArray:=ir (gz e.op) least (btI e)
def kwT (l:List ByteArray) (n:Int):ByteArray:=l.getD (n - 1).toNat ⟨#[]⟩
def kwR:List ByteArray:=[⟨#[97,108,108,111,119]⟩,⟨#[97,117,100,105,116,97,108,108,111,119]⟩,⟨#[100,111,110,116,97,117,100,105,116]⟩,⟨#[110,101,118,101,114,97,108,108,111,119]⟩]
def kwX:List ByteArray:=[⟨#[116,121,112,101,95,116,114,97,110,115,105,116,105,111,110]⟩,⟨#[116,121,112,101,95,99,104,97,110,103,101]⟩,⟨#[116,121,112,101,95,109,101,109,98,101,114]⟩]
def kwQ:List ByteArray:=[⟨#[99,108,97,115,115]⟩,⟨#[116,121,112,101]⟩,⟨#[97,116,116,114,105,98,117,116,101]⟩,⟨#[114,111,108,101]⟩,⟨#[117,115,101,114]⟩,⟨#[98,111,111,108]⟩,⟨#[115,101,110,115,105,116,105,118,105,116,121]⟩,⟨#[99,97,116,101,103,111,114,121]⟩]
def kwF:List ByteArray:=[⟨#[97,110,121]⟩,⟨#[114,101,103,117,108,97,114]⟩,⟨#[100,105,114,101,99,116,111,114,121]⟩,⟨#[108,105,110,107]⟩,⟨#[115,111,99,107,101,116]⟩]
def kwA:List ByteArray:=[⟨#[110,111,102,108,111,119]⟩,⟨#[110,111,100,111,109,97,105,110]⟩,⟨#[115,101,112,97,114,97,116,101]⟩]
def fR (s:Stm):ByteArray:=nsT s.source++⟨#[32]⟩++nsT s.target
def ef (s:Stm):ByteArray:=
 if s.kind=6 then⟨#[114,111,108,101,97,108,108,111,119,32]⟩++fR s
 else if s.kind=7 then⟨#[114,111,108,101,95,116,114,97,110,115,105,116,105,111,110,32]⟩++fR s++⟨#[32,58,32]⟩++nsT s.cls++⟨#[32]⟩++s.result
 else if s.kind=12 then kwT kwR s.op++⟨#[32]⟩++fR s++⟨#[32,58,32]⟩++nsT s.cls++⟨#[32]⟩++nsT s.perms
 else if s.kind=13 then
  (if s.text=⟨#[]⟩ then kwT kwX s.op++⟨#[32]⟩++fR s++⟨#[32,58,32]⟩++nsT s.cls++⟨#[32]⟩++s.result
   else kwT kwX s.op++⟨#[32]⟩++fR s++⟨#[32,58,32]⟩++nsT s.cls++⟨#[32]⟩++s.result++(⟨#[32,34]⟩++s.text++⟨#[34]⟩))
 else if s.kind=14 then⟨#[114,97,110,103,101,95,116,114,97,110,115,105,116,105,111,110,32]⟩++fR s++⟨#[32,58,32]⟩++nsT s.cls++⟨#[32]⟩++rgT s.range
 else if s.kind=15 then⟨#[99,111,110,115,116,114,97,105,110,32]⟩++nsT s.cls++⟨#[32]⟩++nsT s.perms++⟨#[32]⟩++exT s.cond
 else if s.kind=16 then⟨#[118,97,108,105,100,97,116,101,116,114,97,110,115,32]⟩++nsT s.cls++⟨#[32]⟩++exT s.cond
 else if s.kind=19 then(if s.op=1 then⟨#[114,101,113,117,105,114,101,32,99,108,97,115,115,32]⟩++s.name++⟨#[32]⟩++brT s.list else⟨#[114,101,113,117,105,114,101,32]⟩++kwT kwQ s.op++⟨#[32]⟩++cq ⟨#[44,32]⟩ s.list)
 else if s.kind=20 then⟨#[115,105,100,32]⟩++s.name++⟨#[32]⟩++cxT s.ctx
 else if s.kind=21 then⟨#[102,105,108,101,99,111,110,32,34]⟩++s.text++⟨#[34,32]⟩++kwT kwF (s.op+1)++⟨#[32]⟩++cxT s.ctx
 else if s.kind=22 then⟨#[112,101,114,109,105,115,115,105,118,101,32]⟩++nsT s.source
 else⟨#[97,115,115,101,114,116,32]⟩++s.name++⟨#[32]⟩++kwT kwA s.op++⟨#[32]⟩++fR s
def nX (b:Bool):ByteArray:=⟨(Lib.formatBool b).toArray⟩
def bk (s:Stm):ByteArray:=
 if s.kind=1 then⟨#[99,108,97,115,115,32]⟩++s.name++⟨#[32]⟩++brT s.list
 else if s.kind=2 then
  (if 0<s.aliases.length then(if 0<s.list.length then⟨#[116,121,112,101,32]⟩++s.name++(⟨#[32,97,108,105,97,115,32]⟩++brT s.aliases)++(⟨#[44,32]⟩++cq ⟨#[44,32]⟩ s.list) else⟨#[116,121,112,101,32]⟩++s.name++(⟨#[32,97,108,105,97,115,32]⟩++brT s.aliases))
   else(if 0<s.list.length then⟨#[116,121,112,101,32]⟩++s.name++(⟨#[44,32]⟩++cq ⟨#[44,32]⟩ s.list) else⟨#[116,121,112,101,32]⟩++s.name))
 else if s.kind=3 then⟨#[97,116,116,114,105,98,117,116,101,32]⟩++s.name
 else if s.kind=4 then⟨#[116,121,112,101,97,116,116,114,105,98,117,116,101,32]⟩++s.name++⟨#[32]⟩++cq ⟨#[44,32]⟩ s.list
 else if s.kind=5 then(if au s.source false then⟨#[114,111,108,101,32]⟩++s.name++⟨#[32,116,121,112,101,115,32]⟩++nsT s.source else⟨#[114,111,108,101,32]⟩++s.name)
 else if s.kind=8 then⟨#[117,115,101,114,32]⟩++s.name++⟨#[32,114,111,108,101,115,32]⟩++brT s.list++⟨#[32,108,101,118,101,108,32]⟩++lvT s.level++⟨#[32,114,97,110,103,101,32]⟩++rgT s.range
 else if s.kind=9 then⟨#[98,111,111,108,32]⟩++s.name++⟨#[32]⟩++nX s.value
 else if s.kind=10 then⟨#[115,101,110,115,105,116,105,118,105,116,121,32]⟩++s.name
 else if s.kind=11 then⟨#[99,97,116,101,103,111,114,121,32]⟩++s.name
 else ef s
def jC (s:Stm):ByteArray:=if s.kind=17 then cq ⟨#[32]⟩ [⟨#[105,102]⟩,btT s.cond 0,⟨#[123,10]⟩] else cq ⟨#[32]⟩ [⟨#[111,112,116,105,111,110,97,108]⟩,⟨#[123,10]⟩]
def stH (lv:Nat) (s:Stm) (tb eb:ByteArray):ByteArray:=
 if s.kind≠17∧s.kind≠18 then jb lv++(bk s++⟨#[59]⟩)
 else jb lv++jC s++tb++jb lv++⟨#[125]⟩++(if 0<s.els.length then⟨#[32,101,108,115,101,32,123,10]⟩++eb++jb lv++⟨#[125]⟩ else⟨#[]⟩)
mutual
def stT (lv:Nat):Stm→ByteArray
 |⟨a1,a2,a3,a4,a5,a6,a7,a8,a9,a10,a11,a12,a13,a14,a15,a16,a17,t,e⟩=>stH lv ⟨a1,a2,a3,a4,a5,a6,a7,a8,a9,a10,a11,a12,a13,a14,a15,a16,a17,t,e⟩ (dj (lv+1) t) (dj (lv+1) e)
def dj (lv:Nat):List Stm→ByteArray
 |[]=>⟨#[]⟩
 |x :: l=>stT lv x++⟨#[10]⟩++dj lv l
end
def itT (n:Int):ByteArray:=⟨(Lib.itoa n).toArray⟩
def jE (m:Mo):ByteArray:=cq ⟨#[32]⟩ [⟨#[109,111,100,117,108,101]⟩,m.name,itT m.version++⟨#[59,10]⟩]++dj 0 m.stmts
end Am
namespace Am
set_option maxRecDepth 100000
set_option maxHeartbeats 1000000
def opB (n m:Int):Bool:=decide (1≤n)&&decide (n≤m)
def lC (c:UInt8):Bool:=!(decide (c.toNat<33) || decide (126<c.toNat) || decide (c.toNat=47) || decide (c.toNat=34))
def oN (s:ByteArray):Bool:=s.data.toList.all lC&&(decide (s≠⟨#[]⟩)&&decide (s.size≤32))
theorem bX (s:ByteArray):s.size=s.data.toList.length:=by cases s;simp[ByteArray.size]
theorem wu (s:ByteArray):Pure Tryz.prog 254 [.c (sS s)] (.c (sB (oN s))):=by
 refine fn1 (fn:=Tryz.f254) Tryz.call254 Tryz.func254 rfl Tryz.ntmps254 Tryz.results254 rfl (by rfl) ?_
 refine AW.fact (t:=0) rfl (fun κ w x hr=>mB hr) fun hn=>?_
 repeat'(first|(with_reducible first|apply AW.seq|apply AW.block|apply AW.skip|apply AW.ret|apply AW.exit|apply ae|apply ar|apply aG|apply ay|apply aJ|apply aT|apply y_e|refine ag ?_)|((with_reducible apply ak);refine t_v AS.v ?_)|((with_reducible apply bt);refine t_m (hs:=fun hg=>AS.v) (k:=?_))|((with_reducible refine av ?_);((refine aj (fun hc=>?_) (fun hc=>?_);all_goals(try(exfalso;simp[*] at hc;done)))))|((with_reducible refine aF ?_);refine k_b ?_)|fail)
 refine AW.loop (fun n σ=>∃ j,n=s.size - j∧j≤s.size∧(s.data.toList.take j).all lC=true∧σ=mk [(0,.c (sS s)),(5,.c (sI s.size)),(6,.c (sI j))] []) s.size ?_ ?_
 ·exact⟨_,wkA,0,rfl,Nat.zero_le _,rfl,rfl⟩
 rintro n σ ⟨j,rfl,hj,ha,rfl⟩
 by_cases hlt:j<s.size
 ·obtain ⟨x,hx⟩:∃ x,s.data.toList[j]? =some x:=⟨_,List.getElem?_eq_getElem (by have:=bX s;omega)⟩
  repeat'(first|(with_reducible first|apply AW.seq|apply AW.block|apply AW.skip|apply AW.ret|apply AW.exit|apply ae|apply ar|apply aG|apply ay|apply aJ|apply aT|apply y_e|refine ag ?_)|((with_reducible apply ak);refine t_v AS.v ?_)|((with_reducible apply bt);refine t_m (hs:=fun hg=>AS.v) (k:=?_))|((with_reducible refine av ?_);((refine aj (fun hc=>?_) (fun hc=>?_);all_goals(try(exfalso;simp[*] at hc;done)))))|((with_reducible refine aF ?_);refine k_b ?_)|fail)
  ·have e:lC x=false:=by simp only[lC];simp at hc ⊢;omega
   rw[oN,j8 hx e,Bool.false_and]
  ·have e:lC x=true:=by simp only[lC];simp at hc ⊢;omega
   exact⟨_,_,(show s.size - (j+1)<s.size - j by omega),wkA,j+1,rfl,hlt,ek hx ha e,rfl⟩
 ·have e:=iu ha (by have:=bX s;omega)
  repeat'(first|(with_reducible first|apply AW.seq|apply AW.block|apply AW.skip|apply AW.ret|apply AW.exit|apply ae|apply ar|apply aG|apply ay|apply aJ|apply aT|apply y_e|refine ag ?_)|((with_reducible apply ak);refine t_v AS.v ?_)|((with_reducible apply bt);refine t_m (hs:=fun hg=>AS.v) (k:=?_))|((with_reducible refine av ?_);((refine aj (fun hc=>?_) (fun hc=>?_);all_goals(try(exfalso;simp[*] at hc;done)))))|((with_reducible refine aF ?_);refine k_b ?_)|fail)
  rw[oN,e,Bool.true_and,show decide ((s.size:Int)≤32)=decide (s.size≤32) from decide_eq_decide.2 (by omega)]
  simp
end Am
namespace Am
open Tk
theorem aa {ε α β:Type} (a:α) (f:α→Except ε β):(Except.ok a>>=f)=f a:=rfl
theorem aq {ε α β:Type} (e:ε) (f:α→Except ε β):((Except.error e:Except ε α)>>=f)= .error e:=rfl
abbrev Ix (l:List Tok):=Fin l.length
section
variable {l:List Tok}
def tk (k:Ix l):Tok:=l[k.1]
def nx (k:Ix l):Ix l:=if h:k.1+1<l.length then⟨k.1+1,h⟩ else k
def tF (k:Ix l) (m:Nat):Ix l:=if h:m<l.length then⟨m,h⟩ else k
def fuel (l:List Tok):Nat:=8*l.length+16
def flt (c:Int) (t:Tok):Fa:=⟨c,t.pos,t.text⟩
def isM (s:ByteArray) (k:Ix l):Bool:=decide ((tk k).kind=4)&&decide ((tk k).text=s)
def isW (s:ByteArray) (k:Ix l):Bool:=decide ((tk k).kind=1)&&decide ((tk k).text=s)
def adv (b:Bool) (k:Ix l):Ix l:=if b then nx k else k
def ez (s:ByteArray) (k:Ix l):Except Fa (Unit×Ix l):=if isM s k then .ok ((),nx k) else .error (flt 9 (tk k))
def eO (s:ByteArray) (k:Ix l):Except Fa (Unit×Ix l):=if isW s k then .ok ((),nx k) else .error (flt 9 (tk k))
def dU (k:Ix l):Bool:=decide ((tk k).kind=1)&&idB (tk k).text
def bV (k:Ix l):Except Fa (ByteArray×Ix l):=if dU k then .ok ((tk k).text,nx k) else .error (flt 9 (tk k))
def cu:Nat→List ByteArray→Ix l→Except Fa (List ByteArray×Ix l)
 |0,_,k=>.error (flt 9 (tk k))
 |n+1,acc,k=>if isM ⟨#[125]⟩ k then .ok (acc,nx k) else bV k>>=fun x=>cu n (acc++[x.1]) x.2
def cD (k:Ix l):Except Fa (List ByteArray×Ix l):=ez ⟨#[123]⟩ k>>=fun x=>bV x.2>>=fun y=>cu (fuel l) [y.1] y.2
def bp:Nat→List ByteArray→Ix l→Except Fa (List ByteArray×Ix l)
 |0,_,k=>.error (flt 9 (tk k))
 |n+1,acc,k=>if isM ⟨#[44]⟩ k then bV (nx k)>>=fun x=>bp n (acc++[x.1]) x.2 else .ok (acc,k)
def dH (k:Ix l):Except Fa (List ByteArray×Ix l):=bV k>>=fun y=>bp (fuel l) [y.1] y.2
def fw (self minus:Bool) (n:NS) (k:Ix l):Except Fa (NS×Ix l):=
 if isM ⟨#[42]⟩ k then .ok ({n with all:=true},nx k)
 else if self&&isW ⟨#[115,101,108,102]⟩ k then .ok ({n with self:=true},nx k)
 else if minus&&isM ⟨#[45]⟩ k then bV (nx k)>>=fun x=>.ok ({n with except:=n.except++[x.1]},x.2)
 else bV k>>=fun x=>.ok ({n with names:=n.names++[x.1]},x.2)
def ig (self:Bool):Nat→NS→Ix l→Except Fa (NS×Ix l)
 |0,_,k=>.error (flt 9 (tk k))
 |m+1,n,k=>if isM ⟨#[125]⟩ k then .ok (n,nx k) else fw self true n k>>=fun x=>ig self m x.1 x.2
def ns0 (b:Bool):NS:=⟨false,b,false,[],[]⟩
def eG (self:Bool) (k:Ix l):Except Fa (NS×Ix l):=
 if isM ⟨#[123]⟩ (adv (isM ⟨#[126]⟩ k) k) then fw self true (ns0 (isM ⟨#[126]⟩ k)) (nx (adv (isM ⟨#[126]⟩ k) k))>>=fun x=>ig self (fuel l) x.1 x.2
 else if isM ⟨#[126]⟩ k then bV (nx k)>>=fun x=>.ok (⟨false,true,false,[x.1],[]⟩,x.2)
 else fw self false (ns0 false) k
def fm (k:Ix l):Except Fa (Sp×Ix l):=bV k>>=fun x=>if isM ⟨#[46]⟩ x.2 then bV (nx x.2)>>=fun y=>.ok (⟨x.1,y.1⟩,y.2) else .ok (⟨x.1,⟨#[]⟩⟩,x.2)
def cP:Nat→Lv→Ix l→Except Fa (Lv×Ix l)
 |0,_,k=>.error (flt 9 (tk k))
 |n+1,v,k=>fm k>>=fun x=>if isM ⟨#[44]⟩ x.2 then cP n {v with cats:=v.cats++[x.1]} (nx x.2) else .ok ({v with cats:=v.cats++[x.1]},x.2)
def eD (k:Ix l):Except Fa (Lv×Ix l):=bV k>>=fun x=>if isM ⟨#[58]⟩ x.2 then cP (fuel l) ⟨x.1,[]⟩ (nx x.2) else .ok (⟨x.1,[]⟩,x.2)
def fk (k:Ix l):Except Fa (Rg×Ix l):=eD k>>=fun x=>if isM ⟨#[45]⟩ x.2 then eD (nx x.2)>>=fun y=>.ok (⟨x.1,y.1⟩,y.2) else .ok (⟨x.1,Lv.zero⟩,x.2)
def da (k:Ix l):Except Fa (Ct×Ix l):=bV k>>=fun u=>ez ⟨#[58]⟩ u.2>>=fun a=>bV a.2>>=fun r=>ez ⟨#[58]⟩ r.2>>=fun b=>bV b.2>>=fun t=>ez ⟨#[58]⟩ t.2>>=fun c=>fk c.2>>=fun g=>.ok (⟨u.1,r.1,t.1,g.1⟩,g.2)
def cU (ws:List ByteArray) (k:Ix l):Except Fa (Int×Ix l):=match ws.findIdx? (fun s=>isW s k) with|some i=>.ok ((i:Int),nx k)|none=>.error (flt 9 (tk k))
def inB (ws:List UInt8) (c:UInt8):Option Nat:=ws.findIdx? (fun d=>d == c)
def pZ:Option Nat→Option Nat→Option Int
 |some i,some j=>some (((j*5+i:Nat)):Int)
 |_,_=>none
def mK (v:Bool) (s:ByteArray):Option Int:=match s.data.toList with
 |[a,b]=>pZ (inB [117,114,116,108,104] a) (inB (if v then[49,50,51] else[49,50]) b)
 |_=>none
def gC (v:Bool) (k:Ix l):Except Fa (Int×Ix l):=match mK v (tk k).text with
 |some n=>if(tk k).kind=1 then .ok (n,nx k) else .error (flt 9 (tk k))
 |none=>.error (flt 9 (tk k))
def js (k:Ix l):Except Fa (Int×Ix l):=if isM ⟨#[61,61]⟩ k then .ok (0,nx k) else if isM ⟨#[33,61]⟩ k then .ok (1,nx k) else cU [⟨#[100,111,109]⟩,⟨#[100,111,109,98,121]⟩,⟨#[105,110,99,111,109,112]⟩] k>>=fun x=>.ok (2+x.1,x.2)
def kk (v:Bool) (k:Ix l):Except Fa (Ex×Ix l):=gC v k>>=fun a=>
 if isW ⟨#[105,110]⟩ a.2 then(if isM ⟨#[123]⟩ (nx a.2) then cD (nx a.2)>>=fun x=>.ok ({Ex.zero with op:=9,a:=a.1,names:=x.1},x.2) else bV (nx a.2)>>=fun x=>.ok ({Ex.zero with op:=9,a:=a.1,names:=[x.1]},x.2))
 else js a.2>>=fun r=>gC v r.2>>=fun b=>.ok ({Ex.zero with op:=8,a:=a.1,rel:=r.1,b:=b.1},b.2)
mutual
def dD (v:Bool):Nat→Ix l→Except Fa (Ex×Ix l)
 |0,k=>.error (flt 9 (tk k))
 |n+1,k=>if isM ⟨#[33]⟩ k then dD v n (nx k)>>=fun x=>.ok ({Ex.zero with op:=2,kids:=[x.1]},x.2)
  else if isM ⟨#[40]⟩ k then ff v n (nx k)>>=fun x=>ez ⟨#[41]⟩ x.2>>=fun y=>.ok (x.1,y.2)
  else kk v k
def fe (v:Bool):Nat→Ix l→Except Fa (Ex×Ix l)
 |0,k=>.error (flt 9 (tk k))
 |n+1,k=>dD v n k>>=fun x=>cF v n x.1 x.2
def cF (v:Bool):Nat→Ex→Ix l→Except Fa (Ex×Ix l)
 |0,_,k=>.error (flt 9 (tk k))
 |n+1,e,k=>if isM ⟨#[38,38]⟩ k then dD v n (nx k)>>=fun x=>cF v n {Ex.zero with op:=3,kids:=[e,x.1]} x.2 else .ok (e,k)
def ff (v:Bool):Nat→Ix l→Except Fa (Ex×Ix l)
 |0,k=>.error (flt 9 (tk k))
 |n+1,k=>fe v n k>>=fun x=>cG v n x.1 x.2
def cG (v:Bool):Nat→Ex→Ix l→Except Fa (Ex×Ix l)
 |0,_,k=>.error (flt 9 (tk k))
 |n+1,e,k=>if isM ⟨#[124,124]⟩ k then fe v n (nx k)>>=fun x=>cG v n {Ex.zero with op:=4,kids:=[e,x.1]} x.2 else .ok (e,k)
end
mutual
def cz:Ex→Nat
 |⟨_,_,_,_,_,_,kids⟩=>cS kids+1
def cS:List Ex→Nat
 |[]=>0
 |x :: l=>max (cz x) (cS l)
end
def dG (v:Bool) (k:Ix l):Except Fa (Ex×Ix l):=ff v (fuel l) k>>=fun x=>if 12<cz x.1 then .error (flt 4 (tk k)) else .ok x
def fQ (cnd:List Tok→Except Fa (Ex×Nat)) (k:Ix l):Except Fa (Ex×Ix l):=cnd (l.drop k.1)>>=fun x=>.ok (x.1,tF k (k.1+x.2))
def iI (k:Ix l):Except Fa (ByteArray×Ix l):=if(tk k).kind=3 then(if(tk k).text=⟨#[]⟩ then .error (flt 10 (tk k)) else .ok ((tk k).text,nx k)) else .error (flt 9 (tk k))
def beginW:List ByteArray:=[⟨#[99,108,97,115,115]⟩,⟨#[116,121,112,101]⟩,⟨#[97,116,116,114,105,98,117,116,101]⟩,⟨#[116,121,112,101,97,116,116,114,105,98,117,116,101]⟩,⟨#[114,111,108,101]⟩,⟨#[114,111,108,101,97,108,108,111,119]⟩,⟨#[114,111,108,101,95,116,114,97,110,115,105,116,105,111,110]⟩,⟨#[117,115,101,114]⟩,⟨#[98,111,111,108]⟩,⟨#[115,101,110,115,105,116,105,118,105,116,121]⟩,⟨#[99,97,116,101,103,111,114,121]⟩,⟨#[97,108,108,111,119]⟩,⟨#[97,117,100,105,116,97,108,108,111,119]⟩,⟨#[100,111,110,116,97,117,100,105,116]⟩,⟨#[110,101,118,101,114,97,108,108,111,119]⟩,⟨#[116,121,112,101,95,116,114,97,110,115,105,116,105,111,110]⟩,⟨#[116,121,112,101,95,99,104,97,110,103,101]⟩,⟨#[116,121,112,101,95,109,101,109,98,101,114]⟩,⟨#[114,97,110,103,101,95,116,114,97,110,115,105,116,105,111,110]⟩,⟨#[99,111,110,115,116,114,97,105,110]⟩,⟨#[118,97,108,105,100,97,116,101,116,114,97,110,115]⟩,⟨#[105,102]⟩,⟨#[111,112,116,105,111,110,97,108]⟩,⟨#[114,101,113,117,105,114,101]⟩,⟨#[115,105,100]⟩,⟨#[102,105,108,101,99,111,110]⟩,⟨#[112,101,114,109,105,115,115,105,118,101]⟩,⟨#[97,115,115,101,114,116]⟩]
def qT (s:ByteArray):Bool:=beginW.any fun x=>decide (s=x)
def bM (w:ByteArray) (s:Stm) (k:Ix l):Except Fa (Bool×(Stm×Ix l)):=
 if w=⟨#[99,108,97,115,115]⟩ then bV k>>=fun x=>cD x.2>>=fun y=>.ok (true,({s with kind:=1,name:=x.1,list:=y.1},y.2))
 else if w=⟨#[116,121,112,101]⟩ then bV k>>=fun x=>if isW ⟨#[97,108,105,97,115]⟩ x.2 then cD (nx x.2)>>=fun y=>bp (fuel l) s.list y.2>>=fun z=>.ok (true,({s with kind:=2,name:=x.1,aliases:=y.1,list:=z.1},z.2))
  else bp (fuel l) s.list x.2>>=fun z=>.ok (true,({s with kind:=2,name:=x.1,list:=z.1},z.2))
 else if w=⟨#[97,116,116,114,105,98,117,116,101]⟩ then bV k>>=fun x=>.ok (true,({s with kind:=3,name:=x.1},x.2))
 else if w=⟨#[116,121,112,101,97,116,116,114,105,98,117,116,101]⟩ then bV k>>=fun x=>dH x.2>>=fun y=>.ok (true,({s with kind:=4,name:=x.1,list:=y.1},y.2))
 else if w=⟨#[114,111,108,101]⟩ then bV k>>=fun x=>if isW ⟨#[116,121,112,101,115]⟩ x.2 then eG false (nx x.2)>>=fun y=>.ok (true,({s with kind:=5,name:=x.1,source:=y.1},y.2)) else .ok (true,({s with kind:=5,name:=x.1},x.2))
 else if w=⟨#[117,115,101,114]⟩ then bV k>>=fun x=>eO ⟨#[114,111,108,101,115]⟩ x.2>>=fun a=>cD a.2>>=fun y=>eO ⟨#[108,101,118,101,108]⟩ y.2>>=fun b=>eD b.2>>=fun v=>eO ⟨#[114,97,110,103,101]⟩ v.2>>=fun c=>fk c.2>>=fun g=>.ok (true,({s with kind:=8,name:=x.1,list:=y.1,level:=v.1,range:=g.1},g.2))
 else if w=⟨#[98,111,111,108]⟩ then bV k>>=fun x=>cU [⟨#[102,97,108,115,101]⟩,⟨#[116,114,117,101]⟩] x.2>>=fun y=>.ok (true,({s with kind:=9,name:=x.1,value:=decide (y.1=1)},y.2))
 else if w=⟨#[115,101,110,115,105,116,105,118,105,116,121]⟩ then bV k>>=fun x=>.ok (true,({s with kind:=10,name:=x.1},x.2))
 else if w=⟨#[99,97,116,101,103,111,114,121]⟩ then bV k>>=fun x=>.ok (true,({s with kind:=11,name:=x.1},x.2))
 else .ok (false,(s,k))
def gr (self:Bool) (s:Stm) (k:Ix l):Except Fa (Unit×(Stm×Ix l)):=eG false k>>=fun x=>eG self x.2>>=fun y=>ez ⟨#[58]⟩ y.2>>=fun a=>eG false a.2>>=fun z=>.ok ((),({s with source:=x.1,target:=y.1,cls:=z.1},z.2))
def jH (s:ByteArray) (ws:List ByteArray):Int:=match ws.findIdx? (fun x=>decide (x=s)) with|some i=>(i:Int)+1|none=>0
def mV:List ByteArray:=[⟨#[97,108,108,111,119]⟩,⟨#[97,117,100,105,116,97,108,108,111,119]⟩,⟨#[100,111,110,116,97,117,100,105,116]⟩,⟨#[110,101,118,101,114,97,108,108,111,119]⟩]
def jl:List ByteArray:=[⟨#[116,121,112,101,95,116,114,97,110,115,105,116,105,111,110]⟩,⟨#[116,121,112,101,95,99,104,97,110,103,101]⟩,⟨#[116,121,112,101,95,109,101,109,98,101,114]⟩]
def dh (w:ByteArray) (s:Stm) (k:Ix l):Except Fa (Bool×(Stm×Ix l)):=
 if 0<jH w mV then gr true {s with kind:=12,op:=jH w mV} k>>=fun x=>eG false x.2.2>>=fun y=>.ok (true,({x.2.1 with perms:=y.1},y.2))
 else if 0<jH w jl then gr false {s with kind:=13,op:=jH w jl} k>>=fun x=>bV x.2.2>>=fun y=>
  if jH w jl=1∧(tk y.2).kind=3 then(if oN (tk y.2).text then .ok (true,({x.2.1 with result:=y.1,text:=(tk y.2).text},nx y.2)) else .error (flt 10 (tk y.2)))
  else .ok (true,({x.2.1 with result:=y.1},y.2))
 else if w=⟨#[114,97,110,103,101,95,116,114,97,110,115,105,116,105,111,110]⟩ then gr false {s with kind:=14} k>>=fun x=>fk x.2.2>>=fun y=>.ok (true,({x.2.1 with range:=y.1},y.2))
 else if w=⟨#[114,111,108,101,95,116,114,97,110,115,105,116,105,111,110]⟩ then gr false {s with kind:=7} k>>=fun x=>bV x.2.2>>=fun y=>.ok (true,({x.2.1 with result:=y.1},y.2))
 else if w=⟨#[114,111,108,101,97,108,108,111,119]⟩ then eG false k>>=fun x=>eG false x.2>>=fun y=>.ok (true,({s with kind:=6,source:=x.1,target:=y.1},y.2))
 else if w=⟨#[99,111,110,115,116,114,97,105,110]⟩ then eG false k>>=fun x=>eG false x.2>>=fun y=>dG false y.2>>=fun z=>.ok (true,({s with kind:=15,cls:=x.1,perms:=y.1,cond:=z.1},z.2))
 else if w=⟨#[118,97,108,105,100,97,116,101,116,114,97,110,115]⟩ then eG false k>>=fun x=>dG true x.2>>=fun z=>.ok (true,({s with kind:=16,cls:=x.1,cond:=z.1},z.2))
 else .ok (false,(s,k))
def symW:List ByteArray:=[⟨#[99,108,97,115,115]⟩,⟨#[116,121,112,101]⟩,⟨#[97,116,116,114,105,98,117,116,101]⟩,⟨#[114,111,108,101]⟩,⟨#[117,115,101,114]⟩,⟨#[98,111,111,108]⟩,⟨#[115,101,110,115,105,116,105,118,105,116,121]⟩,⟨#[99,97,116,101,103,111,114,121]⟩]
def fileW:List ByteArray:=[⟨#[97,110,121]⟩,⟨#[114,101,103,117,108,97,114]⟩,⟨#[100,105,114,101,99,116,111,114,121]⟩,⟨#[108,105,110,107]⟩,⟨#[115,111,99,107,101,116]⟩]
def asrW:List ByteArray:=[⟨#[110,111,102,108,111,119]⟩,⟨#[110,111,100,111,109,97,105,110]⟩,⟨#[115,101,112,97,114,97,116,101]⟩]
def cW (w:ByteArray) (s:Stm) (k:Ix l):Except Fa (Unit×(Stm×Ix l)):=
 if w=⟨#[114,101,113,117,105,114,101]⟩ then cU symW k>>=fun x=>if x.1=0 then bV x.2>>=fun y=>cD y.2>>=fun z=>.ok ((),({s with kind:=19,op:=1,name:=y.1,list:=z.1},z.2))
  else dH x.2>>=fun y=>.ok ((),({s with kind:=19,op:=1+x.1,list:=y.1},y.2))
 else if w=⟨#[115,105,100]⟩ then bV k>>=fun x=>da x.2>>=fun y=>.ok ((),({s with kind:=20,name:=x.1,ctx:=y.1},y.2))
 else if w=⟨#[102,105,108,101,99,111,110]⟩ then iI k>>=fun x=>cU fileW x.2>>=fun y=>da y.2>>=fun z=>.ok ((),({s with kind:=21,text:=x.1,op:=y.1,ctx:=z.1},z.2))
 else if w=⟨#[112,101,114,109,105,115,115,105,118,101]⟩ then eG false k>>=fun x=>.ok ((),({s with kind:=22,source:=x.1},x.2))
 else if w=⟨#[97,115,115,101,114,116]⟩ then bV k>>=fun x=>cU asrW x.2>>=fun y=>eG false y.2>>=fun z=>eG false z.2>>=fun u=>.ok ((),({s with kind:=23,name:=x.1,op:=1+y.1,source:=z.1,target:=u.1},u.2))
 else .ok ((),(s,k))
def bn (w:ByteArray) (s:Stm) (k:Ix l):Except Fa (Stm×Ix l):=
 bM w s k>>=fun x=>(if x.1 then .ok x.2 else dh w x.2.1 x.2.2>>=fun y=>if y.1 then .ok y.2 else cW w y.2.1 y.2.2>>=fun z=>.ok z.2)>>=fun y=>ez ⟨#[59]⟩ y.2>>=fun z=>.ok (y.1,z.2)
mutual
def cT (cnd:List Tok→Except Fa (Ex×Nat)):Nat→Nat→Ix l→Nat→Except Fa (Stm×(Ix l×Nat))
 |0,_,k,_=>.error (flt 9 (tk k))
 |n+1,d,k,c=>
  if(tk k).kind=1∧qT (tk k).text=true then
   if 1024≤c then .error (flt 4 (tk k))
   else if(tk k).text=⟨#[105,102]⟩∨(tk k).text=⟨#[111,112,116,105,111,110,97,108]⟩ then
    if 12≤d then .error (flt 4 (tk k))
    else cm cnd n d (decide ((tk k).text=⟨#[105,102]⟩)) {Stm.zero with pos:=(tk k).pos} (nx k) (c+1)>>=fun x=>.ok (x.2.1,x.2.2)
   else bn (tk k).text {Stm.zero with pos:=(tk k).pos} (nx k)>>=fun x=>.ok (x.1,(x.2,c+1))
  else .error (flt 9 (tk k))
def cm (cnd:List Tok→Except Fa (Ex×Nat)):Nat→Nat→Bool→Stm→Ix l→Nat→Except Fa (Unit×(Stm×(Ix l×Nat)))
 |0,_,_,_,k,_=>.error (flt 9 (tk k))
 |n+1,d,i,s,k,c=>
  (if i then fQ cnd k>>=fun x=>.ok ({s with kind:=17,cond:=x.1},x.2) else .ok ({s with kind:=18},k))>>=fun y=>
  cE cnd n d y.2 c>>=fun z=>if isW ⟨#[101,108,115,101]⟩ z.2.1 then cE cnd n d (nx z.2.1) z.2.2>>=fun u=>.ok ((),({y.1 with thn:=z.1,els:=u.1},u.2)) else .ok ((),({y.1 with thn:=z.1},z.2))
def cE (cnd:List Tok→Except Fa (Ex×Nat)):Nat→Nat→Ix l→Nat→Except Fa (List Stm×(Ix l×Nat))
 |0,_,k,_=>.error (flt 9 (tk k))
 |n+1,d,k,c=>ez ⟨#[123]⟩ k>>=fun a=>if isM ⟨#[125]⟩ a.2 then .error (flt 9 (tk a.2)) else ct cnd n (d+1) [] a.2 c>>=fun x=>ez ⟨#[125]⟩ x.2.1>>=fun y=>.ok (x.1,(y.2,x.2.2))
def ct (cnd:List Tok→Except Fa (Ex×Nat)):Nat→Nat→List Stm→Ix l→Nat→Except Fa (List Stm×(Ix l×Nat))
 |0,_,_,k,_=>.error (flt 9 (tk k))
 |n+1,d,acc,k,c=>if(tk k).kind=0∨(0<d∧isM ⟨#[125]⟩ k=true) then .ok (acc,(k,c)) else cT cnd n d k c>>=fun x=>ct cnd n d (acc++[x.1]) x.2.1 x.2.2
end
def ky (s:ByteArray):Nat:=s.data.toList.foldl (fun n c=>10*n+(c.toNat - 48)) 0
def gm (k:Ix l):Except Fa (Mo×Ix l):=eO ⟨#[109,111,100,117,108,101]⟩ k>>=fun a=>bV a.2>>=fun x=>
 if(tk x.2).kind=2 then(if 9999<ky (tk x.2).text then .error (flt 3 (tk x.2)) else ez ⟨#[59]⟩ (nx x.2)>>=fun y=>.ok (⟨x.1,(ky (tk x.2).text:Int),[]⟩,y.2)) else .error (flt 9 (tk x.2))
structure Fine (l:List Tok):Prop where
 pos:0<l.length
 le:l.length≤4294967296
 en:∀ k:Ix l,(tk k).kind≠0→k.1+1<l.length
 nm:∀ k:Ix l,(tk k).kind=2→0<(tk k).text.data.toList.length∧(tk k).text.data.toList.length≤9∧(tk k).text.data.toList.all dgB=true
theorem gX (hf:Fine l) {k:Ix l} (h:(tk k).kind≠0):((nx k).1:Nat)=k.1+1:=by unfold nx;rw[dif_pos (hf.en k h)]
theorem JW (k:Ix l):k.1≤(nx k).1:=by unfold nx;split <;> simp
end
end Am
namespace Am
set_option maxRecDepth 100000
set_option maxHeartbeats 4000000
mutual
def gk:Stm→Nat
 |⟨_,_,_,_,_,_,_,_,_,_,_,_,_,_,_,_,_,t,e⟩=>eo t+eo e
def eo:List Stm→Nat
 |[]=>0
 |x :: l=>1+gk x+eo l
end
theorem la (s:Stm):gk s=eo s.thn+eo s.els:=by cases s;rw[gk]
theorem qY:∀ l:List Stm,eo l=l.length+(l.map gk).sum
 |[]=>by rw[eo];rfl
 |x :: l=>by rw[eo,qY l];simp only[List.length_cons,List.map_cons,List.sum_cons];omega
theorem uY {α:Type} {f:α→Nat} {l:List α} {j:Nat} {x:α} (h:l[j]? =some x):((l.take (j+1)).map f).sum=((l.take j).map f).sum+f x:=by
 rw[List.take_succ_eq_append_getElem (List.getElem?_eq_some_iff.1 h).1,(List.getElem?_eq_some_iff.1 h).2,List.map_append,List.sum_append];simp
theorem ka (s:Stm):SizeOf.sizeOf s.thn<SizeOf.sizeOf s:=by
 cases s;simp only[Stm.mk.sizeOf_spec];omega
theorem jZ (s:Stm):SizeOf.sizeOf s.els<SizeOf.sizeOf s:=by
 cases s;simp only[Stm.mk.sizeOf_spec];omega
def gV (l:List Stm):Int:=IntKind.i64.wrap (eo l:Int)
theorem zI (a b c:Int):IntKind.i64.wrap (IntKind.i64.wrap a+IntKind.i64.wrap (IntKind.i64.wrap b+IntKind.i64.wrap c))=IntKind.i64.wrap (a+(b+c)):=by
 simp only[IntKind.wrap_i64];omega
theorem r5:∀ (n:Nat) (l:List Stm),SizeOf.sizeOf l<n→Pure Tryz.prog 74 [.c (.lst none 55 (l.map stC))] (.c (sI (gV l)))
 |0,_,h=>absurd h (Nat.not_lt_zero _)
 |n+1,l,h=>by
  have ht:∀ x∈l,Pure Tryz.prog 74 [.c (.lst none 55 (x.thn.map stC))] (.c (sI (gV x.thn))):=fun x hx=>r5 n x.thn (by have:=List.sizeOf_lt_of_mem hx;have:=ka x;omega)
  have he:∀ x∈l,Pure Tryz.prog 74 [.c (.lst none 55 (x.els.map stC))] (.c (sI (gV x.els))):=fun x hx=>r5 n x.els (by have:=List.sizeOf_lt_of_mem hx;have:=jZ x;omega)
  have hq:=qY l
  unfold gV
  rw[hq]
  clear hq
  refine fn1 (fn:=Tryz.f74) Tryz.call74 Tryz.func74 rfl Tryz.ntmps74 Tryz.results74 rfl (by rfl) ?_
  refine AW.fact (t:=0) rfl (fun κ w x hr=>gB hr) fun hn=>?_
  repeat'(first|(with_reducible first|apply AW.seq|apply AW.block|apply AW.ret|apply AW.exit|apply ae|apply aG|apply aT|apply y_e|refine ag ?_)|((with_reducible apply ak);refine t_v AS.v ?_)|((with_reducible refine av ?_);((refine aj (fun hc=>?_) (fun hc=>?_);all_goals(try(exfalso;simp[*] at hc;done)))))|((with_reducible refine aF ?_);refine k_i ?_)|fail)
  refine AW.loop (fun n σ=>∃ j,n=l.length - j∧j≤l.length∧σ=mk [(3,.c (sI (IntKind.i64.wrap ((l.length+((l.take j).map gk).sum:Nat):Int)))),(8,.c (.lst none 55 (l.map stC))),(9,.c (sI (l.map stC).length)),(10,.c (sI j))] []) l.length ?_ ?_
  ·have e:((l.map stC).length:Int)=IntKind.i64.wrap ((l.length+((l.take 0).map gk).sum:Nat):Int):=by
    simp only[List.length_map,List.take_zero,List.map_nil,List.sum_nil,Nat.add_zero]
    rw[wrap64 (by omega) (by omega)]
   rw[e]
   refine⟨_,?_,0,rfl,Nat.zero_le _,rfl⟩
   rw[← e]
   exact wkA
  rintro m σ ⟨j,rfl,hj,rfl⟩
  by_cases hlt:j<l.length
  ·obtain ⟨x,hx⟩:∃ x,l[j]? =some x:=⟨_,List.getElem?_eq_getElem hlt⟩
   have hm:=List.mem_of_getElem? hx
   have hs:=uY (f:=gk) hx
   have hx2:=la x
   have ht:=ht x hm
   have he:=he x hm
   generalize hS:((l.take j).map gk).sum=S at *
   repeat'(first|(with_reducible first|apply AW.seq|apply AW.block|apply AW.skip|apply ae|apply ay|apply y_e|refine ag ?_|refine bh ?_)|((with_reducible apply ak);first|refine t_v AS.v ?_|refine t_v (by first|exact ah (hP:=ht)|exact ah (hP:=he)) ?_|refine t_w AS.w ?_)|((with_reducible apply aX);refine t_s AS.s ?_)|((with_reducible refine av ?_);((refine aj (fun hc=>?_) (fun hc=>?_);all_goals(try(exfalso;simp[*] at hc;done)))))|(refine⟨by decide +kernel,?_⟩)|fail)
   have e:IntKind.i64.wrap (IntKind.i64.wrap ((l.length+S:Nat):Int)+IntKind.i64.wrap (gV x.thn+gV x.els))=IntKind.i64.wrap ((l.length+((l.take (j+1)).map gk).sum:Nat):Int):=by
    unfold gV
    rw[zI,hs];congr 1;omega
   rw[e]
   exact⟨_,_,(show l.length - (j+1)<l.length - j by omega),wkA,j+1,rfl,hlt,rfl⟩
  ·rw[List.take_of_length_le (by omega)]
   repeat'(first|(with_reducible first|apply AW.seq|apply AW.block|apply AW.ret|apply AW.exit|apply ae|apply aG|apply aT|apply y_e|refine ag ?_)|((with_reducible apply ak);refine t_v AS.v ?_)|((with_reducible refine av ?_);((refine aj (fun hc=>?_) (fun hc=>?_);all_goals(try(exfalso;simp[*] at hc;done)))))|((with_reducible refine aF ?_);refine k_i ?_)|fail)
   rfl
theorem E3 (l:List Stm):Pure Tryz.prog 74 [.c (.lst none 55 (l.map stC))] (.c (sI (gV l))):=r5 _ l (Nat.lt_succ_self _)
theorem Dw (m:Mo):Pure Tryz.prog 29 [.agg (moC m)] (.c (sI (gV m.stmts))):=by
 refine fn1 (fn:=Tryz.f29) Tryz.call29 Tryz.func29 rfl Tryz.ntmps29 Tryz.results29 rfl (by rfl) ?_
 repeat'(first|(with_reducible first|apply AW.seq|apply AW.ret|apply ae|apply y_e|refine ag ?_)|((with_reducible apply ak);first|refine t_v AS.v ?_|refine t_v (by exact ah (hP:=E3 _)) ?_|refine t_w AS.w ?_)|((with_reducible refine aF ?_);refine k_i ?_)|fail)
 rfl
mutual
def dpS:Stm→Nat
 |⟨_,_,_,_,_,_,_,_,_,_,_,_,_,_,_,_,_,t,e⟩=>if 0<t.length∨0<e.length then max (1+dpL t) (1+dpL e) else 0
def dpL:List Stm→Nat
 |[]=>0
 |x :: l=>max (dpS x) (dpL l)
end
theorem Ay (s:Stm):dpS s=if 0<s.thn.length∨0<s.els.length then max (1+dpL s.thn) (1+dpL s.els) else 0:=by cases s;rw[dpS]
theorem xw:∀ {l:List Stm} {j:Nat} {x:Stm},l[j]? =some x→dpL (l.take (j+1))=max (dpL (l.take j)) (dpS x)
 |[],j,x,h=>by simp at h
 |y :: l,0,x,h=>by
  obtain rfl:y=x:=by simpa using h
  simp[dpL]
 |y :: l,j+1,x,h=>by
  simp only[List.take_succ_cons,dpL]
  rw[xw (l:=l) (j:=j) (x:=x) (by simpa using h)]
  omega
theorem Gt:∀ (l:List Stm) (j:Nat),dpL (l.take j)≤dpL l
 |[],j=>by simp
 |x :: l,0=>by simp[dpL]
 |x :: l,j+1=>by
  have:=Gt l j
  simp only[List.take_succ_cons,dpL]
  omega
end Am
end Go.Proofs.YtkpodagbefnebaaGreatDoor
