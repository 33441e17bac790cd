import Derived.Test.YtkpodagbefnebaaGreatDoorRows
import Derived.Test.YtkpodagbefnebaaGreatDoorYh1
import Derived.WalkKit
import Derived.WalkSpells
import Derived.WalkLawsBesides
import Derived.Lib.Hide
import Derived.Test.YtkpodagbefnebaaGreatDoorYh7
set_option linter.unusedSimpArgs false
set_option linter.unusedVariables false
set_option linter.unusedSectionVars false
namespace Go.Proofs.YtkpodagbefnebaaGreatDoor.Tk
def jv (c:Int):Bool:=decide (97≤c∧c≤122) || decide (65≤c∧c≤90) || decide (c=95)
def gE (c:Int):Bool:=decide (48≤c∧c≤57)
def Af (c:Int):Bool:=decide (32≤c∧c≤126∧c≠34)
def bi (c:UInt8):Int:=(c.toNat:Int)
def nmB (c:UInt8):Bool:=jv (bi c) || gE (bi c)
def dgB (c:UInt8):Bool:=gE (bi c)
def ptB (c:UInt8):Bool:=Af (bi c)
def fk (l:List UInt8):Bool:=!l.isEmpty&&decide (l.length≤32)&& !dgB (l.getD 0 0)&&l.all nmB
def D0 (l:List UInt8):Bool:=!l.isEmpty&&decide (l.length≤9)&&(decide (l.length≤1) || !decide (bi (l.getD 0 0)=48))&&l.all dgB
def quoB (l:List UInt8):Bool:=decide (l.length≤256)&&l.all ptB
theorem qF {p:UInt8→Bool} (l:List UInt8) (k:Nat) (h:k<l.length):(l.take (k+1)).all p=((l.take k).all p&&p l[k]):=by
 rw[List.take_succ_eq_append_getElem h,List.all_append];simp
theorem rM {p:UInt8→Bool} (l:List UInt8) (k:Nat) (h:k<l.length) (hp:p l[k]=false):l.all p=false:=by
 rw[List.all_eq_false];exact⟨l[k],List.getElem_mem h,by simp[hp]⟩
theorem tU {p:UInt8→Bool} (l:List UInt8) (k:Nat) (h:l.length≤k) (hp:(l.take k).all p=true):l.all p=true:=by
 rwa [List.take_of_length_le h] at hp
theorem sz (s:ByteArray):s.data.toList.length=s.size:=Array.length_toList
theorem at_ (s:ByteArray) (k:Nat) (h:k<s.size):s.data.toList[k]'(by rw[sz];exact h)=s[k]:=rfl
theorem dv {p:UInt8→Bool} (s:ByteArray) (k:Nat) (h:k<s.size) (ha:(s.data.toList.take k).all p=true) (hp:p s[k]=true):(s.data.toList.take (k+1)).all p=true:=by
 rw[qF _ _ (by rw[sz];exact h),ha,at_ s k h,hp];rfl
theorem Bz {p:UInt8→Bool} (s:ByteArray) (k:Nat) (h:k<s.size) (hp:p s[k]=false):s.data.toList.all p=false:=
 rM _ k (by rw[sz];exact h) (by rw[at_ s k h];exact hp)
theorem Bw {p:UInt8→Bool} (s:ByteArray) (k:Nat) (h:s.size≤k) (ha:(s.data.toList.take k).all p=true):s.data.toList.all p=true:=
 tU _ k (by rw[sz];exact h) ha
theorem ph (s:ByteArray) (h:0<s.size):s.data.toList.isEmpty=false:=by
 cases hl:s.data.toList with
 |nil=>have:=sz s;rw[hl] at this;simp at this;omega
 |cons=>rfl
theorem pg (s:ByteArray) (h:¬ 0<s.size):s.data.toList=[]:=by
 cases hl:s.data.toList with
 |nil=>rfl
 |cons=>have:=sz s;rw[hl] at this;simp at this;omega
theorem yM (s:ByteArray) (h:0<s.size):s.data.toList.getD 0 0=s[0]:=by
 rw[List.getD_eq_getElem?_getD,List.getElem?_eq_getElem (by rw[sz];exact h)];rfl
def aft (p:Int×Int) (c:UInt8):Int×Int:=if bi c=10 then(p.1+1,1) else(p.1,p.2+1)
def loc (l:List UInt8) (k:Nat):Int×Int:=(l.take k).foldl aft (1,1)
theorem CI (l:List UInt8):loc l 0=(1,1):=by simp[loc]
theorem uW (l:List UInt8) (k:Nat) (h:k<l.length):loc l (k+1)=aft (loc l k) l[k]:=by
 unfold loc;rw[List.take_succ_eq_append_getElem h,List.foldl_append];rfl
theorem CH (l:List UInt8):∀ k:Nat,1≤(loc l k).1∧(loc l k).1≤k+1∧1≤(loc l k).2∧(loc l k).2≤k+1
 |0=>by rw[CI];simp
 |k+1=>by
  have ih:=CH l k
  rcases Nat.lt_or_ge k l.length with h|h
  ·rw[uW l k h];unfold aft;split <;> simp <;> omega
  ·have:loc l (k+1)=loc l k:=by unfold loc;rw[List.take_of_length_le h,List.take_of_length_le (by omega)]
   rw[this];omega
def tw (p:UInt8→Bool) (l:List UInt8):Nat:=(l.takeWhile p).length
theorem E4 (p:UInt8→Bool) (l:List UInt8):tw p l≤l.length:=(List.takeWhile_sublist p).length_le
theorem oA (p:UInt8→Bool) (c:UInt8) (l:List UInt8):tw p (c :: l)=if p c=true then tw p l+1 else 0:=by
 unfold tw;rw[List.takeWhile_cons];split <;> simp
theorem K4 (p:UInt8→Bool) (l:List UInt8) (k:Nat) (h:k<l.length) (hp:p l[k]=true):tw p (l.drop k)=tw p (l.drop (k+1))+1:=by
 rw[List.drop_eq_getElem_cons h,oA,if_pos hp]
theorem LF (p:UInt8→Bool) (l:List UInt8) (k:Nat) (h:k<l.length) (hp:p l[k]=false):tw p (l.drop k)=0:=by
 rw[List.drop_eq_getElem_cons h,oA,if_neg (by simp[hp])]
theorem K3 (p:UInt8→Bool) (l:List UInt8) (k:Nat) (h:l.length≤k):tw p (l.drop k)=0:=by
 rw[List.drop_of_length_le h];rfl
inductive Res where
 |err (c:Int) (off:Nat)
 |ok (kind:Int) (n:Nat)
def nG (l:List UInt8):Res:=if 32<tw nmB l then .err 10 0 else .ok 1 (tw nmB l)
def vf (l:List UInt8):Res:=if 9<tw dgB l then .err 3 0 else if 1<tw dgB l∧bi (l.getD 0 0)=48 then .err 9 0 else .ok 2 (tw dgB l)
def textR (l:List UInt8):Res:=
 if(l.drop 1).length≤tw ptB (l.drop 1) then .err 5 0
 else if ¬ bi ((l.drop 1).getD (tw ptB (l.drop 1)) 0)=34 then .err 9 (1+tw ptB (l.drop 1))
 else if 256<tw ptB (l.drop 1) then .err 4 0 else .ok 3 (tw ptB (l.drop 1)+2)
def marks2:List (List UInt8):=[[61,61],[33,61],[38,38],[124,124]]
def marks1:List UInt8:=[123,125,40,41,59,58,44,46,45,126,42,33,94]
def eC (l:List UInt8):Nat:=if marks2.contains (l.take 2) then 2 else if(match l with|[]=>false|c :: _=>marks1.contains c) then 1 else 0
def mf (l:List UInt8):Res:=if eC l=0 then .err 9 0 else .ok 4 (eC l)
def fT (l:List UInt8):Res:=
 if jv (bi (l.getD 0 0)) then nG l else if gE (bi (l.getD 0 0)) then vf l else if bi (l.getD 0 0)=34 then textR l else mf l
def skipL:Bool→List UInt8→Nat
 |_,[]=>0
 |c,b :: l=>if bi b=10 then skipL false l+1 else if bi b=35 then skipL true l+1 else if c=true∨bi b=32∨bi b=9 then skipL c l+1 else 0
theorem skipL_le:∀ (c:Bool) (l:List UInt8),skipL c l≤l.length
 |_,[]=>by simp[skipL]
 |c,b :: l=>by
  have h1:=skipL_le false l
  have h2:=skipL_le true l
  have h3:=skipL_le c l
  unfold skipL
  repeat' split
  all_goals simp only[List.length_cons];omega
def kwList:List (List UInt8):=[[109,111,100,117,108,101],
 [99,108,97,115,115],
 [116,121,112,101],
 [97,108,105,97,115],
 [116,121,112,101,97,116,116,114,105,98,117,116,101],
 [97,116,116,114,105,98,117,116,101],
 [114,111,108,101],
 [116,121,112,101,115],
 [114,111,108,101,97,108,108,111,119],
 [114,111,108,101,95,116,114,97,110,115,105,116,105,111,110],
 [117,115,101,114],
 [114,111,108,101,115],
 [108,101,118,101,108],
 [114,97,110,103,101],
 [98,111,111,108],
 [116,114,117,101],
 [102,97,108,115,101],
 [115,101,110,115,105,116,105,118,105,116,121],
 [99,97,116,101,103,111,114,121],
 [97,108,108,111,119],
 [97,117,100,105,116,97,108,108,111,119],
 [100,111,110,116,97,117,100,105,116],
 [110,101,118,101,114,97,108,108,111,119],
 [116,121,112,101,95,116,114,97,110,115,105,116,105,111,110],
 [116,121,112,101,95,99,104,97,110,103,101],
 [116,121,112,101,95,109,101,109,98,101,114],
 [114,97,110,103,101,95,116,114,97,110,115,105,116,105,111,110],
 [99,111,110,115,116,114,97,105,110],
 [118,97,108,105,100,97,116,101,116,114,97,110,115],
 [105,102],
 [101,108,115,101],
 [111,112,116,105,111,110,97,108],
 [114,101,113,117,105,114,101],
 [115,105,100],
 [102,105,108,101,99,111,110],
 [112,101,114,109,105,115,115,105,118,101],
 [97,115,115,101,114,116],
 [115,101,108,102],
 [105,110]]
def kwB (l:List UInt8):Bool:=kwList.contains l
theorem HJ (l:List UInt8) (k:Nat):(l.drop k).drop 1=l.drop (k+1):=by rw[List.drop_drop]
theorem zS (l:List UInt8) (k:Nat) (h:k<l.length):(l.drop k).getD 0 0=l[k]:=by
 rw[List.drop_eq_getElem_cons h];rfl
end Go.Proofs.YtkpodagbefnebaaGreatDoor.Tk
namespace Go.Proofs.YtkpodagbefnebaaGreatDoor
open Go.RowKit Tk
theorem mixed:Tryz.prog.follows .mixedOrders=true:=by kernel_rfl
@[go_sem] theorem I9 (c:UInt8):wrap32 (c.toNat:Int)=(c.toNat:Int):=by
  have:=c.toNat_lt;exact IntWalk.wrap32_in _ ⟨by omega,by omega⟩
@[go_sem] theorem Ia (c:UInt8):wrap64 (c.toNat:Int)=(c.toNat:Int):=by
  have:=c.toNat_lt;exact IntWalk.wrap64_in _ ⟨by omega,by omega⟩
@[go_sem] theorem G6 (c:UInt8):IntKind.i32.wrap (c.toNat:Int)=(c.toNat:Int):=by
  have:=c.toNat_lt;exact IntWalk.i32_in _ ⟨by omega,by omega⟩
@[go_sem] theorem G7 (c:UInt8):IntKind.i64.wrap (c.toNat:Int)=(c.toNat:Int):=by
  have:=c.toNat_lt;exact IntWalk.i64_in _ ⟨by omega,by omega⟩
theorem ik {a b:Bool} (h:a=b):Ending.returned (.bool a)= .returned (.bool b):=by rw[h]
theorem bl (s:ByteArray):s.toList=s.data.toList:=by rw[ByteArray.toList_eq]
theorem H6 {s:ByteArray} (h:0<s.size):¬ s.toList=[]∧s.toList.isEmpty=false:=by
 have:=ph s h
 rw[bl]
 exact⟨fun h'=>(by rw[h'] at this;cases this),this⟩
theorem Gl {s:ByteArray} (h:¬ 0<s.size):s.toList=[]:=by rw[bl];exact pg s h
end Go.Proofs.YtkpodagbefnebaaGreatDoor
namespace Go.Proofs.YtkpodagbefnebaaGreatDoor
open Go.RowKit Tk
set_option maxHeartbeats 400000 in
theorem gS (c:Int) (w:World):Calls Tryz.prog 142 #[.int .i32 c] w fun e w'=>e= .returned (.bool (gE c))∧w=w':=by
 go_enter Tryz.func142,Tryz.ntmps142
 go_wp2
 all_goals(go_ret;exact⟨ik (by simp[gE];omega),rfl⟩)
set_option maxHeartbeats 400000 in
theorem pk (c:Int) (w:World):Calls Tryz.prog 143 #[.int .i32 c] w fun e w'=>e= .returned (.bool (jv c))∧w=w':=by
 go_enter Tryz.func143,Tryz.ntmps143
 go_wp2
 all_goals(go_ret;exact⟨ik (by rw[Bool.eq_iff_iff];simp[jv];omega),rfl⟩)
theorem xj (s:ByteArray) (h:32<s.size):fk s.data.toList=false:=by simp[fk];omega
theorem A4 (s:ByteArray) (h:0<s.size) (hd:dgB s[0]=true):fk s.data.toList=false:=by
 unfold fk;rw[yM s h,hd];simp
theorem A3 (s:ByteArray) (k:Nat) (h:k<s.size) (hk:nmB s[k]=false):fk s.data.toList=false:=by
 unfold fk;rw[Bz s k h hk];simp
theorem CR (s:ByteArray) (k:Nat) (h:0<s.size) (h2:¬ 32<s.size) (hd:dgB s[0]=false) (hk:s.size≤k) (ha:(s.data.toList.take k).all nmB=true):fk s.data.toList=true:=by
 unfold fk;rw[yM s h,hd,Bw s k hk ha,ph s h];simp;omega
set_option maxHeartbeats 400000 in
theorem A5 (s:ByteArray) (hs:s.size≤maxLen) (w:World):Calls Tryz.prog 76 #[.string s] w fun e w'=>e= .returned (.bool (fk s.data.toList))∧w=w':=by
 unfold maxLen at hs
 by_cases h0:0<s.size
 ·obtain ⟨he1,he2⟩:=H6 h0
  by_cases h32:32<s.size
  ·go_enter Tryz.func76,Tryz.ntmps76
   go_wp2_with (((go_at_call 142;((with_reducible refine(gS _ _).mono ?_);rintro e w' ⟨rfl,rfl⟩))))
   go_ret
   exact⟨ik (xj s h32).symm,rfl⟩
  ·by_cases hd:gE (s[0].toNat:Int)=true
   ·go_enter Tryz.func76,Tryz.ntmps76
    go_wp2_with (((go_at_call 142;((with_reducible refine(gS _ _).mono ?_);rintro e w' ⟨rfl,rfl⟩))))
    go_ret
    exact⟨ik (A4 s h0 hd).symm,rfl⟩
   ·have hd2:gE (s[0].toNat:Int)=false:=by simpa using hd
    clear hd
    go_enter Tryz.func76,Tryz.ntmps76
    go_wp2_with (((go_at_call 142;((with_reducible refine(gS _ _).mono ?_);rintro e w' ⟨rfl,rfl⟩))))
    go_loop [20] (fun i=>∃ k:Nat,k≤s.size∧i= .int .i64 k∧Hid ((s.data.toList.take k).all nmB=true)) (fun i=>s.size - (intOf i).toNat)
    case atStart=>exact⟨0,by omega,rfl,by simp[Hid]⟩
    case round=>
     obtain ⟨k,hk,rfl,hall⟩:=hrel
     by_cases hlt:k<s.size
     ·by_cases hn:nmB s[k]=true
      ·have hcase:jv (s[k].toNat:Int)=true∨jv (s[k].toNat:Int)=false∧gE (s[k].toNat:Int)=true:=by
        cases hl:jv (s[k].toNat:Int)
        ·simp[nmB,bi,hl] at hn;exact .inr ⟨rfl,hn⟩
        ·exact .inl rfl
       have HN:=Lib.hid hn
       clear hn
       rcases hcase with hl|⟨hl,hg⟩
       all_goals
        go_wp2_with (first|(go_at_call 142;((with_reducible refine(gS _ _).mono ?_);rintro e w' ⟨rfl,rfl⟩))|(go_at_call 143;((with_reducible refine(pk _ _).mono ?_);rintro e w' ⟨rfl,rfl⟩)))
        go_round
        case rel=>exact⟨k+1,by omega,by go_num,dv s k hlt hall.out HN.out⟩
        case measure=>simp[intOf];omega
      ·have hn2:nmB s[k]=false:=by simpa using hn
       have hl:jv (s[k].toNat:Int)=false:=by simp[nmB,bi] at hn2;exact hn2.1
       have hg:gE (s[k].toNat:Int)=false:=by simp[nmB,bi] at hn2;exact hn2.2
       have HN:=Lib.hid hn2
       clear hn2 hn
       go_wp2_with (first|(go_at_call 142;((with_reducible refine(gS _ _).mono ?_);rintro e w' ⟨rfl,rfl⟩))|(go_at_call 143;((with_reducible refine(pk _ _).mono ?_);rintro e w' ⟨rfl,rfl⟩)))
       go_ret
       exact⟨ik (A3 s k hlt HN.out).symm,rfl⟩
     ·go_wp2
      go_ret
      exact⟨ik (CR s k h0 h32 hd2 (by omega) hall.out).symm,rfl⟩
 ·have he:=Gl h0
  go_enter Tryz.func76,Tryz.ntmps76
  go_wp2_with (((go_at_call 142;((with_reducible refine(gS _ _).mono ?_);rintro e w' ⟨rfl,rfl⟩))))
  go_ret
  exact⟨ik (by rw[pg s h0];rfl),rfl⟩
theorem Ld (s:ByteArray) (h:kwB s.data.toList=true):s.toList=[109,111,100,117,108,101]∨s.toList=[99,108,97,115,115]∨s.toList=[116,121,112,101]∨s.toList=[97,108,105,97,115]∨s.toList=[116,121,112,101,97,116,116,114,105,98,117,116,101]∨s.toList=[97,116,116,114,105,98,117,116,101]∨s.toList=[114,111,108,101]∨s.toList=[116,121,112,101,115]∨s.toList=[114,111,108,101,97,108,108,111,119]∨s.toList=[114,111,108,101,95,116,114,97,110,115,105,116,105,111,110]∨s.toList=[117,115,101,114]∨s.toList=[114,111,108,101,115]∨s.toList=[108,101,118,101,108]∨s.toList=[114,97,110,103,101]∨s.toList=[98,111,111,108]∨s.toList=[116,114,117,101]∨s.toList=[102,97,108,115,101]∨s.toList=[115,101,110,115,105,116,105,118,105,116,121]∨s.toList=[99,97,116,101,103,111,114,121]∨s.toList=[97,108,108,111,119]∨s.toList=[97,117,100,105,116,97,108,108,111,119]∨s.toList=[100,111,110,116,97,117,100,105,116]∨s.toList=[110,101,118,101,114,97,108,108,111,119]∨s.toList=[116,121,112,101,95,116,114,97,110,115,105,116,105,111,110]∨s.toList=[116,121,112,101,95,99,104,97,110,103,101]∨s.toList=[116,121,112,101,95,109,101,109,98,101,114]∨s.toList=[114,97,110,103,101,95,116,114,97,110,115,105,116,105,111,110]∨s.toList=[99,111,110,115,116,114,97,105,110]∨s.toList=[118,97,108,105,100,97,116,101,116,114,97,110,115]∨s.toList=[105,102]∨s.toList=[101,108,115,101]∨s.toList=[111,112,116,105,111,110,97,108]∨s.toList=[114,101,113,117,105,114,101]∨s.toList=[115,105,100]∨s.toList=[102,105,108,101,99,111,110]∨s.toList=[112,101,114,109,105,115,115,105,118,101]∨s.toList=[97,115,115,101,114,116]∨s.toList=[115,101,108,102]∨s.toList=[105,110]:=by
 rw[bl]
 simpa [kwB,kwList] using h
theorem bQ (s:ByteArray) (h:kwB s.data.toList=false) (x:List UInt8) (hx:x∈kwList):(s.toList == x)=false:=by
 rw[bl]
 cases he:s.data.toList == x
 ·rfl
 ·rw[beq_iff_eq] at he
  rw[← he] at hx
  have:kwB s.data.toList=true:=by simpa [kwB] using hx
  rw[this] at h
  cases h
set_option maxHeartbeats 2000000 in
theorem tz (s:ByteArray) (w:World):Calls Tryz.prog 32 #[.string s] w fun e w'=>e= .returned (.bool (kwB s.data.toList))∧w=w':=by
 cases hk:kwB s.data.toList
 ·have h0:=bQ s hk [109,111,100,117,108,101] (by decide +kernel)
  have h1:=bQ s hk [99,108,97,115,115] (by decide +kernel)
  have h2:=bQ s hk [116,121,112,101] (by decide +kernel)
  have h3:=bQ s hk [97,108,105,97,115] (by decide +kernel)
  have h4:=bQ s hk [116,121,112,101,97,116,116,114,105,98,117,116,101] (by decide +kernel)
  have h5:=bQ s hk [97,116,116,114,105,98,117,116,101] (by decide +kernel)
  have h6:=bQ s hk [114,111,108,101] (by decide +kernel)
  have h7:=bQ s hk [116,121,112,101,115] (by decide +kernel)
  have h8:=bQ s hk [114,111,108,101,97,108,108,111,119] (by decide +kernel)
  have h9:=bQ s hk [114,111,108,101,95,116,114,97,110,115,105,116,105,111,110] (by decide +kernel)
  have h10:=bQ s hk [117,115,101,114] (by decide +kernel)
  have h11:=bQ s hk [114,111,108,101,115] (by decide +kernel)
  have h12:=bQ s hk [108,101,118,101,108] (by decide +kernel)
  have h13:=bQ s hk [114,97,110,103,101] (by decide +kernel)
  have h14:=bQ s hk [98,111,111,108] (by decide +kernel)
  have h15:=bQ s hk [116,114,117,101] (by decide +kernel)
  have h16:=bQ s hk [102,97,108,115,101] (by decide +kernel)
  have h17:=bQ s hk [115,101,110,115,105,116,105,118,105,116,121] (by decide +kernel)
  have h18:=bQ s hk [99,97,116,101,103,111,114,121] (by decide +kernel)
  have h19:=bQ s hk [97,108,108,111,119] (by decide +kernel)
  have h20:=bQ s hk [97,117,100,105,116,97,108,108,111,119] (by decide +kernel)
  have h21:=bQ s hk [100,111,110,116,97,117,100,105,116] (by decide +kernel)
  have h22:=bQ s hk [110,101,118,101,114,97,108,108,111,119] (by decide +kernel)
  have h23:=bQ s hk [116,121,112,101,95,116,114,97,110,115,105,116,105,111,110] (by decide +kernel)
  have h24:=bQ s hk [116,121,112,101,95,99,104,97,110,103,101] (by decide +kernel)
  have h25:=bQ s hk [116,121,112,101,95,109,101,109,98,101,114] (by decide +kernel)
  have h26:=bQ s hk [114,97,110,103,101,95,116,114,97,110,115,105,116,105,111,110] (by decide +kernel)
  have h27:=bQ s hk [99,111,110,115,116,114,97,105,110] (by decide +kernel)
  have h28:=bQ s hk [118,97,108,105,100,97,116,101,116,114,97,110,115] (by decide +kernel)
  have h29:=bQ s hk [105,102] (by decide +kernel)
  have h30:=bQ s hk [101,108,115,101] (by decide +kernel)
  have h31:=bQ s hk [111,112,116,105,111,110,97,108] (by decide +kernel)
  have h32:=bQ s hk [114,101,113,117,105,114,101] (by decide +kernel)
  have h33:=bQ s hk [115,105,100] (by decide +kernel)
  have h34:=bQ s hk [102,105,108,101,99,111,110] (by decide +kernel)
  have h35:=bQ s hk [112,101,114,109,105,115,115,105,118,101] (by decide +kernel)
  have h36:=bQ s hk [97,115,115,101,114,116] (by decide +kernel)
  have h37:=bQ s hk [115,101,108,102] (by decide +kernel)
  have h38:=bQ s hk [105,110] (by decide +kernel)
  clear hk
  go_enter Tryz.func32,Tryz.ntmps32
  go_wp2_with fail
  go_ret
  exact⟨rfl,rfl⟩
 ·rcases Ld s hk with h|h|h|h|h|h|h|h|h|h|h|h|h|h|h|h|h|h|h|h|h|h|h|h|h|h|h|h|h|h|h|h|h|h|h|h|h|h|h
  all_goals
   clear hk
   go_enter Tryz.func32,Tryz.ntmps32
   go_wp2_with fail
   go_ret
   exact⟨rfl,rfl⟩
set_option maxHeartbeats 400000 in
theorem nW (s:ByteArray) (hs:s.size≤maxLen) (w:World):Calls Tryz.prog 31 #[.string s] w fun e w'=>e= .returned (.bool (fk s.data.toList&& !kwB s.data.toList))∧w=w':=by
 cases hn:fk s.data.toList
 all_goals
  go_enter Tryz.func31,Tryz.ntmps31
  go_wp2_with (first|(go_at_call 76;((with_reducible refine(A5 _ (by assumption) _).mono ?_);rintro e w' ⟨rfl,rfl⟩))|(go_at_call 32;((with_reducible refine(tz _ _).mono ?_);rintro e w' ⟨rfl,rfl⟩)))
  go_ret
  exact⟨rfl,rfl⟩
end Go.Proofs.YtkpodagbefnebaaGreatDoor
namespace Go.Proofs.YtkpodagbefnebaaGreatDoor
namespace Am
open Tk
set_option maxRecDepth 100000
def idB (s:ByteArray):Bool:=fk s.data.toList&& !kwB s.data.toList
theorem dM (s:ByteArray):Pure Tryz.prog 31 [.c (sS s)] (.c (sB (idB s))):=
 Pure.of_calls (vs:=[.string s]) Tryz.call31 (.sc rfl) fun hs w=>nW s (of_decide_eq_true (hs _ (.head _))) w
section
variable {α:Type} {l:List α} {p:α→Bool} {j:Nat} {x:α}
theorem dv (hx:l[j]? =some x) (ha:(l.take j).all p=true) (hp:p x=true):(l.take (j+1)).all p=true:=by
 rw[List.take_add_one,hx,List.all_append,ha];simp[hp]
theorem fF (hx:l[j]? =some x) (hp:p x=false):l.all p=false:=by
 rw[Bool.eq_false_iff];intro h
 have:=List.all_eq_true.1 h x (List.mem_of_getElem? hx)
 rw[hp] at this;cases this
theorem fD (ha:(l.take j).all p=true) (hj:l.length≤j):l.all p=true:=by rwa [List.take_of_length_le hj] at ha
end
theorem js {l:List ByteArray} {p:ByteArray→Bool} {f:Nat} (h:∀ s∈l,Pure Tryz.prog f [.c (sS s)] (.c (sB (p s)))):Pure Tryz.prog 219 [.c (bA l),.c (.fn f [])] (.c (sB (l.all p))):=by
 refine fn2 (fn:=Tryz.f219) Tryz.call219 Tryz.func219 rfl Tryz.ntmps219 Tryz.results219 rfl (by rfl) ?_
 refine AW.fact (t:=0) rfl (fun κ w x hr=>dq hr) fun hn=>?_
 repeat'(first|(with_reducible first|apply AW.seq|apply AW.block|apply ae|apply y_e|refine ah ?_)|((with_reducible apply ak);refine t_v AS.v ?_)|fail)
 refine AW.loop (fun n σ=>∃ j,n=l.length - j∧j≤l.length∧(l.take j).all p=true∧σ=mk [(1,.c (.fn f [])),(7,.c (.lst none 1 (l.map oneS))),(8,.c (sI (l.map oneS).length)),(9,.c (sI j))] []) l.length ?_ ?_
 ·exact⟨_,wkA,0,rfl,Nat.zero_le _,rfl,rfl⟩
 rintro n σ ⟨j,rfl,hj,ha,rfl⟩
 by_cases hlt:j<l.length
 ·obtain ⟨x,hx⟩:∃ x,l[j]? =some x:=⟨_,List.getElem?_eq_getElem hlt⟩
  have hp:=h x (List.mem_of_getElem? hx)
  repeat'(first|(with_reducible first|apply AW.seq|apply AW.block|apply AW.skip|apply AW.ret|apply ae|apply aq|apply aw|apply aG|apply y_e|refine ah ?_)|((with_reducible apply ak);first|refine t_v AS.v ?_|refine t_v (by exact ag (hP:=hp)) ?_)|((with_reducible refine au ?_);((refine aj (fun hc=>?_) (fun hc=>?_);all_goals(try(exfalso;simp[*] at hc;done)))))|((with_reducible refine aA ?_);refine k_b ?_)|fail)
  ·rw[fF hx (by simpa using hc)]
  ·exact⟨_,_,(show l.length - (j+1)<l.length - j by omega),wkA,j+1,rfl,hlt,dv hx ha (by simpa using hc),rfl⟩
 ·repeat'(first|(with_reducible first|apply AW.seq|apply AW.ret|apply AW.exit|apply ae|apply aJ|apply aW|apply y_e|refine ah ?_)|((with_reducible apply ak);refine t_v AS.v ?_)|((with_reducible refine au ?_);((refine aj (fun hc=>?_) (fun hc=>?_);all_goals(try(exfalso;simp[*] at hc;done)))))|((with_reducible refine aA ?_);refine k_b ?_)|fail)
  rw[fD ha (by omega)]
theorem wi {l:List Sp} {p:Sp→Bool} {f:Nat} (h:∀ s∈l,Pure Tryz.prog f [.agg (spC s)] (.c (sB (p s)))):Pure Tryz.prog 304 [.c (.lst none 2 (l.map spC)),.c (.fn f [])] (.c (sB (l.all p))):=by
 refine fn2 (fn:=Tryz.f304) Tryz.call304 Tryz.func304 rfl Tryz.ntmps304 Tryz.results304 rfl (by rfl) ?_
 refine AW.fact (t:=0) rfl (fun κ w x hr=>dq hr) fun hn=>?_
 repeat'(first|(with_reducible first|apply AW.seq|apply AW.block|apply ae|apply y_e|refine ah ?_)|((with_reducible apply ak);refine t_v AS.v ?_)|fail)
 refine AW.loop (fun n σ=>∃ j,n=l.length - j∧j≤l.length∧(l.take j).all p=true∧σ=mk [(1,.c (.fn f [])),(7,.c (.lst none 2 (l.map spC))),(8,.c (sI (l.map spC).length)),(9,.c (sI j))] []) l.length ?_ ?_
 ·exact⟨_,wkA,0,rfl,Nat.zero_le _,rfl,rfl⟩
 rintro n σ ⟨j,rfl,hj,ha,rfl⟩
 by_cases hlt:j<l.length
 ·obtain ⟨x,hx⟩:∃ x,l[j]? =some x:=⟨_,List.getElem?_eq_getElem hlt⟩
  have hp:=h x (List.mem_of_getElem? hx)
  repeat'(first|(with_reducible first|apply AW.seq|apply AW.block|apply AW.skip|apply AW.ret|apply ae|apply aq|apply aw|apply aG|apply y_e|refine ah ?_)|((with_reducible apply ak);first|refine t_v AS.v ?_|refine t_v (by exact ag (hP:=hp)) ?_|refine t_w AS.w ?_)|((with_reducible apply aV);refine t_s AS.s ?_)|((with_reducible refine au ?_);((refine aj (fun hc=>?_) (fun hc=>?_);all_goals(try(exfalso;simp[*] at hc;done)))))|((with_reducible refine aA ?_);refine k_b ?_)|fail)
  ·rw[fF hx (by simpa using hc)]
  ·exact⟨_,_,(show l.length - (j+1)<l.length - j by omega),wkA,j+1,rfl,hlt,dv hx ha (by simpa using hc),rfl⟩
 ·repeat'(first|(with_reducible first|apply AW.seq|apply AW.ret|apply AW.exit|apply ae|apply aJ|apply aW|apply y_e|refine ah ?_)|((with_reducible apply ak);refine t_v AS.v ?_)|((with_reducible refine au ?_);((refine aj (fun hc=>?_) (fun hc=>?_);all_goals(try(exfalso;simp[*] at hc;done)))))|((with_reducible refine aA ?_);refine k_b ?_)|fail)
  rw[fD ha (by omega)]
def iN (l:Lv):Bool:=decide (l.sens=⟨#[]⟩)&&decide (l.cats.length=0)
theorem rT (l:Lv):Pure Tryz.prog 306 [.agg (lvC l)] (.c (sB (iN l))):=by
 refine fn1 (fn:=Tryz.f306) Tryz.call306 Tryz.func306 rfl Tryz.ntmps306 Tryz.results306 rfl (by rfl) ?_
 repeat'(first|(with_reducible first|apply AW.seq|apply AW.ret|apply ae|apply y_e|refine ah ?_)|((with_reducible apply ak);first|refine t_v AS.v ?_|refine t_w AS.w ?_)|((with_reducible apply bc);refine t_m (hs:=fun hg=>AS.v) (k:=?_))|((with_reducible refine aA ?_);refine k_b ?_)|fail)
 simp[iN]
def kX (l:List ByteArray):Bool:=decide (0<l.length)&&l.all idB
theorem tu (l:List ByteArray):Pure Tryz.prog 227 [.c (bA l)] (.c (sB (kX l))):=by
 refine fn1 (fn:=Tryz.f227) Tryz.call227 Tryz.func227 rfl Tryz.ntmps227 Tryz.results227 rfl (by rfl) ?_
 repeat'(first|(with_reducible first|apply AW.seq|apply AW.ret|apply ae|apply y_e|refine ah ?_)|((with_reducible apply ak);refine t_v AS.v ?_)|((with_reducible apply bc);first|refine t_m (hs:=fun hg=>AS.v) (k:=?_)|refine t_m (hs:=fun hg=>(by exact ag (hP:=js fun s _=>dM s))) (k:=?_))|((with_reducible refine aA ?_);refine k_b ?_)|fail)
 simp[kX]
def av (n:NS) (self:Bool):Bool:=!(n.self&& !self)&&((n.all || n.self || decide (0<n.names.length) || decide (0<n.except.length))&&n.names.all idB&&n.except.all idB)
theorem jy (n:NS) (self:Bool):Pure Tryz.prog 163 [.agg (nsC n),.c (sB self)] (.c (sB (av n self))):=by
 refine fn2 (fn:=Tryz.f163) Tryz.call163 Tryz.func163 rfl Tryz.ntmps163 Tryz.results163 rfl (by rfl) ?_
 repeat'(first|(with_reducible first|apply AW.seq|apply AW.skip|apply AW.ret|apply ae|apply aq|apply y_e|refine ah ?_)|((with_reducible apply ak);first|refine t_v AS.v ?_|refine t_w AS.w ?_)|((with_reducible apply bc);first|refine t_m (hs:=fun hg=>AS.v) (k:=?_)|refine t_m (hs:=fun hg=>(by exact ag (hP:=js fun s _=>dM s))) (k:=?_))|((with_reducible refine au ?_);((refine aj (fun hc=>?_) (fun hc=>?_))))|((with_reducible refine aA ?_);refine k_b ?_)|fail)
 ·simp_all[av]
 ·revert hc
  simp[av]
  cases n.self <;> cases self <;> simp
def spB (s:Sp):Bool:=idB s.frm&&(decide (s.to=⟨#[]⟩) || idB s.to)
theorem xf (s:Sp):Pure Tryz.prog 305 [.agg (spC s)] (.c (sB (spB s))):=by
 refine fn1 (fn:=Tryz.f305) Tryz.call305 Tryz.func305 rfl Tryz.ntmps305 Tryz.results305 rfl (by rfl) ?_
 repeat'(first|(with_reducible first|apply AW.seq|apply AW.ret|apply ae|apply y_e|refine ah ?_)|((with_reducible apply ak);first|refine t_v AS.v ?_|refine t_v (by exact ag (hP:=dM _)) ?_|refine t_w AS.w ?_)|((with_reducible apply bc);first|refine t_m (hs:=fun hg=>AS.v) (k:=?_)|refine t_m (hs:=fun hg=>(by exact ag (hP:=dM _))) (k:=?_))|((with_reducible refine aA ?_);refine k_b ?_)|fail)
 simp[spB]
def lvB (l:Lv):Bool:=idB l.sens&&l.cats.all spB
theorem mV (l:Lv):Pure Tryz.prog 229 [.agg (lvC l)] (.c (sB (lvB l))):=by
 refine fn1 (fn:=Tryz.f229) Tryz.call229 Tryz.func229 rfl Tryz.ntmps229 Tryz.results229 rfl (by rfl) ?_
 repeat'(first|(with_reducible first|apply AW.seq|apply AW.ret|apply ae|apply y_e|refine ah ?_)|((with_reducible apply ak);first|refine t_v AS.v ?_|refine t_v (by exact ag (hP:=dM _)) ?_|refine t_w AS.w ?_)|((with_reducible apply bc);first|refine t_m (hs:=fun hg=>AS.v) (k:=?_)|refine t_m (hs:=fun hg=>(by exact ag (hP:=wi fun s _=>xf s))) (k:=?_))|((with_reducible refine aA ?_);refine k_b ?_)|fail)
 simp[lvB]
def rgB (r:Rg):Bool:=lvB r.lo&&(iN r.hi || lvB r.hi)
theorem pV (r:Rg):Pure Tryz.prog 230 [.agg (rgC r)] (.c (sB (rgB r))):=by
 refine fn1 (fn:=Tryz.f230) Tryz.call230 Tryz.func230 rfl Tryz.ntmps230 Tryz.results230 rfl (by rfl) ?_
 repeat'(first|(with_reducible first|apply AW.seq|apply AW.ret|apply ae|apply y_e|refine ah ?_)|((with_reducible apply ak);first|refine t_v AS.v ?_|refine t_v (by exact ag (hP:=mV _)) ?_|refine t_w AS.w ?_)|((with_reducible apply bc);first|refine t_m (hs:=fun hg=>AS.v) (k:=?_)|refine t_m (hs:=fun hg=>(by first|exact ag (hP:=mV _)|exact ag (hP:=rT _))) (k:=?_))|((with_reducible refine aA ?_);refine k_b ?_)|fail)
 simp[rgB]
def cxB (c:Ct):Bool:=idB c.user&&idB c.role&&idB c.type&&rgB c.rng
theorem rY (c:Ct):Pure Tryz.prog 234 [.agg (cxC c)] (.c (sB (cxB c))):=by
 refine fn1 (fn:=Tryz.f234) Tryz.call234 Tryz.func234 rfl Tryz.ntmps234 Tryz.results234 rfl (by rfl) ?_
 repeat'(first|(with_reducible first|apply AW.seq|apply AW.ret|apply ae|apply y_e|refine ah ?_)|((with_reducible apply ak);first|refine t_v AS.v ?_|refine t_v (by exact ag (hP:=dM _)) ?_|refine t_w AS.w ?_)|((with_reducible apply bc);first|refine t_m (hs:=fun hg=>AS.v) (k:=?_)|refine t_m (hs:=fun hg=>(by first|exact ag (hP:=dM _)|exact ag (hP:=pV _))) (k:=?_))|((with_reducible refine aA ?_);refine k_b ?_)|fail)
 simp[cxB]
end Am
namespace Am
set_option maxRecDepth 100000
section
variable {α:Type} {l m:List α} {x y:α} {j:Nat}
theorem lV (h:l.take j=m.take j) (hx:l[j]? =some x) (hy:m[j]? =some y) (e:x=y):l.take (j+1)=m.take (j+1):=by rw[List.take_add_one,List.take_add_one,h,hx,hy,e]
theorem s9 (hx:l[j]? =some x) (hy:m[j]? =some y) (e:x≠y):l≠m:=fun h=>by subst h;rw[hx] at hy;injection hy with hy;exact e hy
theorem om (h:l.take j=m.take j) (h1:l.length≤j) (h2:l.length=m.length):l=m:=by rwa [List.take_of_length_le h1,List.take_of_length_le (by omega)] at h
end
theorem s8 (l m:List ByteArray):Pure Tryz.prog 236 [.c (bA l),.c (bA m)] (.c (sB (decide (l=m)))):=by
 refine fn2 (fn:=Tryz.f236) Tryz.call236 Tryz.func236 rfl Tryz.ntmps236 Tryz.results236 rfl (by rfl) ?_
 refine AW.fact (t:=0) rfl (fun κ w x hr=>dq hr) fun hn=>?_
 repeat'(first|(with_reducible first|apply AW.seq|apply AW.block|apply AW.skip|apply AW.ret|apply ae|apply aq|apply aw|apply aG|apply y_e|refine ah ?_|refine bb ?_)|((with_reducible apply ak);refine t_v AS.v ?_)|((with_reducible refine au ?_);((refine aj (fun hc=>?_) (fun hc=>?_);all_goals(try(exfalso;revert hc;simp;omega)))))|((with_reducible refine aA ?_);refine k_b ?_)|(refine⟨by decide +kernel,?_⟩)|fail)
 ·rw[eq_comm,decide_eq_false_iff_not]
  rintro rfl
  simp at hc
 have hlen:l.length=m.length:=by
  have:(l.length:Int)=m.length:=by simpa using hc
  omega
 refine AW.loop (fun n σ=>∃ j,n=l.length - j∧j≤l.length∧l.take j=m.take j∧σ=mk [(0,.c (bA l)),(1,.c (bA m)),(12,.c (sI l.length)),(13,.c (sI j))] []) l.length ?_ ?_
 ·refine⟨_,?_,0,rfl,Nat.zero_le _,rfl,rfl⟩
  rw[List.length_map]
  exact wkA
 rintro n σ ⟨j,rfl,hj,ha,rfl⟩
 by_cases hlt:j<l.length
 ·obtain ⟨x,hx⟩:∃ x,l[j]? =some x:=⟨_,List.getElem?_eq_getElem hlt⟩
  obtain ⟨y,hy⟩:∃ y,m[j]? =some y:=⟨_,List.getElem?_eq_getElem (by omega)⟩
  repeat'(first|(with_reducible first|apply AW.seq|apply AW.block|apply AW.skip|apply AW.ret|apply ae|apply aq|apply aw|apply aG|apply y_e|refine ah ?_|refine bb ?_)|((with_reducible apply ak);refine t_v AS.v ?_)|((with_reducible refine au ?_);((refine aj (fun hc=>?_) (fun hc=>?_);all_goals(try(exfalso;revert hc;simp;omega)))))|((with_reducible refine aA ?_);refine k_b ?_)|(refine⟨by decide +kernel,?_⟩)|fail)
  ·rw[eq_comm,decide_eq_false_iff_not]
   exact s9 hx hy (by simpa using hc)
  ·exact⟨_,_,(show l.length - (j+1)<l.length - j by omega),wkA,j+1,rfl,hlt,lV ha hx hy (by simpa using hc),rfl⟩
 ·repeat'(first|(with_reducible first|apply AW.seq|apply AW.ret|apply AW.exit|apply ae|apply aJ|apply aW|apply y_e|refine ah ?_)|((with_reducible apply ak);refine t_v AS.v ?_)|((with_reducible refine au ?_);((refine aj (fun hc=>?_) (fun hc=>?_);all_goals(try(exfalso;revert hc;simp;omega)))))|((with_reducible refine aA ?_);refine k_b ?_)|fail)
  exact(decide_eq_true (om ha (by omega) hlen)).symm
theorem BW (l m:List Sp):Pure Tryz.prog 310 [.c (.lst none 2 (l.map spC)),.c (.lst none 2 (m.map spC))] (.c (sB (decide (l=m)))):=by
 refine fn2 (fn:=Tryz.f310) Tryz.call310 Tryz.func310 rfl Tryz.ntmps310 Tryz.results310 rfl (by rfl) ?_
 refine AW.fact (t:=0) rfl (fun κ w x hr=>dq hr) fun hn=>?_
 repeat'(first|(with_reducible first|apply AW.seq|apply AW.block|apply AW.skip|apply AW.ret|apply ae|apply aq|apply aw|apply aG|apply y_e|refine ah ?_|refine bb ?_)|((with_reducible apply ak);refine t_v AS.v ?_)|((with_reducible refine au ?_);((refine aj (fun hc=>?_) (fun hc=>?_);all_goals(try(exfalso;revert hc;simp;omega)))))|((with_reducible refine aA ?_);refine k_b ?_)|(refine⟨by decide +kernel,?_⟩)|fail)
 ·rw[eq_comm,decide_eq_false_iff_not]
  rintro rfl
  simp at hc
 have hlen:l.length=m.length:=by
  have:(l.length:Int)=m.length:=by simpa using hc
  omega
 refine AW.loop (fun n σ=>∃ j,n=l.length - j∧j≤l.length∧l.take j=m.take j∧σ=mk [(0,.c (.lst none 2 (l.map spC))),(1,.c (.lst none 2 (m.map spC))),(12,.c (sI l.length)),(13,.c (sI j))] []) l.length ?_ ?_
 ·refine⟨_,?_,0,rfl,Nat.zero_le _,rfl,rfl⟩
  rw[List.length_map]
  exact wkA
 rintro n σ ⟨j,rfl,hj,ha,rfl⟩
 by_cases hlt:j<l.length
 ·obtain ⟨x,hx⟩:∃ x,l[j]? =some x:=⟨_,List.getElem?_eq_getElem hlt⟩
  obtain ⟨y,hy⟩:∃ y,m[j]? =some y:=⟨_,List.getElem?_eq_getElem (by omega)⟩
  repeat'(first|(with_reducible first|apply AW.seq|apply AW.block|apply AW.skip|apply AW.ret|apply ae|apply aq|apply aw|apply aG|apply y_e|refine ah ?_|refine bb ?_)|((with_reducible apply ak);refine t_v AS.v ?_)|((with_reducible refine au ?_);((refine aj (fun hc=>?_) (fun hc=>?_);all_goals(try(exfalso;revert hc;simp;omega)))))|((with_reducible refine aA ?_);refine k_b ?_)|(refine⟨by decide +kernel,?_⟩)|fail)
  ·rw[eq_comm,decide_eq_false_iff_not]
   exact s9 hx hy (by simpa using hc)
  ·exact⟨_,_,(show l.length - (j+1)<l.length - j by omega),wkA,j+1,rfl,hlt,lV ha hx hy (by simpa using hc),rfl⟩
 ·repeat'(first|(with_reducible first|apply AW.seq|apply AW.ret|apply AW.exit|apply ae|apply aJ|apply aW|apply y_e|refine ah ?_)|((with_reducible apply ak);refine t_v AS.v ?_)|((with_reducible refine au ?_);((refine aj (fun hc=>?_) (fun hc=>?_);all_goals(try(exfalso;revert hc;simp;omega)))))|((with_reducible refine aA ?_);refine k_b ?_)|fail)
  exact(decide_eq_true (om ha (by omega) hlen)).symm
def cu (a b:NS):Bool:=(a.all == b.all)&&(a.nt == b.nt)&&(a.self == b.self)&&decide (a.names=b.names)&&decide (a.except=b.except)
theorem vv (a b:NS):Pure Tryz.prog 237 [.agg (nsC a),.agg (nsC b)] (.c (sB (cu a b))):=by
 refine fn2 (fn:=Tryz.f237) Tryz.call237 Tryz.func237 rfl Tryz.ntmps237 Tryz.results237 rfl (by rfl) ?_
 repeat'(first|(with_reducible first|apply AW.seq|apply AW.ret|apply ae|apply y_e|refine ah ?_)|((with_reducible apply ak);first|refine t_v AS.v ?_|refine t_w AS.w ?_)|((with_reducible apply bc);first|refine t_m (hs:=fun hg=>AS.v) (k:=?_)|refine t_m (hs:=fun hg=>(by exact ag (hP:=s8 _ _))) (k:=?_))|((with_reducible refine aA ?_);refine k_b ?_)|fail)
 simp[cu]
theorem AU (a:NS):Pure Tryz.prog 228 [.agg (nsC a)] (.c (sB (cu a NS.zero))):=by
 refine fn1 (fn:=Tryz.f228) Tryz.call228 Tryz.func228 rfl Tryz.ntmps228 Tryz.results228 rfl (by rfl) ?_
 repeat'(first|(with_reducible first|apply AW.seq|apply AW.ret|apply ae|apply y_e|refine ah ?_)|((with_reducible apply ak);first|refine t_v AS.v ?_|refine t_v (by exact ag (hP:=vv _ _)) ?_|refine t_w AS.w ?_)|((with_reducible refine aA ?_);refine k_b ?_)|fail)
 rfl
def dB (a b:Lv):Bool:=decide (a.sens=b.sens)&&decide (a.cats=b.cats)
theorem pX (a b:Lv):Pure Tryz.prog 239 [.agg (lvC a),.agg (lvC b)] (.c (sB (dB a b))):=by
 refine fn2 (fn:=Tryz.f239) Tryz.call239 Tryz.func239 rfl Tryz.ntmps239 Tryz.results239 rfl (by rfl) ?_
 repeat'(first|(with_reducible first|apply AW.seq|apply AW.ret|apply ae|apply y_e|refine ah ?_)|((with_reducible apply ak);first|refine t_v AS.v ?_|refine t_w AS.w ?_)|((with_reducible apply bc);first|refine t_m (hs:=fun hg=>AS.v) (k:=?_)|refine t_m (hs:=fun hg=>(by exact ag (hP:=BW _ _))) (k:=?_))|((with_reducible refine aA ?_);refine k_b ?_)|fail)
 simp[dB]
def dR (a b:Rg):Bool:=dB a.lo b.lo&&dB a.hi b.hi
theorem DB (a b:Rg):Pure Tryz.prog 240 [.agg (rgC a),.agg (rgC b)] (.c (sB (dR a b))):=by
 refine fn2 (fn:=Tryz.f240) Tryz.call240 Tryz.func240 rfl Tryz.ntmps240 Tryz.results240 rfl (by rfl) ?_
 repeat'(first|(with_reducible first|apply AW.seq|apply AW.ret|apply ae|apply y_e|refine ah ?_)|((with_reducible apply ak);first|refine t_v AS.v ?_|refine t_v (by exact ag (hP:=pX _ _)) ?_|refine t_w AS.w ?_)|((with_reducible apply bc);first|refine t_m (hs:=fun hg=>AS.v) (k:=?_)|refine t_m (hs:=fun hg=>(by exact ag (hP:=pX _ _))) (k:=?_))|((with_reducible refine aA ?_);refine k_b ?_)|fail)
 simp[dR]
theorem Ln (n m:Int):Pure Tryz.prog 231 [.c (sI n),.c (sI m)] (.c (sB (decide (1≤n)&&decide (n≤m)))):=by
 refine fn2 (fn:=Tryz.f231) Tryz.call231 Tryz.func231 rfl Tryz.ntmps231 Tryz.results231 rfl (by rfl) ?_
 repeat'(first|(with_reducible first|apply AW.seq|apply AW.ret|apply ae|apply y_e|refine ah ?_)|((with_reducible apply ak);refine t_v AS.v ?_)|((with_reducible apply bc);refine t_m (hs:=fun hg=>AS.v) (k:=?_))|((with_reducible refine aA ?_);refine k_b ?_)|fail)
 rfl
end Am
end Go.Proofs.YtkpodagbefnebaaGreatDoor
