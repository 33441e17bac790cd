import Derived.Test.YtkpodagbefnebaaGreatDoorYh5
import Derived.Test.YtkpodagbefnebaaGreatDoorYh1
import Derived.Test.YtkpodagbefnebaaGreatDoorYh8
import Derived.Lib.Builder
import Derived.Laws.Externs
import Derived.Maps.AppendAt
import Derived.Lib.AppendStr
import Derived.Lib.UnsafeStr
import Derived.Shelf.RegionOpenPlain
import Derived.Test.YtkpodagbefnebaaGreatDoorYh10
import Derived.Test.YtkpodagbefnebaaGreatDoorSi
set_option linter.unusedSimpArgs false
set_option linter.unusedVariables false
set_option linter.unusedSectionVars false
namespace Go.Proofs.YtkpodagbefnebaaGreatDoor
open Go.RowKit Tk
theorem yr:(Tryz.prog.info? 119).map (·.size)=some 2:=by kernel_rfl
theorem Fq:liesAt Tryz.prog Tryz.prog.depth 121 (2 / Tryz.prog.cellsOf 121) 0 119 1=true:=by kernel_rfl
theorem wu:Tryz.prog.underlying 116=some (.pointer 119):=by kernel_rfl
theorem HE:Tryz.prog.underlying 241=some .unsafePointer:=by kernel_rfl
theorem ug:Tryz.prog.underlying 117=some (.slice 5):=by kernel_rfl
theorem IP:Tryz.prog.underlying 9=some .string:=by kernel_rfl
theorem r4:(Tryz.prog.info? 5).map (fun i=>(i.zero,i.size,i.bytes))=some (some (.int .u8 0),1,1):=by kernel_rfl
set_option maxHeartbeats 1000000 in
set_option maxRecDepth 100000 in
theorem oW (b:Nat) (w:World) (h0:w.cell? ⟨b,0,none⟩=some (.pointer (some ⟨b,0,none⟩))) :
 Calls Tryz.prog 225 #[.pointer (some ⟨b,0,none⟩)] w fun e w'=>e= .returned (.tuple #[])∧w=w':=by
 obtain ⟨j,hj,_⟩:=Option.map_eq_some_iff.1 yr
 have hne:=Lib.run_neq_ptr_same w ⟨b,0,none⟩ wu hj
 go_enter Tryz.func225,Tryz.ntmps225
 go_wp2
 go_end0
 exact⟨rfl,rfl⟩
set_option maxHeartbeats 1000000 in
set_option maxRecDepth 100000 in
theorem nS (b:Nat) (w:World) (h0:w.cell? ⟨b,0,none⟩=some (.pointer none)) (hsh:w.shape? b=some (121,2)) (hfz:w.frozen? ⟨b,0,none⟩=false) :
 Calls Tryz.prog 225 #[.pointer (some ⟨b,0,none⟩)] w fun e w'=>e= .returned (.tuple #[])∧w.setCell ⟨b,0,none⟩ (.pointer (some ⟨b,0,none⟩))=w':=by
 obtain ⟨j,hj,hjs⟩:=Option.map_eq_some_iff.1 yr
 go_enter Tryz.func225,Tryz.ntmps225
 go_wp2
 rw[Lib.run_to_unsafe w ⟨b,0,none⟩ wu HE hj (by rw[hjs];decide) hsh (Nat.zero_lt_succ 1)]
 simp only[Result.andThen]
 rw[Oper.upon_value]
 go_wp2
 rw[run_callFunc_extern Tryz.func299 (by kernel_rfl) (by kernel_rfl) (by kernel_rfl) (e:=Extern.AbiNoEscape.same) (by kernel_rfl)]
 rw[Lib.run_noEscape]
 simp only[Result.andThen]
 rw[Oper.upon_value]
 go_wp2
 rw[Lib.run_from_unsafe w ⟨b,0,none⟩ HE wu hj hsh Fq]
 simp only[Result.andThen]
 rw[Oper.upon_value]
 go_wp2
 go_end0
 exact⟨rfl,rfl⟩
theorem ny (b:Nat) (w:World) {p v:Value} (hb:Blk w b 121 #[p,v]) (hp:p= .pointer none∨p= .pointer (some ⟨b,0,none⟩)) :
 Calls Tryz.prog 225 #[.pointer (some ⟨b,0,none⟩)] w fun e w'=>e= .returned (.tuple #[])∧Blk w' b 121 #[.pointer (some ⟨b,0,none⟩),v]∧But b w w':=by
 rcases hp with rfl|rfl
 ·refine(nS b w (by simpa using hb.cell 0) (by have h:w.heap[b]? =_:=hb;simp[World.shape?,h]) (by simpa using hb.free 0)).mono ?_
  rintro e w' ⟨rfl,rfl⟩
  exact⟨rfl,by simpa using Blk.set hb 0 (.pointer (some ⟨b,0,none⟩)),(But.refl b w).set (.inl rfl) _⟩
 ·refine(oW b w (by simpa using hb.cell 0)).mono ?_
  rintro e w' ⟨rfl,rfl⟩
  exact⟨rfl,hb,But.refl b _⟩
theorem Ac {P:Program} (w:World) (t u ty e:TypeId) (i:TypeInfo) (ht:P.underlying t=some (.slice e)) (hu:P.underlying u=some .string) (hi:P.info? e=some i) (hz:i.zero=some (.int .u8 0)) (hsize:i.size=1) (hby:i.bytes=1)
 (v:Value) (n:Nat) (xs:List Value) (hown:w.ownsRow 0 e 1 v n xs) (s:ByteArray) (hbytes:n+s.size≤140737488355328) {v':Value} {w':World} (hr:(Builtin.append_ #[t,u] ty #[v,.string s]).run P w= .ok v' w')
 (hnil:v'= .slice none 0 0↔v= .slice none 0 0∧s.size=0):v'.ownBlock=v.ownBlock∨v'.ownBlock=some w.heap.size:=by
 have hxl:xs.length=n:=by simpa using hown.1
 rcases hown.2 with⟨rfl,rfl⟩|⟨g,cap,cur,rfl,hbg,hg,hnc,hcm,hcs,htake⟩
 ·by_cases hm:s.size=0
  ·rw[hnil.2 ⟨rfl,hm⟩];exact .inl rfl
  ·rw[run_append_nil_string (P:=P) w t u ty e i (.int .u8 0) ht hu hi hz s (by omega) (by omega) (by rw[hby];omega)] at hr
   injection hr with h1 h2
   rw[← h1];exact .inr rfl
 ·by_cases hroom:n+s.size≤cap
  ·have hcs':cur.size=cap:=by simpa using hcs
   rw[Lib.run_append_room_string (P:=P) w t u ty e i ht hu hi hsize g n cap cur hg s hroom (by omega)] at hr
   injection hr with h1 h2
   rw[← h1];exact .inl rfl
  ·have holds:∀ j u,xs[j]? =some u→w.cell? ((⟨g,0,none⟩:Addr).add j)=some u:=hown.cells (g:=g) rfl
   rw[Lib.run_append_grow_string (P:=P) w t u ty e i (.int .u8 0) ht hu hi hz ⟨g,0,none⟩ n cap xs (by rw[hsize];simpa using hxl) holds s (by omega) (by omega) (by rw[hby];exact growslice_fits (by omega) (by omega))] at hr
   injection hr with h1 h2
   rw[← h1];exact .inr rfl
theorem Hx {P:Program} {w:World} {ops:Array Oper} {rest:List Oper} {o:Oper} {a:Act} {Q:Exit→Act→World→Prop} (hgd:o.guard=none) (sl x:Operand) (t u:TypeId)
 (ho:o.op= .call {callee:=.builtin .append,args:=#[sl,x],argTypes:=#[t,u]})
 (e:TypeId) (i:TypeInfo) (ht:P.underlying t=some (.slice e)) (hu:P.underlying u=some .string) (hi:P.info? e=some i) (hz:i.zero=some (.int .u8 0))
 (hsize:i.size=1) (hby:i.bytes=1)
 (v:Value) (n:Nat) (xs:List Value) (hs:a.eval sl=v) (hown:w.ownsRow 0 e 1 v n xs) (s:ByteArray) (hx:a.eval x= .string s) (hbytes:n+s.size≤140737488355328)
 (h:∀ v' w',w'.ownsRow 0 e 1 v' (n+s.size) (xs++Lib.strCells s)→w.grownBy w' v.ownBlock→(v'.ownBlock=v.ownBlock∨v'.ownBlock=some w.heap.size)→wpList P ops Q rest (a.put o.dst v') w'):wpList P ops Q (o :: rest) a w:=by
 refine wpList_plain hgd fun K hK=>?_
 obtain ⟨v',w',hr,h2,h3,h4⟩:=Lib.run_append_own_string (P:=P) w 0 t u o.type e i ht hu hi hz hsize hby v n xs hown s (by unfold maxLen;omega) hbytes (Nat.zero_le _)
 have h5:=Ac w t u o.type e i ht hu hi hz hsize hby v n xs hown s hbytes hr h4
 unfold Oper.wp execOp
 simp only[ho,resolve,invoke,builtin,Sem.run_bind,Sem.run_pure,Result.andThen_ok,List.map_toArray,List.map_cons,List.map_nil,hs,hx,hr]
 exact hK _ _ (h v' w' h2 h3 h5)
theorem pJ {w w':World} {B:Nat} {e:TypeId} {v:Value} {n:Nat} {xs:List Value} (h:w.ownsRow B e 1 v n xs) (hb:∀ g,v.ownBlock=some g→w'.heap[g]? =w.heap[g]?):w'.ownsRow B e 1 v n xs:=by
 refine⟨h.1,?_⟩
 rcases h.2 with h2|⟨g,cap,cur,h1,h2,h3,h4⟩
 ·exact .inl h2
 ·exact .inr ⟨g,cap,cur,h1,h2,(hb g (by rw[h1];rfl)).trans h3,h4⟩
def B0 (b:Nat) (w:World) (v:Value) (bs:List Value) (w':World):Prop:=∃ v',Blk w' b 121 #[.pointer (some ⟨b,0,none⟩),v']∧w'.ownsRow 0 5 1 v' bs.length bs∧(∀ g,v'.ownBlock=some g→(v.ownBlock=some g∨w.heap.size≤g)∧g<w'.heap.size∧g≠b)∧Am.Keep (b :: v.ownBlock.toList) w w'
theorem Gz {b:Nat} {w w1:World} {v:Value} (hne:v.ownBlock≠some b) (hw1:But b w w1) {T:TypeId} {cs:Array Value} (hb0:Blk w b T cs):b<w.heap.size:=Blk.lt hb0
theorem rH {b:Nat} {w w1 w2:World} {p v v':Value} {bs bs':List Value} (hb0:Blk w b 121 #[p,v]) (hown:w.ownsRow 0 5 1 v bs.length bs) (hne:v.ownBlock≠some b)
 (hbk:Blk w1 b 121 #[.pointer (some ⟨b,0,none⟩),v]) (hw1:But b w w1) (hlt:b<w.heap.size) (hb2:Blk w2 b 121 #[.pointer (some ⟨b,0,none⟩),v])
 (hown':w2.ownsRow 0 5 1 v' bs'.length bs') (hgrow:w1.grownBy w2 v.ownBlock) (hat:v'.ownBlock=v.ownBlock∨∃ g,v'.ownBlock=some g∧w.heap.size≤g):B0 b w v bs' (w2.setCell ⟨b,1,none⟩ v'):=by
 have hge:∀ g,v'.ownBlock=some g→(v.ownBlock=some g∨w.heap.size≤g)∧g≠b:=fun g hg=>by
  rcases hat with h|⟨g',h,hs⟩
  ·rw[h] at hg;exact⟨.inl hg,fun e=>hne (e▸hg)⟩
  ·rw[h] at hg;injection hg with hg;subst hg;exact⟨.inr hs,by omega⟩
 have hset:∀ k,k≠b→(w2.setCell ⟨b,1,none⟩ v').heap[k]? =w2.heap[k]?:=fun k hk=>Below.heap_setCell w2 ⟨b,1,none⟩ v' k hk
 have hsz:(w2.setCell ⟨b,1,none⟩ v').heap.size=w2.heap.size:=by simp[World.setCell]
 refine⟨v',by simpa using Blk.set hb2 1 v',pJ hown' fun g hg=>hset g (hge g hg).2,fun g hg=>⟨(hge g hg).1,by rw[hsz];exact(hown'.lt g hg).2,(hge g hg).2⟩,?_⟩
 refine⟨hgrow.os.trans hw1.os,hgrow.tape.trans hw1.tape,hgrow.output.trans hw1.output,by rw[hsz];exact Nat.le_trans hw1.size hgrow.size,fun k hk hn=>?_⟩
 have hkb:k≠b:=fun e=>hn (by rw[e];exact .head _)
 have hkv:some k≠v.ownBlock:=fun e=>hn (by rw[← e];simp)
 exact(hset k hkb).trans ((hgrow.block k (Nat.lt_of_lt_of_le hk hw1.size) hkv).trans (hw1.block k hk hkb))
set_option maxHeartbeats 2000000 in
set_option maxRecDepth 100000 in
theorem oL (b:Nat) (bs:List Value) (s:ByteArray) (w:World) {p v:Value} (hb0:Blk w b 121 #[p,v]) (hp:p= .pointer none∨p= .pointer (some ⟨b,0,none⟩)) (hown:w.ownsRow 0 5 1 v bs.length bs) (hne:v.ownBlock≠some b) (hlen:bs.length+s.size≤140737488355328) :
 Calls Tryz.prog 168 #[.pointer (some ⟨b,0,none⟩),.string s] w fun e w'=>e= .returned (.tuple #[.int .i64 s.size,.nilIface])∧B0 b w v (bs++Lib.strCells s) w':=by
 obtain ⟨i0,hi,hz0,hz1,hz2⟩:=info_parts r4
 go_enter Tryz.func168,Tryz.ntmps168
 go_wp2_with (first|(at_builtin;refine Hx rfl _ _ 117 9 rfl 5 i0 ug IP hi hz0 hz1 hz2 _ _ _ rfl hown1 s rfl hlen ?_)|(go_at_call 225;((with_reducible refine(ny b _ hb0 hp).mono ?_);rintro e w1 ⟨rfl,hbk,hw1⟩;have c0:=Blk.cell hbk 0;have c1:=Blk.cell hbk 1;have hown1:=pJ hown fun g hg=>hw1.block g (hown.lt g hg).2 (fun e=>hne (e▸hg)))))
 intro v' w2 hown' hgrow hat
 have hlt:b<w1.heap.size:=Blk.lt hbk
 have hb2:Blk w2 b 121 #[.pointer (some ⟨b,0,none⟩),v]:=Blk.grown hbk hgrow (fun e=>hne e.symm)
 have d0:=Blk.cell hb2 0
 have d1:=Blk.cell hb2 1
 have f1:=Blk.free hb2 1
 obtain ⟨ao,n',cap,rfl⟩:∃ ao n' cap,v'= .slice ao n' cap:=by
  rcases hown'.2 with⟨hv,_⟩|⟨g,cap,cur,hv,_⟩
  ·exact⟨_,_,_,hv⟩
  ·exact⟨_,_,_,hv⟩
 go_wp2
 go_ret2
 exact⟨rfl,rH hb0 hown hne hbk hw1 (Gz hne hw1 hb0) hb2 (by simpa [Lib.strCells_length] using hown') hgrow (hat.imp_right fun h=>⟨_,h,hw1.size⟩)⟩
set_option maxHeartbeats 2000000 in
set_option maxRecDepth 100000 in
theorem rP (b:Nat) (bs:List Value) (c:Int) (w:World) {p v:Value} (hb0:Blk w b 121 #[p,v]) (hp:p= .pointer none∨p= .pointer (some ⟨b,0,none⟩)) (hown:w.ownsRow 0 5 1 v bs.length bs) (hne:v.ownBlock≠some b) (hlen:bs.length+1≤140737488355328) :
 Calls Tryz.prog 167 #[.pointer (some ⟨b,0,none⟩),.int .u8 c] w fun e w'=>e= .returned .nilIface∧B0 b w v (bs++[.int .u8 c]) w':=by
 obtain ⟨i0,hi,hz0,hz1,hz2⟩:=info_parts r4
 go_enter Tryz.func167,Tryz.ntmps167
 go_wp2_with (first|(at_builtin;refine wpList_append_own_at _ rfl _ _ 117 rfl 0 5 i0 (.int .u8 0) 1 1 ug hi hz0 hz1 hz2 rfl (by decide) _ _ _ rfl (hown1.alloc _) ⟨w1.heap.size,0,none⟩ 1 1 [.int .u8 c] rfl rfl ?c1 ?c2 ?c3 ?c4 ?c5 ?_)|(go_at_call 225;((with_reducible refine(ny b _ hb0 hp).mono ?_);rintro e w1 ⟨rfl,hbk,hw1⟩;have c0:=Blk.cell hbk 0;have c1:=Blk.cell hbk 1;have hown1:=pJ hown fun g hg=>hw1.block g (hown.lt g hg).2 (fun e=>hne (e▸hg)))))
 case c1=>
  intro j u hj
  match j,hj with
  |0,hj=>simp at hj;subst hj;simp[Addr.add]
 case c2=>intro u hu;simp at hu;subst hu;rfl
 case c3=>unfold maxLen;omega
 case c4=>omega
 case c5=>omega
 intro v' w2 hown' hgrow _ hat
 have hlt:b<w1.heap.size:=Blk.lt hbk
 have hb2:Blk w2 b 121 #[.pointer (some ⟨b,0,none⟩),v]:=Blk.grown (Blk.alloc hbk _) hgrow (fun e=>hne e.symm)
 have d0:=Blk.cell hb2 0
 have d1:=Blk.cell hb2 1
 have f1:=Blk.free hb2 1
 obtain ⟨g,cap,rfl⟩:∃ g cap,v'= .slice (some ⟨g,0,none⟩) (bs.length+1) cap:=by
  rcases hown'.2 with⟨_,h0⟩|⟨g,cap,cur,hv,_⟩
  ·omega
  ·exact⟨g,cap,hv⟩
 go_wp2
 go_ret
 exact⟨rfl,rH (bs':=bs++[.int .u8 c]) hb0 hown hne (Blk.alloc hbk _) (hw1.alloc _) (Blk.lt hb0) hb2 (by simpa using hown') hgrow (hat.imp_right fun h=>⟨_,h,by have:=hw1.size;omega⟩)⟩
end Go.Proofs.YtkpodagbefnebaaGreatDoor
namespace Go.Proofs.YtkpodagbefnebaaGreatDoor
open Go.RowKit Tk
theorem tK (W:World) (q:Option Addr):(Builtin.unsafeString_ #[183,3] 9 #[.pointer q,.int .i64 0]).run Tryz.prog W= .ok (.string .empty) W:=Lib.run_unsafeString_none W _ _ _ q
theorem uF (w:World) (g n:Nat):Am.Keep [g] w (w.drew.freeze ⟨g,0,none⟩ n):=by
 unfold World.freeze
 split
 ·exact⟨rfl,rfl,rfl,Nat.le_refl _,fun k _ _=>rfl⟩
 ·exact⟨rfl,rfl,rfl,by rw[Array.size_modify];exact Nat.le_refl _,fun k hk hn=>by
  simp only[Array.getElem?_modify]
  rw[if_neg (by simpa [eq_comm] using hn)]
  rfl⟩
set_option maxHeartbeats 2000000 in
set_option maxRecDepth 100000 in
theorem tM (b g cap:Nat) (p:Value) (l:List UInt8) (w:World) (hbk:w.heap[b]? =some (.cells #[p,.slice (some ⟨g,0,none⟩) l.length cap] 121 (0,0))) (hown:w.ownsRow 0 5 1 (.slice (some ⟨g,0,none⟩) l.length cap) l.length (Lib.byteCells l)) (h0:l≠[]) :
 Calls Tryz.prog 97 #[.pointer (some ⟨b,0,none⟩)] w fun e w'=>e= .returned (.string ⟨l.toArray⟩)∧Am.Keep [g] w w':=by
 have hl0:l.length≠0:=by simpa using h0
 obtain ⟨cur,hg,hnc,hcm,hcs⟩:∃ cur,w.heap[g]? =some (.cells cur 5 (0,0))∧l.length≤cap∧cap≤maxLen∧cur.size=cap*1:=by
  rcases hown.2 with⟨h,_⟩|⟨g',cap',cur,h1,_,h3,h4,h5,h6,_⟩
  ·cases h
  ·injection h1 with e1 _ e2
   injection e1 with e1
   injection e1 with e1
   subst e1 e2
   exact⟨cur,h3,h4,h5,h6⟩
 have c1:w.drew.cell? ⟨b,1,none⟩=some (.slice (some ⟨g,0,none⟩) l.length cap):=by
  have:w.drew.heap[b]? =some (.cells #[p,.slice (some ⟨g,0,none⟩) l.length cap] 121 (0,0)):=hbk
  rw[Lib.cell_of_heap this];rfl
 have hSD:(Builtin.unsafeSliceData_ #[117] 183 #[.slice (some ⟨g,0,none⟩) l.length cap]).run Tryz.prog w.drew= .ok (.pointer (some ⟨g,0,none⟩)) w.drew:=
  Lib.run_unsafeSliceData_row _ _ _ _ _ _ (by omega)
 have hUS:(Builtin.unsafeString_ #[183,3] 9 #[.pointer (some ⟨g,0,none⟩),.int .i64 l.length]).run Tryz.prog w.drew= .ok (.string ⟨l.toArray⟩) (w.drew.freeze ⟨g,0,none⟩ l.length):=by
  refine Lib.run_unsafeString_row w.drew 183 3 9 5 (by kernel_rfl) (by kernel_rfl) g cur.size (by have hg':w.drew.heap[g]? =some (.cells cur 5 (0,0)):=hg;simp[World.shape?,hg']) l h0 (by omega) (by unfold maxLen at hcm;omega) ?_
  intro j x hx
  have:=hown.cells (g:=g) rfl j (.int .u8 x.toNat) (by simp[Lib.byteCells,hx])
  exact this
 have mx:Tryz.prog.follows .mixedOrders=true:=mixed
 go_enter Tryz.func97,Tryz.ntmps97
 go_wp2
 go_region_o
 all_goals(go_wp2;go_ret;exact⟨rfl,uF w g _⟩)
set_option maxHeartbeats 2000000 in
set_option maxRecDepth 100000 in
theorem vV (B b:Nat) (p:Value) (w:World) (hbk:w.heap[b]? =some (.cells #[p,.slice none 0 0] 121 (0,0))) :
 Calls Tryz.prog 97 #[.pointer (some ⟨b,0,none⟩)] w fun e w'=>e= .returned (.string ⟨#[]⟩)∧Below B w w':=by
 have hUS:=tK
 have c1:w.drew.cell? ⟨b,1,none⟩=some (.slice none 0 0):=by
  have:w.drew.heap[b]? =some (.cells #[p,.slice none 0 0] 121 (0,0)):=hbk
  rw[Lib.cell_of_heap this];rfl
 have hSD:(Builtin.unsafeSliceData_ #[117] 183 #[.slice none 0 0]).run Tryz.prog w.drew= .ok (.pointer none) w.drew:=rfl
 have mx:Tryz.prog.follows .mixedOrders=true:=mixed
 go_enter Tryz.func97,Tryz.ntmps97
 go_wp2
 go_region_o
 all_goals(go_wp2;go_ret;exact⟨rfl,Below.drew (Below.refl B w)⟩)
set_option maxHeartbeats 2000000 in
set_option maxRecDepth 100000 in
theorem tL (B b g cap:Nat) (p:Value) (w:World) (hc0:cap≠0) (hbk:w.heap[b]? =some (.cells #[p,.slice (some ⟨g,0,none⟩) 0 cap] 121 (0,0))) :
 Calls Tryz.prog 97 #[.pointer (some ⟨b,0,none⟩)] w fun e w'=>e= .returned (.string ⟨#[]⟩)∧Below B w w':=by
 have hUS:=tK
 have c1:w.drew.cell? ⟨b,1,none⟩=some (.slice (some ⟨g,0,none⟩) 0 cap):=by
  have:w.drew.heap[b]? =some (.cells #[p,.slice (some ⟨g,0,none⟩) 0 cap] 121 (0,0)):=hbk
  rw[Lib.cell_of_heap this];rfl
 have hSD:(Builtin.unsafeSliceData_ #[117] 183 #[.slice (some ⟨g,0,none⟩) 0 cap]).run Tryz.prog w.drew= .ok (.pointer (some ⟨g,0,none⟩)) w.drew:=
  Lib.run_unsafeSliceData_row _ _ _ _ _ _ hc0
 clear hc0
 have mx:Tryz.prog.follows .mixedOrders=true:=mixed
 go_enter Tryz.func97,Tryz.ntmps97
 go_wp2
 go_region_o
 all_goals(go_wp2;go_ret;exact⟨rfl,Below.drew (Below.refl B w)⟩)
set_option maxHeartbeats 2000000 in
set_option maxRecDepth 100000 in
theorem qt (B b g:Nat) (p:Value) (cur:Array Value) (w:World) (hBw:B≤w.heap.size) (hbk:w.heap[b]? =some (.cells #[p,.slice (some ⟨g,0,none⟩) 0 0] 121 (0,0))) (hg:w.heap[g]? =some (.cells cur 5 (0,0))) :
 Calls Tryz.prog 97 #[.pointer (some ⟨b,0,none⟩)] w fun e w'=>e= .returned (.string ⟨#[]⟩)∧Below B w w':=by
 have hUS:=tK
 have hlt:b<w.heap.size:=by
  rcases Nat.lt_or_ge b w.heap.size with h'|h'
  ·exact h'
  ·simp[Array.getElem?_eq_none h'] at hbk
 have c1:w.drew.cell? ⟨b,1,none⟩=some (.slice (some ⟨g,0,none⟩) 0 0):=by
  have:w.drew.heap[b]? =some (.cells #[p,.slice (some ⟨g,0,none⟩) 0 0] 121 (0,0)):=hbk
  rw[Lib.cell_of_heap this];rfl
 have hSD:(Builtin.unsafeSliceData_ #[117] 183 #[.slice (some ⟨g,0,none⟩) 0 0]).run Tryz.prog w.drew= .ok (.pointer (some ⟨w.drew.heap.size,0,none⟩)) (w.drew.alloc (.view ⟨g,0,none⟩ 5)):=
  Lib.run_unsafeSliceData_zero w.drew _ _ 5 (by kernel_rfl) ⟨g,0,none⟩ 0 (5,cur.size) (by have hg':w.drew.heap[g]? =some (.cells cur 5 (0,0)):=hg;simp[World.shape?,hg'])
 have c2:(w.drew.alloc (.view ⟨g,0,none⟩ 5)).cell? ⟨b,1,none⟩=some (.slice (some ⟨g,0,none⟩) 0 0):=by
  have:(w.drew.alloc (.view ⟨g,0,none⟩ 5)).heap[b]? =_:=(Lib.alloc_old w.drew _ b hlt).trans hbk
  rw[Lib.cell_of_heap this];rfl
 have c3:(w.alloc (.view ⟨g,0,none⟩ 5)).drew.cell? ⟨b,1,none⟩=some (.slice (some ⟨g,0,none⟩) 0 0):=c2
 have c0:w.cell? ⟨b,1,none⟩=some (.slice (some ⟨g,0,none⟩) 0 0):=c1
 have mx:Tryz.prog.follows .mixedOrders=true:=mixed
 go_enter Tryz.func97,Tryz.ntmps97
 go_wp2
 go_region_o
 all_goals(go_wp2;go_ret;exact⟨rfl,(Below.drew (Below.refl B w)).alloc hBw _⟩)
theorem zH (b:Nat) (s:ByteArray) (w:World) {p v:Value} (hbk:Blk w b 121 #[p,v]) (hown:w.ownsRow 0 5 1 v s.size (Lib.strCells s)) :
 Calls Tryz.prog 97 #[.pointer (some ⟨b,0,none⟩)] w fun e w'=>e= .returned (.string s)∧Am.Keep v.ownBlock.toList w w':=by
 have hs:Lib.strCells s=Lib.byteCells s.data.toList:=rfl
 have he:(⟨s.data.toList.toArray⟩:ByteArray)=s:=by cases s;simp
 have hn:s.size=s.data.toList.length:=by cases s;simp[ByteArray.size]
 rw[hs,hn] at hown
 have hK:∀ w',Below w.heap.size w w'→Am.Keep v.ownBlock.toList w w':=fun w' h=>Am.Keep.of_below h
 by_cases h0:s.data.toList=[]
 ·rw[h0] at hown he
  rw[← he]
  rcases hown.2 with⟨rfl,_⟩|⟨g,cap,cur,rfl,hbg,hg,_,_,_,_⟩
  ·exact(vV w.heap.size b p w hbk).mono fun e w' h=>⟨h.1,hK w' h.2⟩
  ·by_cases hc0:cap=0
   ·subst hc0
    exact(qt w.heap.size b g p cur w (Nat.le_refl _) hbk hg).mono fun e w' h=>⟨h.1,hK w' h.2⟩
   ·exact(tL w.heap.size b g cap p w hc0 hbk).mono fun e w' h=>⟨h.1,hK w' h.2⟩
 ·rcases hown.2 with⟨_,h⟩|⟨g,cap,cur,rfl,hbg,hg,_,_,_,_⟩
  ·exact absurd (List.length_eq_zero_iff.1 h) h0
  ·have:=tM b g cap p s.data.toList w hbk hown h0
   rw[he] at this
   exact this
theorem IF (b:Nat) (bs:List Value) (w:World) {p v:Value} (hbk:Blk w b 121 #[p,v]) (hown:w.ownsRow 0 5 1 v bs.length bs) :
 Calls Tryz.prog 96 #[.pointer (some ⟨b,0,none⟩)] w fun e w'=>e= .returned (.int .i64 bs.length)∧w'=w:=by
 obtain ⟨ao,cap,rfl⟩:∃ ao cap,v= .slice ao bs.length cap:=by
  rcases hown.2 with⟨hv,h0⟩|⟨g,cap,cur,hv,_⟩
  ·exact⟨none,0,by rw[hv,h0]⟩
  ·exact⟨_,_,hv⟩
 have c1:w.cell? ⟨b,1,none⟩=some (.slice ao bs.length cap):=by
  rw[Lib.cell_of_heap hbk];rfl
 go_enter Tryz.func96,Tryz.ntmps96
 go_wp2
 go_ret
 exact⟨rfl,rfl⟩
end Go.Proofs.YtkpodagbefnebaaGreatDoor
namespace Go.Proofs.YtkpodagbefnebaaGreatDoor
namespace Am
set_option maxRecDepth 100000
set_option maxHeartbeats 1000000
theorem vL (a b:ByteArray):Lib.strCells (a++b)=Lib.strCells a++Lib.strCells b:=by
 simp[Lib.strCells,ByteArray.data_append]
theorem pw {f:FuncId} (hc:bJ Tryz.prog f) {us:List V} {r:V} {s s':ByteArray}
 (h:∀ (w:World) (S:Nat→Nat→Prop) (μ:Nat) (p v:Value) (vs:Array Value),Blk w μ 121 #[p,v]→(p= .pointer none∨p= .pointer (some ⟨μ,0,none⟩))→w.ownsRow 0 5 1 v (Lib.strCells s).length (Lib.strCells s)→v.ownBlock≠some μ→RepVs (cz S) w us vs.toList→
  Calls Tryz.prog f (#[.pointer (some ⟨μ,0,none⟩)]++vs) w fun e w'=>∃ x,e= .returned x∧RepV (cz S) w' r x∧∃ p' v',(p'= .pointer none∨p'= .pointer (some ⟨μ,0,none⟩))∧Blk w' μ 121 #[p',v']∧w'.ownsRow 0 5 1 v' (Lib.strCells s').length (Lib.strCells s')∧
   (∀ g,v'.ownBlock=some g→(v.ownBlock=some g∨w.heap.size≤g)∧g<w'.heap.size∧g≠μ)∧Keep (μ :: v.ownBlock.toList) w w'):MC Tryz.prog f (cI s) us r (cI s'):=by
 refine⟨hc,fun w S μ B vs _ _ hS hSB hO hv=>?_⟩
 obtain ⟨p,v,k1,k2,k3,k4,k5,k6⟩:=hO
 have k4:v.ownBlock=B:=k4
 subst k4
 refine(h w S μ p v vs k1 k2 k3 (fun e=>(k5 μ e).2 rfl) hv).mono ?_
 rintro e w' ⟨x,rfl,hr,p',v',hp',hb',hown',hg,hk⟩
 refine⟨x,S,v'.ownBlock,rfl,hk,fun _ _ h=>h,fun _ _ h _=>h,fun g i hs=>Nat.lt_of_lt_of_le (hS g i hs) hk.size,⟨p',v',hb',hp',hown',rfl,fun b hb=>⟨(hg b hb).2.1,(hg b hb).2.2⟩,fun b hb=>?_⟩,hr⟩
 rcases hb with hb|hb
 ·have hb:b=μ:=hb
  subst hb
  exact⟨fun i hs=>hSB b i hs (.head _),.inl (.head _)⟩
 ·rcases (hg b hb).1 with h1|h1
  ·have hm:b∈μ :: v.ownBlock.toList:=by rw[h1];simp
   exact⟨fun i hs=>hSB b i hs hm,.inl hm⟩
  ·exact⟨fun i hs=>by have:=hS b i hs;omega,.inr h1⟩
theorem BB {S:Nat→Nat→Prop} {w:World} {v:Value} {vs:Array Value} (h:RepVs (cz S) w [.c (.sc v)] vs.toList):vs= #[v]:=by
 apply Array.ext'
 match hl:vs.toList,h with
 |[x],h=>
  have:=h.2 0 _ x rfl rfl
  cases this with|c h=>cases h;rfl
 |[],h=>exact absurd h.1 (by simp)
 |_ :: _ :: _,h=>exact absurd h.1 (by simp)
theorem HA {S:Nat→Nat→Prop} {w:World} {vs:Array Value} (h:RepVs (cz S) w [] vs.toList):vs= #[]:=by
 apply Array.ext'
 match hl:vs.toList,h with
 |[],h=>rfl
 |_ :: _,h=>exact absurd h.1 (by simp)
theorem iW {s t:ByteArray} (h:s.size+t.size≤140737488355328):MC Tryz.prog 168 (cI s) [.c (sS t)] (.tup [.c (sI t.size),.c (.sc .nilIface)]) (cI (s++t)):=by
 refine pw Tryz.call168 fun w S μ p v vs k1 k2 k3 k4 hv=>?_
 rw[BB hv]
 refine(oL μ _ t w k1 k2 k3 k4 (by rw[Lib.strCells_length];exact h)).mono ?_
 rintro e w' ⟨rfl,v',h1,h2,h3,h4⟩
 rw[← vL] at h2
 refine⟨_,rfl,.tup rfl fun j x u hx hu=>?_,_,v',.inr rfl,h1,h2,h3,h4⟩
 match j,hx,hu with
 |0,hx,hu=>injection hx with hx;injection hu with hu;subst hx hu;exact .c (.sc rfl)
 |1,hx,hu=>injection hx with hx;injection hu with hu;subst hx hu;exact .c (.sc rfl)
theorem kJ {s:ByteArray} {n:Int} (c:UInt8) (hc:n=c.toNat) (h:s.size+1≤140737488355328):MC Tryz.prog 167 (cI s) [.c (.sc (.int .u8 n))] (.c (.sc .nilIface)) (cI (s++⟨#[c]⟩)):=by
 subst hc
 refine pw Tryz.call167 fun w S μ p v vs k1 k2 k3 k4 hv=>?_
 rw[BB hv]
 refine(rP μ _ c.toNat w k1 k2 k3 k4 (by rw[Lib.strCells_length];exact h)).mono ?_
 rintro e w' ⟨rfl,v',h1,h2,h3,h4⟩
 have e1:Lib.strCells s++[.int .u8 c.toNat]=Lib.strCells (s++⟨#[c]⟩):=by rw[vL];rfl
 rw[e1] at h2
 exact⟨_,rfl,.c (.sc rfl),_,v',.inr rfl,h1,h2,h3,h4⟩
theorem ET {s:ByteArray}:MC Tryz.prog 96 (cI s) [] (.c (sI s.size)) (cI s):=by
 refine pw Tryz.call96 fun w S μ p v vs k1 k2 k3 k4 hv=>?_
 rw[HA hv]
 refine(IF μ _ w k1 k3).mono ?_
 rintro e w' ⟨rfl,rfl⟩
 exact⟨_,rfl,by rw[Lib.strCells_length];exact .c (.sc rfl),p,v,k2,k1,k3,fun g hg=>⟨.inl hg,(k3.lt g hg).2,fun e=>k4 (e▸hg)⟩,Keep.refl _ _⟩
theorem oD {s:ByteArray} (hs:s.size≤9223372036854775807):MC Tryz.prog 97 (cI s) [] (.c (sS s)) .gone:=by
 refine⟨Tryz.call97,fun w S μ B vs _ _ hS hSB hO hv=>?_⟩
 obtain ⟨p,v,k1,k2,k3,k4,k5,k6⟩:=hO
 have k4:v.ownBlock=B:=k4
 subst k4
 rw[HA hv]
 rw[Lib.strCells_length] at k3
 refine(zH μ s w k1 k3).mono ?_
 rintro e w' ⟨rfl,hk⟩
 exact⟨_,S,none,rfl,hk.trans (Keep.refl [] w') (fun x hx=>by cases hx) |> fun k=>⟨k.os,k.tape,k.output,k.size,fun i hi hn=>k.block i hi fun hm=>hn (.tail _ hm)⟩,fun _ _ h=>h,fun _ _ h _=>h,fun g i hs=>Nat.lt_of_lt_of_le (hS g i hs) hk.size,
  ⟨Nat.lt_of_lt_of_le (Blk.lt k1) hk.size,fun i hs=>hSB μ i hs (.head _),.inl (.head _)⟩,.c (.sc (decide_eq_true hs))⟩
end Am
namespace Am
set_option maxRecDepth 100000
set_option maxHeartbeats 1000000
theorem mE {s:ByteArray} {l:List ByteArray} (hb:s.size+(bC ⟨#[32]⟩ l).size≤140737488355328):MC Tryz.prog 93 (cI s) [.c (bA l)] (.tup []) (cI (s++bC ⟨#[32]⟩ l)):=by
 refine fm2 (fn:=Tryz.f93) Tryz.call93 Tryz.func93 rfl Tryz.ntmps93 Tryz.results93 rfl (by rfl) rfl rfl ?_
 refine AW.fact (t:=1) rfl (fun κ w x hr=>dq hr) fun hn=>?_
 repeat'(first|(with_reducible first|apply AW.seq|apply AW.block|apply ae|apply y_e|refine ah ?_)|((with_reducible apply ak);refine t_v AS.v ?_)|fail)
 refine AW.loop (fun n σ=>∃ j,n=l.length - j∧j≤l.length∧σ=mk [(0,.c (.ptr 0 0)),(6,.c (bA l)),(7,.c (sI (l.map oneS).length)),(8,.c (sI j))] [(0,cI (s++bC ⟨#[32]⟩ (l.take j)))]) l.length ?_ ?_
 ·have e:cI s=cI (s++bC ⟨#[32]⟩ (l.take 0)):=by rw[List.take_zero,bC,jV]
  rw[e]
  exact⟨_,wkA,0,rfl,Nat.zero_le _,rfl⟩
 rintro n σ ⟨j,rfl,hj,rfl⟩
 by_cases hlt:j<l.length
 ·obtain ⟨x,hx⟩:∃ x,l[j]? =some x:=⟨_,List.getElem?_eq_getElem hlt⟩
  have hle:=xF (sep:=⟨#[32]⟩) l (j+1)
  by_cases h0:0<j
  ·rw[jk hx h0,ByteArray.size_append,ByteArray.size_append] at hle
   have h1:ByteArray.size ⟨#[32]⟩=1:=rfl
   repeat'(first|(with_reducible first|apply AW.seq|apply AW.block|apply AW.skip|apply ae|apply aw|apply y_e|refine ah ?_)|((with_reducible apply ak);first|refine t_v AS.v ?_|refine t_w (by first|exact cp (hP:=kJ 32 rfl (by(try simp only[ByteArray.size_append]);omega))|exact cp (hP:=iW (by(try simp only[ByteArray.size_append]);omega))) ?_)|((with_reducible refine au ?_);((refine aj (fun hc=>?_) (fun hc=>?_);all_goals(try(exfalso;simp[*] at hc;done)))))|fail)
   have e:cI (s++bC ⟨#[32]⟩ (l.take j)++⟨#[32]⟩++x)=cI (s++bC ⟨#[32]⟩ (l.take (j+1))):=by rw[jk hx h0];simp only[ByteArray.append_assoc]
   rw[e]
   exact⟨_,_,(show l.length - (j+1)<l.length - j by omega),wkA,j+1,rfl,hlt,rfl⟩
  ·obtain rfl:j=0:=by omega
   rw[jl hx] at hle
   repeat'(first|(with_reducible first|apply AW.seq|apply AW.block|apply AW.skip|apply ae|apply aw|apply y_e|refine ah ?_)|((with_reducible apply ak);first|refine t_v AS.v ?_|refine t_w (by(exact cp (hP:=iW (by(try simp only[List.take_zero,bC,jV]);omega)))) ?_)|((with_reducible refine au ?_);first|refine cj ?_|(refine aj (fun hc=>?_) (fun hc=>?_);all_goals(try(exfalso;simp[*] at hc;done))))|fail)
   have e:cI (s++bC ⟨#[32]⟩ (l.take 0)++x)=cI (s++bC ⟨#[32]⟩ (l.take 1)):=by rw[jl hx,List.take_zero,bC,jV]
   rw[e]
   exact⟨_,_,(show l.length - (0+1)<l.length - 0 by omega),wkA,1,rfl,hlt,rfl⟩
 ·repeat'(first|(with_reducible first|apply AW.seq|apply AW.exit|apply ae|apply aJ|apply aW|apply y_e|refine m_b rfl ?_ ?_|refine ah ?_)|((with_reducible apply ak);refine t_v AS.v ?_)|((with_reducible refine au ?_);((refine aj (fun hc=>?_) (fun hc=>?_);all_goals(try(exfalso;simp[*] at hc;done)))))|((with_reducible refine aA ?_);exact xv)|fail)
  rw[List.take_of_length_le (by omega)]
theorem G5 {l:List ByteArray} {sep:ByteArray} {f:Nat} {g:ByteArray→ByteArray} (h:∀ x∈l,Pure Tryz.prog f [.c (sS x)] (.c (sS (g x)))) (hb:(bC sep (l.map g)).size≤140737488355328):Pure Tryz.prog 294 [.c (.lst none 1 (l.map oneS)),.c (sS sep),.c (.fn f [])] (.c (sS (bC sep (l.map g)))):=by
 refine fn3 (fn:=Tryz.f294) Tryz.call294 Tryz.func294 rfl Tryz.ntmps294 Tryz.results294 rfl (by rfl) ?_
 refine AW.fact (t:=0) rfl (fun κ w x hr=>dq hr) fun hn=>?_
 repeat'(first|(with_reducible first|apply AW.seq|apply AW.block|apply ae|apply y_e|refine ah ?_)|((with_reducible apply ak);first|refine t_v AS.v ?_|refine t_w AS.w ?_)|fail)
 refine AW.loop (fun n σ=>∃ j,n=l.length - j∧j≤l.length∧σ=mk [(1,.c (sS sep)),(2,.c (.fn f [])),(7,.c (.ptr 7 0)),(10,.c (.lst none 1 (l.map oneS))),(11,.c (sI (l.map oneS).length)),(12,.c (sI j))] [(7,cI (bC sep ((l.map g).take j)))]) l.length ?_ ?_
 ·exact⟨_,wkA,0,rfl,Nat.zero_le _,rfl⟩
 rintro n σ ⟨j,rfl,hj,rfl⟩
 by_cases hlt:j<l.length
 ·obtain ⟨x,hx⟩:∃ x,l[j]? =some x:=⟨_,List.getElem?_eq_getElem hlt⟩
  have hp:=h x (List.mem_of_getElem? hx)
  have hx':(l.map g)[j]? =some (g x):=by rw[List.getElem?_map,hx];rfl
  have hle:=xF (sep:=sep) (l.map g) (j+1)
  by_cases h0:0<j
  ·rw[jk hx' h0,ByteArray.size_append,ByteArray.size_append] at hle
   repeat'(first|(with_reducible first|apply AW.seq|apply AW.block|apply AW.skip|apply ae|apply aw|apply y_e|refine ah ?_)|((with_reducible apply ak);first|refine t_v AS.v ?_|refine t_v (by exact ag (hP:=hp)) ?_|refine t_w (by(exact cp (hP:=iW (by(try simp only[ByteArray.size_append]);omega)))) ?_)|((with_reducible refine au ?_);((refine aj (fun hc=>?_) (fun hc=>?_);all_goals(try(exfalso;simp[*] at hc;done)))))|fail)
   have e:cI (bC sep ((l.map g).take j)++sep++g x)=cI (bC sep ((l.map g).take (j+1))):=by rw[jk hx' h0]
   rw[e]
   exact⟨_,_,(show l.length - (j+1)<l.length - j by omega),wkA,j+1,rfl,hlt,rfl⟩
  ·obtain rfl:j=0:=by omega
   rw[jl hx'] at hle
   have hz:ByteArray.size ⟨#[]⟩=0:=rfl
   repeat'(first|(with_reducible first|apply AW.seq|apply AW.block|apply AW.skip|apply ae|apply aw|apply y_e|refine ah ?_)|((with_reducible apply ak);first|refine t_v AS.v ?_|refine t_v (by exact ag (hP:=hp)) ?_|refine t_w (by(exact cp (hP:=iW (by(try simp only[List.take_zero,bC,gZ,ByteArray.size_append]);omega)))) ?_)|((with_reducible refine au ?_);first|refine cj ?_|(refine aj (fun hc=>?_) (fun hc=>?_);all_goals(try(exfalso;simp[*] at hc;done))))|fail)
   have e:cI (bC sep ((l.map g).take 0)++g x)=cI (bC sep ((l.map g).take 1)):=by rw[jl hx',List.take_zero,bC,gZ]
   rw[e]
   exact⟨_,_,(show l.length - (0+1)<l.length - 0 by omega),wkA,1,rfl,hlt,rfl⟩
 ·have e:(l.map g).take j=l.map g:=List.take_of_length_le (by rw[List.length_map];omega)
  rw[e]
  repeat'(first|(with_reducible first|apply AW.seq|apply AW.ret|apply AW.exit|apply ae|apply aJ|apply aW|apply y_e|refine ah ?_)|((with_reducible apply ak);first|refine t_v AS.v ?_|refine t_w (by exact cp (hP:=oD (by omega))) ?_)|((with_reducible refine au ?_);((refine aj (fun hc=>?_) (fun hc=>?_);all_goals(try(exfalso;simp[*] at hc;done)))))|((with_reducible refine aA ?_);refine k_s ?_)|fail)
  rfl
theorem G4 {l:List Sp} {sep:ByteArray} {f:Nat} {g:Sp→ByteArray} (h:∀ x∈l,Pure Tryz.prog f [.agg (spC x)] (.c (sS (g x)))) (hb:(bC sep (l.map g)).size≤140737488355328):Pure Tryz.prog 329 [.c (.lst none 2 (l.map spC)),.c (sS sep),.c (.fn f [])] (.c (sS (bC sep (l.map g)))):=by
 refine fn3 (fn:=Tryz.f329) Tryz.call329 Tryz.func329 rfl Tryz.ntmps329 Tryz.results329 rfl (by rfl) ?_
 refine AW.fact (t:=0) rfl (fun κ w x hr=>dq hr) fun hn=>?_
 repeat'(first|(with_reducible first|apply AW.seq|apply AW.block|apply ae|apply y_e|refine ah ?_)|((with_reducible apply ak);first|refine t_v AS.v ?_|refine t_w AS.w ?_)|fail)
 refine AW.loop (fun n σ=>∃ j,n=l.length - j∧j≤l.length∧σ=mk [(1,.c (sS sep)),(2,.c (.fn f [])),(7,.c (.ptr 7 0)),(10,.c (.lst none 2 (l.map spC))),(11,.c (sI (l.map spC).length)),(12,.c (sI j))] [(7,cI (bC sep ((l.map g).take j)))]) l.length ?_ ?_
 ·exact⟨_,wkA,0,rfl,Nat.zero_le _,rfl⟩
 rintro n σ ⟨j,rfl,hj,rfl⟩
 by_cases hlt:j<l.length
 ·obtain ⟨x,hx⟩:∃ x,l[j]? =some x:=⟨_,List.getElem?_eq_getElem hlt⟩
  have hp:=h x (List.mem_of_getElem? hx)
  have hx':(l.map g)[j]? =some (g x):=by rw[List.getElem?_map,hx];rfl
  have hle:=xF (sep:=sep) (l.map g) (j+1)
  by_cases h0:0<j
  ·rw[jk hx' h0,ByteArray.size_append,ByteArray.size_append] at hle
   repeat'(first|(with_reducible first|apply AW.seq|apply AW.block|apply AW.skip|apply ae|apply aw|apply y_e|refine ah ?_)|((with_reducible apply ak);first|refine t_v AS.v ?_|refine t_v (by exact ag (hP:=hp)) ?_|refine t_w AS.w ?_|refine t_w (by(exact cp (hP:=iW (by(try simp only[ByteArray.size_append]);omega)))) ?_)|((with_reducible apply aV);refine t_s AS.s ?_)|((with_reducible refine au ?_);((refine aj (fun hc=>?_) (fun hc=>?_);all_goals(try(exfalso;simp[*] at hc;done)))))|fail)
   have e:cI (bC sep ((l.map g).take j)++sep++g x)=cI (bC sep ((l.map g).take (j+1))):=by rw[jk hx' h0]
   rw[e]
   exact⟨_,_,(show l.length - (j+1)<l.length - j by omega),wkA,j+1,rfl,hlt,rfl⟩
  ·obtain rfl:j=0:=by omega
   rw[jl hx'] at hle
   have hz:ByteArray.size ⟨#[]⟩=0:=rfl
   repeat'(first|(with_reducible first|apply AW.seq|apply AW.block|apply AW.skip|apply ae|apply aw|apply y_e|refine ah ?_)|((with_reducible apply ak);first|refine t_v AS.v ?_|refine t_v (by exact ag (hP:=hp)) ?_|refine t_w AS.w ?_|refine t_w (by(exact cp (hP:=iW (by(try simp only[List.take_zero,bC,gZ,ByteArray.size_append]);omega)))) ?_)|((with_reducible apply aV);refine t_s AS.s ?_)|((with_reducible refine au ?_);first|refine cj ?_|(refine aj (fun hc=>?_) (fun hc=>?_);all_goals(try(exfalso;simp[*] at hc;done))))|fail)
   have e:cI (bC sep ((l.map g).take 0)++g x)=cI (bC sep ((l.map g).take 1)):=by rw[jl hx',List.take_zero,bC,gZ]
   rw[e]
   exact⟨_,_,(show l.length - (0+1)<l.length - 0 by omega),wkA,1,rfl,hlt,rfl⟩
 ·have e:(l.map g).take j=l.map g:=List.take_of_length_le (by rw[List.length_map];omega)
  rw[e]
  repeat'(first|(with_reducible first|apply AW.seq|apply AW.ret|apply AW.exit|apply ae|apply aJ|apply aW|apply y_e|refine ah ?_)|((with_reducible apply ak);first|refine t_v AS.v ?_|refine t_w (by exact cp (hP:=oD (by omega))) ?_)|((with_reducible refine au ?_);((refine aj (fun hc=>?_) (fun hc=>?_);all_goals(try(exfalso;simp[*] at hc;done)))))|((with_reducible refine aA ?_);refine k_s ?_)|fail)
  rfl
end Am
namespace Am
set_option maxRecDepth 100000
set_option maxHeartbeats 1000000
theorem GG (s:ByteArray):Pure Tryz.prog 295 [.c (sS s)] (.c (sS s)):=by
 refine fn1 (fn:=Tryz.f295) Tryz.call295 Tryz.func295 rfl Tryz.ntmps295 Tryz.results295 rfl (by rfl) ?_
 repeat'(first|(with_reducible first|apply AW.seq|apply AW.ret|apply ae|apply y_e|refine ah ?_)|((with_reducible apply ak);refine t_v AS.v ?_)|((with_reducible refine aA ?_);refine k_s ?_)|fail)
 rfl
theorem nC {l:List ByteArray} {sep:ByteArray} (hb:(bC sep l).size≤140737488355328):Pure Tryz.prog 294 [.c (bA l),.c (sS sep),.c (.fn 295 [])] (.c (sS (bC sep l))):=by
 have:=G5 (l:=l) (sep:=sep) (g:=fun x=>x) (fun x _=>GG x) (by rw[uY];exact hb)
 rwa [uY] at this
theorem jY {l:List ByteArray} (hb:(brT l).size≤140737488355328):Pure Tryz.prog 220 [.c (bA l)] (.c (sS (brT l))):=by
 have hb2:=hb
 simp only[brT,ByteArray.size_append,aM,List.size_toArray,List.length_cons,List.length_nil] at hb2
 refine fn1 (fn:=Tryz.f220) Tryz.call220 Tryz.func220 rfl Tryz.ntmps220 Tryz.results220 rfl (by rfl) ?_
 repeat'(first|(with_reducible first|apply AW.seq|apply AW.ret|apply ae|apply y_e|refine ah ?_)|((with_reducible apply ak);first|refine t_v AS.v ?_|refine t_v (by exact ag (hP:=nC (by omega))) ?_)|((with_reducible refine aA ?_);refine k_s ?_)|fail)
 rfl
theorem uj {l:List ByteArray} (hb:(bC ⟨#[44,32]⟩ l).size≤140737488355328):Pure Tryz.prog 288 [.c (bA l)] (.c (sS (bC ⟨#[44,32]⟩ l))):=by
 refine fn1 (fn:=Tryz.f288) Tryz.call288 Tryz.func288 rfl Tryz.ntmps288 Tryz.results288 rfl (by rfl) ?_
 repeat'(first|(with_reducible first|apply AW.seq|apply AW.ret|apply ae|apply y_e|refine ah ?_)|((with_reducible apply ak);first|refine t_v AS.v ?_|refine t_v (by exact ag (hP:=nC hb)) ?_)|((with_reducible refine aA ?_);refine k_s ?_)|fail)
 rfl
theorem Cv {s:Sp} (hb:(spT s).size≤140737488355328):Pure Tryz.prog 330 [.agg (spC s)] (.c (sS (spT s))):=by
 by_cases h0:s.to=⟨#[]⟩
 ·refine fn1 (fn:=Tryz.f330) Tryz.call330 Tryz.func330 rfl Tryz.ntmps330 Tryz.results330 rfl (by rfl) ?_
  repeat'(first|(with_reducible first|apply AW.seq|apply AW.skip|apply AW.ret|apply ae|apply aq|apply y_e|refine ah ?_)|((with_reducible apply ak);first|refine t_v AS.v ?_|refine t_w AS.w ?_)|((with_reducible refine au ?_);((refine aj (fun hc=>?_) (fun hc=>?_);all_goals(try(exfalso;simp[*] at hc;done)))))|((with_reducible refine aA ?_);refine k_s ?_)|fail)
  ·unfold spT;rw[if_pos h0]
 ·have hb2:=hb
  rw[spT,if_neg h0] at hb2
  simp only[ByteArray.size_append,aM,List.size_toArray,List.length_cons,List.length_nil] at hb2
  refine fn1 (fn:=Tryz.f330) Tryz.call330 Tryz.func330 rfl Tryz.ntmps330 Tryz.results330 rfl (by rfl) ?_
  repeat'(first|(with_reducible first|apply AW.seq|apply AW.skip|apply AW.ret|apply ae|apply aq|apply y_e|refine ah ?_)|((with_reducible apply ak);first|refine t_v AS.v ?_|refine t_w AS.w ?_)|((with_reducible refine au ?_);((refine aj (fun hc=>?_) (fun hc=>?_);all_goals(try(exfalso;simp[*] at hc;done)))))|((with_reducible refine aA ?_);refine k_s ?_)|fail)
  ·rw[spT,if_neg h0]
theorem sf {l:Lv} (hb:(lvT l).size≤140737488355328):Pure Tryz.prog 289 [.agg (lvC l)] (.c (sS (lvT l))):=by
 by_cases h0:l.cats.length=0
 ·refine fn1 (fn:=Tryz.f289) Tryz.call289 Tryz.func289 rfl Tryz.ntmps289 Tryz.results289 rfl (by rfl) ?_
  repeat'(first|(with_reducible first|apply AW.seq|apply AW.ret|apply ae|apply aq|apply y_e|refine ah ?_)|((with_reducible apply ak);first|refine t_v AS.v ?_|refine t_w AS.w ?_)|((with_reducible refine au ?_);((refine aj (fun hc=>?_) (fun hc=>?_);all_goals(try(exfalso;simp[*] at hc;done)))))|((with_reducible refine aA ?_);refine k_s ?_)|fail)
  ·unfold lvT;rw[if_pos h0]
 ·have hb2:=hb
  rw[lvT,if_neg h0] at hb2
  simp only[ByteArray.size_append,aM,List.size_toArray,List.length_cons,List.length_nil] at hb2
  have hs:∀ x∈l.cats,(spT x).size≤140737488355328:=fun x hx=>by
   have:=tr (sep:=⟨#[44]⟩) (List.mem_map_of_mem (f:=spT) hx);omega
  refine fn1 (fn:=Tryz.f289) Tryz.call289 Tryz.func289 rfl Tryz.ntmps289 Tryz.results289 rfl (by rfl) ?_
  repeat'(first|(with_reducible first|apply AW.seq|apply AW.skip|apply AW.ret|apply ae|apply y_e|refine ah ?_|refine bb ?_)|((with_reducible apply ak);first|refine t_v AS.v ?_|refine t_v (by exact ag (hP:=G4 (fun x hx=>Cv (hs x hx)) (by omega))) ?_|refine t_w AS.w ?_)|((with_reducible refine au ?_);((refine aj (fun hc=>?_) (fun hc=>?_);all_goals(try(exfalso;simp[*] at hc;done)))))|((with_reducible refine aA ?_);refine k_s ?_)|(refine⟨by decide +kernel,?_⟩)|fail)
  rw[lvT,if_neg h0]
end Am
namespace Am
set_option maxRecDepth 100000
set_option maxHeartbeats 1000000
theorem wF (b:Bool):Pure Tryz.prog 331 [.c (sB b)] (.c (sS ⟨(Lib.formatBool b).toArray⟩)):=by
 cases b
 ·refine fn1 (fn:=Tryz.f331) Tryz.call331 Tryz.func331 rfl Tryz.ntmps331 Tryz.results331 rfl (by rfl) ?_
  repeat'(first|(with_reducible first|apply AW.seq|apply AW.skip|apply AW.ret|apply ae|apply aq|apply y_e|refine ah ?_)|((with_reducible apply ak);refine t_v AS.v ?_)|((with_reducible refine au ?_);first|refine cF ?_|refine cj ?_)|((with_reducible refine aA ?_);refine k_s ?_)|fail)
  rfl
 ·refine fn1 (fn:=Tryz.f331) Tryz.call331 Tryz.func331 rfl Tryz.ntmps331 Tryz.results331 rfl (by rfl) ?_
  repeat'(first|(with_reducible first|apply AW.seq|apply AW.skip|apply AW.ret|apply ae|apply aq|apply y_e|refine ah ?_)|((with_reducible apply ak);refine t_v AS.v ?_)|((with_reducible refine au ?_);first|refine cF ?_|refine cj ?_)|((with_reducible refine aA ?_);refine k_s ?_)|fail)
  rfl
theorem zQ (b:Bool):Pure Tryz.prog 291 [.c (sB b)] (.c (sS ⟨(Lib.formatBool b).toArray⟩)):=by
 have p1:=wF b
 refine fn1 (fn:=Tryz.f291) Tryz.call291 Tryz.func291 rfl Tryz.ntmps291 Tryz.results291 rfl (by rfl) ?_
 repeat'(first|(with_reducible first|apply AW.seq|apply AW.ret|apply ae|apply y_e|refine ah ?_)|((with_reducible apply ak);first|refine t_v AS.v ?_|refine t_v (by exact ag (hP:=p1)) ?_)|((with_reducible refine aA ?_);refine k_s ?_)|fail)
 rfl
theorem G3 (i:Nat) (hi:i<100):Pure Tryz.prog 94 [.c (sI i)] (.c (sS ⟨(Lib.decDigits i).toArray⟩)):=
 Pure.of_calls (vs:=[.int .i64 i]) (r:=.c (sS ⟨(Lib.decDigits i).toArray⟩)) Tryz.call94 (.sc (by
  have:∀ i:Fin 100,jG (.string ⟨(Lib.decDigits i.val).toArray⟩)=true:=by decide +kernel
  exact this ⟨i,hi⟩)) fun _ w=>(Tryz.strconv_Itoa_small i hi w).mono fun e w' h=>⟨h.1,h.2.symm⟩
theorem zY {l:List ByteArray} {j:Nat} {x:ByteArray} (hx:l[j]? =some x) (hj:j<100):Pure Tryz.prog 332 [.c (sI ((j:Int)+1)),.c (bA l)] (.c (sS x)):=by
 refine fn2 (fn:=Tryz.f332) Tryz.call332 Tryz.func332 rfl Tryz.ntmps332 Tryz.results332 rfl (by rfl) ?_
 repeat'(first|(with_reducible first|apply AW.seq|apply AW.ret|apply ae|apply y_e|refine ah ?_)|((with_reducible apply ak);refine t_v AS.v ?_)|((with_reducible refine aA ?_);refine k_s ?_)|fail)
 rfl
end Am
end Go.Proofs.YtkpodagbefnebaaGreatDoor
