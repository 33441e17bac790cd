import Derived.Test.YtkpodagbefnebaaGreatDoorYh2
set_option linter.unusedSimpArgs false
set_option linter.unusedVariables false
set_option linter.unusedSectionVars false
namespace Go.Proofs.YtkpodagbefnebaaGreatDoor
namespace Am
variable [Tb]
open Go.RowKit
theorem Ks {α:Type} {f:Nat→Option α} {n:Nat} {v:α} (h:f n=some v):upd f n v=f:=by
 funext m
 by_cases e:m=n
 ·subst e;rw[aX,h]
 ·rw[bD _ _ e]
section
variable {P:Program} {X:Cx} {σ:St} {a:Act} {w w':World} {κ:K} {o:Oper} {Q:Exit→Act→World→Prop} {N:Act→World→Prop}
theorem A2 {tg:Option Nat} {k:Nat} {ys:List (List C)} {v:Value} (h:Rep κ w (.lst tg k ys) v) (h0:0<k):∃ ao cap,v= .slice ao ys.length cap∧(ys.length=0∨∃ g ob news,ao=some ⟨g,ob,none⟩∧news.length=ys.length*k∧
 (∀ j u,news[j]? =some u→w.cell? ((⟨g,ob,none⟩:Addr).add j)=some u)∧Reps κ w (bV ys).flatten news∧(∀ x∈bV ys,x.length=k)):=by
 cases h with
 |lst cv hn hk h1 h2 hr hc ht=>
  rename_i ao n cap
  refine⟨ao,cap,by rw[hn],?_⟩
  rcases hr with hr|⟨g,ob,rfl,hr⟩
  ·exact .inl hr
  ·refine .inr ⟨g,ob,(List.range (ys.length*k)).map fun q=>cv (q / k) (q % k),rfl,by simp,fun j u hu=>?_,?_,fun x hx=>?_⟩
   ·have hj:j<ys.length*k:=by
     have:=(List.getElem?_eq_some_iff.1 hu).1
     simpa using this
    rw[List.getElem?_map,List.getElem?_range hj] at hu
    injection hu with hu
    subst hu
    rw[we]
    have hq:j / k<ys.length:=Nat.div_lt_of_lt_mul (by rw[Nat.mul_comm];exact hj)
    have:=(hr (j / k) (j % k) hq (Nat.mod_lt _ h0)).2
    have e:ob+j / k*k+j % k=ob+j:=by rw[Nat.add_assoc,Nat.mul_comm,Nat.div_add_mod]
    rwa [e] at this
   ·have hkk:∀ x∈bV ys,x.length=k:=fun x hx=>by
     rw[fC,List.mem_map] at hx
     obtain ⟨y,hy,rfl⟩:=hx
     rw[fg,List.length_map];exact hk y hy
    have hul:(bV ys).length=ys.length:=by rw[fC,List.length_map]
    refine⟨by rw[iz hkk,hul];simp,fun j c u hcj hu=>?_⟩
    have hj:j<ys.length*k:=by
     have:=(List.getElem?_eq_some_iff.1 hu).1
     simpa using this
    rw[List.getElem?_map,List.getElem?_range hj] at hu
    injection hu with hu
    subst hu
    have hq:j / k<ys.length:=Nat.div_lt_of_lt_mul (by rw[Nat.mul_comm];exact hj)
    have hm:j % k<k:=Nat.mod_lt _ h0
    have hy:ys[j / k]? =some ys[j / k]:=List.getElem?_eq_getElem hq
    have hyl:=hk _ (List.getElem_mem hq)
    have hyc:(ys[j / k])[j % k]? =some ((ys[j / k])[j % k]'(by omega)):=List.getElem?_eq_getElem _
    have h3:=oo hkk (i:=j / k) (j:=j % k) (x:=unL ys[j / k]) (c:=((ys[j / k])[j % k]'(by omega)).un) (by rw[fC,List.getElem?_map,hy];rfl) (by rw[fg,List.getElem?_map,hyc];rfl)
    rw[Nat.mul_comm (j / k) k,Nat.div_add_mod,hcj] at h3
    injection h3.1 with h3
    rw[h3]
    exact(hc _ _ _ _ hy hyc).un
   ·rw[fC,List.mem_map] at hx
    obtain ⟨y,hy,rfl⟩:=hx
    rw[fg,List.length_map];exact hk y hy
theorem Gm.appS (g:Gm X σ a w κ) {x y:Operand} {t e k τ m:Nat} {tg:Option Nat} {xs ys zs:List (List C)} (ho:o.op= .call {callee:=.builtin .append,args:=#[x,y],argTypes:=#[t,t]}) (ht:sle P t=some (e,k)) (h0:0<k) (hx:Ev (evA σ.sl) x (.c (.lst (some τ) k xs)))
 (hτ:σ.hp τ=some (.row e k m)) (hm:xs.length=m) (hzc:∃ l,Zw P e l∧l.length=k) (hy:Ev (evA σ.sl) y (.c (.lst tg k ys))∨(Ev (evA σ.sl) y (.c .nil)∧ys=[])) (hz:xs++bV ys=zs) (hmax:zs.length≤maxLen) (hby:zs.length*P.bytesOf e≤140737488355328)
 (hd:∀ t,o.dst=some t→t<X.nt) (hN:∀ a' w' κ',Gm X ((σ.set τ (.row e k zs.length)).put o.dst (.c (.lst (some τ) k zs))) a' w' κ'→N a' w'):o.wp P a w N Q:=by
 subst hm
 obtain ⟨inf,hu,hi,hs⟩:=kn ht
 obtain ⟨zl,hzl,hzk⟩:=hzc
 obtain ⟨i2,z,z1,z2,z3⟩:=hzl
 have:i2=inf:=by rw[hi] at z1;injection z1 with z1;exact z1.symm
 subst this
 have hzs:z.cells.size=k:=by have:=(z3 κ w).1;simp at this;omega
 have hbytes:P.bytesOf e=i2.bytes:=by simp[Program.bytesOf,hi]
 rw[hbytes] at hby
 have hpx:=g.ev hx
 have hul:(bV ys).length=ys.length:=by rw[fC,List.length_map]
 have hzl:zs.length=xs.length+ys.length:=by rw[← hz,List.length_append,hul]
 obtain ⟨hDτ,hT1,hrow⟩:=g.hp τ _ hτ
 have hyr:∃ ao cap,a.eval y= .slice ao ys.length cap∧(ys.length=0∨∃ gg ob news,ao=some ⟨gg,ob,none⟩∧news.length=ys.length*k∧
  (∀ j u,news[j]? =some u→w.cell? ((⟨gg,ob,none⟩:Addr).add j)=some u)∧Reps κ w (bV ys).flatten news∧(∀ x∈bV ys,x.length=k)):=by
  rcases hy with hy|⟨hy,rfl⟩
  ·have:=g.ev hy
   cases this with|c this=>exact A2 this h0
  ·have:=g.ev hy
   cases this with
   |c this=>
    generalize a.eval y=q at this
    cases this
    exact⟨none,0,rfl,.inl rfl⟩
 obtain ⟨ao,cap2,hye,hyc⟩:=hyr
 cases hpx with
 |c hpx=>
  generalize he:a.eval x=vx at hpx
  have hpx':=hpx
  cases hpx with
  |lst cv hn hk h1 h2 hr hc htt=>
   rename_i ax nx capx
   subst hn
   obtain ⟨_,_,hhd⟩:=htt τ rfl
   have hhd:=hhd hT1.symm
   have exec:∀ {v':Value} {w1:World},(Builtin.append_ #[t,t] o.type #[.slice ax xs.length capx,.slice ao ys.length cap2]).run P w= .ok v' w1→(execOp a.eval o).run P w= .ok (.value v') w1:=fun {v' w1} hrun=>by
    unfold execOp
    simp only[ho,resolve,invoke,builtin,Sem.run_bind,Sem.run_pure,Result.andThen_ok,List.map_toArray,List.map_cons,List.map_nil,he,hye,hrun]
   by_cases hy0:ys.length=0
   ·have hye0:ys=[]:=List.eq_nil_of_length_eq_zero hy0
    subst hye0
    have hzx:zs=xs:=by rw[← hz];simp[bV]
    subst hzx
    have hrun:(Builtin.append_ #[t,t] o.type #[.slice ax zs.length capx,.slice ao 0 cap2]).run P w= .ok (.slice ax zs.length capx) w:=by
     cases ax <;> cases ao <;> simp[Builtin.append_,run_underlying hu,sizeOf,typeInfo,hi,Builtin.lenOf,Builtin.firstCells,h1,storeCells,loadCells,loadCellsFrom]
    have g':Gm X (σ.set τ (.row e k zs.length)) a w κ:=by
     have:σ.set τ (.row e k zs.length)=σ:=by unfold St.set;rw[Ks hτ]
     rw[this];exact g
    exact jI (exec hrun) (hN _ _ _ (g'.put (.c hpx') hd))
   ·rcases hyc with hyc|⟨gg,ob,news,rfl,hnl,hnews,hnr,hnk⟩
    ·exact absurd hyc hy0
    have Ck:0<ys.length:=by omega
    have hkz:∀ x∈zs,x.length=k:=fun x hx=>by
     rw[← hz,List.mem_append] at hx
     rcases hx with hx|hx
     ·exact hk x hx
     ·exact hnk x hx
    have gd:=g.drew
    have ld:Le κ w κ w.drew:=⟨fun n hn=>⟨hn,rfl⟩,fun g i hs hg=>⟨hs,rfl⟩,fun n _=>.inl rfl⟩
    rcases hrow with⟨hr0,hx0⟩|⟨b,cap,cur,hT2,hblk,hcs,hmc,hcm,hS,hb0⟩
    ·rw[hr0] at hhd
     injection hhd with e1 e2
     subst e1 e2
     have hxe:xs=[]:=List.eq_nil_of_length_eq_zero hx0
     subst hxe
     have hzy:zs=bV ys:=by rw[← hz];rfl
     have hb2:ys.length*i2.bytes≤281474976710656:=by
      have h9:=hby
      rw[hzl,List.length_nil,Nat.zero_add] at h9
      omega
     have hrun:=run_append_nil (P:=P) w t o.type e i2 z hu hi z2 ⟨gg,ob,none⟩ ys.length cap2 news (by rw[hnl,hs]) hnews Ck (by simp only[maxLen] at hmax;omega) hb2
     have hcg:=grownCap_ge w ys.length 0 e
     have hcl:=grownCap_le_maxLen w ys.length 0 e (by rw[hzl] at hmax;simpa using hmax)
     have hfl:(bV ys).flatten.length=ys.length*k:=by rw[iz hnk,hul]
     obtain ⟨κ',g',_,hrep⟩:=gd.row_new (t:=τ) (.inr ⟨_,hτ,by rw[hzy,hul];exact Ck⟩) (e:=e) (cap:=grownCap w ys.length 0 e) (xs:=zs) (cur:=news.toArray++Builtin.zeroCells z.cells (grownCap w ys.length 0 e - ys.length)) hkz
      (by
       rw[hzy,hul]
       have:((news.toArray++Builtin.zeroCells z.cells (grownCap w ys.length 0 e - ys.length)).toList.take (ys.length*k))=news:=by
        rw[Array.toList_append,←hnl]
        exact List.take_left
       rw[this];exact hnr.mono ld)
      (by rw[Array.size_append,size_zeroCells,hzs,List.size_toArray,hnl,←Nat.add_mul];congr 1;omega)
      (by rw[hzy,hul];exact hcg) hcl
     have e3:zs.length=ys.length:=by rw[hzy,hul]
     rw[e3] at g' hrep
     rw[e3] at hN
     exact jI (exec hrun) (hN _ _ _ (g'.put (.c hrep) hd))
    ·rw[hT2] at hhd
     injection hhd with e1 e2
     subst e1 e2
     have hrx:Reps κ w xs.flatten (cur.toList.take (xs.length*k)):=by
      have hfl:=iz hk
      have hle:xs.length*k≤cur.size:=by rw[hcs];exact Nat.mul_le_mul_right _ hmc
      refine⟨by rw[hfl,List.length_take];simp;omega,fun j c u hcj hu'=>?_⟩
      have hj:j<xs.length*k:=by rw[← hfl];exact(List.getElem?_eq_some_iff.1 hcj).1
      have hq:j / k<xs.length:=Nat.div_lt_of_lt_mul (by rw[Nat.mul_comm];exact hj)
      have hmk:j % k<k:=Nat.mod_lt _ h0
      have hyy:xs[j / k]? =some xs[j / k]:=List.getElem?_eq_getElem hq
      have hyl:=hk _ (List.getElem_mem hq)
      have hyc:(xs[j / k])[j % k]? =some ((xs[j / k])[j % k]'(by omega)):=List.getElem?_eq_getElem _
      have h3:=oo hk hyy hyc
      rw[Nat.mul_comm (j / k) k,Nat.div_add_mod,hcj] at h3
      injection h3.1 with h3
      rcases hr with hr|⟨g2,o2,e4,hr⟩
      ·rw[hr] at hq;exact absurd hq (Nat.not_lt_zero _)
      ·injection e4 with e4
       injection e4 with e4 e5
       subst e4 e5
       have h4:=(hr (j / k) (j % k) hq hmk).2
       rw[Nat.zero_add,Nat.mul_comm (j / k) k,Nat.div_add_mod,hblk.cell] at h4
       rw[List.getElem?_take,if_pos hj] at hu'
       have h5:cur[j]? =some u:=by simpa using hu'
       rw[h4] at h5
       injection h5 with h5
       rw[h3,←h5]
       exact hc _ _ _ _ hyy hyc
     by_cases hroom:xs.length+ys.length≤capx
     ·have hfit:xs.length*i2.size+news.length≤cur.size:=by rw[hnl,hs,hcs,←Nat.add_mul];exact Nat.mul_le_mul_right _ hroom
      have hrun:=run_append_room (P:=P) w t o.type e i2 hu hi b xs.length capx cur hblk ⟨gg,ob,none⟩ ys.length cap2 news (by rw[hnl,hs]) hnews hnr.one hroom hfit
      rw[hs] at hrun
      have hw:=setRow_heap w b cur (cur.toList.take (xs.length*k)++news++cur.toList.drop (xs.length*k+news.length)).toArray e (0,0) hblk
      have hlt:(cur.toList.take (xs.length*k)).length=xs.length*k:=by
       rw[List.length_take]
       have:xs.length*k≤cur.size:=by rw[hcs];exact Nat.mul_le_mul_right _ hmc
       simp;omega
      have hsz:(cur.toList.take (xs.length*k)++news++cur.toList.drop (xs.length*k+news.length)).toArray.size=capx*k:=by
       rw[hs] at hfit
       simp only[List.size_toArray,List.length_append,hlt,List.length_drop,Array.length_toList]
       omega
      obtain ⟨κ',g',_,hrep⟩:=g.row_in (w':=w.setRow b (cur.toList.take (xs.length*k)++news++cur.toList.drop (xs.length*k+news.length)).toArray) hτ hT2 hblk hw
       ⟨rfl,rfl,rfl,by simp[World.setRow],fun q hq hn=>by simp[World.setRow,Array.getElem?_modify,Ne.symm hn]⟩
       (fun i hi'=>by
        simp only[List.getElem?_toArray]
        rw[List.append_assoc,List.getElem?_append_left (by rw[hlt];exact hi'),List.getElem?_take,if_pos hi']
        simp)
       (xs:=zs) (by omega) hkz
       (by
        have:(cur.toList.take (xs.length*k)++news++cur.toList.drop (xs.length*k+news.length)).toArray.toList.take (zs.length*k)=cur.toList.take (xs.length*k)++news:=by
         have e6:zs.length*k=(cur.toList.take (xs.length*k)++news).length:=by rw[List.length_append,hlt,hnl,←Nat.add_mul,hzl]
         rw[e6]
         exact List.take_left
        rw[this,←hz,List.flatten_append]
        exact hrx.append hnr)
       hsz (by omega)
      rw[hzl] at g' hrep hN
      exact jI (exec hrun) (hN _ _ _ (g'.put (.c hrep) hd))
     ·have holds:∀ j u,(cur.toList.take (xs.length*k))[j]? =some u→w.cell? ((⟨b,0,none⟩:Addr).add j)=some u:=fun j u hu'=>by
       rw[we,Nat.zero_add,hblk.cell]
       rw[List.getElem?_take] at hu'
       split at hu'
       ·simpa using hu'
       ·cases hu'
      have hle:xs.length*k≤cur.size:=by rw[hcs];exact Nat.mul_le_mul_right _ hmc
      have hol:(cur.toList.take (xs.length*k)).length=xs.length*i2.size:=by rw[hs,List.length_take];simp;omega
      have hrun:=run_append_grow (P:=P) w t o.type e i2 z hu hi z2 ⟨b,0,none⟩ xs.length capx (cur.toList.take (xs.length*k)) hol holds ⟨gg,ob,none⟩ ys.length cap2 news (by rw[hnl,hs]) hnews (by omega) (by simp only[maxLen] at hmax;omega) (growslice_fits (by omega) (by rw[← hzl];exact hby))
      have hcg:=grownCap_ge w (xs.length+ys.length) capx e
      have hcl:=grownCap_le_maxLen w (xs.length+ys.length) capx e (by rw[← hzl];exact hmax)
      obtain ⟨κ',g',_,hrep⟩:=gd.row_new (t:=τ) (.inr ⟨_,hτ,by rw[hzl];omega⟩) (e:=e) (cap:=grownCap w (xs.length+ys.length) capx e) (xs:=zs)
       (cur:=(cur.toList.take (xs.length*k)).toArray++news.toArray++Builtin.zeroCells z.cells (grownCap w (xs.length+ys.length) capx e - (xs.length+ys.length))) hkz
       (by
        have:((cur.toList.take (xs.length*k)).toArray++news.toArray++Builtin.zeroCells z.cells (grownCap w (xs.length+ys.length) capx e - (xs.length+ys.length))).toList.take (zs.length*k)=cur.toList.take (xs.length*k)++news:=by
         have e6:zs.length*k=(cur.toList.take (xs.length*k)++news).length:=by rw[List.length_append,hol,hs,hnl,←Nat.add_mul,hzl]
         rw[e6,Array.toList_append,Array.toList_append]
         exact List.take_left
        rw[this,←hz,List.flatten_append]
        exact(hrx.append hnr).mono ld)
       (by
        rw[Array.size_append,Array.size_append,size_zeroCells,hzs,List.size_toArray,List.size_toArray,hol,hs,hnl,←Nat.add_mul,←Nat.add_mul]
        congr 1;omega)
       (by rw[hzl];exact hcg) hcl
      rw[hzl] at g' hrep hN
      exact jI (exec hrun) (hN _ _ _ (g'.put (.c hrep) hd))
end
end Am
namespace Am
variable [Tb]
open Go.RowKit
theorem Ll {X:Cx} {κ:K} {w:World} {n:Nat} {o:HO} {σ:St} (hn:σ.hp n=some o) (h:ObjOk X κ w n o) {b:Nat} (hb:b∈bl σ κ n):b∈X.F∨X.w0.heap.size≤b:=by
 unfold bl at hb
 rw[hn] at hb
 cases o with
 |obj ty cs=>
  have hb:=List.mem_singleton.1 hb
  subst hb
  obtain ⟨_,_,_,_,h⟩:=h
  exact h
 |row e k m=>
  obtain ⟨_,h|⟨b',cap,cur,e1,_,_,_,_,_,h⟩⟩:=h
  ·simp only[h.1] at hb;cases hb
  ·simp only[e1] at hb
   have hb:=List.mem_singleton.1 hb
   subst hb
   exact h.imp (X.sub _) id
 |bld ty e bs=>
  obtain ⟨_,_,_,_,_,_,_,h⟩:=h
  simp only[List.mem_cons,Option.mem_toList,Option.mem_def] at hb
  exact(h b hb).2
 |lost=>cases hb
 |gone=>
  have hb:=List.mem_singleton.1 hb
  subst hb
  exact h.2.2
section
variable {P:Program} {X:Cx} {σ:St} {a:Act} {w w':World} {κ:K} {o:Oper} {Q:Exit→Act→World→Prop} {M:Act→World→Prop}
theorem Gm.callN (g:Gm X σ a w κ) {x:Operand} {args:Array Operand} {ats:Array TypeId} {f:Nat} {caps:List C} {vs us:List V} {r:V} {N:List Nat} {h h':Nat→Option HO} {ns inv:Nat→Nat} {σ2:St}
 (ho:o.op= .call {callee:=.value x,args:=args,argTypes:=ats}) (hx:Ev (evA σ.sl) x (.c (.fn f caps))) (hv:EvL (evA σ.sl) args.toList vs)
 (hinv:∀ n∈N,inv (ns n)=n) (hent:∀ n∈N,n=0∨1000≤n) (hok:okV (fun m=>N.contains (inv m)&&ns (inv m) == m) (vs++caps.map V.c)=true) (hu:jE inv (vs++caps.map V.c)=us)
 (hh:∀ n∈N,∃ ob,σ.hp (ns n)=some ob∧ob.within (fun m=>N.contains (inv m)&&ns (inv m) == m)=true∧h n=some (ob.ren inv)) (hP:MN P f N h us r h')
 (h2:σ2.sl=σ.sl) (h3:∀ n∈N,∃ ob,h' n=some ob∧ob.within (fun m=>N.contains m)=true∧σ2.hp (ns n)=some (ob.ren ns)) (h4:∀ m,(∀ n∈N,ns n≠m)→σ2.hp m=σ.hp m)
 (hr:V.ok (fun m=>N.contains m) r=true) (hd:∀ t,o.dst=some t→t<X.nt) (hN:∀ a' w' κ',Gm X (σ2.put o.dst (r.ren ns)) a' w' κ'→M a' w'):o.wp P a w M Q:=by
 obtain ⟨hcall,hcs⟩:=hP
 have img:∀ m,(N.contains (inv m)&&ns (inv m) == m)=true→inv m∈N∧ns (inv m)=m:=fun m hm=>by
  rw[Bool.and_eq_true] at hm
  exact⟨List.contains_iff_mem.1 hm.1,eq_of_beq hm.2⟩
 have inj:∀ n∈N,∀ n'∈N,n≠n'→ns n≠ns n':=fun n hn n' hn' hne e=>hne (by rw[← hinv n hn,←hinv n' hn',e])
 have hp:=g.ev hx
 have hvs:=g.evl hv
 let κ0:K:={D:=fun n=>n∈N,μ:=fun n=>κ.μ (ns n),S:=κ.S,T:=fun n=>κ.T (ns n),B:=fun n=>κ.B (ns n)}
 let F:List Nat:=N.flatMap fun n=>bl σ κ (ns n)
 let R:List Nat:=N.flatMap fun n=>match σ.hp (ns n) with|some (.row _ _ _)=>bl σ κ (ns n)|_=>[]
 have hF:∀ b∈F,∃ n∈N,b∈bl σ κ (ns n):=fun b hb=>List.mem_flatMap.1 hb
 have inF:∀ n∈N,∀ b∈bl σ κ (ns n),b∈F:=fun n hn b hb=>List.mem_flatMap.2 ⟨n,hn,hb⟩
 have hR:∀ b∈R,∃ n∈N,(∃ e k m,σ.hp (ns n)=some (.row e k m))∧b∈bl σ κ (ns n):=fun b hb=>by
  obtain ⟨n,hn,hb⟩:=List.mem_flatMap.1 hb
  split at hb
  ·rename_i e k m he
   exact⟨n,hn,⟨e,k,m,he⟩,hb⟩
  ·cases hb
 have sub:∀ b∈R,b∈F:=fun b hb=>by
  obtain ⟨n,hn,_,hb⟩:=hR b hb
  exact inF n hn b hb
 have hRx:∀ b∈R,b∈X.R∨X.w0.heap.size≤b:=fun b hb=>by
  obtain ⟨n,hn,⟨e,k,m,he⟩,hb⟩:=hR b hb
  obtain ⟨_,_,h5|⟨b',cap,cur,e1,_,_,_,_,_,h5⟩⟩:=g.hp _ _ he
  ·unfold bl at hb;simp only[he,h5.1] at hb;cases hb
  ·unfold bl at hb
   simp only[he,e1] at hb
   have hb:=List.mem_singleton.1 hb
   subst hb
   exact h5
 let X0:Cx:=⟨w,κ.S,F,0,κ0,fun n hn=>hent n hn,R,sub,[]⟩
 have up:∀ b,b∈F∨w.heap.size≤b→b∈X.F∨X.w0.heap.size≤b:=fun b hb=>by
  rcases hb with hb|hb
  ·obtain ⟨n,_,hb⟩:=hF b hb
   exact(g.blk hb).2
  ·exact .inr (Nat.le_trans g.only.size hb)
 have r0:∀ m,(N.contains (inv m)&&ns (inv m) == m)=true→κ.D m→κ0.D (inv m)∧κ0.μ (inv m)=κ.μ m∧κ0.T (inv m)=κ.T m:=fun m hm _=>by
  obtain ⟨i1,i2⟩:=img m hm
  refine⟨i1,?_,?_⟩
  ·show κ.μ (ns (inv m))=_;rw[i2]
  ·show κ.T (ns (inv m))=_;rw[i2]
 have hbl0:∀ n∈N,bl ⟨fun _=>none,h⟩ κ0 n=bl σ κ (ns n):=fun n hn=>by
  obtain ⟨ob,e1,_,e2⟩:=hh n hn
  unfold bl
  simp only[e1,e2]
  cases ob <;> rfl
 have hobj:Objs X0 κ0 w N h:=by
  refine⟨fun n hn=>?_,fun n hn n' hn' b hne k1 k2=>?_⟩
  ·obtain ⟨ob,e1,e3,e2⟩:=hh n hn
   obtain ⟨_,hO⟩:=g.hp _ _ e1
   have mF:∀ b∈bl σ κ (ns n),b∈F:=inF n hn
   refine⟨_,e2,hn,?_⟩
   cases ob with
   |obj ty cs=>
    obtain ⟨ws,k1,k2,k3,_⟩:=hO
    refine⟨ws,k1,⟨by rw[di,List.length_map];exact k2.1,fun j c v hc hv=>?_⟩,k3,.inl (mF _ (by unfold bl;simp only[e1];exact List.mem_singleton.2 rfl))⟩
    rw[di,List.getElem?_map,Option.map_eq_some_iff] at hc
    obtain ⟨q,hq,rfl⟩:=hc
    exact(k2.2 j q v hq hv).ren (κ:=κ) (κ':=κ0) (fun _ _ h=>h) r0 (dO e3 q (List.mem_of_getElem? hq))
   |row e k m=>
    obtain ⟨k1,k2⟩:=hO
    refine⟨k1,k2.imp id fun⟨b,cap,cur,q1,q2,q3,q4,q5,q6,_⟩=>⟨b,cap,cur,q1,q2,q3,q4,q5,q6,.inl ?_⟩⟩
    refine List.mem_flatMap.2 ⟨n,hn,?_⟩
    simp only[e1]
    unfold bl
    simp only[e1,q1]
    exact List.mem_singleton.2 rfl
   |bld ty e bs=>
    obtain ⟨p,v,k1,k2,k3,k4,k5,k6⟩:=hO
    exact⟨p,v,k1,k2,k3,k4,k5,fun b hb=>⟨(k6 b hb).1,.inl (mF b ((fO e1).2 hb))⟩⟩
   |lost=>trivial
   |gone=>exact⟨hO.1,hO.2.1,.inl (mF _ (by unfold bl;simp only[e1];exact List.mem_singleton.2 rfl))⟩
  ·rw[hbl0 n hn] at k1
   rw[hbl0 n' hn'] at k2
   exact g.dis _ _ b (inj n hn n' hn' hne) k1 k2
 cases hp with
 |c hp=>
  generalize he:a.eval x=y at hp
  cases hp with
  |fn cv h1' h2' h3'=>
   rename_i cap
   have hall:RepVs κ w (vs++caps.map V.c) (args.toList.map a.eval++cap.toList):=by
    refine⟨by have:=hvs.1;simp at this ⊢;omega,fun j c v hc hvj=>?_⟩
    rcases Nat.lt_or_ge j vs.length with hj|hj
    ·rw[List.getElem?_append_left hj] at hc
     rw[List.getElem?_append_left (by rw[← hvs.1];exact hj)] at hvj
     exact hvs.2 j c v hc hvj
    ·rw[List.getElem?_append_right hj,List.getElem?_map,Option.map_eq_some_iff] at hc
     obtain ⟨q,hq,rfl⟩:=hc
     rw[List.getElem?_append_right (by rw[← hvs.1];exact hj),←hvs.1] at hvj
     have hjl:=(List.getElem?_eq_some_iff.1 hq).1
     have:=h2' _ hjl
     have e1:cap[j - vs.length]? =some v:=by simpa using hvj
     rw[this] at e1
     injection e1 with e1
     subst e1
     exact .c (h3' _ q hq)
   have hargs:RepVs κ0 w us ((args.map a.eval)++cap).toList:=by
    have e:((args.map a.eval)++cap).toList=args.toList.map a.eval++cap.toList:=by simp
    rw[e,←hu]
    refine⟨by rw[ij,List.length_map];exact hall.1,fun j c v hc hvj=>?_⟩
    rw[ij,List.getElem?_map,Option.map_eq_some_iff] at hc
    obtain ⟨q,hq,rfl⟩:=hc
    exact(hall.2 j q v hq hvj).ren (κ:=κ) (κ':=κ0) (fun _ _ h=>h) r0 (gM hok q (List.mem_of_getElem? hq))
   have hc:=hcs X0 ((args.map a.eval)++cap) g.tw (fun b hb=>by
    obtain ⟨n,_,hb⟩:=hF b hb
    exact g.tG b hb) rfl (fun n=>Iff.rfl) hobj g.s1 hargs
   unfold Oper.wp execOp
   simp only[ho,resolve]
   have hof:Deferred.ofValue (a.eval x) (args.map a.eval)=(pure {target:=.fn (.func f) cap,args:=#[]++args.map a.eval}:Sem Deferred):=by rw[he];rfl
   simp only[hof,Sem.run_bind,Sem.run_pure,Result.andThen_ok,invoke,Array.empty_append]
   rw[hcall,Oper.upon_enter]
   refine hc.mono fun e w'' hRes=>?_
   obtain ⟨x',κ1,rfl,hk,l1,s0,s1,hO',hr'⟩:=hRes
   have hk:Keep F w w'':=hk
   let κ2:K:={D:=κ.D,μ:=κ.μ,S:=κ1.S,T:=fun m=>if(N.contains (inv m)&&ns (inv m) == m)=true then κ1.T (inv m) else κ.T m,B:=fun m=>if(N.contains (inv m)&&ns (inv m) == m)=true then κ1.B (inv m) else κ.B m}
   have im:∀ n∈N,(N.contains (inv (ns n))&&ns (inv (ns n)) == ns n)=true:=fun n hn=>by
    rw[hinv n hn,Bool.and_eq_true];exact⟨List.contains_iff_mem.2 hn,beq_self_eq_true _⟩
   have t1:∀ n∈N,κ2.T (ns n)=κ1.T n∧κ2.B (ns n)=κ1.B n∧κ2.μ (ns n)=κ1.μ n:=fun n hn=>by
    refine⟨?_,?_,(l1.D n hn).2.symm⟩
    ·show(if _ then _ else _)=_;rw[if_pos (im n hn),hinv n hn]
    ·show(if _ then _ else _)=_;rw[if_pos (im n hn),hinv n hn]
   have no:∀ m,¬ (N.contains (inv m)&&ns (inv m) == m)=true→(∀ n∈N,ns n≠m)∧κ2.T m=κ.T m∧κ2.B m=κ.B m:=fun m hm=>
    ⟨fun n hn e=>hm (e▸im n hn),if_neg hm,if_neg hm⟩
   have l:Le κ w κ2 w'':=⟨fun n hn=>⟨hn,rfl⟩,l1.S,fun m hm=>by
    by_cases hi:(N.contains (inv m)&&ns (inv m) == m)=true
    ·obtain ⟨i1,i2⟩:=img m hi
     have e1:=(t1 _ i1).1
     rw[i2] at e1
     have e2:κ0.T (inv m)=κ.T m:=by show κ.T (ns (inv m))=_;rw[i2]
     rw[e1,←e2]
     exact l1.T _ i1
    ·exact .inl (no m hi).2.1⟩
   have r1:∀ n,N.contains n=true→κ1.D n→κ2.D (ns n)∧κ2.μ (ns n)=κ1.μ n∧κ2.T (ns n)=κ1.T n:=fun n hn _=>by
    have hn:=List.contains_iff_mem.1 hn
    obtain ⟨ob,e1,_⟩:=hh n hn
    exact⟨(g.hp _ _ e1).1,(t1 n hn).2.2,(t1 n hn).1⟩
   have out:∀ m,(∀ n∈N,ns n≠m)→∀ b∈bl σ κ m,b ∉ F:=fun m hm b hb hF'=>by
    obtain ⟨n,hn,hb'⟩:=hF b hF'
    exact g.dis _ _ b (hm n hn) hb' hb
   have old:∀ m,(∀ n∈N,ns n≠m)→∀ b∈bl σ κ m,∀ i,κ1.S b i→κ.S b i:=fun m hm b hb i hs=>by
    rcases s0 b i hs (g.blk hb).1 with k|k
    ·exact k
    ·exact absurd (sub b k) (out m hm b hb)
   have hbl1:∀ n∈N,bl σ2 κ2 (ns n)=bl ⟨fun _=>none,h'⟩ κ1 n:=fun n hn=>by
    obtain ⟨ob,e1,_,e2⟩:=h3 n hn
    obtain ⟨q1,q2,q3⟩:=t1 n hn
    unfold bl
    simp only[e1,e2]
    cases ob <;> simp only[HO.ren,q1,q2,q3]
   have hbl2:∀ m,¬ (N.contains (inv m)&&ns (inv m) == m)=true→bl σ2 κ2 m=bl σ κ m:=fun m hm=>by
    obtain ⟨q1,q2,q3⟩:=no m hm
    unfold bl
    rw[h4 m q1,q2,q3]
   have hnew:∀ n∈N,∀ b∈bl ⟨fun _=>none,h'⟩ κ1 n,b∈F∨w.heap.size≤b:=fun n hn b hb=>by
    obtain ⟨ob,e1,_,e2⟩:=hO'.ok n hn
    exact Ll (X:=X0) (σ:=⟨fun _=>none,h'⟩) e1 e2 hb
   have g2:Gm X σ2 a w'' κ2:=by
    refine⟨fun t v hv=>?_,fun m q hm=>?_,fun m hm=>?_,fun m m' b hne k1 k2=>?_,g.only.trans hk (fun b hb=>up b (.inl hb)),fun b i hs hlt=>?_,s1,g.sz,g.df,g.m0.trans l g.only.size,g.tb⟩
    ·rw[h2] at hv
     obtain ⟨z,hz,hzr⟩:=g.sl t v hv
     exact⟨z,hz,hzr.mono l⟩
    ·by_cases hi:(N.contains (inv m)&&ns (inv m) == m)=true
     ·obtain ⟨hn,i2⟩:=img m hi
      generalize inv m=n at hn i2
      subst i2
      obtain ⟨ob,e1,e2,e3⟩:=h3 n hn
      rw[e3] at hm
      injection hm with hm
      subst hm
      obtain ⟨ob0,z1,_⟩:=hh n hn
      refine⟨(g.hp _ _ z1).1,?_⟩
      obtain ⟨ob1,f1,f2,f3⟩:=hO'.ok n hn
      rw[e1] at f1
      injection f1 with f1
      subst f1
      obtain ⟨q1,q2,q3⟩:=t1 n hn
      cases ob with
      |obj ty cs=>
       obtain ⟨ws,k1,k2,k3,k4⟩:=f3
       refine⟨ws,by rw[q3];exact k1,⟨by rw[di,List.length_map];exact k2.1,fun j c v hc hv=>?_⟩,by rw[q3];exact k3,by rw[q3];exact up _ k4⟩
       rw[di,List.getElem?_map,Option.map_eq_some_iff] at hc
       obtain ⟨z,hz,rfl⟩:=hc
       exact(k2.2 j z v hz hv).ren (κ:=κ1) (κ':=κ2) (fun _ _ h=>h) r1 (dO e2 z (List.mem_of_getElem? hz))
      |row e k m=>
       obtain ⟨k1,k2⟩:=f3
       refine⟨by rw[q1];exact k1,?_⟩
       rw[q1]
       refine k2.imp id fun⟨b,cap,cur,p1,p2,p3,p4,p5,p6,p7⟩=>⟨b,cap,cur,p1,p2,p3,p4,p5,p6,?_⟩
       rcases p7 with p7|p7
       ·exact hRx b p7
       ·exact .inr (Nat.le_trans g.only.size p7)
      |bld ty e bs=>
       obtain ⟨p,v,k1,k2,k3,k4,k5,k6⟩:=f3
       refine⟨p,v,by rw[q3];exact k1,by rw[q3];exact k2,k3,by rw[q2];exact k4,by rw[q2,q3];exact k5,?_⟩
       rw[q2,q3]
       exact fun b hb=>⟨(k6 b hb).1,up b (k6 b hb).2⟩
      |lost=>trivial
      |gone=>
       obtain ⟨k1,k2,k3⟩:=f3
       exact⟨by rw[q3];exact k1,by rw[q3];exact k2,by rw[q3];exact up _ k3⟩
     ·obtain ⟨q1,q2,q3⟩:=no m hi
      rw[h4 m q1] at hm
      obtain ⟨hD,hO⟩:=g.hp m q hm
      have nF:=out m q1
      have oS:=old m q1
      refine⟨hD,?_⟩
      cases q with
      |obj ty cs=>
       obtain ⟨ws,k1,k2,k3,k4⟩:=hO
       have hb:κ.μ m∈bl σ κ m:=by unfold bl;simp only[hm];exact List.mem_singleton.2 rfl
       exact⟨ws,hk.blk k1 (nF _ hb),k2.mono l,fun i hs=>k3 i (oS _ hb i hs),k4⟩
      |row e k c=>
       obtain ⟨k1,k2⟩:=hO
       refine⟨by rw[q2];exact k1,?_⟩
       rw[q2]
       refine k2.imp id fun⟨b,cap,cur,p1,p2,p3,p4,p5,p6,p7⟩=>?_
       have hb:b∈bl σ κ m:=by unfold bl;simp only[hm,p1];exact List.mem_singleton.2 rfl
       exact⟨b,cap,cur,p1,hk.blk p2 (nF _ hb),p3,p4,p5,fun i hs=>p6 i (oS _ hb i hs),p7⟩
      |bld ty e bs=>exact hO.bld rfl q3 (fun b hb hlt=>hk.block b hlt (nF b ((fO hm).2 hb))) hk.size fun b i _ hb hs=>oS b ((fO hm).2 hb) i hs
      |lost=>trivial
      |gone=>
       have hb:κ.μ m∈bl σ κ m:=by unfold bl;simp only[hm];exact List.mem_singleton.2 rfl
       exact⟨Nat.lt_of_lt_of_le hO.1 hk.size,fun i hs=>hO.2.1 i (oS _ hb i hs),hO.2.2⟩
    ·by_cases hi:(N.contains (inv m)&&ns (inv m) == m)=true
     ·obtain ⟨hn,i2⟩:=img m hi
      obtain ⟨ob,_,_,e3⟩:=h3 _ hn
      rw[i2] at e3
      exact⟨_,e3⟩
     ·obtain ⟨q,hq⟩:=g.D m hm
      exact⟨q,(h4 m (no m hi).1).trans hq⟩
    ·by_cases hi:(N.contains (inv m)&&ns (inv m) == m)=true
     ·obtain ⟨hn,i2⟩:=img m hi
      rw[← i2,hbl1 _ hn] at k1
      by_cases hi':(N.contains (inv m')&&ns (inv m') == m')=true
      ·obtain ⟨hn',i2'⟩:=img m' hi'
       rw[← i2',hbl1 _ hn'] at k2
       exact hO'.dis _ hn _ hn' b (fun e=>hne (by rw[← i2,←i2',e])) k1 k2
      ·rw[hbl2 m' hi'] at k2
       rcases hnew _ hn b k1 with q|q
       ·exact out m' (no m' hi').1 b k2 q
       ·have:=(g.blk k2).1;omega
     ·rw[hbl2 m hi] at k1
      by_cases hi':(N.contains (inv m')&&ns (inv m') == m')=true
      ·obtain ⟨hn',i2'⟩:=img m' hi'
       rw[← i2',hbl1 _ hn'] at k2
       rcases hnew _ hn' b k2 with q|q
       ·exact out m (no m hi).1 b k1 q
       ·have:=(g.blk k1).1;omega
      ·rw[hbl2 m' hi'] at k2
       exact g.dis m m' b hne k1 k2
    ·have hlt2:b<w.heap.size:=Nat.lt_of_lt_of_le hlt g.only.size
     rcases s0 b i hs hlt2 with k|k
     ·exact g.s0 b i k hlt
     ·rcases hRx b k with k|k
      ·exact .inr k
      ·omega
   exact hN _ _ _ (g2.put (hr'.ren (κ:=κ1) (κ':=κ2) (fun _ _ h=>h) r1 hr) hd)
theorem Gm.callQ (g:Gm X σ a w κ) {x:Operand} {args:Array Operand} {ats:Array TypeId} {f:Nat} {caps:List C} {vs us:List V} {pv:Value} {N:List Nat} {h:Nat→Option HO} {ns inv:Nat→Nat} {σ2:St}
 (ho:o.op= .call {callee:=.value x,args:=args,argTypes:=ats}) (hx:Ev (evA σ.sl) x (.c (.fn f caps))) (hv:EvL (evA σ.sl) args.toList vs)
 (hinv:∀ n∈N,inv (ns n)=n) (hent:∀ n∈N,n=0∨1000≤n) (hok:okV (fun m=>N.contains (inv m)&&ns (inv m) == m) (vs++caps.map V.c)=true) (hu:jE inv (vs++caps.map V.c)=us)
 (hh:∀ n∈N,∃ ob,σ.hp (ns n)=some ob∧ob.within (fun m=>N.contains (inv m)&&ns (inv m) == m)=true∧h n=some (ob.ren inv)) (hP:MQ P f N h us pv)
 (h2:σ2.sl=σ.sl) (h3:∀ n∈N,σ2.hp (ns n)=some .lost) (h4:∀ m,(∀ n∈N,ns n≠m)→σ2.hp m=σ.hp m)
 (hN:∀ w' κ',Gm X σ2 a w' κ'→Q (.panic [{v:=pv,recovered:=false}]) a w'):o.wp P a w M Q:=by
 obtain ⟨hcall,hcs⟩:=hP
 have img:∀ m,(N.contains (inv m)&&ns (inv m) == m)=true→inv m∈N∧ns (inv m)=m:=fun m hm=>by
  rw[Bool.and_eq_true] at hm
  exact⟨List.contains_iff_mem.1 hm.1,eq_of_beq hm.2⟩
 have inj:∀ n∈N,∀ n'∈N,n≠n'→ns n≠ns n':=fun n hn n' hn' hne e=>hne (by rw[← hinv n hn,←hinv n' hn',e])
 have hp:=g.ev hx
 have hvs:=g.evl hv
 let κ0:K:={D:=fun n=>n∈N,μ:=fun n=>κ.μ (ns n),S:=κ.S,T:=fun n=>κ.T (ns n),B:=fun n=>κ.B (ns n)}
 let F:List Nat:=N.flatMap fun n=>bl σ κ (ns n)
 let R:List Nat:=N.flatMap fun n=>match σ.hp (ns n) with|some (.row _ _ _)=>bl σ κ (ns n)|_=>[]
 have hF:∀ b∈F,∃ n∈N,b∈bl σ κ (ns n):=fun b hb=>List.mem_flatMap.1 hb
 have inF:∀ n∈N,∀ b∈bl σ κ (ns n),b∈F:=fun n hn b hb=>List.mem_flatMap.2 ⟨n,hn,hb⟩
 have hR:∀ b∈R,∃ n∈N,(∃ e k m,σ.hp (ns n)=some (.row e k m))∧b∈bl σ κ (ns n):=fun b hb=>by
  obtain ⟨n,hn,hb⟩:=List.mem_flatMap.1 hb
  split at hb
  ·rename_i e k m he
   exact⟨n,hn,⟨e,k,m,he⟩,hb⟩
  ·cases hb
 have sub:∀ b∈R,b∈F:=fun b hb=>by
  obtain ⟨n,hn,_,hb⟩:=hR b hb
  exact inF n hn b hb
 have hRx:∀ b∈R,b∈X.R∨X.w0.heap.size≤b:=fun b hb=>by
  obtain ⟨n,hn,⟨e,k,m,he⟩,hb⟩:=hR b hb
  obtain ⟨_,_,h5|⟨b',cap,cur,e1,_,_,_,_,_,h5⟩⟩:=g.hp _ _ he
  ·unfold bl at hb;simp only[he,h5.1] at hb;cases hb
  ·unfold bl at hb
   simp only[he,e1] at hb
   have hb:=List.mem_singleton.1 hb
   subst hb
   exact h5
 let X0:Cx:=⟨w,κ.S,F,0,κ0,fun n hn=>hent n hn,R,sub,[]⟩
 have up:∀ b,b∈F∨w.heap.size≤b→b∈X.F∨X.w0.heap.size≤b:=fun b hb=>by
  rcases hb with hb|hb
  ·obtain ⟨n,_,hb⟩:=hF b hb
   exact(g.blk hb).2
  ·exact .inr (Nat.le_trans g.only.size hb)
 have r0:∀ m,(N.contains (inv m)&&ns (inv m) == m)=true→κ.D m→κ0.D (inv m)∧κ0.μ (inv m)=κ.μ m∧κ0.T (inv m)=κ.T m:=fun m hm _=>by
  obtain ⟨i1,i2⟩:=img m hm
  refine⟨i1,?_,?_⟩
  ·show κ.μ (ns (inv m))=_;rw[i2]
  ·show κ.T (ns (inv m))=_;rw[i2]
 have hbl0:∀ n∈N,bl ⟨fun _=>none,h⟩ κ0 n=bl σ κ (ns n):=fun n hn=>by
  obtain ⟨ob,e1,_,e2⟩:=hh n hn
  unfold bl
  simp only[e1,e2]
  cases ob <;> rfl
 have hobj:Objs X0 κ0 w N h:=by
  refine⟨fun n hn=>?_,fun n hn n' hn' b hne k1 k2=>?_⟩
  ·obtain ⟨ob,e1,e3,e2⟩:=hh n hn
   obtain ⟨_,hO⟩:=g.hp _ _ e1
   have mF:∀ b∈bl σ κ (ns n),b∈F:=inF n hn
   refine⟨_,e2,hn,?_⟩
   cases ob with
   |obj ty cs=>
    obtain ⟨ws,k1,k2,k3,_⟩:=hO
    refine⟨ws,k1,⟨by rw[di,List.length_map];exact k2.1,fun j c v hc hv=>?_⟩,k3,.inl (mF _ (by unfold bl;simp only[e1];exact List.mem_singleton.2 rfl))⟩
    rw[di,List.getElem?_map,Option.map_eq_some_iff] at hc
    obtain ⟨q,hq,rfl⟩:=hc
    exact(k2.2 j q v hq hv).ren (κ:=κ) (κ':=κ0) (fun _ _ h=>h) r0 (dO e3 q (List.mem_of_getElem? hq))
   |row e k m=>
    obtain ⟨k1,k2⟩:=hO
    refine⟨k1,k2.imp id fun⟨b,cap,cur,q1,q2,q3,q4,q5,q6,_⟩=>⟨b,cap,cur,q1,q2,q3,q4,q5,q6,.inl ?_⟩⟩
    refine List.mem_flatMap.2 ⟨n,hn,?_⟩
    simp only[e1]
    unfold bl
    simp only[e1,q1]
    exact List.mem_singleton.2 rfl
   |bld ty e bs=>
    obtain ⟨p,v,k1,k2,k3,k4,k5,k6⟩:=hO
    exact⟨p,v,k1,k2,k3,k4,k5,fun b hb=>⟨(k6 b hb).1,.inl (mF b ((fO e1).2 hb))⟩⟩
   |lost=>trivial
   |gone=>exact⟨hO.1,hO.2.1,.inl (mF _ (by unfold bl;simp only[e1];exact List.mem_singleton.2 rfl))⟩
  ·rw[hbl0 n hn] at k1
   rw[hbl0 n' hn'] at k2
   exact g.dis _ _ b (inj n hn n' hn' hne) k1 k2
 cases hp with
 |c hp=>
  generalize he:a.eval x=y at hp
  cases hp with
  |fn cv h1' h2' h3'=>
   rename_i cap
   have hall:RepVs κ w (vs++caps.map V.c) (args.toList.map a.eval++cap.toList):=by
    refine⟨by have:=hvs.1;simp at this ⊢;omega,fun j c v hc hvj=>?_⟩
    rcases Nat.lt_or_ge j vs.length with hj|hj
    ·rw[List.getElem?_append_left hj] at hc
     rw[List.getElem?_append_left (by rw[← hvs.1];exact hj)] at hvj
     exact hvs.2 j c v hc hvj
    ·rw[List.getElem?_append_right hj,List.getElem?_map,Option.map_eq_some_iff] at hc
     obtain ⟨q,hq,rfl⟩:=hc
     rw[List.getElem?_append_right (by rw[← hvs.1];exact hj),←hvs.1] at hvj
     have hjl:=(List.getElem?_eq_some_iff.1 hq).1
     have:=h2' _ hjl
     have e1:cap[j - vs.length]? =some v:=by simpa using hvj
     rw[this] at e1
     injection e1 with e1
     subst e1
     exact .c (h3' _ q hq)
   have hargs:RepVs κ0 w us ((args.map a.eval)++cap).toList:=by
    have e:((args.map a.eval)++cap).toList=args.toList.map a.eval++cap.toList:=by simp
    rw[e,←hu]
    refine⟨by rw[ij,List.length_map];exact hall.1,fun j c v hc hvj=>?_⟩
    rw[ij,List.getElem?_map,Option.map_eq_some_iff] at hc
    obtain ⟨q,hq,rfl⟩:=hc
    exact(hall.2 j q v hq hvj).ren (κ:=κ) (κ':=κ0) (fun _ _ h=>h) r0 (gM hok q (List.mem_of_getElem? hq))
   have hc:=hcs X0 ((args.map a.eval)++cap) g.tw (fun b hb=>by
    obtain ⟨n,_,hb⟩:=hF b hb
    exact g.tG b hb) rfl (fun n=>Iff.rfl) hobj g.s1 hargs
   unfold Oper.wp execOp
   simp only[ho,resolve]
   have hof:Deferred.ofValue (a.eval x) (args.map a.eval)=(pure {target:=.fn (.func f) cap,args:=#[]++args.map a.eval}:Sem Deferred):=by rw[he];rfl
   simp only[hof,Sem.run_bind,Sem.run_pure,Result.andThen_ok,invoke,Array.empty_append]
   rw[hcall,Oper.upon_enter]
   refine hc.mono fun e w'' hRes=>?_
   obtain ⟨κ1,rfl,hk,l1,s0,s1⟩:=hRes
   have hk:Keep F w w'':=hk
   let κ2:K:={D:=κ.D,μ:=κ.μ,S:=κ1.S,T:=fun m=>if(N.contains (inv m)&&ns (inv m) == m)=true then κ1.T (inv m) else κ.T m,B:=fun m=>if(N.contains (inv m)&&ns (inv m) == m)=true then κ1.B (inv m) else κ.B m}
   have im:∀ n∈N,(N.contains (inv (ns n))&&ns (inv (ns n)) == ns n)=true:=fun n hn=>by
    rw[hinv n hn,Bool.and_eq_true];exact⟨List.contains_iff_mem.2 hn,beq_self_eq_true _⟩
   have t1:∀ n∈N,κ2.T (ns n)=κ1.T n∧κ2.B (ns n)=κ1.B n∧κ2.μ (ns n)=κ1.μ n:=fun n hn=>by
    refine⟨?_,?_,(l1.D n hn).2.symm⟩
    ·show(if _ then _ else _)=_;rw[if_pos (im n hn),hinv n hn]
    ·show(if _ then _ else _)=_;rw[if_pos (im n hn),hinv n hn]
   have no:∀ m,¬ (N.contains (inv m)&&ns (inv m) == m)=true→(∀ n∈N,ns n≠m)∧κ2.T m=κ.T m∧κ2.B m=κ.B m:=fun m hm=>
    ⟨fun n hn e=>hm (e▸im n hn),if_neg hm,if_neg hm⟩
   have l:Le κ w κ2 w'':=⟨fun n hn=>⟨hn,rfl⟩,l1.S,fun m hm=>by
    by_cases hi:(N.contains (inv m)&&ns (inv m) == m)=true
    ·obtain ⟨i1,i2⟩:=img m hi
     have e1:=(t1 _ i1).1
     rw[i2] at e1
     have e2:κ0.T (inv m)=κ.T m:=by show κ.T (ns (inv m))=_;rw[i2]
     rw[e1,←e2]
     exact l1.T _ i1
    ·exact .inl (no m hi).2.1⟩
   have r1:∀ n,N.contains n=true→κ1.D n→κ2.D (ns n)∧κ2.μ (ns n)=κ1.μ n∧κ2.T (ns n)=κ1.T n:=fun n hn _=>by
    have hn:=List.contains_iff_mem.1 hn
    obtain ⟨ob,e1,_⟩:=hh n hn
    exact⟨(g.hp _ _ e1).1,(t1 n hn).2.2,(t1 n hn).1⟩
   have out:∀ m,(∀ n∈N,ns n≠m)→∀ b∈bl σ κ m,b ∉ F:=fun m hm b hb hF'=>by
    obtain ⟨n,hn,hb'⟩:=hF b hF'
    exact g.dis _ _ b (hm n hn) hb' hb
   have old:∀ m,(∀ n∈N,ns n≠m)→∀ b∈bl σ κ m,∀ i,κ1.S b i→κ.S b i:=fun m hm b hb i hs=>by
    rcases s0 b i hs (g.blk hb).1 with k|k
    ·exact k
    ·exact absurd (sub b k) (out m hm b hb)
   have hbl1:∀ n∈N,bl σ2 κ2 (ns n)=[]:=fun n hn=>by
    unfold bl
    simp only[h3 n hn]
   have hbl2:∀ m,¬ (N.contains (inv m)&&ns (inv m) == m)=true→bl σ2 κ2 m=bl σ κ m:=fun m hm=>by
    obtain ⟨q1,q2,q3⟩:=no m hm
    unfold bl
    rw[h4 m q1,q2,q3]
   have g2:Gm X σ2 a w'' κ2:=by
    refine⟨fun t v hv=>?_,fun m q hm=>?_,fun m hm=>?_,fun m m' b hne k1 k2=>?_,g.only.trans hk (fun b hb=>up b (.inl hb)),fun b i hs hlt=>?_,s1,g.sz,g.df,g.m0.trans l g.only.size,g.tb⟩
    ·rw[h2] at hv
     obtain ⟨z,hz,hzr⟩:=g.sl t v hv
     exact⟨z,hz,hzr.mono l⟩
    ·by_cases hi:(N.contains (inv m)&&ns (inv m) == m)=true
     ·obtain ⟨hn,i2⟩:=img m hi
      generalize inv m=n at hn i2
      subst i2
      rw[h3 n hn] at hm
      injection hm with hm
      subst hm
      obtain ⟨ob0,z1,_⟩:=hh n hn
      exact⟨(g.hp _ _ z1).1,trivial⟩
     ·obtain ⟨q1,q2,q3⟩:=no m hi
      rw[h4 m q1] at hm
      obtain ⟨hD,hO⟩:=g.hp m q hm
      have nF:=out m q1
      have oS:=old m q1
      refine⟨hD,?_⟩
      cases q with
      |obj ty cs=>
       obtain ⟨ws,k1,k2,k3,k4⟩:=hO
       have hb:κ.μ m∈bl σ κ m:=by unfold bl;simp only[hm];exact List.mem_singleton.2 rfl
       exact⟨ws,hk.blk k1 (nF _ hb),k2.mono l,fun i hs=>k3 i (oS _ hb i hs),k4⟩
      |row e k c=>
       obtain ⟨k1,k2⟩:=hO
       refine⟨by rw[q2];exact k1,?_⟩
       rw[q2]
       refine k2.imp id fun⟨b,cap,cur,p1,p2,p3,p4,p5,p6,p7⟩=>?_
       have hb:b∈bl σ κ m:=by unfold bl;simp only[hm,p1];exact List.mem_singleton.2 rfl
       exact⟨b,cap,cur,p1,hk.blk p2 (nF _ hb),p3,p4,p5,fun i hs=>p6 i (oS _ hb i hs),p7⟩
      |bld ty e bs=>exact hO.bld rfl q3 (fun b hb hlt=>hk.block b hlt (nF b ((fO hm).2 hb))) hk.size fun b i _ hb hs=>oS b ((fO hm).2 hb) i hs
      |lost=>trivial
      |gone=>
       have hb:κ.μ m∈bl σ κ m:=by unfold bl;simp only[hm];exact List.mem_singleton.2 rfl
       exact⟨Nat.lt_of_lt_of_le hO.1 hk.size,fun i hs=>hO.2.1 i (oS _ hb i hs),hO.2.2⟩
    ·by_cases hi:(N.contains (inv m)&&ns (inv m) == m)=true
     ·obtain ⟨hn,i2⟩:=img m hi
      have e3:=h3 _ hn
      rw[i2] at e3
      exact⟨_,e3⟩
     ·obtain ⟨q,hq⟩:=g.D m hm
      exact⟨q,(h4 m (no m hi).1).trans hq⟩
    ·by_cases hi:(N.contains (inv m)&&ns (inv m) == m)=true
     ·obtain ⟨hn,i2⟩:=img m hi
      rw[← i2,hbl1 _ hn] at k1
      cases k1
     ·rw[hbl2 m hi] at k1
      by_cases hi':(N.contains (inv m')&&ns (inv m') == m')=true
      ·obtain ⟨hn',i2'⟩:=img m' hi'
       rw[← i2',hbl1 _ hn'] at k2
       cases k2
      ·rw[hbl2 m' hi'] at k2
       exact g.dis m m' b hne k1 k2
    ·have hlt2:b<w.heap.size:=Nat.lt_of_lt_of_le hlt g.only.size
     rcases s0 b i hs hlt2 with k|k
     ·exact g.s0 b i k hlt
     ·rcases hRx b k with k|k
      ·exact .inr k
      ·omega
   exact hN _ _ g2
end
end Am
namespace Am
variable [Tb]
open Go.RowKit
theorem vY:∀ (l:List (Nat×HO)) (σ:St),(σ.wr l).sl=σ.sl
 |[],_=>rfl
 |p :: l,σ=>by rw[St.wr,vY l];rfl
theorem qu:∀ (l:List (Nat×HO)) (σ:St) (n:Nat),(∀ p∈l,p.1≠n)→(σ.wr l).hp n=σ.hp n
 |[],_,_,_=>rfl
 |p :: l,σ,n,h=>by
  rw[St.wr,qu l _ n fun q hq=>h q (.tail _ hq)]
  exact bD _ _ (Ne.symm (h p (.head _)))
theorem EU:∀ (l:List (Nat×HO)) (σ τ:St) (n:Nat),(∃ p∈l,p.1=n)→(σ.wr l).hp n=(τ.wr l).hp n
 |[],_,_,_,⟨_,h,_⟩=>by cases h
 |p :: l,σ,τ,n,⟨q,hq,hn⟩=>by
  rw[St.wr,St.wr]
  by_cases h:∃ p∈l,p.1=n
  ·exact EU l _ _ n h
  ·have h':∀ p∈l,p.1≠n:=fun p hp e=>h ⟨p,hp,e⟩
   rw[qu l _ n h',qu l _ n h']
   rcases List.mem_cons.1 hq with rfl|hq
   ·subst hn
    show upd _ _ _ _=upd _ _ _ _
    rw[aX,aX]
   ·exact absurd hn (h' q hq)
def St.app (σ:St) (d:Option Nat) (e:Eff):St:=(σ.wr e.wr).put d e.val
theorem Gm.sufS {P:Program} {X:Cx} {σ:St} {a:Act} {w:World} {κ:K} {o:Oper} {Q:Exit→Act→World→Prop} {N:Act→World→Prop} (g:Gm X σ a w κ) {t e k i j:Nat} {x:Operand} {lo hi:Option Operand} {tg:Option Nat} {xs:List (List C)} (ho:o.op= .slice t x lo hi none) (ht:sle P t=some (e,k)) (hx:Ev (evA σ.sl) x (.c (.lst tg k xs))) (hlo:∀ y,lo=some y→Ev (evA σ.sl) y (.c (.sc (.int .i64 (i:Nat))))) (hlo0:lo=none→i=0)
 (hhi:∀ y,hi=some y→Ev (evA σ.sl) y (.c (.sc (.int .i64 (j:Nat))))) (hhi0:hi=none→j=xs.length) (hij:i≤j) (hj:j≤xs.length) (hd:∀ t,o.dst=some t→t<X.nt) (hN:∀ a' w' κ',Gm X (σ.put o.dst (.c (.lst none k ((xs.drop i).take (j - i))))) a' w' κ'→N a' w'):o.wp P a w N Q:=by
 have hp:=g.ev hx
 obtain ⟨inf,hu,hi1,hs1⟩:=kn ht
 have hel:P.elem t=e:=by simp[Program.elem,hu]
 cases hp with
 |c hp=>
  generalize he':a.eval x=y at hp
  cases hp with
  |lst cv hn hk h1 h2 hr hc htt=>
   rename_i ad n cap
   have hlen:((xs.drop i).take (j - i)).length=j - i:=by rw[List.length_take,List.length_drop];omega
   have get:∀ q,q<j - i→((xs.drop i).take (j - i))[q]? =xs[i+q]?:=fun q hq=>by rw[List.getElem?_take,if_pos hq,List.getElem?_drop]
   have hrep:Rep κ w (.lst none k ((xs.drop i).take (j - i))) (.slice (if cap=i then ad else ad.map (·.add (i*k))) (j - i) (cap - i)):=by
    refine .lst (fun p q=>cv (i+p) q) hlen.symm (fun x hx=>hk x (List.mem_of_mem_drop (List.mem_of_mem_take hx))) (by omega) (by omega) ?_ (fun p q x c hx hcc=>?_) (fun τ e=>by cases e)
    ·rcases Nat.eq_zero_or_pos (j - i) with h0|h0
     ·exact .inl (by rw[hlen];exact h0)
     ·rcases hr with hr|⟨gb,go,rfl,hr⟩
      ·omega
      ·refine .inr ⟨gb,go+i*k,?_,fun p q hp hq=>?_⟩
       ·rw[if_neg (by omega)];simp[we]
       ·rw[hlen] at hp
        obtain ⟨r1,r2⟩:=hr (i+p) q (by omega) hq
        have e:go+(i+p)*k+q=go+i*k+p*k+q:=by rw[Nat.add_mul];omega
        rw[e] at r1 r2
        exact⟨r1,r2⟩
    ·have hp:p<j - i:=by
      have:=(List.getElem?_eq_some_iff.1 hx).1
      rw[hlen] at this;exact this
     rw[get p hp] at hx
     exact hc (i+p) q x c hx hcc
   refine g.quiet hd (.c hrep) ?_ hN
   have e1:∀ y,lo=some y→a.eval y= .int .i64 (i:Nat):=fun y hy=>Cq.uniq .sc (g.ev (hlo y hy))
   have e2:∀ y,hi=some y→a.eval y= .int .i64 (j:Nat):=fun y hy=>Cq.uniq .sc (g.ev (hhi y hy))
   unfold execOp
   simp only[ho,he',Option.map_none]
   have hb:(Instr.sliceBounds true n cap (lo.map a.eval) (hi.map a.eval) none).run P w= .ok (i,j,cap) w:=by
    have c1:((j:Nat):Int)≤cap:=by omega
    have c2:((i:Nat):Int)≤j:=by omega
    cases lo with
    |none=>
     have:=hlo0 rfl
     subst this
     cases hi with
     |none=>
      have:=hhi0 rfl
      subst this
      subst hn
      simp[Instr.sliceBounds]
     |some y=>
      have c3:¬ cap<j:=by omega
      simp[Instr.sliceBounds,Instr.sliceBound,e2 y rfl,asIntOf,c3]
    |some z=>
     cases hi with
     |none=>
      have:=hhi0 rfl
      subst this
      subst hn
      have c3:¬ xs.length<i:=by omega
      simp[Instr.sliceBounds,Instr.sliceBound,e1 z rfl,asIntOf,c3]
     |some y=>
      have c3:j≤cap:=by omega
      simp[Instr.sliceBounds,Instr.sliceBound,e1 z rfl,e2 y rfl,asIntOf,c3,hij]
   simp[Instr.sliceAt,Instr.slice,run_underlying hu,hb,sizeOf,typeInfo,hi1,hs1]
section
variable {P:Program} {X:Cx} {σ:St} {a:Act} {w w':World} {κ:K} {o:Oper} {Q:Exit→Act→World→Prop} {N:Act→World→Prop}
theorem AS.sound {e:Eff} (h:AS P (evA σ.sl) σ.hp o e) (g:Gm X σ a w κ) (hd:∀ t,o.dst=some t→t<X.nt) (hN:∀ a' w' κ',Gm X (σ.app o.dst e) a' w' κ'→N a' w'):o.wp P a w N Q:=by
 cases h with
 |move ho hx=>
  refine g.quiet hd (g.ev hx) ?_ hN
  unfold execOp
  rcases ho with ho|ho <;> simp[ho]
 |still h hc=>exact g.quiet hd (hc fun y _ z hz=>by have:=g.ev hz;cases this with|c r=>(cases r with|sc h=>exact h)).rep (h a.eval (fun y _ u z hu hz=>hz.uniq (g.ev hu)) w) hN
 |view h hc=>exact g.quiet hd hc.rep (h κ w a.eval fun y _ u hu=>g.ev hu) hN
 |nilCheck ho hx hp=>exact g.nilCheck ho hx hp hd hN
 |mkI ho hx hvs ht=>
  rename_i t x vs
  have hr:=g.ev hx
  have he:a.eval x= .agg vs.toArray:=by
   generalize a.eval x=y at hr
   cases hr with
   |agg hr=>
    rename_i us
    congr 1
    apply Array.ext'
    have h1:us.toList.length=vs.length:=by have:=hr.1;simp at this;simpa using this.symm
    apply List.ext_getElem? 
    intro j
    rcases Nat.lt_or_ge j vs.length with hj|hj
    ·have h2:=hr.2 j (.sc vs[j]) us.toList[j] (by rw[List.getElem?_map,List.getElem?_eq_getElem hj];rfl) (List.getElem?_eq_getElem (by omega))
     have e3:us.toList[j]=vs[j]:=Cq.uniq .sc (.c h2)
     rw[List.getElem?_eq_getElem (by omega),e3]
     simp only[List.getElem?_eq_getElem hj]
    ·rw[List.getElem?_eq_none (by omega)]
     simp[hj]
  have hsc:jG (.iface t (.agg vs.toArray))=true:=by
   rw[he] at hr
   show(vs.toArray.toList.all _)=true
   rw[List.all_eq_true] at hvs ⊢
   intro v hv
   have hv':v∈vs:=by simpa using hv
   have:=hvs v hv'
   cases hr with
   |agg hr=>
    obtain ⟨j,hj⟩:=List.mem_iff_getElem?.1 hv'
    have h2:=hr.2 j (.sc v) v (by rw[List.getElem?_map,hj];rfl) (by simpa using hj)
    cases h2 with
    |sc h3=>cases v <;> first|rfl|(exact h3)|(cases this;done)
  refine g.quiet hd (.c (.sc hsc)) ?_ hN
  unfold execOp
  split at ht
  ·rename_i fs hu
   simp[ho,he,Instr.makeInterface,run_underlying hu]
  ·cases ht
 |pick ho hc ha hb=>
  rename_i c x y t v
  have h1:a.eval c= .bool t:=Cq.uniq .sc (g.ev hc)
  cases t with
  |true=>
   refine g.quiet hd (g.ev (ha rfl)) ?_ hN
   unfold execOp
   simp[ho,h1,asBool]
  |false=>
   refine g.quiet hd (g.ev (hb rfl)) ?_ hN
   unfold execOp
   simp[ho,h1,asBool]
 |pickB ho hc ha hb=>
  rename_i c x y t p q
  have h1:a.eval c= .bool t:=Cq.uniq .sc (g.ev hc)
  cases t with
  |true=>
   have h2:a.eval x= .bool p:=Cq.uniq .sc (g.ev (ha rfl))
   refine g.quiet hd (.c (.sc rfl)) ?_ hN
   unfold execOp
   simp[ho,h1,h2,asBool]
  |false=>
   have h2:a.eval y= .bool q:=Cq.uniq .sc (g.ev (hb rfl))
   refine g.quiet hd (.c (.sc rfl)) ?_ hN
   unfold execOp
   simp[ho,h1,h2,asBool]
 |alloc ho ht hz=>exact g.allocS ho ht hz hd hN
 |allocB ho _ ht hz=>exact g.allocB ho ht hz hd hN
 |box ho ht hx hc=>exact g.boxS ho ht hx hc hd hN
 |load ho hx hh ht hc=>exact g.loadS ho hx hh ht hc hd hN
 |loadE ho hx ht hc=>exact g.loadE ho hx ht hc hd hN
 |store ho hx hh hy hc ht hs=>exact g.storeS ho hx hh hy hc ht hs hd hN
 |fieldP ho hx hf he=>exact g.fieldP ho hx hf he hd hN
 |fieldE ho hx hf he=>exact g.fieldE ho hx hf he hd hN
 |field ho hx hf ht hc=>exact g.field ho hx hf ht hc hd hN
 |indexL ho hx hi ht hz hj=>exact g.indexL ho hx hi ht hz hj hd hN
 |suf ho ht hx hlo hlo0 hhi hhi0 hij hj he=>subst he;exact g.sufS ho ht hx hlo hlo0 hhi hhi0 hij hj hd hN
 |extract ho hx hl=>exact g.extract ho hx hl hd hN
 |lenL ho ht hx=>exact g.lenL ho ht hx hd hN
 |lenN ho ht hx=>exact g.lenN ho ht hx hd hN
 |makeFunc ho hv hc=>exact g.makeFunc ho hv hc hd hN
 |build ho hz hpl hv hf=>exact g.buildS ho hz hpl hv hf hd hN
 |buildSlice ho ht hz hk h0 hn hv hf=>exact g.sliceS ho ht hz hk h0 hn hv hf hd hN
 |buildRow ho _ hdn ht hz hk h0 hn hv hf=>exact g.rowS ho hdn ht hz hk h0 hn hv hf hd hN
 |append ho ht h0 hx hτ hm hzc hy hz hmax hby=>exact g.appS ho ht h0 hx hτ hm hzc hy hz hmax hby hd hN
 |call ho hx hv hu hok hP=>exact g.callS ho hx hv hu hok hP hd hN
 |callW ho hx hv hu hok hP ht=>exact g.callW ho hx hv hu hok hP ht hd hN
 |callE ho hx hv hns hu hok hP hsc=>exact g.callE ho hx hv hu hok hP hsc hd hN
 |callN ho hx hv hinv hent hok hu hh hP hL h3 hr=>exact g.callN ho hx hv hinv hent hok hu hh hP (vY _ _) (fun n hn=>(h3 n hn).imp fun ob k=>⟨k.1,k.2.1,k.2.2 σ⟩) (fun m hm=>qu _ _ _ fun p hp e=>(hL p hp).elim fun n k=>hm n k.1 (k.2.trans e)) hr hd hN
 |callM ho hx hv hu hn h1 h2 hok hP=>exact g.callM ho hx hv hu hn h1 h2 hok hP hd hN
theorem Gm.weak1 {d:Option Nat} {v v':V} (g:Gm X (σ.put d v) a w κ) (h:∀ x,RepV κ w v x→RepV κ w v' x):Gm X (σ.put d v') a w κ:=by
 cases d with
 |none=>exact g
 |some d=>
  refine⟨fun s u hu=>?_,g.hp,g.D,g.dis,g.only,g.s0,g.s1,g.sz,g.df,g.m0,g.tb⟩
  by_cases hs:s=d
  ·subst hs
   have:upd σ.sl s v' s=some u:=hu
   rw[aX] at this
   injection this with this
   subst this
   obtain ⟨x,hx,hr⟩:=g.sl s v (aX _ _ _)
   exact⟨x,hx,h x hr⟩
  ·have:upd σ.sl d v' s=some u:=hu
   rw[bD _ _ hs] at this
   exact g.sl s u (show upd σ.sl d v s=some u by rw[bD _ _ hs];exact this)
def gd (ops:Array Oper) (sl:Nat→Option V) (o:Oper):Option Bool:=match o.guard with
 |none=>some true
 |some (j,want)=>match (ops[j]?).bind (·.dst) with
  |some d=>match sl d with
   |some (.c (.sc (.bool b)))=>some (b == want)
   |some (.wh g (.c (.sc (.bool b))))=>some (g&&(b == want))
   |_=>none
  |none=>none
inductive SE (P:Program) (ops:Array Oper) (sl:Nat→Option V) (H:Nat→Option HO) (o:Oper):Eff→Prop
 |yes {e:Eff}:gd ops sl o=some true→AS P (evA sl) H o e→SE P ops sl H o e
 |no:gd ops sl o=some false→SE P ops sl H o ⟨jP,[],[]⟩
 |may {t:Bool} {v:V} {rd:List Nat}:gd ops sl o=some t→(t=true→AS P (evA sl) H o ⟨v,[],rd⟩)→SE P ops sl H o ⟨.wh t v,[],rd⟩
theorem gT {ops:Array Oper} (g:Gm X σ a w κ) {t:Bool} (h:gd ops σ.sl o=some t):Region.wanted o (yielded ops a.tmps)=t:=by
 unfold gd at h
 unfold Region.wanted
 split at h
 ·rename_i hg;injection h with h;rw[hg];exact h
 ·rename_i j want hg
  rw[hg]
  simp only
  split at h
  ·rename_i d hd
   unfold yielded
   rw[hd]
   simp only[Option.bind_some]
   split at h
   ·rename_i b hb
    obtain ⟨x,hx,hr⟩:=g.sl d _ hb
    have:x= .bool b:=Cq.uniq .sc hr
    subst this
    rw[hx]
    cases h
    cases b <;> cases want <;> rfl
   ·rename_i q b hb
    obtain ⟨x,hx,hr⟩:=g.sl d _ hb
    cases hr with
    |wh h1 h2=>
     rw[hx]
     cases h
     cases q with
     |true=>
      have:x= .bool b:=Cq.uniq .sc (h1 rfl)
      subst this
      cases b <;> cases want <;> rfl
     |false=>
      rw[h2 rfl]
      cases want <;> rfl
   ·cases h
  ·cases h
theorem SE.sound {ops:Array Oper} {e:Eff} (h:SE P ops σ.sl σ.hp o e) (g:Gm X σ a w κ) (hd:∀ t,o.dst=some t→t<X.nt) (hN:∀ a' w' κ',Gm X (σ.app o.dst e) a' w' κ'→N a' w') :
 if Region.wanted o (yielded ops a.tmps)=true then o.wp P a w N Q else N (a.put o.dst undef) w:=by
 cases h with
 |yes hg h=>rw[gT g hg,if_pos rfl];exact h.sound g hd hN
 |no hg=>rw[gT g hg,if_neg (by simp)];exact hN _ _ _ (g.put (.wh (fun e=>by cases e) fun _=>rfl) hd)
 |may hg h=>
  rename_i t v rd
  rw[gT g hg]
  cases t with
  |true=>
   rw[if_pos rfl]
   have h1:=h rfl
   exact AS.sound (N:=N) h1 g hd fun a' w' κ' g'=>hN a' w' κ' (Gm.weak1 g' fun x hr=>.wh (fun _=>hr) fun e=>by cases e)
  |false=>
   rw[if_neg (by simp)]
   exact hN _ _ _ (g.put (.wh (fun e=>by cases e) fun _=>rfl) hd)
end
abbrev FP:=List Nat×List Nat
def Eff.fp (e:Eff):FP:=(e.wr.map (·.1),e.rd)
def AL (P:Program) (ops:Array Oper):List Oper→St→List FP→(St→List FP→Prop)→Prop
 |[],σ,fs,K=>K σ fs
 |o :: l,σ,fs,K=>∃ e,SE P ops σ.sl σ.hp o e∧AL P ops l (σ.app o.dst e) (fs++[e.fp]) K
def AW (P:Program) (nt:Nat) (c:Code) (Q:Exit→St→Prop) (σ:St):Prop:=
 ∀ (X:Cx) (a:Act) (w:World) (κ:K),X.nt=nt→Gm X σ a w κ→c.wp P (fun e a' w'=>∃ σ',Q e σ'∧∃ κ',Gm X σ' a' w' κ') a w
section
variable {P:Program} {nt:Nat} {Q:Exit→St→Prop} {σ:St}
theorem AL.sound {ops:Array Oper} {X:Cx} (hX:X.nt=nt):∀ (l:List Oper) (σ:St) (fs:List FP) (a:Act) (w:World) (κ:K),(l.all fun o=>match o.dst with|some t=>decide (t<nt)|none=>true)=true→AL P ops l σ fs (fun σ' _=>Q .normal σ')→Gm X σ a w κ→
 wpList P ops (fun e a' w'=>∃ σ',Q e σ'∧∃ κ',Gm X σ' a' w' κ') l a w
 |[],σ,fs,a,w,κ,_,h,g=>⟨σ,h,κ,g⟩
 |o :: l,σ,fs,a,w,κ,hl,⟨e,hs,h⟩,g=>by
  rw[List.all_cons,Bool.and_eq_true] at hl
  refine wpList_step fun K hK=>?_
  refine hs.sound g (fun t ht=>?_) fun a' w' κ' g'=>hK _ _ (AL.sound hX l _ _ a' w' κ' hl.2 h g')
  have:=hl.1
  rw[ht] at this
  rw[hX]
  exact of_decide_eq_true this
theorem AW.region {id:Nat} {l:List Oper} (hl:(l.all fun o=>match o.dst with|some t=>decide (t<nt)|none=>true)=true) (h:AL P l.toArray l σ [] fun σ' _=>Q .normal σ'):AW P nt (.region id l.toArray false) Q σ:=
 fun _ a w κ hX g=>wp_region_lit (AL.sound hX l σ [] a w κ hl h g)
end
end Am
namespace Am
variable [Tb]
open Go.RowKit
section
variable {P:Program} {ρ ρ':Operand→Option V} {H H':Nat→Option HO} {o:Oper}
theorem Ev.congr {x:Operand} {v:V} (h:Ev ρ x v) (e:ρ' x=ρ x):Ev ρ' x v:=by
 cases h with
 |pl h=>exact .pl (e.trans h)
 |wh h hg=>exact .wh (e.trans h) hg
 |nl h=>exact .nl (e.trans h)
theorem EvL.congr:∀ {l:List Operand} {vs:List V},EvL ρ l vs→(∀ x∈l,ρ' x=ρ x)→EvL ρ' l vs
 |[],_,.nil,_=>.nil
 |_ :: _,_,.cons h hs,e=>.cons (h.congr (e _ (.head _))) (hs.congr fun x hx=>e x (.tail _ hx))
theorem EvP.congr:∀ {l:List (Nat×Operand)} {vs:List (Nat×List C)},EvP ρ l vs→(∀ x∈l,ρ' x.2=ρ x.2)→EvP ρ' l vs
 |[],_,.nil,_=>.nil
 |_ :: _,_,.cons h hc hs,e=>.cons (h.congr (e _ (.head _))) hc (hs.congr fun x hx=>e x (.tail _ hx))
theorem AS.frame {e:Eff} (h:AS P ρ H o e) (hρ:∀ x∈o.op.operands,ρ' x=ρ x) (hH:∀ n∈e.rd,H' n=H n):AS P ρ' H' o e:=by
 cases h with
 |move ho hx=>exact .move ho (hx.congr (hρ _ (by rcases ho with ho|ho <;> simp[ho,Op.operands])))
 |still h hc=>exact .still (fun r hr=>h r fun y hy u z hu hz=>hr y hy u z (hu.congr (hρ y hy)) hz) fun k=>hc fun y hy z hz=>k y hy z (hz.congr (hρ y hy))
 |view h hc=>exact .view (fun κ w r hr=>h κ w r fun y hy u hu=>hr y hy u (hu.congr (hρ y hy))) hc
 |nilCheck ho hx hp=>exact .nilCheck ho (hx.congr (hρ _ (by simp[ho,Op.operands]))) hp
 |mkI ho hx hvs ht=>exact .mkI ho (hx.congr (hρ _ (by simp[ho,Op.operands]))) hvs ht
 |pick ho hc ha hb=>exact .pick ho (hc.congr (hρ _ (by simp[ho,Op.operands]))) (fun e=>(ha e).congr (hρ _ (by simp[ho,Op.operands]))) fun e=>(hb e).congr (hρ _ (by simp[ho,Op.operands]))
 |pickB ho hc ha hb=>exact .pickB ho (hc.congr (hρ _ (by simp[ho,Op.operands]))) (fun e=>(ha e).congr (hρ _ (by simp[ho,Op.operands]))) fun e=>(hb e).congr (hρ _ (by simp[ho,Op.operands]))
 |alloc ho ht hz=>exact .alloc ho ((hH _ (.head _)).trans ht) hz
 |allocB ho hd ht hz=>exact .allocB ho hd ((hH _ (.head _)).trans ht) hz
 |box ho ht hx hc=>exact .box ho ((hH _ (.head _)).trans ht) (hx.congr (hρ _ (by simp[ho,Op.operands]))) hc
 |load ho hx hh ht hc=>exact .load ho (hx.congr (hρ _ (by simp[ho,Op.operands]))) ((hH _ (.head _)).trans hh) ht hc
 |loadE ho hx ht hc=>exact .loadE ho (hx.congr (hρ _ (by simp[ho,Op.operands]))) ht hc
 |store ho hx hh hy hc ht hs=>exact .store ho (hx.congr (hρ _ (by simp[ho,Op.operands]))) ((hH _ (.head _)).trans hh) (hy.congr (hρ _ (by simp[ho,Op.operands]))) hc ht hs
 |fieldP ho hx hf he=>exact .fieldP ho (hx.congr (hρ _ (by simp[ho,Op.operands]))) hf he
 |fieldE ho hx hf he=>exact .fieldE ho (hx.congr (hρ _ (by simp[ho,Op.operands]))) hf he
 |field ho hx hf ht hc=>exact .field ho (hx.congr (hρ _ (by simp[ho,Op.operands]))) hf ht hc
 |indexL ho hx hi ht hz hj=>exact .indexL ho (hx.congr (hρ _ (by simp[ho,Op.operands]))) (hi.congr (hρ _ (by simp[ho,Op.operands]))) ht hz hj
 |suf ho ht hx hlo hlo0 hhi hhi0 hij hj he=>
  refine .suf ho ht (hx.congr (hρ _ (by simp[ho,Op.operands]))) (fun y hy=>(hlo y hy).congr (hρ _ ?_)) hlo0 (fun y hy=>(hhi y hy).congr (hρ _ ?_)) hhi0 hij hj he
  ·subst hy;simp[ho,Op.operands]
  ·subst hy;simp[ho,Op.operands]
 |extract ho hx hl=>exact .extract ho (hx.congr (hρ _ (by simp[ho,Op.operands]))) hl
 |lenL ho ht hx=>exact .lenL ho ht (hx.congr (hρ _ (by simp[ho,Op.operands,Call.operands])))
 |lenN ho ht hx=>exact .lenN ho ht (hx.congr (hρ _ (by simp[ho,Op.operands,Call.operands])))
 |makeFunc ho hv hc=>exact .makeFunc ho (hv.congr fun x hx=>hρ _ (by simp[ho,Op.operands];simpa using hx)) hc
 |build ho hz hpl hv hf=>exact .build ho hz hpl (hv.congr fun x hx=>hρ _ (by simp[ho,Op.operands];exact⟨_,by simpa using hx⟩)) hf
 |buildSlice ho ht hz hk h0 hn hv hf=>exact .buildSlice ho ht hz hk h0 hn (hv.congr fun x hx=>hρ _ (by simp[ho,Op.operands];exact⟨_,by simpa using hx⟩)) hf
 |buildRow ho hd hdn ht hz hk h0 hn hv hf=>exact .buildRow ho hd ((hH _ (.head _)).trans hdn) ht hz hk h0 hn (hv.congr fun x hx=>hρ _ (by simp[ho,Op.operands];exact⟨_,by simpa using hx⟩)) hf
 |append ho ht h0 hx hτ hm hzc hy hz hmax hby=>exact .append ho ht h0 (hx.congr (hρ _ (by simp[ho,Op.operands,Call.operands]))) ((hH _ (.head _)).trans hτ) hm hzc (hy.imp (fun hy=>hy.congr (hρ _ (by simp[ho,Op.operands,Call.operands]))) fun hy=>⟨hy.1.congr (hρ _ (by simp[ho,Op.operands,Call.operands])),hy.2⟩) hz hmax hby
 |call ho hx hv hu hok hP=>exact .call ho (hx.congr (hρ _ (by simp[ho,Op.operands,Call.operands]))) (hv.congr fun y hy=>hρ _ (by simp[ho,Op.operands,Call.operands];exact .inr (by simpa using hy))) hu hok hP
 |callW ho hx hv hu hok hP ht=>exact .callW ho (hx.congr (hρ _ (by simp[ho,Op.operands,Call.operands]))) (hv.congr fun y hy=>hρ _ (by simp[ho,Op.operands,Call.operands];exact .inr (by simpa using hy))) hu hok hP ((hH _ (.head _)).trans ht)
 |callM ho hx hv hu hn h1 h2 hok hP=>exact .callM ho (hx.congr (hρ _ (by simp[ho,Op.operands,Call.operands]))) (hv.congr fun y hy=>hρ _ (by simp[ho,Op.operands,Call.operands];exact .inr (by simpa using hy))) hu ((hH _ (.head _)).trans hn) h1 h2 hok hP
 |callN ho hx hv hinv hent hok hu hh hP hL h3 hr=>exact .callN ho (hx.congr (hρ _ (by simp[ho,Op.operands,Call.operands]))) (hv.congr fun y hy=>hρ _ (by simp[ho,Op.operands,Call.operands];exact .inr (by simpa using hy))) hinv hent hok hu (fun n hn=>by rw[hH _ (List.mem_map.2 ⟨n,hn,rfl⟩)];exact hh n hn) hP hL h3 hr
 |callE ho hx hv hns hu hok hP hsc=>
  rename_i x args ats f caps vs us r ns
  refine .callE ho (hx.congr (hρ _ (by simp[ho,Op.operands,Call.operands]))) (hv.congr fun y hy=>hρ _ (by simp[ho,Op.operands,Call.operands];exact .inr (by simpa using hy))) hns ?_ hok hP hsc
  have h1:∀ c:C,(∀ n∈pt1 c,n∈ns)→sn1 H' c=sn1 H c:=fun c hc=>by
   cases c with
   |ptr n off=>
    have e:=hH n (hc n (.head _))
    simp only[sn1,e]
   |_=>rfl
  rw[← hu]
  refine List.map_congr_left fun v hv=>?_
  have hsub:∀ n∈ptV v,n∈ns:=fun n hn=>hns▸List.mem_flatMap.2 ⟨v,hv,hn⟩
  cases v with
  |c c=>
   cases c with
   |fn f cs=>
    show V.c (.fn f _)=V.c (.fn f _)
    congr 2
    exact List.map_congr_left fun c hc=>h1 c fun n hn=>hsub n (List.mem_flatMap.2 ⟨c,hc,hn⟩)
   |ptr n off=>
    have e:=h1 (.ptr n off) hsub
    simp only[snV,snC,e]
   |_=>rfl
  |_=>rfl
theorem AS.wrd {e:Eff} (h:AS P ρ H o e):∀ p∈e.wr,p.1∈e.rd:=by
 cases h with
 |callN ho hx hv hinv hent hok hu hh hP hL h3 hr=>
  intro p hp
  obtain ⟨n,hn,e⟩:=hL p hp
  exact List.mem_map.2 ⟨n,hn,e⟩
 |_=>intro p hp;first|(cases hp;done)|(rw[List.mem_singleton.1 hp];exact .head _)
end
section
variable {P:Program} {ops:Array Oper} {sl sl':Nat→Option V} {H H':Nat→Option HO} {o:Oper}
theorem CJ {x:Nat} (h:Operand.tmp x∈o.op.operands):x∈o.looksAt ops:=List.mem_append_left _ (List.mem_filterMap.2 ⟨.tmp x,by simpa using h,rfl⟩)
theorem mN (h:∀ d∈o.looksAt ops,sl' d=sl d):∀ x∈o.op.operands,evA sl' x=evA sl x:=fun x hx=>by
 cases x with
 |tmp t=>exact h t (CJ hx)
 |_=>rfl
theorem ma (h:∀ d∈o.looksAt ops,sl' d=sl d):gd ops sl' o=gd ops sl o:=by
 unfold gd
 split
 ·rfl
 ·rename_i j want hg
  cases hd:(ops[j]?).bind (·.dst) with
  |none=>rfl
  |some d=>
   simp only
   rw[h d (by
    unfold Oper.looksAt
    refine List.mem_append_right _ ?_
    simp only[hg]
    rw[hd]
    simp)]
theorem SE.frame {e:Eff} (h:SE P ops sl H o e) (hs:∀ d∈o.looksAt ops,sl' d=sl d) (hH:∀ n∈e.rd,H' n=H n):SE P ops sl' H' o e:=by
 cases h with
 |yes hg h=>exact .yes ((ma hs).trans hg) (h.frame (mN hs) hH)
 |no hg=>exact .no ((ma hs).trans hg)
 |may hg h=>exact .may ((ma hs).trans hg) fun t=>(h t).frame (mN hs) hH
theorem SE.wrd {e:Eff} (h:SE P ops sl H o e):∀ p∈e.wr,p.1∈e.rd:=by
 cases h with
 |yes hg h=>exact h.wrd
 |no hg=>intro p hp;cases hp
 |may hg h=>intro p hp;cases hp
end
def zR (a b:FP):Bool:=(a.1.all fun n=>!b.2.contains n)&&(b.1.all fun n=>!a.2.contains n)
theorem pR (τ:St) (d:Option Nat) (v:V):(τ.put d v).hp=τ.hp:=by unfold St.put;cases d <;> rfl
theorem rO (σ:St) (d:Option Nat) (e:Eff) (t:Nat) (h:d≠some t):(σ.app d e).sl t=σ.sl t:=by
 unfold St.app St.put
 cases d with
 |none=>show(σ.wr e.wr).sl t=_;rw[vY]
 |some d=>
  have:t≠d:=fun e=>h (by rw[e])
  show upd (σ.wr e.wr).sl d e.val t=_
  rw[bD _ _ this,vY]
theorem jT (σ:St) (d:Option Nat) (e:Eff) (n:Nat) (h:∀ p∈e.wr,p.1≠n):(σ.app d e).hp n=σ.hp n:=by
 unfold St.app
 rw[pR,qu _ _ _ h]
theorem BA (σ:St) {d d':Option Nat} {e e':Eff} (hd:∀ t,d=some t→d'≠some t) (hw:∀ p∈e.wr,∀ p'∈e'.wr,p.1≠p'.1):(σ.app d e).app d' e'=(σ.app d' e').app d e:=by
 have ex:∀ {σ τ:St},(∀ t,σ.sl t=τ.sl t)→(∀ n,σ.hp n=τ.hp n)→σ=τ:=fun {σ τ} h1 h2=>by
  cases σ;cases τ;congr
  ·exact funext h1
  ·exact funext h2
 have psl:∀ (σ:St) (d:Option Nat) (e:Eff) (t:Nat),(σ.app d e).sl t=if d=some t then some e.val else σ.sl t:=fun σ d e t=>by
  split
  ·rename_i h;subst h;unfold St.app St.put;exact aX _ _ _
  ·rename_i h;exact rO σ d e t h
 refine ex (fun t=>?_) fun n=>?_
 ·simp only[psl]
  by_cases h1:d=some t
  ·have:=hd t h1
   simp[h1,this]
  ·simp[h1]
 ·by_cases h1:∃ p∈e.wr,p.1=n
  ·have h2:∀ p∈e'.wr,p.1≠n:=fun p' hp' en=>by
    obtain ⟨p,hp,hn⟩:=h1
    exact hw p hp p' hp' (hn.trans en.symm)
   rw[jT _ d' e' n h2]
   unfold St.app
   rw[pR,pR]
   exact EU _ _ _ n h1
  ·have h1':∀ p∈e.wr,p.1≠n:=fun p hp en=>h1 ⟨p,hp,en⟩
   rw[jT _ d e n h1']
   by_cases h2:∃ p∈e'.wr,p.1=n
   ·unfold St.app
    rw[pR,pR]
    exact EU _ _ _ n h2
   ·have h2':∀ p∈e'.wr,p.1≠n:=fun p hp en=>h2 ⟨p,hp,en⟩
    rw[jT _ d' e' n h2',jT _ d' e' n h2',jT _ d e n h1']
section
variable {P:Program} {ops:Array Oper} {σ:St} {oi oj:Oper} {ei ej:Eff}
theorem SE.swap (hap:oi.apart ops oj=true) (hf:zR ej.fp ei.fp=true) (hj:SE P ops σ.sl σ.hp oj ej) (hi:SE P ops (σ.app oj.dst ej).sl (σ.app oj.dst ej).hp oi ei) :
 SE P ops σ.sl σ.hp oi ei∧SE P ops (σ.app oi.dst ei).sl (σ.app oi.dst ei).hp oj ej∧(σ.app oj.dst ej).app oi.dst ei=(σ.app oi.dst ei).app oj.dst ej:=by
 obtain ⟨h1,h2,h3⟩:=Oper.apart_spec hap
 unfold zR Eff.fp at hf
 rw[Bool.and_eq_true] at hf
 have f1:∀ p∈ej.wr,p.1 ∉ ei.rd:=fun p hp=>by
  have:=List.all_eq_true.1 hf.1 p.1 (List.mem_map.2 ⟨p,hp,rfl⟩)
  simpa using this
 have f2:∀ p∈ei.wr,p.1 ∉ ej.rd:=fun p hp=>by
  have:=List.all_eq_true.1 hf.2 p.1 (List.mem_map.2 ⟨p,hp,rfl⟩)
  simpa using this
 refine⟨hi.frame (fun d hd=>?_) (fun n hn=>?_),hj.frame (fun d hd=>?_) (fun n hn=>?_),BA σ (fun t ht=>fun e=>h2 t e ht) fun p hp p' hp' e=>f1 p hp (e▸hi.wrd p' hp')⟩
 ·exact(rO σ _ _ d fun e=>h3 d e hd).symm
 ·exact(jT σ _ _ n fun p hp e=>f1 p hp (e▸hn)).symm
 ·exact rO σ _ _ d fun e=>h1 d e hd
 ·exact jT σ _ _ n fun p hp e=>f2 p hp (e▸hn)
inductive Ch (P:Program) (ops:Array Oper):List (Nat×Eff)→St→St→Prop
 |nil {σ:St}:Ch P ops [] σ σ
 |cons {i:Nat} {o:Oper} {e:Eff} {c:List (Nat×Eff)} {σ σ':St}:ops[i]? =some o→SE P ops σ.sl σ.hp o e→Ch P ops c (σ.app o.dst e) σ'→Ch P ops ((i,e) :: c) σ σ'
theorem Ch.pull {i:Nat} (hi:ops[i]? =some oi) {c2:List (Nat×Eff)}:∀ (c1:List (Nat×Eff)) {σ σ':St},(∀ p∈c1,∃ oj,ops[p.1]? =some oj∧oi.apart ops oj=true∧zR p.2.fp ei.fp=true)→Ch P ops (c1++(i,ei) :: c2) σ σ'→
 SE P ops σ.sl σ.hp oi ei∧Ch P ops (c1++c2) (σ.app oi.dst ei) σ'
 |[],σ,σ',_,h=>by
  cases h with
  |cons ho hs h=>
   rw[hi] at ho
   injection ho with ho
   subst ho
   exact⟨hs,h⟩
 |(j,ej) :: c1,σ,σ',hc,h=>by
  cases h with
  |cons ho hs h=>
   obtain ⟨oj,hoj,hap,hf⟩:=hc _ (.head _)
   rw[hoj] at ho
   injection ho with ho
   subst ho
   obtain ⟨k1,k2⟩:=Ch.pull hi c1 (fun p hp=>hc p (.tail _ hp)) h
   obtain ⟨s1,s2,s3⟩:=SE.swap hap hf hs k1
   rw[s3] at k2
   exact⟨s1,.cons hoj s2 k2⟩
end
def gA (ops:Array Oper) (T:List Nat) (j i:Nat×FP):Bool:=
 match ops[j.1]?,ops[i.1]? with
 |some oj,some oi=>!(oj.after.any fun e=>Region.binds .any e&&e.on == i.1)&&(j.1 != i.1)&&((T.getD i.1 0).testBit j.1 || (oi.apart ops oj&&zR j.2 i.2))
 |_,_=>false
def lu (ops:Array Oper) (T:List Nat):List (Nat×FP)→Bool
 |[]=>true
 |x :: rest=>rest.all (gA ops T x)&&lu ops T rest
theorem pK {ops:Array Oper} {T:List Nat}:∀ {c:List (Nat×FP)},lu ops T c=true↔c.Pairwise (fun j i=>gA ops T j i=true)
 |[]=>by simp[lu]
 |x :: rest=>by simp[lu,pK]
def A9 (fs:List FP):List (Nat×FP):=fs.zipIdx.map fun p=>(p.2,p.1)
def Ft (ops:Array Oper) (fs:List FP):Bool:=lU ops&&lu ops (fh ops) (A9 fs)&&decide (fs.length=ops.size)
section
variable {P:Program} {ops:Array Oper} {Q:Exit→Act→World→Prop} {X:Cx}
theorem nw {i:Nat} {oi:Oper} {listed:Array Bool} (hoi:ops[i]? =some oi) (hall:∀ e∈oi.after,Region.binds .any e=true→listed.getD e.on false=true)
 (hcl:∀ j oj,ops[j]? =some oj→listed.getD j false=true→∀ e∈oj.after,Region.binds .any e=true→listed.getD e.on false=true) :
 ∀ j oj,ops[j]? =some oj→(listed.setIfInBounds i true).getD j false=true→∀ e∈oj.after,Region.binds .any e=true→(listed.setIfInBounds i true).getD e.on false=true:=by
 intro j oj hj hlj e he hb
 by_cases hjx:j=i
 ·subst hjx
  have:oj=oi:=Option.some.inj (hj.symm.trans hoi)
  subst this
  exact getD_set_true (hall e he hb)
 ·rw[getD_set_ne false (Ne.symm hjx)] at hlj
  exact getD_set_true (hcl j oj hj hlj e he hb)
theorem gJ {i k:Nat} {oi:Oper} {listed:Array Bool} (hoi:ops[i]? =some oi) (hall:∀ e∈oi.after,Region.binds .any e=true→listed.getD e.on false=true)
 (hcl:∀ j oj,ops[j]? =some oj→listed.getD j false=true→∀ e∈oj.after,Region.binds .any e=true→listed.getD e.on false=true)
 (hk:listed.getD k true=false):((fh ops).getD i 0).testBit k=false:=by
 cases hre:((fh ops).getD i 0).testBit k with
 |false=>rfl
 |true=>
  have:=qi hcl ops.toList [] (by simp) (fun x y ox _ _ h=>by simp at h) i k oi hoi hall hre
  rcases Nat.lt_or_ge k listed.size with h'|h'
  ·simp[h'] at this hk;rw[this] at hk;cases hk
  ·simp[Array.getElem?_eq_none h'] at hk
theorem vX (hE:lU ops=true) (hd:∀ (i:Nat) (o:Oper),ops[i]? =some o→∀ t,o.dst=some t→t<X.nt) {σf:St} (hQ:∀ a w κ,Gm X σf a w κ→Q .normal a w) :
 ∀ (n:Nat) (c:List (Nat×Eff)) (listed:Array Bool) (σ:St) (a:Act) (w:World) (κ:K),c.length=n→listed.size=ops.size→c.Pairwise (fun j i=>gA ops (fh ops) (j.1,j.2.fp) (i.1,i.2.fp)=true)→(∀ x∈c,x.1<ops.size)→
   (∀ i,i<ops.size→(listed.getD i true=false↔∃ x∈c,x.1=i))→(∀ j oj,ops[j]? =some oj→listed.getD j false=true→∀ e∈oj.after,Region.binds .any e=true→listed.getD e.on false=true)→
   Ch P ops c σ σf→Gm X σ a w κ→wpAny P .any ops Q n listed a w:=by
 intro n
 induction n with
 |zero=>
  intro c listed σ a w κ hc hz _ _ hl hcl h g
  have:c=[]:=List.eq_nil_of_length_eq_zero hc
  subst this
  cases h
  refine⟨?_,hQ _ _ _ g⟩
  apply List.eq_nil_iff_forall_not_mem.2
  intro j hj
  obtain ⟨h0,o,ho,_⟩:=mem_ready.1 hj
  have hlt:=(Array.getElem?_eq_some_iff.1 ho).1
  obtain ⟨x,hx,_⟩:=(hl j hlt).1 h0
  cases hx
 |succ n ih=>
  intro c listed σ a w κ hc hz hp hlt hl hcl h g
  refine⟨fun hr=>?_,fun i hi=>?_⟩
  ·exfalso
   match c,hc with
   |x :: rest,_=>
    have hxlt:=hlt x (.head _)
    have hxo:ops[x.1]? =some ops[x.1]:=Array.getElem?_eq_getElem hxlt
    have hmem:x.1∈Region.ready .any ops listed:=by
     rw[mem_ready]
     refine⟨(hl x.1 hxlt).2 ⟨x,.head _,rfl⟩,ops[x.1],hxo,fun e he hb=>?_⟩
     obtain ⟨hin,hself⟩:=jt hE hxo e he
     have hin':e.on<listed.size:=by omega
     cases hle:listed.getD e.on true with
     |true=>simp[hin'] at hle ⊢;exact hle
     |false=>
      obtain ⟨y,hy,hye⟩:=(hl e.on hin).1 hle
      rcases List.mem_cons.1 hy with rfl|hy
      ·exact absurd hye.symm hself
      ·have hpy:=List.rel_of_pairwise_cons hp hy
       have hyo:ops[y.1]? =some (ops[y.1]'(hlt y (.tail _ hy))):=Array.getElem?_eq_getElem _
       simp only[gA,hxo,hyo,Bool.and_eq_true,Bool.not_eq_true'] at hpy
       have hno:=hpy.1.1
       have hyes:(ops[x.1].after.any fun e'=>Region.binds .any e'&&e'.on == y.1)=true:=Array.any_eq_true'.2 ⟨e,he,by simp[hb,hye]⟩
       rw[hyes] at hno
       cases hno
    rw[hr] at hmem
    cases hmem
  ·obtain ⟨h0,oi,hoi,hall⟩:=mem_ready.1 hi
   have hilt:i<ops.size:=(Array.getElem?_eq_some_iff.1 hoi).1
   obtain ⟨⟨i',ei⟩,hic,hii⟩:=(hl i hilt).1 h0
   simp only at hii
   subst hii
   obtain ⟨c1,c2,rfl⟩:=List.append_of_mem hic
   have hp':=List.pairwise_append.1 hp
   have hsub:(c1++c2).Sublist (c1++(i',ei) :: c2):=(List.sublist_cons_self _ _).append_left _
   obtain ⟨hs,hch⟩:=Ch.pull hoi c1 (fun p hp1=>by
    have hpj:=hp'.2.2 p hp1 (i',ei) (by simp)
    have hjo:ops[p.1]? =some (ops[p.1]'(hlt p (by simp[hp1]))):=Array.getElem?_eq_getElem _
    refine⟨_,hjo,?_⟩
    simp only[gA,hjo,hoi,Bool.and_eq_true] at hpj
    have hre:=gJ hoi hall hcl (k:=p.1) ((hl p.1 (hlt p (by simp[hp1]))).2 ⟨p,by simp[hp1],rfl⟩)
    rw[hre] at hpj
    simpa using hpj.2) h
   have hxk:∀ y∈c1++c2,y.1≠i':=by
    intro y hy heq
    rcases List.mem_append.1 hy with hy|hy
    ·have hpj:=hp'.2.2 y hy (i',ei) (by simp)
     simp[gA,hoi,heq] at hpj
    ·have hpj:=List.rel_of_pairwise_cons hp'.2.1 hy
     simp[gA,hoi,heq] at hpj
   have nxt:∀ a' w' κ',Gm X (σ.app oi.dst ei) a' w' κ'→wpAny P .any ops Q n (listed.setIfInBounds i' true) a' w':=fun a' w' κ' g'=>by
    refine ih (c1++c2) _ _ a' w' κ' (by simp at hc ⊢;omega) (by simpa using hz) (hp.sublist hsub) (fun y hy=>hlt y (hsub.subset hy)) (fun k hk=>?_) (nw hoi hall hcl) hch g'
    by_cases hki:k=i'
    ·subst hki
     constructor
     ·intro hg
      simp[hz,hk] at hg
     ·rintro ⟨y,hy,hye⟩
      exact absurd hye (hxk y hy)
    ·rw[getD_set_ne true (Ne.symm hki),hl k hk]
     constructor
     ·rintro ⟨y,hy,hye⟩
      refine⟨y,?_,hye⟩
      simp only[List.mem_append,List.mem_cons] at hy ⊢
      rcases hy with hy|rfl|hy
      ·exact .inl hy
      ·exact absurd hye.symm hki
      ·exact .inr hy
     ·rintro ⟨y,hy,hye⟩
      exact⟨y,hsub.subset hy,hye⟩
   unfold wpOp
   simp only[hoi]
   have:=hs.sound (Q:=Q) (N:=wpAny P .any ops Q n (listed.setIfInBounds i' true)) g (hd i' oi hoi) nxt
   split
   ·rename_i hw;rw[if_pos hw] at this;exact .inl this
   ·rename_i hw;rw[if_neg hw] at this;exact this
theorem AL.chain {ops:Array Oper} {K:St→List FP→Prop}:∀ (l:List Oper) (σ:St) (fs:List FP) (b:Nat),(∀ k,l[k]? =ops[b+k]?)→AL P ops l σ fs K→∃ (es:List Eff) (σ':St),es.length=l.length∧Ch P ops (es.zipIdx b |>.map fun p=>(p.2,p.1)) σ σ'∧K σ' (fs++es.map Eff.fp)
 |[],σ,fs,b,_,h=>⟨[],σ,rfl,.nil,by rw[List.map_nil,List.append_nil];exact h⟩
 |o :: l,σ,fs,b,hb,⟨e,hs,h⟩=>by
  obtain ⟨es,σ',h1,h2,h3⟩:=AL.chain l _ _ (b+1) (fun k=>by have:=hb (k+1);simpa [Nat.add_assoc,Nat.add_comm 1 k] using this) h
  refine⟨e :: es,σ',by simp[h1],?_,by simpa using h3⟩
  rw[List.zipIdx_cons,List.map_cons]
  exact .cons (by simpa using (hb 0).symm) hs h2
end
section
variable {P:Program} {nt:Nat} {Q:Exit→St→Prop} {σ:St}
end
end Am
end Go.Proofs.YtkpodagbefnebaaGreatDoor
