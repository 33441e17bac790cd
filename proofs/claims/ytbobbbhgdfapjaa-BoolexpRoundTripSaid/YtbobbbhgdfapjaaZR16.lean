/- C9 -/
import Derived.Test.YtbobbbhgdfapjaaZR1
import Derived.Test.YtbobbbhgdfapjaaZR2
import Derived.Test.YtbobbbhgdfapjaaZR3
import Derived.Test.YtbobbbhgdfapjaaZR4
set_option linter.unusedSimpArgs false
set_option linter.unusedVariables false
namespace Go.Proofs.Ytbobbbhgdfapjaa
set_option maxHeartbeats 8000000
set_option maxRecDepth 100000
open Go.RowKit
/-- how a region may be left but by its end -/
structure Outs where
 out : Prop
 pan : List PanicEntry → List Deferred → World → Prop
namespace Pn
def canQ (O : Outs) : Exit → Act → World → Prop := fun e a w => (e = .outgrown ∧ O.out) ∨ ∃ ch, e = .panic ch ∧ O.pan ch a.defers w
def canStep (P : Program) (ops : Array Oper) (Kp : World → World → Prop) (O : Outs) (tag : Nat) (o : Oper) (K : Act → World → Prop) (a : Act) (w : World) : Prop :=
 if Region.wanted o (yielded ops a.tmps) = true then
  (if isW o = true then o.wp P a w (fun a' w' => (tag = 3 → Kp w w') ∧ K a' w') (canQ O) ∨ (o.asks P a w ∧ O.out)
   else ∃ v, Gives P Kp tag o a w v ∧ K (a.put o.dst v) w)
 else K (a.put o.dst undef) w
def wpCan (P : Program) (ops : Array Oper) (Kp : World → World → Prop) (N : Act → World → Prop) (O : Outs) : List (Nat × Oper) → Act → World → Prop
 | [], a, w => N a w
 | x :: rest, a, w => canStep P ops Kp O x.1 x.2 (wpCan P ops Kp N O rest) a w
def wpCanI (P : Program) (ops : Array Oper) (Kp : World → World → Prop) (N : Act → World → Prop) (O : Outs) : List (Nat × Nat) → Act → World → Prop
 | [], a, w => N a w
 | x :: rest, a, w => match ops[x.2]? with
   | none => wpCanI P ops Kp N O rest a w
   | some o => canStep P ops Kp O x.1 o (wpCanI P ops Kp N O rest) a w
section
variable {P : Program} {ops : Array Oper} {Kp : World → World → Prop} {N : Act → World → Prop} {O : Outs}
theorem canQ_put {e : Exit} {b : Act} {d : Option Tmp} {v : Value} {w : World} (h : canQ O e (b.put d v) w) : canQ O e b w := by
 cases d <;> exact h
theorem canStep_mono {tag : Nat} {o : Oper} {K K' : Act → World → Prop} {a : Act} {w : World} (h : ∀ a w, K a w → K' a w)
    (hh : canStep P ops Kp O tag o K a w) : canStep P ops Kp O tag o K' a w := by
 unfold canStep at *
 split
 · rename_i hw
   rw [if_pos hw] at hh
   split
   · rename_i hW
     rw [if_pos hW] at hh
     exact hh.imp (Oper.wp_mono fun a w h' => ⟨h'.1, h _ _ h'.2⟩) id
   · rename_i hW
     rw [if_neg hW] at hh
     obtain ⟨v, hv, hk⟩ := hh
     exact ⟨v, hv, h _ _ hk⟩
 · rename_i hw
   rw [if_neg hw] at hh
   exact h _ _ hh
theorem canStep_swap (ht : ∀ a b c, Kp a b → Kp b c → Kp a c) {ti tj : Nat} {oi oj : Oper} (hap : oi.apart ops oj = true) (hsi : ∀ cs b, oi.op ≠ .select cs b) (hsj : ∀ cs b, oj.op ≠ .select cs b)
    (hjW : isW oj = false) (hi : isW oi = true → tj = 1 ∨ (tj = 2 ∧ ti = 3) ∨ (tj = 0 ∧ freeOp oj = true)) {K : Act → World → Prop} {a : Act} {w : World}
    (h : canStep P ops Kp O tj oj (canStep P ops Kp O ti oi K) a w) : canStep P ops Kp O ti oi (canStep P ops Kp O tj oj K) a w := by
 obtain ⟨h1, h2, h3⟩ := Oper.apart_spec hap
 -- what j gives, or that it is passed over
 have hj : ∃ v, ((Region.wanted oj (yielded ops a.tmps) = true ∧ Gives P Kp tj oj a w v) ∨ (Region.wanted oj (yielded ops a.tmps) = false ∧ v = undef)) ∧ canStep P ops Kp O ti oi K (a.put oj.dst v) w := by
  unfold canStep at h
  by_cases hw : Region.wanted oj (yielded ops a.tmps) = true
  · rw [if_pos hw, hjW] at h
    simp only [Bool.false_eq_true, if_false] at h
    obtain ⟨v, hv, hk⟩ := h
    exact ⟨v, .inl ⟨hw, hv⟩, hk⟩
  · rw [if_neg hw] at h
    exact ⟨undef, .inr ⟨by simpa using hw, rfl⟩, h⟩
 obtain ⟨v, hv, hk⟩ := hj
 have back : ∀ (a' : Act) (w' : World) (u : Value), a' = a.put oi.dst u →
     ((Region.wanted oj (yielded ops a.tmps) = true ∧ Gives P Kp tj oj a w' v) ∨ (Region.wanted oj (yielded ops a.tmps) = false ∧ v = undef)) →
     K ((a.put oj.dst v).put oi.dst u) w' → canStep P ops Kp O tj oj K a' w' := by
  intro a' w' u ha' hv' hK
  subst ha'
  have hwt : Region.wanted oj (yielded ops (a.put oi.dst u).tmps) = Region.wanted oj (yielded ops a.tmps) := wanted_put oj a oi.dst u h1
  have hex : execOp (a.put oi.dst u).eval oj = execOp a.eval oj := execOp_put oj hsj a oi.dst u h1
  have hcm : (a.put oj.dst v).put oi.dst u = (a.put oi.dst u).put oj.dst v := (Act.put_comm a u v h2).symm
  rw [hcm] at hK
  unfold canStep
  rcases hv' with ⟨hw, hg⟩ | ⟨hw, rfl⟩
  · rw [hwt, if_pos hw, hjW]
    simp only [Bool.false_eq_true, if_false]
    exact ⟨v, hg.congr hex, hK⟩
  · rw [hwt, if_neg (by simp [hw])]
    exact hK
 have hwi : Region.wanted oi (yielded ops (a.put oj.dst v).tmps) = Region.wanted oi (yielded ops a.tmps) := wanted_put oi a oj.dst v h3
 have hei : execOp (a.put oj.dst v).eval oi = execOp a.eval oi := execOp_put oi hsi a oj.dst v h3
 unfold canStep at hk
 rw [hwi] at hk
 rw [canStep.eq_def P ops Kp O ti oi]
 by_cases hw : Region.wanted oi (yielded ops a.tmps) = true
 · rw [if_pos hw] at hk ⊢
   by_cases hW : isW oi = true
   · rw [if_pos hW] at hk ⊢
     rcases hk with hk | ⟨hasks, hO⟩
     case inr => exact .inr ⟨by unfold Oper.asks at *; rw [hei] at hasks; exact hasks, hO⟩
     refine .inl ?_
     have keep : ∀ w', (ti = 3 → Kp w w') → ((Region.wanted oj (yielded ops a.tmps) = true ∧ Gives P Kp tj oj a w' v) ∨ (Region.wanted oj (yielded ops a.tmps) = false ∧ v = undef)) := by
      intro w' hb
      rcases hv with ⟨hwj, hg⟩ | hn
      · refine .inl ⟨hwj, ?_⟩
        rcases hi hW with rfl | ⟨rfl, rfl⟩ | ⟨rfl, hfr⟩
        · exact hg
        rotate_left
        · exact ((free_NT a.eval hfr) w _ w hg).2 w'
        · intro w'' hb''
          have hb0 := hb rfl
          exact hg w'' (ht _ _ _ hb0 hb'')
      · exact .inr hn
     unfold Oper.wp at *
     rw [hei] at hk
     generalize (execOp a.eval oi).run P w = r at *
     cases r with
     | ok n w' =>
       cases n <;> simp only [Oper.upon] at hk ⊢
       case value u => exact ⟨hk.1, back _ _ u rfl (keep _ hk.1) hk.2⟩
       case skip => exact ⟨hk.1, back _ _ undef rfl (keep _ hk.1) hk.2⟩
       case defer d =>
        refine ⟨hk.1, ?_⟩
        have hk2 := hk.2
        have hv' := keep _ hk.1
        have hwt : Region.wanted oj (yielded ops (({ a with defers := d :: a.defers } : Act).put oi.dst undef).tmps) = Region.wanted oj (yielded ops a.tmps) :=
         wanted_put oj { a with defers := d :: a.defers } oi.dst undef h1
        have hex : execOp (({ a with defers := d :: a.defers } : Act).put oi.dst undef).eval oj = execOp a.eval oj := execOp_put oj hsj { a with defers := d :: a.defers } oi.dst undef h1
        rw [Act.put_defers, ← Act.put_comm _ undef v h2] at hk2
        unfold canStep
        rcases hv' with ⟨hwj, hg⟩ | ⟨hwj, rfl⟩
        · rw [hwt, if_pos hwj, hjW]
          simp only [Bool.false_eq_true, if_false]
          exact ⟨v, hg.congr hex, hk2⟩
        · rw [hwt, if_neg (by simp [hwj])]
          exact hk2
       case enter f args =>
        refine Calls.mono hk fun e w'' he => ?_
        cases e with
        | returned u => exact ⟨he.1, back _ _ u rfl (keep _ he.1) he.2⟩
        | panicked c =>
          have h9 := canQ_put (b := a) he
          exact h9
        | outgrown => exact he
       case row row args => exact Rows.mono hk fun u w'' he => ⟨he.1, back _ _ u rfl (keep _ he.1) he.2⟩
     | halt x w' =>
       cases x <;> simp only [Oper.upon] at hk ⊢
       case panic u => exact canQ_put hk
   · rw [if_neg hW] at hk ⊢
     obtain ⟨u, hu, hK⟩ := hk
     exact ⟨u, hu.congr hei.symm, back _ _ u rfl hv hK⟩
 · rw [if_neg hw] at hk ⊢
   exact back _ _ undef rfl hv hk
theorem canPull (ht : ∀ a b c, Kp a b → Kp b c → Kp a c) {i : Nat × Nat} {oi : Oper} (hi : ops[i.2]? = some oi) (hs : Region.noSelect ops = true) {c2 : List (Nat × Nat)} :
    ∀ (c1 : List (Nat × Nat)), (∀ j ∈ c1, ∃ oj, ops[j.2]? = some oj ∧ oi.apart ops oj = true ∧ isW oj = false ∧ (isW oi = true → j.1 = 1 ∨ (j.1 = 2 ∧ i.1 = 3) ∨ (j.1 = 0 ∧ freeOp oj = true))) →
    ∀ a w, wpCanI P ops Kp N O (c1 ++ i :: c2) a w → canStep P ops Kp O i.1 oi (wpCanI P ops Kp N O (c1 ++ c2)) a w
 | [], _, a, w, h => by simpa [wpCanI, hi] using h
 | j :: c1, hc, a, w, h => by
   obtain ⟨oj, hj, hap, hW, hm⟩ := hc j (by simp)
   simp only [List.cons_append, wpCanI, hj] at h
   have h' := canStep_mono (fun a w => canPull ht hi hs c1 (fun j hj => hc j (by simp [hj])) a w) h
   have h'' := canStep_swap ht hap (fun cs b => Region.noSelect_spec hs i.2 oi cs b hi) (fun cs b => Region.noSelect_spec hs j.2 oj cs b hj) hW hm h'
   refine canStep_mono (fun a w hh => ?_) h''
   simp only [List.cons_append, wpCanI, hj]
   exact hh
theorem wpOp_of_can (hr : ∀ w, Kp w w) {Q : Exit → Act → World → Prop} {i : Nat} {tag : Nat} {oi : Oper} (hi : ops[i]? = some oi) {K K' : Act → World → Prop} (hK : ∀ a w, K a w → K' a w) (hO : O.out → LetsOut Q) (hP : ∀ ch a w, O.pan ch a.defers w → Q (.panic ch) a w) {a : Act} {w : World}
    (h : canStep P ops Kp O tag oi K a w) : wpOp P ops Q i K' a w := by
 unfold wpOp
 simp only [hi]
 unfold canStep at h
 split
 · rename_i hw
   rw [if_pos hw] at h
   split at h
   · rcases h with h | ⟨h, ho⟩
     case inr => exact .inr ⟨h, hO ho⟩
     refine .inl ?_
     unfold Oper.wp at *
     generalize (execOp a.eval oi).run P w = r at *
     cases r with
     | ok n w' =>
       cases n <;> simp only [Oper.upon] at h ⊢
       case value u => exact hK _ _ h.2
       case skip => exact hK _ _ h.2
       case defer d => exact hK _ _ h.2
       case enter f args =>
        refine Calls.mono h fun e w'' he => ?_
        cases e with
        | returned u => exact hK _ _ he.2
        | panicked c =>
          rcases he with ⟨he, _⟩ | ⟨ch, he, hp⟩
          · cases he
          · injection he with he; subst he; exact hP _ _ _ hp
        | outgrown =>
          obtain ⟨_, _, ho⟩ := he
          rcases ho with ⟨_, ho⟩ | ⟨ch, he, _⟩
          · exact hO ho
          · cases he
       case row row args => exact Rows.mono h fun u w'' he => hK _ _ he.2
     | halt x w' =>
       cases x <;> simp only [Oper.upon] at h ⊢
       case panic u =>
        rcases h with ⟨he, _⟩ | ⟨ch, he, hp⟩
        · cases he
        · injection he with he; subst he; exact hP _ _ _ hp
   · obtain ⟨v, hv, hk⟩ := h
     refine .inl ?_
     unfold Oper.wp
     rw [hv.now hr]
     exact hK _ _ hk
 · rename_i hw
   rw [if_neg hw] at h
   exact hK _ _ h
theorem wpAny_of_can (hr : ∀ w, Kp w w) (ht : ∀ a b c, Kp a b → Kp b c → Kp a c) {Q : Exit → Act → World → Prop} (hs : Region.noSelect ops = true) (hE : edgesOk ops = true) (hN : ∀ a w, N a w → Q .normal a w) (hO : O.out → LetsOut Q) (hP : ∀ ch a w, O.pan ch a.defers w → Q (.panic ch) a w) :
    ∀ (n : Nat) (c : List (Nat × Nat)) (listed : Array Bool) (a : Act) (w : World), c.length = n → listed.size = ops.size →
      c.Pairwise (fun j i => pairOk ops (waitTab ops) j i = true) → (∀ x ∈ c, x.2 < ops.size) → (∀ i, i < ops.size → (listed.getD i true = false ↔ ∃ x ∈ c, x.2 = i)) →
      (∀ j oj, ops[j]? = some oj → listed.getD j false = true → ∀ e ∈ oj.after, Region.binds .any e = true → listed.getD e.on false = true) →
      wpCanI P ops Kp N O c a w → wpAny P .any ops Q n listed a w := by
 intro n
 induction n with
 | zero =>
   intro c listed a w hc hz _ _ hl _ h
   have : c = [] := List.eq_nil_of_length_eq_zero hc
   subst this
   refine ⟨?_, hN _ _ h⟩
   cases hr : Region.ready .any ops listed with
   | nil => rfl
   | cons x xs =>
     have hx : x ∈ Region.ready .any ops listed := by rw [hr]; simp
     obtain ⟨h0, o, ho, _⟩ := mem_ready.1 hx
     have := (hl x (Array.getElem?_eq_some_iff.1 ho).1).1 h0
     simp at this
 | succ n ih =>
   intro c listed a w hc hz hp hlt hl hcl h
   refine ⟨fun hr => ?_, fun i hi => ?_⟩
   · -- the head of c is ready
     exfalso
     match c, hc with
     | x :: rest, _ =>
       have hxlt := hlt x (by simp)
       have hxo : ops[x.2]? = some ops[x.2] := Array.getElem?_eq_getElem hxlt
       have hmem : x.2 ∈ Region.ready .any ops listed := by
        rw [mem_ready]
        refine ⟨(hl x.2 hxlt).2 ⟨x, by simp, rfl⟩, ops[x.2], hxo, fun e he hb => ?_⟩
        obtain ⟨hin, hself⟩ := edgesOk_spec hE hxo e he
        have hin' : e.on < listed.size := by omega
        cases hle : listed.getD e.on true with
        | true => simp [hin'] at hle ⊢; exact hle
        | false =>
          obtain ⟨y, hy, hye⟩ := (hl e.on hin).1 hle
          rcases List.mem_cons.1 hy with rfl | hy
          · exact absurd hye.symm hself
          · have hpy := List.rel_of_pairwise_cons hp hy
            have hyo : ops[y.2]? = some (ops[y.2]'(hlt y (by simp [hy]))) := Array.getElem?_eq_getElem _
            simp only [pairOk, hxo, hyo, Bool.and_eq_true, Bool.not_eq_true'] at hpy
            have hno := hpy.1.1
            have hyes : (ops[x.2].after.any fun e => Region.binds .any e && e.on == y.2) = true := Array.any_eq_true'.2 ⟨e, he, by simp [hb, hye]⟩
            rw [hyes] at hno
            cases hno
       rw [hr] at hmem
       cases hmem
   · obtain ⟨h0, oi, hoi, hall⟩ := mem_ready.1 hi
     have hilt : i < ops.size := (Array.getElem?_eq_some_iff.1 hoi).1
     obtain ⟨x, hx, rfl⟩ := (hl i hilt).1 h0
     obtain ⟨c1, c2, rfl⟩ := List.append_of_mem hx
     have hp' := List.pairwise_append.1 hp
     have hun : ∀ j ∈ c1, listed.getD j.2 true = false := fun j hj => (hl j.2 (hlt j (by simp [hj]))).2 ⟨j, by simp [hj], rfl⟩
     have hpull := canPull (P := P) (N := N) (O := O) ht hoi hs (c2 := c2) c1 (fun j hj => by
      have hpj := hp'.2.2 j hj x (by simp)
      have hjo : ops[j.2]? = some (ops[j.2]'(hlt j (by simp [hj]))) := Array.getElem?_eq_getElem _
      refine ⟨_, hjo, ?_⟩
      simp only [pairOk, hjo, hoi, Bool.and_eq_true] at hpj
      have hre : ((waitTab ops).getD x.2 0).testBit j.2 = false := by
       cases hre : ((waitTab ops).getD x.2 0).testBit j.2 with
       | false => rfl
       | true =>
         have := tab_listed hcl ops.toList [] (by simp) (fun x y ox _ _ h => by simp at h) x.2 j.2 oi hoi hall hre
         have h2 := hun j hj
         rcases Nat.lt_or_ge j.2 listed.size with h' | h'
         · simp [h'] at this h2; rw [this] at h2; cases h2
         · simp [Array.getElem?_eq_none h'] at h2
      rw [hre] at hpj
      simp only [Bool.false_or, Bool.and_eq_true, Bool.or_eq_true, Bool.not_eq_true', beq_iff_eq] at hpj
      refine ⟨hpj.2.1.1, hpj.2.1.2, fun hW => ?_⟩
      rcases hpj.2.2 with ((h' | h') | h') | h'
      · rw [hW] at h'; cases h'
      · exact .inl h'
      · exact .inr (.inl h')
      · exact .inr (.inr h')) a w h
     refine wpOp_of_can hr hoi (fun a' w' hK => ?_) hO hP hpull
     have hsub : (c1 ++ c2).Sublist (c1 ++ x :: c2) := (List.sublist_cons_self _ _).append_left _
     refine ih (c1 ++ c2) (listed.setIfInBounds x.2 true) a' w' (by simp at hc ⊢; omega) (by simpa using hz) (hp.sublist hsub) (fun y hy => hlt y (hsub.subset hy)) (fun k hk => ?_) (fun j oj hj hlj e he hb => ?_) hK
     · -- listed after the step
       have hxk : ∀ y ∈ c1 ++ c2, y.2 ≠ x.2 := by
        intro y hy heq
        rcases List.mem_append.1 hy with hy | hy
        · have hpj := hp'.2.2 y hy x (by simp)
          simp [pairOk, hoi, heq] at hpj
        · have hpj := List.rel_of_pairwise_cons hp'.2.1 hy
          simp [pairOk, hoi, heq] at hpj
       by_cases hkx : k = x.2
       · subst hkx
         constructor
         · intro hg
           simp [hz, hk] at hg
         · rintro ⟨y, hy, hye⟩
           exact absurd hye (hxk y hy)
       · rw [getD_set_ne true (Ne.symm hkx), hl k hk]
         constructor
         · rintro ⟨y, hy, hye⟩
           refine ⟨y, ?_, hye⟩
           simp only [List.mem_append, List.mem_cons] at hy ⊢
           rcases hy with hy | rfl | hy
           · exact .inl hy
           · exact absurd hye.symm hkx
           · exact .inr hy
         · rintro ⟨y, hy, hye⟩
           exact ⟨y, hsub.subset hy, hye⟩
     · by_cases hjx : j = x.2
       · subst hjx
         have : oj = oi := Option.some.inj (hj.symm.trans hoi)
         subst this
         exact getD_set_true (hall e he hb)
       · rw [getD_set_ne false (Ne.symm hjx)] at hlj
         exact getD_set_true (hcl j oj hj hlj e he hb)
theorem wpCanI_eq (N : Act → World → Prop) (l : List Oper) (hl : ops = l.toArray) : ∀ (c : List (Nat × Nat)) (a : Act) (w : World), wpCan P ops Kp N O (c.filterMap fun x => (l[x.2]?).map fun o => (x.1, o)) a w → wpCanI P ops Kp N O c a w
 | [], _, _, h => h
 | x :: c, a, w, h => by
   have hx : ops[x.2]? = l[x.2]? := by rw [hl]; simp
   cases ho : l[x.2]? with
   | none =>
     simp only [List.filterMap_cons, ho, Option.map_none] at h
     simp only [wpCanI, hx, ho]
     exact wpCanI_eq N l hl c a w h
   | some o =>
     simp only [List.filterMap_cons, ho, Option.map_some, wpCan] at h
     simp only [wpCanI, hx, ho]
     exact canStep_mono (fun a w h' => wpCanI_eq N l hl c a w h') h
end
section
variable {P : Program} {Q : Exit → Act → World → Prop} {a : Act} {w : World}
theorem wp_region_can (Kp : World → World → Prop) (hr : ∀ w, Kp w w) (ht : ∀ a b c, Kp a b → Kp b c → Kp a c) {id : Nat} {l : List Oper} (c : List (Nat × Nat)) (hm : P.follows .mixedOrders = true) (hB : canB l.toArray c = true)
    (Z : List PanicEntry → List Deferred → World → Prop) (hZ : ∀ ch a w, Z ch a.defers w → Q (.panic ch) a w)
    (h : ∀ K : Act → World → Prop, (∀ a w, Q .normal a w → K a w) → wpCan P l.toArray Kp K ⟨LetsOut Q, Z⟩ (c.filterMap fun x => (l[x.2]?).map fun o => (x.1, o)) a w.drew) : (Code.region id l.toArray true).wp P Q a w := by
 simp only [canB, Bool.and_eq_true, decide_eq_true_eq] at hB
 obtain ⟨⟨⟨⟨⟨hs, hE⟩, hp⟩, hlt⟩, hlen⟩, hall⟩ := hB
 refine wp_region_any hm ?_
 rw [← hlen]
 refine wpAny_of_can hr ht hs hE (N := Q .normal) (O := ⟨LetsOut Q, Z⟩) (fun _ _ h => h) (fun h => h) hZ c.length c _ a _ rfl (by simp [hlen]) (pairsOk_iff.1 hp) (fun x hx => ?_) (fun i hi => ?_) (fun j oj hj hl => ?_) (wpCanI_eq _ l rfl c a _ (h _ fun _ _ h => h))
 · simpa using List.all_eq_true.1 hlt x hx
 · have h1 := List.all_eq_true.1 hall i (List.mem_range.2 hi)
   obtain ⟨x, hx, hxi⟩ := List.any_eq_true.1 h1
   constructor
   · intro _
     exact ⟨x, hx, by simpa using hxi⟩
   · intro _
     have hi2 : i < c.length := by rw [hlen]; exact hi
     simp [hi2]
 · exfalso
   have hj' : j < l.length := by simpa using (Array.getElem?_eq_some_iff.1 hj).1
   have hj2 : j < c.length := by rw [hlen]; simpa using hj'
   simp [hj2] at hl
variable {ops : Array Oper} {Kp : World → World → Prop} {N : Act → World → Prop} {O : Outs} {rest : List (Nat × Oper)} {o : Oper} {l : List Oper}
theorem wpCan_q (hW : isW o = false) (hg : o.guard = none) (h : ∀ K : Act → World → Prop, (∀ a', wpCan P ops Kp N O rest a' w → K a' w) → o.wp P a w K (Proofs.Ytbobbbhgdfapjaa.canQ O.out)) : wpCan P ops Kp N O ((0, o) :: rest) a w := by
 have h1 := h (fun a' w' => w' = w ∧ wpCan P ops Kp N O rest a' w) (fun a' ha => ⟨rfl, ha⟩)
 show canStep P ops Kp O 0 o (wpCan P ops Kp N O rest) a w
 unfold canStep
 rw [if_pos (by simp [Region.wanted, hg]), if_neg (by simp [hW])]
 unfold Oper.wp at h1
 cases hr : (execOp a.eval o).run P w with
 | halt x w' =>
   rw [hr] at h1
   cases x <;> simp [Oper.upon, Proofs.Ytbobbbhgdfapjaa.canQ] at h1
 | ok n w' =>
   obtain ⟨v, rfl⟩ := quiet_value hW hr
   rw [hr] at h1
   obtain ⟨rfl, h2⟩ := h1
   exact ⟨v, hr, h2⟩
theorem wpCan_qg (hW : isW o = false) (hg : Region.wanted o (yielded ops a.tmps) = true) (h : ∀ K : Act → World → Prop, (∀ a', wpCan P ops Kp N O rest a' w → K a' w) → o.wp P a w K (Proofs.Ytbobbbhgdfapjaa.canQ O.out)) : wpCan P ops Kp N O ((0, o) :: rest) a w := by
 have h1 := h (fun a' w' => w' = w ∧ wpCan P ops Kp N O rest a' w) (fun a' ha => ⟨rfl, ha⟩)
 show canStep P ops Kp O 0 o (wpCan P ops Kp N O rest) a w
 unfold canStep
 rw [if_pos hg, if_neg (by simp [hW])]
 unfold Oper.wp at h1
 cases hr : (execOp a.eval o).run P w with
 | halt x w' =>
   rw [hr] at h1
   cases x <;> simp [Oper.upon, Proofs.Ytbobbbhgdfapjaa.canQ] at h1
 | ok n w' =>
   obtain ⟨v, rfl⟩ := quiet_value hW hr
   rw [hr] at h1
   obtain ⟨rfl, h2⟩ := h1
   exact ⟨v, hr, h2⟩
theorem wpCan_w (hW : isW o = true) (hg : Region.wanted o (yielded ops a.tmps) = true) (h : ∀ K : Act → World → Prop, (∀ a' w', wpCan P ops Kp N O rest a' w' → K a' w') → o.wp P a w K (canQ O)) : wpCan P ops Kp N O ((0, o) :: rest) a w := by
 show canStep P ops Kp O 0 o (wpCan P ops Kp N O rest) a w
 unfold canStep
 rw [if_pos hg, if_pos hW]
 exact .inl (h _ fun a' w' h' => ⟨fun h0 => (by cases h0), h'⟩)
theorem wpCan_b (hW : isW o = true) (hg : Region.wanted o (yielded ops a.tmps) = true) (h : ∀ K : Act → World → Prop, (∀ a' w', (Kp w w' ∧ wpCan P ops Kp N O rest a' w') → K a' w') → o.wp P a w K (canQ O)) : wpCan P ops Kp N O ((3, o) :: rest) a w := by
 show canStep P ops Kp O 3 o (wpCan P ops Kp N O rest) a w
 unfold canStep
 rw [if_pos hg, if_pos hW]
 exact .inl (h _ fun a' w' h' => ⟨fun _ => h'.1, h'.2⟩)
theorem wpCan_2 (v : Value) (hW : isW o = false) (hg : Region.wanted o (yielded ops a.tmps) = true) (hv : ∀ w', Kp w w' → (execOp a.eval o).run P w' = .ok (.value v) w') (h : wpCan P ops Kp N O rest (a.put o.dst v) w) : wpCan P ops Kp N O ((2, o) :: rest) a w := by
 show canStep P ops Kp O 2 o (wpCan P ops Kp N O rest) a w
 unfold canStep
 rw [if_pos hg, if_neg (by simp [hW])]
 exact ⟨v, hv, h⟩
theorem wpCan_no {t : Nat} (hg : Region.wanted o (yielded ops a.tmps) = false) (h : wpCan P ops Kp N O rest (a.put o.dst undef) w) : wpCan P ops Kp N O ((t, o) :: rest) a w := by
 show canStep P ops Kp O t o (wpCan P ops Kp N O rest) a w
 unfold canStep
 rw [if_neg (by simp [hg])]
 exact h
def wpTag (P : Program) (ops : Array Oper) (Kp : World → World → Prop) (N : Act → World → Prop) (O : Outs) (ts : List Nat) (l : List Oper) (a : Act) (w : World) : Prop := wpCan P ops Kp N O (tagL ts l) a w
variable {ts : List Nat}
theorem wpTag_nil {ts : List Nat} (h : N a w) : wpTag P ops Kp N O ts [] a w := by cases ts <;> exact h
theorem wpTag_q (hW : isW o = false) (hg : o.guard = none) (h : ∀ K : Act → World → Prop, (∀ a', wpTag P ops Kp N O ts l a' w → K a' w) → o.wp P a w K (Proofs.Ytbobbbhgdfapjaa.canQ O.out)) : wpTag P ops Kp N O (0 :: ts) (o :: l) a w := wpCan_q hW hg h
theorem wpTag_w (hW : isW o = true) (hg : o.guard = none) (h : ∀ K : Act → World → Prop, (∀ a' w', wpTag P ops Kp N O ts l a' w' → K a' w') → o.wp P a w K (canQ O)) : wpTag P ops Kp N O (0 :: ts) (o :: l) a w := wpCan_w hW (by simp [Region.wanted, hg]) h
theorem wpTag_s (hW : isW o = false) (h : ∀ K : Act → World → Prop, (∀ a', wpTag P ops Kp N O ts l a' w → K a' w) → if Region.wanted o (yielded ops a.tmps) = true then o.wp P a w K (Proofs.Ytbobbbhgdfapjaa.canQ O.out) else K (a.put o.dst undef) w) : wpTag P ops Kp N O (0 :: ts) (o :: l) a w := by
 by_cases hw : Region.wanted o (yielded ops a.tmps) = true
 · exact wpCan_qg hW hw fun K hK => by have := h K hK; rwa [if_pos hw] at this
 · have h1 := h (fun a' w' => wpTag P ops Kp N O ts l a' w') (fun a' h' => h')
   rw [if_neg hw] at h1
   exact wpCan_no (by simpa using hw) h1
theorem wpTag_sw (hW : isW o = true) (h : ∀ K : Act → World → Prop, (∀ a' w', wpTag P ops Kp N O ts l a' w' → K a' w') → if Region.wanted o (yielded ops a.tmps) = true then o.wp P a w K (canQ O) else K (a.put o.dst undef) w) : wpTag P ops Kp N O (0 :: ts) (o :: l) a w := by
 by_cases hw : Region.wanted o (yielded ops a.tmps) = true
 · exact wpCan_w hW hw fun K hK => by have := h K hK; rwa [if_pos hw] at this
 · have h1 := h (fun a' w' => wpTag P ops Kp N O ts l a' w') (fun a' w' h' => h')
   rw [if_neg hw] at h1
   exact wpCan_no (by simpa using hw) h1
theorem wpTag_2 (v : Value) (hW : isW o = false) (hg : Region.wanted o (yielded ops a.tmps) = true) (hv : ∀ w', Kp w w' → (execOp a.eval o).run P w' = .ok (.value v) w') (h : wpTag P ops Kp N O ts l (a.put o.dst v) w) : wpTag P ops Kp N O (2 :: ts) (o :: l) a w := wpCan_2 v hW hg hv h
theorem wpTag_3 (hW : isW o = true) (hg : Region.wanted o (yielded ops a.tmps) = true) (h : ∀ K : Act → World → Prop, (∀ a' w', (Kp w w' ∧ wpTag P ops Kp N O ts l a' w') → K a' w') → o.wp P a w K (canQ O)) : wpTag P ops Kp N O (3 :: ts) (o :: l) a w := wpCan_b hW hg h
theorem wpTag_no {t : Nat} (hg : Region.wanted o (yielded ops a.tmps) = false) (h : wpTag P ops Kp N O ts l (a.put o.dst undef) w) : wpTag P ops Kp N O (t :: ts) (o :: l) a w := wpCan_no hg h
theorem at_tag (n : Nat) {ts : List Nat} (h : wpTag P ops Kp N O (n :: ts) l a w) : wpTag P ops Kp N O (n :: ts) l a w := h
theorem at_tagn (h : wpTag P ops Kp N O [] [] a w) : wpTag P ops Kp N O [] [] a w := h
theorem at_pan {ch : List PanicEntry} (h : O.pan ch a.defers w) : canQ O (.panic ch) a w := .inr ⟨ch, rfl, h⟩
/-- a region whose operations stand in a row: blocks but those of F stay; panics as Z -/
theorem wp_region_o {id : Nat} (F : List Nat) (Z : List PanicEntry → List Deferred → World → Prop) (ts is : List Nat) (hm : P.follows .mixedOrders = true) (hB : (canB l.toArray (zipT ts is) && is.all fun i => decide (i < l.length)) = true)
    (hZ : ∀ ch a w, Z ch a.defers w → Q (.panic ch) a w)
    (h : ∀ K : Act → World → Prop, (∀ a w, Q .normal a w → K a w) → ∀ w', Ext w w' → wpTag P l.toArray (Only F) K ⟨LetsOut Q, Z⟩ ts (pickL l is) a w') : (Code.region id l.toArray true).wp P Q a w := by
 rw [Bool.and_eq_true] at hB
 refine wp_region_can (Only F) (Only.refl F) (fun _ _ _ h k => h.trans k fun _ hx => .inl hx) _ hm hB.1 Z hZ fun K hK => ?_
 rw [pick_eq l is ts fun i hi => by simpa using List.all_eq_true.1 hB.2 i hi]
 exact h K hK _ (Ext.drew w)
end
end Pn
/-- the making of a slice of records, its cells by the kernel -/
theorem wp_rows2 {P : Program} {K : Act → World → Prop} {Q : Exit → Act → World → Prop} {a : Act} {w : World} {o : Oper} (n : Nat) (cs : Array Value) (e : TypeId) (h : (execOp a.eval o).run P w = .ok (.value (.slice (some ⟨w.heap.size, 0, none⟩) n n)) (w.alloc (.cells cs e)))
    (hk : ∀ X w', w.heap.size = X → Blk w' X e cs → Ext w w' → K (a.put o.dst (.slice (some ⟨X, 0, none⟩) n n)) w') : o.wp P a w K Q := by
 unfold Oper.wp
 rw [h]
 exact hk _ _ rfl (Blk.fresh w e cs) (Ext.alloc w _)
/-- a store into a block, its new cells given -/
theorem wp_put_to2 {P : Program} {K : Act → World → Prop} {Q : Exit → Act → World → Prop} {a : Act} {w0 w : World} {F : List Nat} {X : Nat} {t : TypeId} {cs cs' : Array Value} {o : Oper} {ty : TypeId} {x y : Operand} {off : Nat} (b : Loc F w0 w X t cs) (ho : o.op = .store ty x y) (hx : a.eval x = .pointer (some ⟨X, off, none⟩))
    (hi : (P.info? ty).map (·.size) = some (a.eval y).cells.size) (h1 : (a.eval y).cells.all (·.oneCell') = true) (hle : off + (a.eval y).cells.size ≤ cs.size) (he : putA cs off (a.eval y).cells = cs')
    (h : ∀ w', Loc F w0 w' X t cs' → But X w w' → K (a.put o.dst undef) w') : o.wp P a w K Q := wp_put b ho hx hi h1 hle fun w' hb hB => h w' (he ▸ hb) hB
theorem at_ando {F : List Nat} {w w' : World} {p : Prop} (h1 : Only F w w') (h2 : p) : Only F w w' ∧ p := ⟨h1, h2⟩
theorem Loc.rebl {F : List Nat} {w0 w w1 : World} {X : Nat} {t : TypeId} {cs ds : Array Value} (h : Loc F w0 w X t cs) (b : Blk w1 X t ds) : Loc F w0 w1 X t ds := ⟨b, h.may⟩
end Go.Proofs.Ytbobbbhgdfapjaa
