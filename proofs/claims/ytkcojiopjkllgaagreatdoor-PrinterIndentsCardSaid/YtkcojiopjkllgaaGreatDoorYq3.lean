import Derived.Test.YtkcojiopjkllgaaGreatDoorYq2
import Derived.Deep.LoopGhost
import Derived.Scope
import Derived.Laws.BitsLemmas
import Derived.Laws.Closers25
import Derived.Laws.Small
set_option linter.unusedSimpArgs false
set_option linter.unusedVariables false
set_option linter.unusedSectionVars false
namespace Go.Proofs.YtkcojiopjkllgaaGreatDoor
namespace Am
variable [Tb]
open Go.RowKit
section
variable {P : Program} {ρ ρ' : Operand → Option V} {H H' : Nat → Option HO} {o : Oper}
theorem Ev.congr {x : Operand} {v : V} (h : Ev ρ x v) (e : ρ' x = ρ x) : Ev ρ' x v := by
  cases h with
  | pl h => exact .pl (e.trans h)
  | wh h hg => exact .wh (e.trans h) hg
  | nl h => exact .nl (e.trans h)
theorem EvL.congr : ∀ {l : List Operand} {vs : List V}, EvL ρ l vs → (∀ x ∈ l, ρ' x = ρ x) → EvL ρ' l vs
  | [], _, .nil, _ => .nil
  | _ :: _, _, .cons h hs, e => .cons (h.congr (e _ (.head _))) (hs.congr fun x hx => e x (.tail _ hx))
theorem EvP.congr : ∀ {l : List (Nat × Operand)} {vs : List (Nat × List C)}, EvP ρ l vs → (∀ x ∈ l, ρ' x.2 = ρ x.2) → EvP ρ' l vs
  | [], _, .nil, _ => .nil
  | _ :: _, _, .cons h hc hs, e => .cons (h.congr (e _ (.head _))) hc (hs.congr fun x hx => e x (.tail _ hx))
theorem AS.frame {e : Eff} (h : AS P ρ H o e) (hρ : ∀ x ∈ o.op.operands, ρ' x = ρ x) (hH : ∀ n ∈ e.rd, H' n = H n) : AS P ρ' H' o e := by
  cases h with
  | move ho hx => exact .move ho (hx.congr (hρ _ (by rcases ho with ho | ho <;> simp [ho, Op.operands])))
  | still h hc => exact .still (fun r hr => h r fun y hy u z hu hz => hr y hy u z (hu.congr (hρ y hy)) hz) fun k => hc fun y hy z hz => k y hy z (hz.congr (hρ y hy))
  | view h hc => exact .view (fun κ w r hr => h κ w r fun y hy u hu => hr y hy u (hu.congr (hρ y hy))) hc
  | nilCheck ho hx hp => exact .nilCheck ho (hx.congr (hρ _ (by simp [ho, Op.operands]))) hp
  | pick ho hc ha hb => exact .pick ho (hc.congr (hρ _ (by simp [ho, Op.operands]))) (fun e => (ha e).congr (hρ _ (by simp [ho, Op.operands]))) fun e => (hb e).congr (hρ _ (by simp [ho, Op.operands]))
  | pickB ho hc ha hb => exact .pickB ho (hc.congr (hρ _ (by simp [ho, Op.operands]))) (fun e => (ha e).congr (hρ _ (by simp [ho, Op.operands]))) fun e => (hb e).congr (hρ _ (by simp [ho, Op.operands]))
  | alloc ho hd ht hz => exact .alloc ho hd ((hH _ (.head _)).trans ht) hz
  | allocB ho hd ht hz => exact .allocB ho hd ((hH _ (.head _)).trans ht) hz
  | box ho hd ht hx hc => exact .box ho hd ((hH _ (.head _)).trans ht) (hx.congr (hρ _ (by simp [ho, Op.operands]))) hc
  | load ho hx hh ht hc => exact .load ho (hx.congr (hρ _ (by simp [ho, Op.operands]))) ((hH _ (.head _)).trans hh) ht hc
  | loadE ho hx ht hc => exact .loadE ho (hx.congr (hρ _ (by simp [ho, Op.operands]))) ht hc
  | store ho hx hh hy hc ht hs => exact .store ho (hx.congr (hρ _ (by simp [ho, Op.operands]))) ((hH _ (.head _)).trans hh) (hy.congr (hρ _ (by simp [ho, Op.operands]))) hc ht hs
  | fieldP ho hx hf he => exact .fieldP ho (hx.congr (hρ _ (by simp [ho, Op.operands]))) hf he
  | fieldE ho hx hf he => exact .fieldE ho (hx.congr (hρ _ (by simp [ho, Op.operands]))) hf he
  | field ho hx hf ht hc => exact .field ho (hx.congr (hρ _ (by simp [ho, Op.operands]))) hf ht hc
  | indexL ho hx hi ht hz hj => exact .indexL ho (hx.congr (hρ _ (by simp [ho, Op.operands]))) (hi.congr (hρ _ (by simp [ho, Op.operands]))) ht hz hj
  | extract ho hx hl => exact .extract ho (hx.congr (hρ _ (by simp [ho, Op.operands]))) hl
  | lenL ho ht hx => exact .lenL ho ht (hx.congr (hρ _ (by simp [ho, Op.operands, Call.operands])))
  | lenN ho ht hx => exact .lenN ho ht (hx.congr (hρ _ (by simp [ho, Op.operands, Call.operands])))
  | makeFunc ho hv hc => exact .makeFunc ho (hv.congr fun x hx => hρ _ (by simp [ho, Op.operands]; simpa using hx)) hc
  | build ho hz hpl hv hf => exact .build ho hz hpl (hv.congr fun x hx => hρ _ (by simp [ho, Op.operands]; exact ⟨_, by simpa using hx⟩)) hf
  | buildSlice ho ht hz hk h0 hn hv hf => exact .buildSlice ho ht hz hk h0 hn (hv.congr fun x hx => hρ _ (by simp [ho, Op.operands]; exact ⟨_, by simpa using hx⟩)) hf
  | buildRow ho hd hdn ht hz hk h0 hn hv hf => exact .buildRow ho hd ((hH _ (.head _)).trans hdn) ht hz hk h0 hn (hv.congr fun x hx => hρ _ (by simp [ho, Op.operands]; exact ⟨_, by simpa using hx⟩)) hf
  | append ho ht h0 hx hτ hm hzc hy hz hmax hby => exact .append ho ht h0 (hx.congr (hρ _ (by simp [ho, Op.operands, Call.operands]))) ((hH _ (.head _)).trans hτ) hm hzc (hy.imp (fun hy => hy.congr (hρ _ (by simp [ho, Op.operands, Call.operands]))) fun hy => ⟨hy.1.congr (hρ _ (by simp [ho, Op.operands, Call.operands])), hy.2⟩) hz hmax hby
  | call ho hx hv hu hok hP => exact .call ho (hx.congr (hρ _ (by simp [ho, Op.operands, Call.operands]))) (hv.congr fun y hy => hρ _ (by simp [ho, Op.operands, Call.operands]; exact .inr (by simpa using hy))) hu hok hP
  | callM ho hx hv hu hn h1 h2 hok hP => exact .callM ho (hx.congr (hρ _ (by simp [ho, Op.operands, Call.operands]))) (hv.congr fun y hy => hρ _ (by simp [ho, Op.operands, Call.operands]; exact .inr (by simpa using hy))) hu ((hH _ (.head _)).trans hn) h1 h2 hok hP
  | callE ho hx hv hns hu hok hP hsc =>
    rename_i x args ats f caps vs us r ns
    refine .callE ho (hx.congr (hρ _ (by simp [ho, Op.operands, Call.operands]))) (hv.congr fun y hy => hρ _ (by simp [ho, Op.operands, Call.operands]; exact .inr (by simpa using hy))) hns ?_ hok hP hsc
    have h1 : ∀ c : C, (∀ n ∈ pt1 c, n ∈ ns) → sn1 H' c = sn1 H c := fun c hc => by
      cases c with
      | ptr n off =>
        have e := hH n (hc n (.head _))
        simp only [sn1, e]
      | _ => rfl
    rw [← hu]
    refine List.map_congr_left fun v hv => ?_
    have hsub : ∀ n ∈ ptV v, n ∈ ns := fun n hn => hns ▸ List.mem_flatMap.2 ⟨v, hv, hn⟩
    cases v with
    | c c =>
      cases c with
      | fn f cs =>
        show V.c (.fn f _) = V.c (.fn f _)
        congr 2
        exact List.map_congr_left fun c hc => h1 c fun n hn => hsub n (List.mem_flatMap.2 ⟨c, hc, hn⟩)
      | ptr n off =>
        have e := h1 (.ptr n off) hsub
        simp only [snV, snC, e]
      | _ => rfl
    | _ => rfl
theorem AS.wrd {e : Eff} (h : AS P ρ H o e) : ∀ p, e.wr = some p → p.1 ∈ e.rd := by
  cases h <;> intro p hp <;> first | (cases hp; done) | (injection hp with hp; subst hp; exact .head _)
end
section
variable {P : Program} {ops : Array Oper} {sl sl' : Nat → Option V} {H H' : Nat → Option HO} {o : Oper}
theorem looks_op {x : Nat} (h : Operand.tmp x ∈ o.op.operands) : x ∈ o.looksAt ops := List.mem_append_left _ (List.mem_filterMap.2 ⟨.tmp x, by simpa using h, rfl⟩)
theorem evA_congr (h : ∀ d ∈ o.looksAt ops, sl' d = sl d) : ∀ x ∈ o.op.operands, evA sl' x = evA sl x := fun x hx => by
  cases x with
  | tmp t => exact h t (looks_op hx)
  | _ => rfl
theorem gd_congr (h : ∀ d ∈ o.looksAt ops, sl' d = sl d) : gd ops sl' o = gd ops sl o := by
  unfold gd
  split
  · rfl
  · rename_i j want hg
    cases hd : (ops[j]?).bind (·.dst) with
    | none => rfl
    | some d =>
      simp only
      rw [h d (by
        unfold Oper.looksAt
        refine List.mem_append_right _ ?_
        simp only [hg]
        rw [hd]
        simp)]
theorem SE.frame {e : Eff} (h : SE P ops sl H o e) (hs : ∀ d ∈ o.looksAt ops, sl' d = sl d) (hH : ∀ n ∈ e.rd, H' n = H n) : SE P ops sl' H' o e := by
  cases h with
  | yes hg h => exact .yes ((gd_congr hs).trans hg) (h.frame (evA_congr hs) hH)
  | no hg => exact .no ((gd_congr hs).trans hg)
  | may hg h => exact .may ((gd_congr hs).trans hg) fun t => (h t).frame (evA_congr hs) hH
theorem SE.wrd {e : Eff} (h : SE P ops sl H o e) : ∀ p, e.wr = some p → p.1 ∈ e.rd := by
  cases h with
  | yes hg h => exact h.wrd
  | no hg => intro p hp; cases hp
  | may hg h => intro p hp; cases hp
end
def fpOk (a b : FP) : Bool := (match a.1 with | some n => !b.2.contains n | none => true) && (match b.1 with | some n => !a.2.contains n | none => true)
theorem app_sl (σ : St) (d : Option Nat) (e : Eff) (t : Nat) (h : d ≠ some t) : (σ.app d e).sl t = σ.sl t := by
  unfold St.app St.put
  cases d with
  | none => cases hw : e.wr <;> simp [St.wr, St.set]
  | some d =>
    have : t ≠ d := fun e => h (by rw [e])
    cases hw : e.wr <;> simp [St.wr, St.set, upd, this]
theorem app_hp (σ : St) (d : Option Nat) (e : Eff) (n : Nat) (h : ∀ p, e.wr = some p → p.1 ≠ n) : (σ.app d e).hp n = σ.hp n := by
  have : ∀ τ : St, (τ.put d e.val).hp = τ.hp := fun τ => by unfold St.put; cases d <;> rfl
  unfold St.app
  rw [this]
  cases hw : e.wr with
  | none => rfl
  | some p => exact upd_ne _ _ (Ne.symm (h p hw))
theorem app_comm (σ : St) {d d' : Option Nat} {e e' : Eff} (hd : ∀ t, d = some t → d' ≠ some t) (hw : ∀ p p', e.wr = some p → e'.wr = some p' → p.1 ≠ p'.1) : (σ.app d e).app d' e' = (σ.app d' e').app d e := by
  have ex : ∀ {σ τ : St}, (∀ t, σ.sl t = τ.sl t) → (∀ n, σ.hp n = τ.hp n) → σ = τ := fun {σ τ} h1 h2 => by
    cases σ; cases τ; congr
    · exact funext h1
    · exact funext h2
  have psl : ∀ (σ : St) (d : Option Nat) (e : Eff) (t : Nat), (σ.app d e).sl t = if d = some t then some e.val else σ.sl t := fun σ d e t => by
    split
    · rename_i h; subst h; unfold St.app St.put; exact upd_same _ _ _
    · rename_i h; exact app_sl σ d e t h
  have php : ∀ (σ : St) (d : Option Nat) (e : Eff) (n : Nat), (σ.app d e).hp n = match e.wr with | some p => (if n = p.1 then some p.2 else σ.hp n) | none => σ.hp n := fun σ d e n => by
    have : ∀ τ : St, (τ.put d e.val).hp = τ.hp := fun τ => by unfold St.put; cases d <;> rfl
    unfold St.app
    rw [this]
    cases e.wr <;> rfl
  refine ex (fun t => ?_) fun n => ?_
  · simp only [psl]
    by_cases h1 : d = some t
    · have := hd t h1
      simp [h1, this]
    · simp [h1]
  · simp only [php]
    cases h1 : e.wr with
    | none => cases h2 : e'.wr <;> rfl
    | some p =>
      cases h2 : e'.wr with
      | none => rfl
      | some p' =>
        have := hw p p' h1 h2
        simp only
        by_cases h3 : n = p.1
        · simp [h3, this]
        · simp [h3]
section
variable {P : Program} {ops : Array Oper} {σ : St} {oi oj : Oper} {ei ej : Eff}
theorem SE.swap (hap : oi.apart ops oj = true) (hf : fpOk ej.fp ei.fp = true) (hj : SE P ops σ.sl σ.hp oj ej) (hi : SE P ops (σ.app oj.dst ej).sl (σ.app oj.dst ej).hp oi ei) :
    SE P ops σ.sl σ.hp oi ei ∧ SE P ops (σ.app oi.dst ei).sl (σ.app oi.dst ei).hp oj ej ∧ (σ.app oj.dst ej).app oi.dst ei = (σ.app oi.dst ei).app oj.dst ej := by
  obtain ⟨h1, h2, h3⟩ := Oper.apart_spec hap
  unfold fpOk Eff.fp at hf
  rw [Bool.and_eq_true] at hf
  have f1 : ∀ p, ej.wr = some p → p.1 ∉ ei.rd := fun p hp => by
    have := hf.1
    rw [hp] at this
    simpa using this
  have f2 : ∀ p, ei.wr = some p → p.1 ∉ ej.rd := fun p hp => by
    have := hf.2
    rw [hp] at this
    simpa using this
  refine ⟨hi.frame (fun d hd => ?_) (fun n hn => ?_), hj.frame (fun d hd => ?_) (fun n hn => ?_), app_comm σ (fun t ht => fun e => h2 t e ht) fun p p' hp hp' e => f1 p hp (e ▸ hi.wrd p' hp')⟩
  · exact (app_sl σ _ _ d fun e => h3 d e hd).symm
  · exact (app_hp σ _ _ n fun p hp e => f1 p hp (e ▸ hn)).symm
  · exact app_sl σ _ _ d fun e => h1 d e hd
  · exact app_hp σ _ _ n fun p hp e => f2 p hp (e ▸ hn)
inductive Ch (P : Program) (ops : Array Oper) : List (Nat × Eff) → St → St → Prop
  | nil {σ : St} : Ch P ops [] σ σ
  | cons {i : Nat} {o : Oper} {e : Eff} {c : List (Nat × Eff)} {σ σ' : St} : ops[i]? = some o → SE P ops σ.sl σ.hp o e → Ch P ops c (σ.app o.dst e) σ' → Ch P ops ((i, e) :: c) σ σ'
theorem Ch.pull {i : Nat} (hi : ops[i]? = some oi) {c2 : List (Nat × Eff)} : ∀ (c1 : List (Nat × Eff)) {σ σ' : St}, (∀ p ∈ c1, ∃ oj, ops[p.1]? = some oj ∧ oi.apart ops oj = true ∧ fpOk p.2.fp ei.fp = true) → Ch P ops (c1 ++ (i, ei) :: c2) σ σ' →
    SE P ops σ.sl σ.hp oi ei ∧ Ch P ops (c1 ++ c2) (σ.app oi.dst ei) σ'
  | [], σ, σ', _, h => by
    cases h with
    | cons ho hs h =>
      rw [hi] at ho
      injection ho with ho
      subst ho
      exact ⟨hs, h⟩
  | (j, ej) :: c1, σ, σ', hc, h => by
    cases h with
    | cons ho hs h =>
      obtain ⟨oj, hoj, hap, hf⟩ := hc _ (.head _)
      rw [hoj] at ho
      injection ho with ho
      subst ho
      obtain ⟨k1, k2⟩ := Ch.pull hi c1 (fun p hp => hc p (.tail _ hp)) h
      obtain ⟨s1, s2, s3⟩ := SE.swap hap hf hs k1
      rw [s3] at k2
      exact ⟨s1, .cons hoj s2 k2⟩
end
def pairD (ops : Array Oper) (T : List Nat) (j i : Nat × FP) : Bool :=
  match ops[j.1]?, ops[i.1]? with
  | some oj, some oi => !(oj.after.any fun e => Region.binds .any e && e.on == i.1) && (j.1 != i.1) && ((T.getD i.1 0).testBit j.1 || (oi.apart ops oj && fpOk j.2 i.2))
  | _, _ => false
def pairsD (ops : Array Oper) (T : List Nat) : List (Nat × FP) → Bool
  | [] => true
  | x :: rest => rest.all (pairD ops T x) && pairsD ops T rest
theorem pairsD_iff {ops : Array Oper} {T : List Nat} : ∀ {c : List (Nat × FP)}, pairsD ops T c = true ↔ c.Pairwise (fun j i => pairD ops T j i = true)
  | [] => by simp [pairsD]
  | x :: rest => by simp [pairsD, pairsD_iff]
def numb (fs : List FP) : List (Nat × FP) := fs.zipIdx.map fun p => (p.2, p.1)
def chkD (ops : Array Oper) (fs : List FP) : Bool := edgesOk ops && pairsD ops (waitTab ops) (numb fs) && decide (fs.length = ops.size)
section
variable {P : Program} {ops : Array Oper} {Q : Exit → Act → World → Prop} {X : Cx}
theorem closed_step {i : Nat} {oi : Oper} {listed : Array Bool} (hoi : ops[i]? = some oi) (hall : ∀ e ∈ oi.after, Region.binds .any e = true → listed.getD e.on false = true)
    (hcl : ∀ j oj, ops[j]? = some oj → listed.getD j false = true → ∀ e ∈ oj.after, Region.binds .any e = true → listed.getD e.on false = true) :
    ∀ j oj, ops[j]? = some oj → (listed.setIfInBounds i true).getD j false = true → ∀ e ∈ oj.after, Region.binds .any e = true → (listed.setIfInBounds i true).getD e.on false = true := by
  intro j oj hj hlj e he hb
  by_cases hjx : j = i
  · subst hjx
    have : oj = oi := Option.some.inj (hj.symm.trans hoi)
    subst this
    exact getD_set_true (hall e he hb)
  · rw [getD_set_ne false (Ne.symm hjx)] at hlj
    exact getD_set_true (hcl j oj hj hlj e he hb)
theorem await_listed {i k : Nat} {oi : Oper} {listed : Array Bool} (hoi : ops[i]? = some oi) (hall : ∀ e ∈ oi.after, Region.binds .any e = true → listed.getD e.on false = true)
    (hcl : ∀ j oj, ops[j]? = some oj → listed.getD j false = true → ∀ e ∈ oj.after, Region.binds .any e = true → listed.getD e.on false = true)
    (hk : listed.getD k true = false) : ((waitTab ops).getD i 0).testBit k = false := by
  cases hre : ((waitTab ops).getD i 0).testBit k with
  | false => rfl
  | true =>
    have := tab_listed hcl ops.toList [] (by simp) (fun x y ox _ _ h => by simp at h) i k oi hoi hall hre
    rcases Nat.lt_or_ge k listed.size with h' | h'
    · simp [h'] at this hk; rw [this] at hk; cases hk
    · simp [Array.getElem?_eq_none h'] at hk
theorem wpAny_of_Ch (hE : edgesOk ops = true) (hd : ∀ (i : Nat) (o : Oper), ops[i]? = some o → ∀ t, o.dst = some t → t < X.nt) {σf : St} (hQ : ∀ a w κ, Gm X σf a w κ → Q .normal a w) :
    ∀ (n : Nat) (c : List (Nat × Eff)) (listed : Array Bool) (σ : St) (a : Act) (w : World) (κ : K), c.length = n → listed.size = ops.size → c.Pairwise (fun j i => pairD ops (waitTab ops) (j.1, j.2.fp) (i.1, i.2.fp) = true) → (∀ x ∈ c, x.1 < ops.size) →
      (∀ i, i < ops.size → (listed.getD i true = false ↔ ∃ x ∈ c, x.1 = i)) → (∀ j oj, ops[j]? = some oj → listed.getD j false = true → ∀ e ∈ oj.after, Region.binds .any e = true → listed.getD e.on false = true) →
      Ch P ops c σ σf → Gm X σ a w κ → wpAny P .any ops Q n listed a w := by
  intro n
  induction n with
  | zero =>
    intro c listed σ a w κ hc hz _ _ hl hcl h g
    have : c = [] := List.eq_nil_of_length_eq_zero hc
    subst this
    cases h
    refine ⟨?_, hQ _ _ _ g⟩
    apply List.eq_nil_iff_forall_not_mem.2
    intro j hj
    obtain ⟨h0, o, ho, _⟩ := mem_ready.1 hj
    have hlt := (Array.getElem?_eq_some_iff.1 ho).1
    obtain ⟨x, hx, _⟩ := (hl j hlt).1 h0
    cases hx
  | succ n ih =>
    intro c listed σ a w κ hc hz hp hlt hl hcl h g
    refine ⟨fun hr => ?_, fun i hi => ?_⟩
    · exfalso
      match c, hc with
      | x :: rest, _ =>
        have hxlt := hlt x (.head _)
        have hxo : ops[x.1]? = some ops[x.1] := Array.getElem?_eq_getElem hxlt
        have hmem : x.1 ∈ Region.ready .any ops listed := by
          rw [mem_ready]
          refine ⟨(hl x.1 hxlt).2 ⟨x, .head _, rfl⟩, ops[x.1], hxo, fun e he hb => ?_⟩
          obtain ⟨hin, hself⟩ := edgesOk_spec hE hxo e he
          have hin' : e.on < listed.size := by omega
          cases hle : listed.getD e.on true with
          | true => simp [hin'] at hle ⊢; exact hle
          | false =>
            obtain ⟨y, hy, hye⟩ := (hl e.on hin).1 hle
            rcases List.mem_cons.1 hy with rfl | hy
            · exact absurd hye.symm hself
            · have hpy := List.rel_of_pairwise_cons hp hy
              have hyo : ops[y.1]? = some (ops[y.1]'(hlt y (.tail _ hy))) := Array.getElem?_eq_getElem _
              simp only [pairD, hxo, hyo, Bool.and_eq_true, Bool.not_eq_true'] at hpy
              have hno := hpy.1.1
              have hyes : (ops[x.1].after.any fun e' => Region.binds .any e' && e'.on == y.1) = true := Array.any_eq_true'.2 ⟨e, he, by simp [hb, hye]⟩
              rw [hyes] at hno
              cases hno
        rw [hr] at hmem
        cases hmem
    · obtain ⟨h0, oi, hoi, hall⟩ := mem_ready.1 hi
      have hilt : i < ops.size := (Array.getElem?_eq_some_iff.1 hoi).1
      obtain ⟨⟨i', ei⟩, hic, hii⟩ := (hl i hilt).1 h0
      simp only at hii
      subst hii
      obtain ⟨c1, c2, rfl⟩ := List.append_of_mem hic
      have hp' := List.pairwise_append.1 hp
      have hsub : (c1 ++ c2).Sublist (c1 ++ (i', ei) :: c2) := (List.sublist_cons_self _ _).append_left _
      obtain ⟨hs, hch⟩ := Ch.pull hoi c1 (fun p hp1 => by
        have hpj := hp'.2.2 p hp1 (i', ei) (by simp)
        have hjo : ops[p.1]? = some (ops[p.1]'(hlt p (by simp [hp1]))) := Array.getElem?_eq_getElem _
        refine ⟨_, hjo, ?_⟩
        simp only [pairD, hjo, hoi, Bool.and_eq_true] at hpj
        have hre := await_listed hoi hall hcl (k := p.1) ((hl p.1 (hlt p (by simp [hp1]))).2 ⟨p, by simp [hp1], rfl⟩)
        rw [hre] at hpj
        simpa using hpj.2) h
      have hxk : ∀ y ∈ c1 ++ c2, y.1 ≠ i' := by
        intro y hy heq
        rcases List.mem_append.1 hy with hy | hy
        · have hpj := hp'.2.2 y hy (i', ei) (by simp)
          simp [pairD, hoi, heq] at hpj
        · have hpj := List.rel_of_pairwise_cons hp'.2.1 hy
          simp [pairD, hoi, heq] at hpj
      have nxt : ∀ a' w' κ', Gm X (σ.app oi.dst ei) a' w' κ' → wpAny P .any ops Q n (listed.setIfInBounds i' true) a' w' := fun a' w' κ' g' => by
        refine ih (c1 ++ c2) _ _ a' w' κ' (by simp at hc ⊢; omega) (by simpa using hz) (hp.sublist hsub) (fun y hy => hlt y (hsub.subset hy)) (fun k hk => ?_) (closed_step hoi hall hcl) hch g'
        by_cases hki : k = i'
        · subst hki
          constructor
          · intro hg
            simp [hz, hk] at hg
          · rintro ⟨y, hy, hye⟩
            exact absurd hye (hxk y hy)
        · rw [getD_set_ne true (Ne.symm hki), hl k hk]
          constructor
          · rintro ⟨y, hy, hye⟩
            refine ⟨y, ?_, hye⟩
            simp only [List.mem_append, List.mem_cons] at hy ⊢
            rcases hy with hy | rfl | hy
            · exact .inl hy
            · exact absurd hye.symm hki
            · exact .inr hy
          · rintro ⟨y, hy, hye⟩
            exact ⟨y, hsub.subset hy, hye⟩
      unfold wpOp
      simp only [hoi]
      have := hs.sound (Q := Q) (N := wpAny P .any ops Q n (listed.setIfInBounds i' true)) g (hd i' oi hoi) nxt
      split
      · rename_i hw; rw [if_pos hw] at this; exact .inl this
      · rename_i hw; rw [if_neg hw] at this; exact this
theorem AL.chain {ops : Array Oper} {K : St → List FP → Prop} : ∀ (l : List Oper) (σ : St) (fs : List FP) (b : Nat), (∀ k, l[k]? = ops[b + k]?) → AL P ops l σ fs K → ∃ (es : List Eff) (σ' : St), es.length = l.length ∧ Ch P ops (es.zipIdx b |>.map fun p => (p.2, p.1)) σ σ' ∧ K σ' (fs ++ es.map Eff.fp)
  | [], σ, fs, b, _, h => ⟨[], σ, rfl, .nil, by rw [List.map_nil, List.append_nil]; exact h⟩
  | o :: l, σ, fs, b, hb, ⟨e, hs, h⟩ => by
    obtain ⟨es, σ', h1, h2, h3⟩ := AL.chain l _ _ (b + 1) (fun k => by have := hb (k + 1); simpa [Nat.add_assoc, Nat.add_comm 1 k] using this) h
    refine ⟨e :: es, σ', by simp [h1], ?_, by simpa using h3⟩
    rw [List.zipIdx_cons, List.map_cons]
    exact .cons (by simpa using (hb 0).symm) hs h2
end
section
variable {P : Program} {nt : Nat} {Q : Exit → St → Prop} {σ : St}
theorem AW.drawn {id : Nat} {l : List Oper} (hl : (l.all fun o => match o.dst with | some t => decide (t < nt) | none => true) = true) (hm : P.follows .mixedOrders = true)
    (h : AL P l.toArray l σ [] fun σ' fs => chkD l.toArray fs = true ∧ Q .normal σ') : AW P nt (.region id l.toArray true) Q σ := fun X a w κ hX g => by
  obtain ⟨es, σ', h1, h2, h3, h4⟩ := AL.chain (ops := l.toArray) l σ [] 0 (fun k => by simp) h
  simp only [chkD, Bool.and_eq_true, decide_eq_true_eq, List.nil_append] at h3
  obtain ⟨⟨hE, hp⟩, hlen⟩ := h3
  refine wp_region_any hm ?_
  have hsz : l.toArray.size = (es.zipIdx 0 |>.map fun p => (p.2, p.1)).length := by simp [h1]
  rw [hsz]
  refine wpAny_of_Ch (X := X) (σf := σ') hE (fun i o ho t ht => ?_) (fun a' w' κ' g' => ⟨σ', h4, κ', g'⟩) _ _ _ σ a w.drew κ rfl (by simp [h1]) ?_ (fun x hx => ?_) (fun i hi => ?_) (fun j oj ho hli => ?_) h2 g.drew
  · have hmem : o ∈ l := by
      have := List.mem_of_getElem? (l := l) (i := i) (by simpa using ho)
      exact this
    have := List.all_eq_true.1 hl o hmem
    rw [ht] at this
    rw [hX]
    exact of_decide_eq_true this
  · have hpp := pairsD_iff.1 hp
    unfold numb at hpp
    rw [List.pairwise_map] at hpp ⊢
    have e : (es.map Eff.fp).zipIdx = es.zipIdx.map fun p => (p.1.fp, p.2) := by rw [List.zipIdx_map]; rfl
    rw [e, List.pairwise_map] at hpp
    exact hpp
  · obtain ⟨p, hp1, rfl⟩ := List.mem_map.1 hx
    have := List.snd_lt_of_mem_zipIdx hp1
    simp [h1] at this
    simpa using this
  · have hi2 : i < es.length := by simp at hi; omega
    constructor
    · intro _
      exact ⟨(i, es[i]), List.mem_map.2 ⟨(es[i], i), List.mem_zipIdx_iff_getElem?.2 (by simp [hi2]), rfl⟩, rfl⟩
    · intro _
      have : i < l.length := by simpa using hi
      simp [h1, this]
  · exfalso
    have hj' : j < l.length := by simpa using (Array.getElem?_eq_some_iff.1 ho).1
    simp [h1, hj'] at hli
end
end Am
namespace Am
variable [Tb]
open Go.RowKit
def thenQ (N : St → Prop) (Q : Exit → St → Prop) : Exit → St → Prop
  | .normal, σ => N σ
  | e, σ => Q e σ
def blockQ (id : Nat) (Q : Exit → St → Prop) : Exit → St → Prop
  | .exit i, σ => if i = id then Q .normal σ else Q (.exit i) σ
  | e, σ => Q e σ
def straightQ (Q : Exit → St → Prop) : Exit → St → Prop
  | .goto _, _ => False
  | e, σ => Q e σ
def Wk (σ σ' : St) : Prop := ∀ (X : Cx) (a : Act) (w : World) (κ : K), Gm X σ a w κ → ∃ κ', Gm X σ' a w κ'
section
variable {P : Program} {nt : Nat} {Q Q' : Exit → St → Prop} {σ σ' : St}
theorem AW.mono {c : Code} (h : AW P nt c Q σ) (hq : ∀ e σ, Q e σ → Q' e σ) : AW P nt c Q' σ := fun X a w κ hX g => Go.wp_mono (h X a w κ hX g) fun e a' w' ⟨σ', hs, k⟩ => ⟨σ', hq e σ' hs, k⟩
theorem AW.weak {c : Code} (h : Wk σ σ') (k : AW P nt c Q σ') : AW P nt c Q σ := fun X a w κ hX g => by
  obtain ⟨κ', g'⟩ := h X a w κ g
  exact k X a w κ' hX g'
theorem AW.seq {x y : Code} (h : AW P nt x (thenQ (fun σ' => AW P nt y Q σ') Q) σ) : AW P nt (.seq x y) Q σ := fun X a w κ hX g => by
  refine wp_seq (Go.wp_mono (h X a w κ hX g) fun e a' w' hq => ?_)
  obtain ⟨σ', hs, κ', g'⟩ := hq
  cases e with
  | normal => exact hs X a' w' κ' hX g'
  | _ => exact ⟨σ', hs, κ', g'⟩
theorem AW.skip (h : Q .normal σ) : AW P nt .skip Q σ := fun _ _ _ κ _ g => wp_skip ⟨σ, h, κ, g⟩
theorem AW.label {l : Nat} (h : Q .normal σ) : AW P nt (.label l) Q σ := fun _ _ _ κ _ g => wp_label ⟨σ, h, κ, g⟩
theorem AW.exit {id : Nat} (h : Q (.exit id) σ) : AW P nt (.exit id) Q σ := fun _ _ _ κ _ g => wp_exit ⟨σ, h, κ, g⟩
theorem AW.ret (h : Q .ret σ) : AW P nt .ret Q σ := fun _ _ _ κ _ g => wp_ret ⟨σ, h, κ, g⟩
theorem AW.cond {c : Operand} {x y : Code} {t : Bool} (hc : Ev (evA σ.sl) c (.c (.sc (.bool t)))) (h1 : t = true → AW P nt x Q σ) (h2 : t = false → AW P nt y Q σ) : AW P nt (.cond c x y) Q σ := fun X a w κ hX g => by
  have he : a.eval c = .bool t := Cq.uniq .sc (g.ev hc)
  cases t with
  | true => exact wp_cond_true he (h1 rfl X a w κ hX g)
  | false => exact wp_cond_false he (h2 rfl X a w κ hX g)
theorem AW.yes {c : Operand} {x y : Code} (hc : Ev (evA σ.sl) c (.c (.sc (.bool true)))) (h1 : AW P nt x Q σ) : AW P nt (.cond c x y) Q σ := .cond hc (fun _ => h1) fun e => by cases e
theorem AW.no {c : Operand} {x y : Code} (hc : Ev (evA σ.sl) c (.c (.sc (.bool false)))) (h1 : AW P nt y Q σ) : AW P nt (.cond c x y) Q σ := .cond hc (fun e => by cases e) fun _ => h1
theorem AW.block {id : Nat} {c : Code} (h : AW P nt c (blockQ id Q) σ) : AW P nt (.block id c) Q σ := fun X a w κ hX g => by
  refine wp_block (Go.wp_mono (h X a w κ hX g) fun e a' w' hq => ?_)
  obtain ⟨σ', hs, k⟩ := hq
  cases e with
  | exit i =>
    by_cases hi : i = id
    · have hs' : Q .normal σ' := by
        have := hs
        simp only [blockQ, hi, if_true] at this
        exact this
      show if i = id then _ else _
      rw [if_pos hi]
      exact ⟨σ', hs', k⟩
    · have hs' : Q (.exit i) σ' := by
        have := hs
        simp only [blockQ, hi, if_false] at this
        exact this
      show if i = id then _ else _
      rw [if_neg hi]
      exact ⟨σ', hs', k⟩
  | _ => exact ⟨σ', hs, k⟩
theorem AW.scope {c : Code} (h : AW P nt c (straightQ Q) σ) : AW P nt (.scope c) Q σ := fun X a w κ hX g => by
  refine wp_scope_straight (Go.wp_mono (h X a w κ hX g) fun e a' w' hq => ?_)
  obtain ⟨σ', hs, k⟩ := hq
  cases e with
  | goto l => exact hs.elim
  | _ => exact ⟨σ', hs, k⟩
theorem AW.loop {c : Code} (I : Nat → St → Prop) (n : Nat) (h0 : ∃ σ', Wk σ σ' ∧ I n σ') (round : ∀ n σ, I n σ → AW P nt c (thenQ (fun σ' => ∃ m σ'', m < n ∧ Wk σ' σ'' ∧ I m σ'') Q) σ) : AW P nt (.loop c) Q σ := fun X a w κ hX g => by
  obtain ⟨σ1, hw, hI⟩ := h0
  obtain ⟨κ1, g1⟩ := hw X a w κ g
  refine wp_loop_ghost (fun n a w => ∃ σ κ, I n σ ∧ Gm X σ a w κ) n ⟨σ1, κ1, hI, g1⟩ fun n a w hIa => ?_
  obtain ⟨σ, κ, hI, g⟩ := hIa
  refine Go.wp_mono (round n σ hI X a w κ hX g) fun e a' w' hq => ?_
  obtain ⟨σ', hs, κ', g'⟩ := hq
  cases e with
  | normal =>
    obtain ⟨m, σ'', hm, hwk, hI'⟩ := hs
    obtain ⟨κ'', g''⟩ := hwk X a' w' κ' g'
    exact ⟨m, hm, σ'', κ'', hI', g''⟩
  | _ => exact ⟨σ', hs, κ', g'⟩
end
theorem Wk.refl (σ : St) : Wk σ σ := fun _ _ _ κ g => ⟨κ, g⟩
theorem Wk.trans {a b c : St} (h : Wk a b) (k : Wk b c) : Wk a c := fun X x w κ g => by
  obtain ⟨κ', g'⟩ := h X x w κ g
  exact k X x w κ' g'
def HO.ok (d : Nat → Bool) : HO → Bool
  | .obj _ cs => okL d cs
  | .row _ _ _ => true
  | .bld _ _ _ => true
  | .gone => true
def HO.un : HO → HO
  | .obj t cs => .obj t (unL cs)
  | o => o
theorem Reps.only {κ κ' : K} {w : World} {d : Nat → Bool} (hS : κ'.S = κ.S) (hd : ∀ n, d n = true → κ.D n → κ'.D n ∧ κ'.μ n = κ.μ n ∧ κ'.T n = κ.T n) {cs : List C} {vs : List Value} (h : Reps κ w cs vs) (ho : okL d cs = true) : Reps κ' w cs vs :=
  ⟨h.1, fun j c v hc hv => (h.2 j c v hc hv).only hS hd (okL_mem ho c (List.mem_of_getElem? hc))⟩
theorem Wk.forget {σ σ' : St} (hs : ∀ t v, σ'.sl t = some v → ∃ u, σ.sl t = some u ∧ (u = v ∨ u.un = v) ∧ V.ok (fun n => (σ'.hp n).isSome) v = true)
    (hh : ∀ n o, σ'.hp n = some o → ∃ u, σ.hp n = some u ∧ (u = o ∨ u.un = o) ∧ o.ok (fun n => (σ'.hp n).isSome) = true) (h0 : (σ.hp 0).isSome = true → (σ'.hp 0).isSome = true) : Wk σ σ' := fun X a w κ g => by
  let κ' : K := { κ with D := fun n => κ.D n ∧ (σ'.hp n).isSome = true }
  have hd : ∀ n, (σ'.hp n).isSome = true → κ.D n → κ'.D n ∧ κ'.μ n = κ.μ n ∧ κ'.T n = κ.T n := fun n h k => ⟨⟨k, h⟩, rfl, rfl⟩
  have hbl : ∀ n b, b ∈ bl σ' κ' n → b ∈ bl σ κ n := fun n b hb => by
    unfold bl at hb ⊢
    cases ho : σ'.hp n with
    | none => rw [ho] at hb; cases hb
    | some o =>
      obtain ⟨u, hu, huo, _⟩ := hh n o ho
      rw [ho] at hb
      rw [hu]
      rcases huo with rfl | rfl
      · exact hb
      · cases u <;> exact hb
  refine ⟨κ', fun t v hv => ?_, fun n o ho => ?_, fun n hn => ?_, fun n n' b hne h1 h2 => g.dis n n' b hne (hbl n b h1) (hbl n' b h2), g.only, g.s0, g.s1, g.sz, g.df, fun b hb => ?_, g.tb⟩
  · obtain ⟨u, hu, huv, hok⟩ := hs t v hv
    obtain ⟨x, hx, hr⟩ := g.sl t u hu
    refine ⟨x, hx, ?_⟩
    have hr' : RepV κ w v x := by
      rcases huv with rfl | rfl
      · exact hr
      · exact hr.un
    exact RepV.only (κ := κ) (κ' := κ') rfl hd hr' hok
  · obtain ⟨u, hu, huo, hok⟩ := hh n o ho
    obtain ⟨hD, hO⟩ := g.hp n u hu
    refine ⟨⟨hD, by rw [ho]; rfl⟩, ?_⟩
    rcases huo with rfl | rfl
    · cases u with
      | obj ty cs => obtain ⟨vs, h1, h2, h3, h4⟩ := hO; exact ⟨vs, h1, Reps.only (κ := κ) (κ' := κ') rfl hd h2 hok, h3, h4⟩
      | row e k m => exact hO
      | bld ty e bs => exact hO
      | gone => exact hO
    · cases u with
      | obj ty cs => obtain ⟨vs, h1, h2, h3, h4⟩ := hO; exact ⟨vs, h1, Reps.only (κ := κ) (κ' := κ') rfl hd h2.un hok, h3, h4⟩
      | row e k m => exact hO
      | bld ty e bs => exact hO
      | gone => exact hO
  · obtain ⟨_, hn2⟩ := hn
    cases ho : σ'.hp n with
    | none => rw [ho] at hn2; cases hn2
    | some o => exact ⟨o, rfl⟩
  · obtain ⟨h1, h2⟩ := g.m0 b hb
    obtain ⟨o, ho⟩ := g.D 0 h1
    exact ⟨⟨h1, h0 (by rw [ho]; rfl)⟩, h2⟩
theorem Wk.nilRow {σ : St} {t τ e k : Nat} (hn : σ.hp τ = none) (ht : σ.sl t = some (.c .nil)) : Wk σ { sl := upd σ.sl t (.c (.lst (some τ) k [])), hp := upd σ.hp τ (.row e k 0) } := fun X a w κ g => by
  let κ' : K := { κ with D := fun n => κ.D n ∨ n = τ, T := updN κ.T τ (0, none, 0) }
  have nD : ¬ κ.D τ := fun hd => by obtain ⟨o, ho⟩ := g.D τ hd; rw [hn] at ho; cases ho
  have T1 : κ'.T τ = (0, none, 0) := updN_same _ _ _
  have T2 : ∀ n, n ≠ τ → κ'.T n = κ.T n := fun n hne => updN_ne _ _ hne
  have l : Le κ w κ' w := ⟨fun n hn => ⟨.inl hn, rfl⟩, fun g i hs hg => ⟨hs, rfl⟩, fun n hd => .inl (T2 n fun (e : n = τ) => nD (e ▸ hd))⟩
  have hbl : ∀ n b, b ∈ bl { sl := upd σ.sl t (.c (.lst (some τ) k [])), hp := upd σ.hp τ (.row e k 0) } κ' n → n ≠ τ ∧ b ∈ bl σ κ n := fun n b hb => by
    unfold bl at hb ⊢
    by_cases hne : n = τ
    · subst hne
      simp only [upd_same, T1] at hb
      cases hb
    · simp only [upd_ne _ _ hne, T2 n hne] at hb
      exact ⟨hne, hb⟩
  refine ⟨κ', fun s v hv => ?_, fun n o ho => ?_, fun n hn' => ?_, fun n n' b hne h1 h2 => g.dis n n' b hne (hbl n b h1).2 (hbl n' b h2).2, g.only, g.s0, g.s1, g.sz, g.df, fun b hb => ⟨.inl (g.m0 b hb).1, (g.m0 b hb).2⟩, g.tb⟩
  · by_cases hs : s = t
    · subst hs
      have : upd σ.sl s (.c (.lst (some τ) k [])) s = some v := hv
      rw [upd_same] at this
      injection this with this
      subst this
      obtain ⟨x, hx, hr⟩ := g.sl s _ ht
      refine ⟨x, hx, ?_⟩
      cases hr with
      | c hr =>
        cases hr
        exact .c (.lst (fun _ _ => default) rfl (fun x hx => by cases hx) (Nat.le_refl _) (Nat.zero_le _) (.inl rfl) (fun i j x c hx => by cases hx) fun τ' e => by
          injection e with e
          subst e
          rw [T1]
          exact ⟨.inr rfl, Nat.le_refl _, fun _ => rfl⟩)
    · have : upd σ.sl t (.c (.lst (some τ) k [])) s = some v := hv
      rw [upd_ne _ _ hs] at this
      obtain ⟨x, hx, hr⟩ := g.sl s v this
      exact ⟨x, hx, hr.mono l⟩
  · by_cases hne : n = τ
    · subst hne
      have : upd σ.hp n (.row e k 0) n = some o := ho
      rw [upd_same] at this
      injection this with this
      subst this
      exact ⟨.inr rfl, by rw [T1], .inl (by rw [T1]; exact ⟨rfl, rfl⟩)⟩
    · have : upd σ.hp τ (.row e k 0) n = some o := ho
      rw [upd_ne _ _ hne] at this
      obtain ⟨hD, hO⟩ := g.hp n o this
      refine ⟨.inl hD, ?_⟩
      cases o with
      | obj ty cs => obtain ⟨vs, h1, h2, h3, h4⟩ := hO; exact ⟨vs, h1, h2.mono l, h3, h4⟩
      | row e' k' m =>
        obtain ⟨h1, h2⟩ := hO
        exact ⟨by rw [T2 n hne]; exact h1, by rw [T2 n hne]; exact h2⟩
      | bld ty e' bs => exact hO.bld rfl rfl (fun b _ _ => rfl) (Nat.le_refl _) fun b i _ _ hs => hs
      | gone => exact hO
  · by_cases hne : n = τ
    · subst hne; exact ⟨_, upd_same _ _ _⟩
    · rcases hn' with hn' | hn'
      · obtain ⟨o, ho⟩ := g.D n hn'
        exact ⟨o, by show upd σ.hp τ _ n = _; rw [upd_ne _ _ hne]; exact ho⟩
      · exact absurd hn' hne
inductive ARes (P : Program) (σ : St) : List ResultVar → List V → Prop
  | nil : ARes P σ [] []
  | tmp {t : Nat} {v : V} {l : List ResultVar} {vs : List V} : Ev (evA σ.sl) (.tmp t) v → ARes P σ l vs → ARes P σ (.tmp t :: l) (v :: vs)
  | cell {t ty n off ty0 k : Nat} {cs : List C} {b : Bool} {v : V} {l : List ResultVar} {vs : List V} : Ev (evA σ.sl) (.tmp t) (.c (.ptr n off)) → σ.hp n = some (.obj ty0 cs) → tyi P ty = some (k, b) → cutV b cs off k = some v → ARes P σ l vs → ARes P σ (.cell t ty :: l) (v :: vs)
section
variable {P : Program} {X : Cx} {σ : St} {a : Act} {w : World} {κ : K}
def rv (tmps : Array Value) : ResultVar → Sem Value
  | .tmp t => pure (tmps.getD t undef)
  | .cell p t => do loadVar t (← asAddr (tmps.getD p undef))
theorem results_rv (fn : Func) (tmps : Array Value) : results fn tmps = (do let vs ← fn.results.mapM (rv tmps); pure (if h : vs.size = 1 then vs[0] else .tuple vs)) := by
  unfold results
  first | rfl | (congr 2; funext x; cases x <;> rfl)
theorem ARes.sound (g : Gm X σ a w κ) : ∀ {l : List ResultVar} {vs : List V}, ARes P σ l vs → ∃ xs : List Value, (l.mapM (m := Sem) (rv a.tmps)).run P w = .ok xs w ∧ RepVs κ w vs xs
  | [], _, .nil => ⟨[], by simp, .nil⟩
  | _ :: _, _, .tmp hx hs => by
    obtain ⟨xs, h1, h2⟩ := ARes.sound g hs
    refine ⟨_ :: xs, ?_, .cons (g.ev hx) h2⟩
    rw [List.mapM_cons]
    simp only [rv]
    simp [h1, Act.eval]
  | _, _, @ARes.cell _ _ t ty n off ty0 k cs b v l vs hx hh ht hc hs => by
    obtain ⟨xs, h1, h2⟩ := ARes.sound g hs
    have hp := g.ev hx
    obtain ⟨_, ws, b1, b2, _, _⟩ := g.hp _ _ hh
    obtain ⟨y, hy, hy1, hy2⟩ := cut_rep b2 hc
    have he : a.tmps.getD t undef = .pointer (some ⟨κ.μ n, off, none⟩) := by
      have he : a.eval (.tmp t) = .pointer (some ⟨κ.μ n, off, none⟩) := by
        cases hp with | c hp => generalize a.eval (.tmp t) = z at hp; cases hp; rfl
      exact he
    have := run_load (P := P) (w := w) (g := κ.μ n) (off := off) ht (fun j u hu => by rw [b1.cell]; simpa using hu) hy1 hy2
    have hl : (loadVar ty ⟨κ.μ n, off, none⟩).run P w = .ok y w := by simpa [Instr.loadAt, Instr.sureAddr] using this
    refine ⟨y :: xs, ?_, .cons hy h2⟩
    rw [List.mapM_cons]
    simp only [rv, he]
    simp [asAddr, hl, h1]
def one (l : List V) : V := match l with | [v] => v | l => .tup l
theorem ares_run (g : Gm X σ a w κ) {fn : Func} {vs : List V} (h : ARes P σ fn.results.toList vs) : ∃ x, (results fn a.tmps).run P w = .ok x w ∧ RepV κ w (one vs) x := by
  obtain ⟨xs, h1, h2⟩ := ARes.sound g h
  have hm : (fn.results.mapM (m := Sem) (rv a.tmps)).run P w = .ok xs.toArray w := by
    rw [← Array.toArray_toList (xs := fn.results), List.mapM_toArray]
    simp only [Sem.run_map, h1]
    rfl
  rw [results_rv, Sem.run_bind, hm]
  simp only [Result.andThen_ok]
  match vs, xs, h2 with
  | [v], [x], h2 => exact ⟨x, by simp, h2.2 0 v x rfl rfl⟩
  | [], [], h2 => exact ⟨.tuple #[], by simp, .tup rfl fun j x v h => by cases h⟩
  | v :: u :: l, x :: y :: ys, h2 =>
    refine ⟨.tuple (x :: y :: ys).toArray, by simp, .tup (by have := h2.1; simpa using this) fun j z q hz hq => h2.2 j z q hz (by simpa using hq)⟩
  | [], _ :: _, h2 => exact absurd h2.1 (by simp)
  | _ :: _, [], h2 => exact absurd h2.1 (by simp)
  | [_], _ :: _ :: _, h2 => exact absurd h2.1 (by simp)
  | _ :: _ :: _, [_], h2 => exact absurd h2.1 (by simp)
end
theorem Pure.of {P : Program} {f nt : Nat} {fn : Func} {c : Code} {args : List V} {r : V} (hc : Callable P f) (hf : P.funcs[f]? = some fn) (hb : fn.body = some c) (hn : fn.ntmps = nt) (hl : args.length ≤ nt) (hr : V.ok noN r = true)
    (h : AW P nt c (fun e σ => (e = .ret ∨ e = .normal) ∧ ∃ vs, ARes P σ fn.results.toList vs ∧ (one vs).un = r) ⟨fun i => args[i]?, fun _ => none⟩) : Pure P f args r := by
  refine ⟨hc, fun w S vs hT hS hv => ?_⟩
  have hvl : vs.size = args.length := by have := hv.1; simp at this; omega
  let X : Cx := ⟨w, S, [], nt, none⟩
  have g : Gm X ⟨fun i => args[i]?, fun _ => none⟩ { tmps := vs ++ Array.replicate (fn.ntmps - vs.size) undef, defers := [] } w (bareK S) := by
    refine ⟨fun t v hv' => ?_, fun n o ho => (by cases ho), fun n hn => False.elim hn, fun n n' b _ h1 => ?_, Keep.refl _ _, fun g i hs _ => hs, hS, ?_, rfl, fun b hb => (by cases hb), hT, fun b hb => (by cases hb)⟩
    · obtain ⟨x, hx, hr'⟩ := hv.get hv'
      refine ⟨x, ?_, hr'⟩
      have hlt := (List.getElem?_eq_some_iff.1 hx).1
      have e : vs[t]? = some x := by simpa using hx
      rw [Array.getElem?_append_left (by simpa using hlt)]
      exact e
    · unfold bl at h1; cases h1
    · simp [X, hn]; omega
  refine calls_of_wp hf hb (Go.wp_mono (h X _ w _ rfl g) fun e a' w' hq => ?_)
  obtain ⟨σ', ⟨he, us, hres, hun⟩, κ', g'⟩ := hq
  obtain ⟨x, hx, hrx⟩ := ares_run g' hres
  have hfin : RepV (bareK fun g i => S g i ∨ (w.heap.size ≤ g ∧ g < w'.heap.size)) w' r x := by
    have h1 : RepV κ' w' r x := hun ▸ hrx.un
    have h2 : RepV (bareK κ'.S) w' r x := RepV.only (κ := κ') (κ' := bareK κ'.S) (d := noN) rfl (fun n hn => by cases hn) h1 hr
    refine h2.mono (bare_le fun g i hs => ?_)
    rcases Nat.lt_or_ge g w.heap.size with hlt | hge
    · exact .inl (g'.s0 g i hs hlt)
    · exact .inr ⟨hge, g'.s1 g i hs⟩
  rcases he with rfl | rfl
  · exact ⟨g'.df, x, hx, x, rfl, g'.only, hfin⟩
  · exact ⟨g'.df, x, hx, x, rfl, g'.only, hfin⟩
def RetM (P : Program) (rl : List ResultVar) (r : V) (o' : HO) : Exit → St → Prop := fun e σ => (e = .ret ∨ e = .normal) ∧ (∃ o1, σ.hp 0 = some o1 ∧ o1.un = o') ∧ ∃ vs, ARes P σ rl vs ∧ (one vs).un = r
theorem MC.of {P : Program} {f nt : Nat} {fn : Func} {c : Code} {us : List V} {r : V} {o o' : HO} (hc : Callable P f) (hf : P.funcs[f]? = some fn) (hb : fn.body = some c) (hn : fn.ntmps = nt) (hl : us.length + 1 ≤ nt) (hr : V.ok noN r = true) (h1 : o.one = true) (h2 : o'.one = true)
    (h : AW P nt c (RetM P fn.results.toList r o') ⟨fun i => (V.c (.ptr 0 0) :: us)[i]?, fun n => if n = 0 then some o else none⟩) : MC P f o us r o' := by
  refine ⟨hc, fun w S μ B vs hT hG hS hSB hO hv => ?_⟩
  have hvl : vs.size = us.length := by have := hv.1; simp at this; omega
  let X : Cx := ⟨w, S, μ :: B.toList, nt, some μ⟩
  have lb : Le (bareK S) w (oneK S μ B) w := bare_le fun g i h => h
  have hhp : ∀ n o2, (if n = 0 then some o else none) = some o2 → n = 0 ∧ o2 = o := fun n o2 h => by
    split at h
    · injection h with h; exact ⟨by assumption, h.symm⟩
    · cases h
  have g : Gm X ⟨fun i => (V.c (.ptr 0 0) :: us)[i]?, fun n => if n = 0 then some o else none⟩ { tmps := (#[Value.pointer (some ⟨μ, 0, none⟩)] ++ vs) ++ Array.replicate (fn.ntmps - (#[Value.pointer (some ⟨μ, 0, none⟩)] ++ vs).size) undef, defers := [] } w (oneK S μ B) := by
    refine ⟨fun t v hv' => ?_, fun n o2 ho => ?_, fun n hn => ?_, fun n n' b hne h1 h2 => ?_, Keep.refl _ _, fun g i hs _ => hs, hS, ?_, rfl, fun b hb => ?_, hT, hG⟩
    · cases t with
      | zero =>
        have hv' : some (V.c (.ptr 0 0)) = some v := hv'
        injection hv' with hv'
        subst hv'
        exact ⟨.pointer (some ⟨μ, 0, none⟩), by rw [Array.append_assoc, Array.getElem?_append_left (by simp)]; rfl, .c (.ptr (κ := oneK S μ B) (n := 0) rfl)⟩
      | succ t =>
        have hv' : us[t]? = some v := hv'
        obtain ⟨x, hx, hr'⟩ := hv.get hv'
        refine ⟨x, ?_, hr'.mono lb⟩
        have hlt := (List.getElem?_eq_some_iff.1 hx).1
        have e : vs[t]? = some x := by simpa using hx
        rw [Array.getElem?_append_left (by simp at hlt ⊢; omega), Array.getElem?_append_right (by simp)]
        simpa using e
    · obtain ⟨rfl, rfl⟩ := hhp n o2 ho
      exact ⟨rfl, hO⟩
    · have hn : n = 0 := hn
      subst hn
      exact ⟨o, rfl⟩
    · have key : ∀ m, b ∈ bl ⟨fun i => (V.c (.ptr 0 0) :: us)[i]?, fun n => if n = 0 then some o else none⟩ (oneK S μ B) m → m = 0 := fun m hm => by
        unfold bl at hm
        by_cases e : m = 0
        · exact e
        · simp [e] at hm
      exact hne ((key n h1).trans (key n' h2).symm)
    · simp [X, hn]; omega
    · injection hb with hb; exact ⟨rfl, hb⟩
  refine calls_of_wp hf hb (Go.wp_mono (h X _ w _ rfl g) fun e a' w' hq => ?_)
  obtain ⟨σ', ⟨he, ⟨o1, ho1, hun1⟩, xs, hres, hun⟩, κ', g'⟩ := hq
  obtain ⟨x, hx, hrx⟩ := ares_run g' hres
  obtain ⟨hD, hOk⟩ := g'.hp 0 o1 ho1
  have hμ : κ'.μ 0 = μ := (g'.m0 μ rfl).2
  have hS2 : ∀ b, (∀ i, ¬ κ'.S b i) → (b ∈ X.F ∨ w.heap.size ≤ b) → ∀ i, ¬ (S b i ∨ κ'.S b i) := fun b k1 k2 i hs => by
    rcases hs with hs | hs
    · rcases k2 with k2 | k2
      · exact hSB b i hs k2
      · have := hS b i hs; omega
    · exact k1 i hs
  have hK : ∀ {c : C} {v : Value}, C.ok noN c = true → Rep κ' w' c v → Rep (oneK (fun g i => S g i ∨ κ'.S g i) μ (κ'.B 0)) w' c v := fun {c v} hok hr => by
    have r1 : Rep (bareK κ'.S) w' c v := hr.only (κ := κ') (κ' := bareK κ'.S) (d := noN) rfl (fun n hn => by cases hn) hok
    exact r1.mono (bare_le fun g i hs => Or.inr hs)
  have hO' : ObjOk ⟨w, S, μ :: B.toList, 0, none⟩ (oneK (fun g i => S g i ∨ κ'.S g i) μ (κ'.B 0)) w' 0 o' := by
    cases o1 with
    | obj ty cs =>
      obtain ⟨ws, k1, k2, k3, k4⟩ := hOk
      subst hun1
      rw [hμ] at k1 k3 k4
      have k2' := k2.un
      exact ⟨ws, k1, ⟨k2'.1, fun j c v hc hv => hK (okL_mem h2 c (List.mem_of_getElem? hc)) (k2'.2 j c v hc hv)⟩, hS2 μ k3 k4, k4⟩
    | row e k m => subst hun1; cases h2
    | gone =>
      subst hun1
      obtain ⟨k1, k2, k3⟩ := hOk
      rw [hμ] at k1 k2 k3
      exact ⟨k1, hS2 μ k2 k3, k3⟩
    | bld ty e bs =>
      subst hun1
      obtain ⟨p, v, k1, k2, k3, k4, k5, k6⟩ := hOk
      rw [hμ] at k1 k2 k5 k6
      exact ⟨p, v, k1, k2, k3, k4, k5, fun b hb => ⟨hS2 b (k6 b hb).1 (k6 b hb).2, (k6 b hb).2⟩⟩
  have hrr : RepV (bareK fun g i => S g i ∨ κ'.S g i) w' r x := by
    have r1 : RepV κ' w' r x := hun ▸ hrx.un
    have r2 : RepV (bareK κ'.S) w' r x := RepV.only (κ := κ') (κ' := bareK κ'.S) (d := noN) rfl (fun n hn => by cases hn) r1 hr
    exact r2.mono (bare_le fun g i hs => Or.inr hs)
  have hall : ∀ e, e = Ending.returned x → ∃ x S' B', e = .returned x ∧ Keep (μ :: B.toList) w w' ∧ (∀ g i, S g i → S' g i) ∧ (∀ g i, S' g i → g < w.heap.size → S g i) ∧ (∀ g i, S' g i → g < w'.heap.size) ∧
      ObjOk ⟨w, S, μ :: B.toList, 0, none⟩ (oneK S' μ B') w' 0 o' ∧ RepV (bareK S') w' r x := fun e he => by
    refine ⟨x, fun g i => S g i ∨ κ'.S g i, κ'.B 0, he, g'.only, fun g i hs => .inl hs, fun g i hs hg => ?_, fun g i hs => ?_, hO', hrr⟩
    · rcases hs with hs | hs
      · exact hs
      · exact g'.s0 g i hs hg
    · rcases hs with hs | hs
      · exact Nat.lt_of_lt_of_le (hS g i hs) g'.only.size
      · exact g'.s1 g i hs
  rcases he with rfl | rfl
  · exact ⟨g'.df, x, hx, hall _ rfl⟩
  · exact ⟨g'.df, x, hx, hall _ rfl⟩
end Am
namespace Am
variable [Tb]
open Go.RowKit
def look {α : Type} : List (Nat × α) → Nat → Option α
  | [], _ => none
  | (k, v) :: l, n => match Nat.beq k n with
    | true => some v
    | false => look l n
abbrev mk (l : List (Nat × V)) (h : List (Nat × HO)) : St := ⟨look l, look h⟩
theorem upd_look {α : Type} (l : List (Nat × α)) (t : Nat) (v : α) : upd (look l) t v = look ((t, v) :: l) := by
  funext n
  unfold look upd
  by_cases h : n = t
  · subst h; simp
  · have : Nat.beq t n = false := by
      cases hb : Nat.beq t n with
      | false => rfl
      | true => exact absurd (Nat.eq_of_beq_eq_true hb).symm h
    rw [if_neg h, this]
theorem put_mk (l : List (Nat × V)) (h : List (Nat × HO)) (t : Nat) (v : V) : (mk l h).put (some t) v = mk ((t, v) :: l) h := by
  show (⟨upd (look l) t v, look h⟩ : St) = _
  rw [upd_look]
theorem set_mk (l : List (Nat × V)) (h : List (Nat × HO)) (n : Nat) (o : HO) : (mk l h).set n o = mk l ((n, o) :: h) := by
  show (⟨look l, upd (look h) n o⟩ : St) = _
  rw [upd_look]
section
variable {P : Program} {ops : Array Oper} {l : List (Nat × V)} {h : List (Nat × HO)} {rest : List Oper} {fs : List FP} {K : St → List FP → Prop} {t : Nat} {op : Op} {ty : TypeId} {pos : String} {af : Array Edge} {gu : Option (Nat × Bool)} {v : V} {rd : List Nat} {n : Nat} {ob : HO} {gp : Nat × Bool}
theorem s_v (hs : AS P (evA (look l)) (look h) ⟨some t, op, ty, pos, af, none⟩ ⟨v, none, rd⟩) (k : AL P ops rest (mk ((t, v) :: l) h) (fs ++ [(none, rd)]) K) : AL P ops (⟨some t, op, ty, pos, af, none⟩ :: rest) (mk l h) fs K :=
  ⟨_, .yes rfl hs, by rw [St.app]; rw [← put_mk] at k; exact k⟩
theorem s_w (hs : AS P (evA (look l)) (look h) ⟨some t, op, ty, pos, af, none⟩ ⟨v, some (n, ob), rd⟩) (k : AL P ops rest (mk ((t, v) :: l) ((n, ob) :: h)) (fs ++ [(some n, rd)]) K) : AL P ops (⟨some t, op, ty, pos, af, none⟩ :: rest) (mk l h) fs K :=
  ⟨_, .yes rfl hs, by rw [St.app]; rw [← put_mk, ← set_mk] at k; exact k⟩
theorem s_s (hs : AS P (evA (look l)) (look h) ⟨none, op, ty, pos, af, none⟩ ⟨v, some (n, ob), rd⟩) (k : AL P ops rest (mk l ((n, ob) :: h)) (fs ++ [(some n, rd)]) K) : AL P ops (⟨none, op, ty, pos, af, none⟩ :: rest) (mk l h) fs K :=
  ⟨_, .yes rfl hs, by rw [St.app]; rw [← set_mk] at k; exact k⟩
theorem s_n (hg : gd ops (look l) ⟨some t, op, ty, pos, af, some gp⟩ = some false) (k : AL P ops rest (mk ((t, undV) :: l) h) (fs ++ [(none, [])]) K) : AL P ops (⟨some t, op, ty, pos, af, some gp⟩ :: rest) (mk l h) fs K :=
  ⟨_, .no hg, by rw [St.app]; rw [← put_mk] at k; exact k⟩
theorem s_m {b : Bool} (hg : gd ops (look l) ⟨some t, op, ty, pos, af, some gp⟩ = some b) (hs : b = true → AS P (evA (look l)) (look h) ⟨some t, op, ty, pos, af, some gp⟩ ⟨v, none, rd⟩) (k : AL P ops rest (mk ((t, .wh b v) :: l) h) (fs ++ [(none, rd)]) K) : AL P ops (⟨some t, op, ty, pos, af, some gp⟩ :: rest) (mk l h) fs K :=
  ⟨_, .may hg hs, by rw [St.app]; rw [← put_mk] at k; exact k⟩
theorem s_e (k : K (mk l h) fs) : AL P ops [] (mk l h) fs K := k
end
section
variable {ops : Array Oper} {sl : Nat → Option V} {d : Option Nat} {op : Op} {ty : TypeId} {pos : String} {af : Array Edge} {j t : Nat} {want b g : Bool}
theorem g_p (h1 : (ops[j]?).bind (·.dst) = some t) (h2 : sl t = some (.c (.sc (.bool b)))) : gd ops sl ⟨d, op, ty, pos, af, some (j, want)⟩ = some (b == want) := by
  unfold gd; simp only [h1, h2]
theorem g_w (h1 : (ops[j]?).bind (·.dst) = some t) (h2 : sl t = some (.wh g (.c (.sc (.bool b))))) : gd ops sl ⟨d, op, ty, pos, af, some (j, want)⟩ = some (g && (b == want)) := by
  unfold gd; simp only [h1, h2]
end
theorem beqd {α : Type} [BEq α] [LawfulBEq α] [DecidableEq α] (a b : α) : (a == b) = decide (a = b) := by rw [Bool.eq_iff_iff]; simp
section
variable {P : Program} {ρ : Operand → Option V} {H : Nat → Option HO} {d : Option Nat} {ty : TypeId} {pos : String} {af : Array Edge} {gu : Option (Nat × Bool)} {x y : Operand} {v : V} {t e n off k i : Nat} {cs ds cs' : List C} {b : Bool}
theorem a_move (hx : Ev ρ x v) : AS P ρ H ⟨d, .move x, ty, pos, af, gu⟩ ⟨v, none, []⟩ := .move (.inl rfl) hx
theorem a_assign (hx : Ev ρ x v) : AS P ρ H ⟨d, .assign x, ty, pos, af, gu⟩ ⟨v, none, []⟩ := .move (.inr rfl) hx
theorem a_alloc (hn : H t = none) (hz : Zw P e cs) : AS P ρ H ⟨some t, .alloc e, ty, pos, af, gu⟩ ⟨.c (.ptr t 0), some (t, .obj e cs), [t]⟩ := .alloc rfl rfl hn hz
theorem a_boxC {c : C} (hn : H t = none) (hx : Ev ρ x (.c c)) : AS P ρ H ⟨some t, .box e x, ty, pos, af, gu⟩ ⟨.c (.ptr t 0), some (t, .obj e [c]), [t]⟩ := .box rfl rfl hn hx rfl
theorem a_boxA (hn : H t = none) (hx : Ev ρ x (.agg cs)) : AS P ρ H ⟨some t, .box e x, ty, pos, af, gu⟩ ⟨.c (.ptr t 0), some (t, .obj e cs), [t]⟩ := .box rfl rfl hn hx rfl
theorem a_loadP {ty0 : Nat} (hx : Ev ρ x (.c (.ptr n off))) (hh : H n = some (.obj ty0 cs)) (ht : tyi P e = some (k, b)) (hc : cutV b cs off k = some v) : AS P ρ H ⟨d, .load e x, ty, pos, af, gu⟩ ⟨v, none, [n]⟩ := .load rfl hx hh ht hc
theorem a_loadE (hx : Ev ρ x (.c (.ep cs))) (ht : tyi P e = some (k, b)) (hc : cutV b cs 0 k = some v) : AS P ρ H ⟨d, .load e x, ty, pos, af, gu⟩ ⟨v, none, []⟩ := .loadE rfl hx ht hc
theorem a_storeC {ty0 : Nat} {c : C} (hx : Ev ρ x (.c (.ptr n off))) (hh : H n = some (.obj ty0 cs)) (hy : Ev ρ y (.c c)) (ht : tyi P e = some (1, b)) (hs : setV cs off [c] = some cs') : AS P ρ H ⟨d, .store e x y, ty, pos, af, gu⟩ ⟨undV, some (n, .obj ty0 cs'), [n]⟩ := .store rfl hx hh hy rfl ht hs
theorem a_storeA {ty0 : Nat} (hx : Ev ρ x (.c (.ptr n off))) (hh : H n = some (.obj ty0 cs)) (hy : Ev ρ y (.agg ds)) (ht : tyi P e = some (k, b)) (hl : ds.length = k) (hs : setV cs off ds = some cs') : AS P ρ H ⟨d, .store e x y, ty, pos, af, gu⟩ ⟨undV, some (n, .obj ty0 cs'), [n]⟩ := .store rfl hx hh hy rfl (hl ▸ ht) hs
theorem a_nil (hx : Ev ρ x v) (hv : isPl v = true) : AS P ρ H ⟨d, .nilCheck x, ty, pos, af, gu⟩ ⟨v, none, []⟩ := .nilCheck rfl hx hv
theorem a_fldP {s f o2 ft q : Nat} (hx : Ev ρ x (.c (.ptr n off))) (hf : fld P s f = some (o2, ft)) (he : off + o2 = q) : AS P ρ H ⟨d, .fieldAddr s x f, ty, pos, af, gu⟩ ⟨.c (.ptr n q), none, []⟩ := .fieldP rfl hx hf he
theorem a_fldE {s f o2 ft : Nat} (hx : Ev ρ x (.c (.ep cs))) (hf : fld P s f = some (o2, ft)) (he : cs.drop o2 = ds) : AS P ρ H ⟨d, .fieldAddr s x f, ty, pos, af, gu⟩ ⟨.c (.ep ds), none, []⟩ := .fieldE rfl hx hf he
theorem a_fld {s f o2 ft : Nat} (hx : Ev ρ x (.agg cs)) (hf : fld P s f = some (o2, ft)) (ht : tyi P ft = some (k, b)) (hc : cutV b cs o2 k = some v) : AS P ρ H ⟨d, .field s x f, ty, pos, af, gu⟩ ⟨v, none, []⟩ := .field rfl hx hf ht hc
theorem a_idx {j : Nat} {ix : Operand} {tg : Option Nat} {xs : List (List C)} {kd : IntKind} {z : Int} (hx : Ev ρ x (.c (.lst tg k xs))) (hi : Ev ρ ix (.c (.sc (.int kd z)))) (ht : sle P t = some (e, k)) (hz : z = (j : Nat)) (hg : xs[j]? = some cs) :
    AS P ρ H ⟨d, .indexAddr t x ix, ty, pos, af, gu⟩ ⟨.c (.ep cs), none, []⟩ := .indexL rfl hx hi ht hz hg
theorem a_ext {l : List V} (hx : Ev ρ x (.tup l)) (hl : l[i]? = some v) : AS P ρ H ⟨d, .extract x i, ty, pos, af, gu⟩ ⟨v, none, []⟩ := .extract rfl hx hl
theorem a_lenL {tg : Option Nat} {xs : List (List C)} (hx : Ev ρ x (.c (.lst tg k xs))) (ht : sle P t = some (e, k)) : AS P ρ H ⟨d, .call { callee := .builtin .len, args := #[x], argTypes := #[t] }, ty, pos, af, gu⟩ ⟨.c (.sc (.int .i64 xs.length)), none, []⟩ := .lenL rfl ht hx
theorem a_lenN (hx : Ev ρ x (.c .nil)) (ht : sle P t = some (e, k)) : AS P ρ H ⟨d, .call { callee := .builtin .len, args := #[x], argTypes := #[t] }, ty, pos, af, gu⟩ ⟨.c (.sc (.int .i64 0)), none, []⟩ := .lenN rfl ht hx
inductive EvCs (ρ : Operand → Option V) : List Operand → List C → Prop
  | nil : EvCs ρ [] []
  | cons {x : Operand} {c : C} {l : List Operand} {cs : List C} : Ev ρ x (.c c) → EvCs ρ l cs → EvCs ρ (x :: l) (c :: cs)
theorem EvCs.evl {ρ : Operand → Option V} : ∀ {l : List Operand} {cs : List C}, EvCs ρ l cs → EvL ρ l (cs.map V.c)
  | [], _, .nil => .nil
  | _ :: _, _, .cons h hs => .cons h hs.evl
theorem a_fn {f : Nat} {caps : Array Operand} {cs : List C} (hv : EvCs ρ caps.toList cs) : AS P ρ H ⟨d, .makeFunc (.func f) #[] caps, ty, pos, af, gu⟩ ⟨.c (.fn f cs), none, []⟩ := .makeFunc rfl hv.evl rfl
theorem a_slice {parts : Array (Nat × Operand)} {zs : List C} {ps : List (Nat × List C)} {xs : List (List C)} (ht : sle P t = some (e, k)) (hz : Zw P e zs) (hk : zs.length = k) (h0 : 0 < k) (hn : n * k ≤ 2 ^ 24) (hv : EvP ρ parts.toList ps) (hf : fillC (fun i => some (i * k, k)) ((List.replicate n zs).flatten) ps = some cs) (hx : chunk k n cs = xs) :
    AS P ρ H ⟨d, .buildSlice t n parts, ty, pos, af, gu⟩ ⟨.c (.lst none k xs), none, []⟩ := hx ▸ .buildSlice rfl ht hz hk h0 hn hv hf
theorem a_app {τ m : Nat} {tg : Option Nat} {xs ys zs : List (List C)} {zl : List C} (ht : sle P t = some (e, k)) (h0 : 0 < k) (hx : Ev ρ x (.c (.lst (some τ) k xs))) (hh : H τ = some (.row e k m)) (hm : xs.length = m) (hz : Zw P e zl) (hl : zl.length = k) (hy : Ev ρ y (.c (.lst tg k ys))) (hzs : xs ++ unLL ys = zs) (h1 : zs.length ≤ maxLen) (h2 : zs.length * P.bytesOf e ≤ 140737488355328) :
    AS P ρ H ⟨d, .call { callee := .builtin .append, args := #[x, y], argTypes := #[t, t] }, ty, pos, af, gu⟩ ⟨.c (.lst (some τ) k zs), some (τ, .row e k zs.length), [τ]⟩ := .append rfl ht h0 hx hh hm ⟨zl, hz, hl⟩ (.inl hy) hzs h1 h2
theorem a_pick {c a b : Operand} {p : Bool} (hc : Ev ρ c (.c (.sc (.bool p)))) (ha : p = true → Ev ρ a v) (hb : p = false → Ev ρ b v) : AS P ρ H ⟨d, .pick c a b, ty, pos, af, gu⟩ ⟨v, none, []⟩ := .pick rfl hc ha hb
theorem a_and {c a : Operand} {p q : Bool} (hc : Ev ρ c (.c (.sc (.bool p)))) (h0 : ρ (.const (.bool false)) = some (.c (.sc (.bool false)))) (ha : p = true → Ev ρ a (.c (.sc (.bool q)))) : AS P ρ H ⟨d, .pick c a (.const (.bool false)), ty, pos, af, gu⟩ ⟨.c (.sc (.bool (p && q))), none, []⟩ := by
  cases p with
  | true => exact .pick rfl hc (fun _ => ha rfl) fun e => by cases e
  | false => exact .pick rfl hc (fun e => by cases e) fun _ => .pl h0
theorem a_or {c a : Operand} {p q : Bool} (hc : Ev ρ c (.c (.sc (.bool p)))) (h0 : ρ (.const (.bool true)) = some (.c (.sc (.bool true)))) (ha : p = false → Ev ρ a (.c (.sc (.bool q)))) : AS P ρ H ⟨d, .pick c (.const (.bool true)) a, ty, pos, af, gu⟩ ⟨.c (.sc (.bool (p || q))), none, []⟩ := by
  cases p with
  | true => exact .pick rfl hc (fun _ => .pl h0) fun e => by cases e
  | false => exact .pick rfl hc (fun e => by cases e) fun _ => ha rfl
theorem a_bin {op : BinOp} {t2 : TypeId} {a b r : Value} (hx : Ev ρ x (.c (.sc a))) (hy : Ev ρ y (.c (.sc b))) (hr : scal r = true) (h : ∀ w, (do eqGuard op t x y a b; binOp op t a b : Sem Value).run P w = .ok r w) :
    AS P ρ H ⟨d, .binOp op t x y t2, ty, pos, af, gu⟩ ⟨.c (.sc r), none, []⟩ := by
  refine .still (fun q hq w => ?_) fun _ => .sc hr
  have h1 := hq x (by simp [Op.operands]) _ _ hx .sc
  have h2 := hq y (by simp [Op.operands]) _ _ hy .sc
  have h3 := h w
  unfold execOp
  simp only [h1, h2]
  simp only [Sem.run_bind] at h3 ⊢
  rw [h3]
  simp
theorem wrap64 {n : Int} (h0 : -9223372036854775808 ≤ n) (h1 : n < 9223372036854775808) : IntKind.i64.wrap n = n := by rw [IntKind.wrap_i64]; omega
variable {t2 : TypeId} {kd : IntKind} {p q : Int} {s u : ByteArray} {f g : Bool}
theorem a_add (hx : Ev ρ x (.c (.sc (.int .i64 p)))) (hy : Ev ρ y (.c (.sc (.int .i64 q)))) (h0 : -9223372036854775808 ≤ p + q) (h1 : p + q < 9223372036854775808) : AS P ρ H ⟨d, .binOp .add t x y t2, ty, pos, af, gu⟩ ⟨.c (.sc (.int .i64 (p + q))), none, []⟩ :=
  a_bin hx hy rfl fun w => by simp [eqGuard, binOp, Op.intArith, wrap64 h0 h1]
theorem a_sub (hx : Ev ρ x (.c (.sc (.int .i64 p)))) (hy : Ev ρ y (.c (.sc (.int .i64 q)))) (h0 : -9223372036854775808 ≤ p - q) (h1 : p - q < 9223372036854775808) : AS P ρ H ⟨d, .binOp .sub t x y t2, ty, pos, af, gu⟩ ⟨.c (.sc (.int .i64 (p - q))), none, []⟩ :=
  a_bin hx hy rfl fun w => by simp [eqGuard, binOp, Op.intArith, wrap64 h0 h1]
theorem a_eq (hx : Ev ρ x (.c (.sc (.int kd p)))) (hy : Ev ρ y (.c (.sc (.int kd q)))) : AS P ρ H ⟨d, .binOp .eql t x y t2, ty, pos, af, gu⟩ ⟨.c (.sc (.bool (decide (p = q)))), none, []⟩ :=
  a_bin hx hy rfl fun w => by simp [eqGuard, binOp, Op.intCmp, beqd]
theorem a_ne (hx : Ev ρ x (.c (.sc (.int kd p)))) (hy : Ev ρ y (.c (.sc (.int kd q)))) : AS P ρ H ⟨d, .binOp .neq t x y t2, ty, pos, af, gu⟩ ⟨.c (.sc (.bool (!decide (p = q)))), none, []⟩ :=
  a_bin hx hy rfl fun w => by simp [eqGuard, binOp, Op.intCmp, bne, beqd]
theorem a_lt (hx : Ev ρ x (.c (.sc (.int kd p)))) (hy : Ev ρ y (.c (.sc (.int kd q)))) : AS P ρ H ⟨d, .binOp .lss t x y t2, ty, pos, af, gu⟩ ⟨.c (.sc (.bool (decide (p < q)))), none, []⟩ :=
  a_bin hx hy rfl fun w => by simp [eqGuard, binOp, Op.intCmp]
theorem a_le (hx : Ev ρ x (.c (.sc (.int kd p)))) (hy : Ev ρ y (.c (.sc (.int kd q)))) : AS P ρ H ⟨d, .binOp .leq t x y t2, ty, pos, af, gu⟩ ⟨.c (.sc (.bool (decide (p ≤ q)))), none, []⟩ :=
  a_bin hx hy rfl fun w => by simp [eqGuard, binOp, Op.intCmp]
theorem a_gt (hx : Ev ρ x (.c (.sc (.int kd p)))) (hy : Ev ρ y (.c (.sc (.int kd q)))) : AS P ρ H ⟨d, .binOp .gtr t x y t2, ty, pos, af, gu⟩ ⟨.c (.sc (.bool (decide (q < p)))), none, []⟩ :=
  a_bin hx hy rfl fun w => by simp [eqGuard, binOp, Op.intCmp]
theorem a_ge (hx : Ev ρ x (.c (.sc (.int kd p)))) (hy : Ev ρ y (.c (.sc (.int kd q)))) : AS P ρ H ⟨d, .binOp .geq t x y t2, ty, pos, af, gu⟩ ⟨.c (.sc (.bool (decide (q ≤ p)))), none, []⟩ :=
  a_bin hx hy rfl fun w => by simp [eqGuard, binOp, Op.intCmp]
theorem ba_beq (s u : ByteArray) : (s.toList == u.toList) = decide (s = u) := by
  rw [ByteArray.toList_eq, ByteArray.toList_eq, beqd]
  congr 1
  exact propext ⟨fun h => ByteArray.ext (Array.ext' h), fun h => by rw [h]⟩
theorem a_cat (hx : Ev ρ x (.c (.sc (.string s)))) (hy : Ev ρ y (.c (.sc (.string u)))) (h : s.size + u.size ≤ 9223372036854775807) : AS P ρ H ⟨d, .binOp .add t x y t2, ty, pos, af, gu⟩ ⟨.c (.sc (.string (s ++ u))), none, []⟩ :=
  a_bin hx hy (by simp only [scal, ByteArray.size_append]; exact decide_eq_true h) fun w => by
    have : ¬ (((s.size + u.size : Nat) : Int) > IntKind.i64.max) := by simp [IntKind.max, IntKind.signed, IntKind.bits]; omega
    simp only [eqGuard, binOp, Op.stringOp, if_neg this]
    simp
theorem a_seq (hx : Ev ρ x (.c (.sc (.string s)))) (hy : Ev ρ y (.c (.sc (.string u)))) : AS P ρ H ⟨d, .binOp .eql t x y t2, ty, pos, af, gu⟩ ⟨.c (.sc (.bool (decide (s = u)))), none, []⟩ :=
  a_bin hx hy rfl fun w => by simp only [eqGuard, binOp, Op.stringOp, ba_beq]; simp
theorem a_sne (hx : Ev ρ x (.c (.sc (.string s)))) (hy : Ev ρ y (.c (.sc (.string u)))) : AS P ρ H ⟨d, .binOp .neq t x y t2, ty, pos, af, gu⟩ ⟨.c (.sc (.bool (!decide (s = u)))), none, []⟩ :=
  a_bin hx hy rfl fun w => by simp only [eqGuard, binOp, Op.stringOp, ba_beq]; simp
theorem a_beq (hx : Ev ρ x (.c (.sc (.bool f)))) (hy : Ev ρ y (.c (.sc (.bool g)))) (ht : P.underlying t = some .bool) : AS P ρ H ⟨d, .binOp .eql t x y t2, ty, pos, af, gu⟩ ⟨.c (.sc (.bool (f == g))), none, []⟩ :=
  a_bin hx hy rfl fun w => by simp [eqGuard, run_eql_bool w t f g ht]
theorem a_bne (hx : Ev ρ x (.c (.sc (.bool f)))) (hy : Ev ρ y (.c (.sc (.bool g)))) (ht : P.underlying t = some .bool) : AS P ρ H ⟨d, .binOp .neq t x y t2, ty, pos, af, gu⟩ ⟨.c (.sc (.bool (f != g))), none, []⟩ :=
  a_bin hx hy rfl fun w => by simp [eqGuard, run_neq_bool w t f g ht, bne]
theorem a_not (hx : Ev ρ x (.c (.sc (.bool f)))) : AS P ρ H ⟨d, .unOp .not t x, ty, pos, af, gu⟩ ⟨.c (.sc (.bool (!f))), none, []⟩ := by
  refine .still (fun q hq w => ?_) fun _ => .sc rfl
  have h1 := hq x (by simp [Op.operands]) _ _ hx .sc
  unfold execOp
  simp only [h1]
  simp [Op.unary]
theorem a_lenS (hx : Ev ρ x (.c (.sc (.string s)))) (ht : P.underlying t = some .string) : AS P ρ H ⟨d, .call { callee := .builtin .len, args := #[x], argTypes := #[t] }, ty, pos, af, gu⟩ ⟨.c (.sc (.int .i64 s.size)), none, []⟩ := by
  refine .still (fun q hq w => ?_) fun _ => .sc rfl
  have h1 := hq x (by simp [Op.operands, Call.operands]) _ _ hx .sc
  unfold execOp
  simp only [resolve, invoke, builtin]
  simp [h1, Builtin.len_, run_underlying ht, goInt]
def sb (s : ByteArray) (j : Nat) : UInt8 := s.data.toList.getD j 0
end
theorem s_f {P : Program} {ops : Array Oper} {rest : List Oper} {l : List (Nat × V)} {h : List (Nat × HO)} {fs : List (Option Nat × List Nat)} {K : St → List (Option Nat × List Nat) → Prop} {t : Nat} {op : Op} {ty : TypeId} {pos : String} {af : Array Edge} {gp : Nat × Bool} {b : Bool} (hg : gd ops (look l) ⟨some t, op, ty, pos, af, some gp⟩ = some b) (hb : b = false) (k : AL P ops rest (mk ((t, undV) :: l) h) (fs ++ [(none, [])]) K) : AL P ops (⟨some t, op, ty, pos, af, some gp⟩ :: rest) (mk l h) fs K := by
  subst hb; exact s_n hg k
theorem a_pickF {P : Program} {ρ : Operand → Option V} {H : Nat → Option HO} {d : Option Nat} {ty : TypeId} {pos : String} {af : Array Edge} {gu : Option (Nat × Bool)} {v : V} {c a b : Operand} {p : Bool} (hc : Ev ρ c (.c (.sc (.bool p)))) (hp : p = false) (hb : Ev ρ b v) : AS P ρ H ⟨d, .pick c a b, ty, pos, af, gu⟩ ⟨v, none, []⟩ := .pick rfl hc (fun e => by rw [hp] at e; cases e) fun _ => hb
theorem a_pickT {P : Program} {ρ : Operand → Option V} {H : Nat → Option HO} {d : Option Nat} {ty : TypeId} {pos : String} {af : Array Edge} {gu : Option (Nat × Bool)} {v : V} {c a b : Operand} {p : Bool} (hc : Ev ρ c (.c (.sc (.bool p)))) (hp : p = true) (hb : Ev ρ a v) : AS P ρ H ⟨d, .pick c a b, ty, pos, af, gu⟩ ⟨v, none, []⟩ := .pick rfl hc (fun _ => hb) (fun e => by rw [hp] at e; cases e)
theorem al_id {P : Program} {ops : Array Oper} {rest : List Oper} {l : List (Nat × V)} {h : List (Nat × HO)} {fs : List (Option Nat × List Nat)} {K : St → List (Option Nat × List Nat) → Prop} (k : AL P ops rest (mk l h) fs K) : AL P ops rest (mk l h) fs K := k
theorem a_allocB {P : Program} {ρ : Operand → Option V} {H : Nat → Option HO} {ty : TypeId} {pos : String} {af : Array Edge} {gu : Option (Nat × Bool)} {t u e : Nat} (hn : H t = none) (hz : Zb P u) : AS P ρ H ⟨some t, .alloc u, ty, pos, af, gu⟩ ⟨.c (.ptr t 0), some (t, .bld u e []), [t]⟩ := .allocB rfl rfl hn hz
end Am
end Go.Proofs.YtkcojiopjkllgaaGreatDoor
