/- Gr, Vi, Vj, Vk, Vl -/
import Derived.Test.YtnifgkgdphlleaaS2
import Derived.RangeFuncLeaves
import Derived.RangeFuncRecord
import Derived.RangeFuncCalls
import Derived.RangeFuncIn
import Derived.TacticsIn
import Derived.OrdersIn
import Derived.ControlIn
import Derived.Test.YtnifgkgdphlleaaS10
import Derived.RangeFuncNested
import Derived.RangeFuncBound
import Derived.OwnWalkIn
import Derived.TacticsInMore
set_option linter.unusedSimpArgs false
set_option linter.unusedVariables false
namespace Go.Proofs.Ytnifgkgdphlleaa
open Go.RowKit Tk
section
variable {P : Program} {lo n : Nat} {Q : Exit → Act → World → Prop} {a : Act} {w : World}
def notDefer (o : Oper) : Bool := match o.op with | .defer _ => false | _ => true
theorem notDefer_spec {o : Oper} (h : notDefer o = true) : ∀ c, o.op ≠ .defer c := fun c e => by unfold notDefer at h; rw [e] at h; cases h
theorem rows_wide {row : String} {args : Array Value} {R : Value → World → Prop} (h : Rows P row args w R) : RowsIn (Fence.wide.inRound lo) n P row args w R := fun c cs _ => by
  obtain ⟨v, w', r, s⟩ := h c cs
  exact ⟨v, w', r, stepsIn_wide.2 s⟩
theorem oper_in {o : Oper} {K K' : Act → World → Prop} (hd : notDefer o = true) (hK : ∀ a w, K a w → K' a w) (h : o.wp P a w K Q) : o.wpIn (Fence.wide.inRound lo) n P a w K' Q := by
  refine ⟨fun _ _ => trivial, ?_⟩
  rw [show o.semAt (Fence.wide.inRound lo).round a.eval = execOp a.eval o from Oper.semAt_eq _ _ _ (notDefer_spec hd)]
  unfold Oper.wp at h
  generalize (execOp a.eval o).run P w = r at h
  unfold Oper.upon at h
  unfold Oper.uponIn
  split at h
  · exact hK _ _ h
  · exact hK _ _ h
  · exact hK _ _ h
  · refine ⟨fun h => (by cases h), ((callsIn_wide.2 h).inRound lo).mono ?_⟩
    intro e w' h
    cases e with
    | returned v => exact hK _ _ h
    | panicked ch => exact h
    | outgrown => exact h
  · exact ⟨fun h => (by cases h), (rows_wide h).mono fun v w' h => hK _ _ h⟩
  · exact h
  · exact h.elim
theorem list_in {ops : Array Oper} (hL : ¬ LetsOut Q) : ∀ (l : List Oper) (a : Act) (w : World), l.all notDefer = true → wpList P ops Q l a w → wpListIn (Fence.wide.inRound lo) n P ops Q l a w
  | [], a, w, _, h => h
  | o :: l, a, w, hd, h => by
    rw [List.all_cons, Bool.and_eq_true] at hd
    unfold wpList at h
    unfold wpListIn
    split at h
    · rename_i hw
      rw [if_pos hw]
      rcases h with h | h
      · exact oper_in hd.1 (fun a w h => list_in hL l a w hd.2 h) h
      · exact absurd h.2 hL
    · rename_i hw
      rw [if_neg hw]
      exact ⟨fun _ _ => trivial, list_in hL l _ _ hd.2 h⟩
theorem ops_in {ops : Array Oper} (hL : ¬ LetsOut Q) (hd : ops.toList.all notDefer = true) : ∀ (l : List Nat) (a : Act) (w : World), wpOps P ops Q l a w → wpOpsIn (Fence.wide.inRound lo) n P ops Q l a w
  | [], a, w, h => h
  | i :: l, a, w, h => by
    unfold wpOps at h
    unfold wpOpsIn
    cases ho : ops[i]? with
    | none => rw [ho] at h; exact ops_in hL hd l a w h
    | some o =>
      rw [ho] at h
      dsimp only at h ⊢
      have hdo : notDefer o = true := by
        rw [← Array.getElem?_toList] at ho
        exact List.all_eq_true.1 hd o (List.mem_of_getElem? ho)
      split at h
      · rename_i hw
        rw [if_pos hw]
        rcases h with h | h
        · exact oper_in hdo (fun a w h => ops_in hL hd l a w h) h
        · exact absurd h.2 hL
      · rename_i hw
        rw [if_neg hw]
        exact ⟨fun _ _ => trivial, ops_in hL hd l _ _ h⟩
theorem region_in {id : Nat} {l : List Oper} (hL : ¬ LetsOut Q) (hd : l.all notDefer = true) (h : wpList P l.toArray Q l a w) : (Code.region id l.toArray false).wpIn (Fence.wide.inRound lo) n P Q a w :=
  wpIn_region_lit (list_in hL l a w hd h)
theorem any_can (Kp : World → World → Prop) (hr : ∀ w, Kp w w) (ht : ∀ a b c, Kp a b → Kp b c → Kp a c) {l : List Oper} (c : List (Nat × Nat)) (hB : canB l.toArray c = true)
    (h : ∀ K : Act → World → Prop, (∀ a w, Q .normal a w → K a w) → wpCan P l.toArray Kp K (LetsOut Q) (c.filterMap fun x => (l[x.2]?).map fun o => (x.1, o)) a w.drew) : wpAny P .any l.toArray Q l.toArray.size (Array.replicate l.toArray.size false) a w.drew := by
  simp only [canB, Bool.and_eq_true, decide_eq_true_eq] at hB
  obtain ⟨⟨⟨⟨⟨hs, hE⟩, hp⟩, hlt⟩, hlen⟩, hall⟩ := hB
  rw [← hlen]
  refine wpAny_of_can hr ht hs hE (N := Q .normal) (O := LetsOut Q) (fun _ _ h => h) (fun h => h) c.length c _ a _ rfl (by simp [hlen]) (pairsOk_iff.1 hp) (fun x hx => ?_) (fun i hi => ?_) (fun j oj hj hl => ?_) (wpCanI_eq _ l rfl c a _ (h _ fun _ _ h => h))
  · simpa using List.all_eq_true.1 hlt x hx
  · have h1 := List.all_eq_true.1 hall i (List.mem_range.2 hi)
    obtain ⟨x, hx, hxi⟩ := List.any_eq_true.1 h1
    constructor
    · intro _
      exact ⟨x, hx, by simpa using hxi⟩
    · intro _
      have hi2 : i < c.length := by rw [hlen]; exact hi
      simp [hi2]
  · exfalso
    have hj' : j < l.length := by simpa using (Array.getElem?_eq_some_iff.1 hj).1
    have hj2 : j < c.length := by rw [hlen]; simpa using hj'
    simp [hj2] at hl

/-- the same, with marks -/
theorem region_in_k {id : Nat} {l : List Oper} (Kp : World → World → Prop) (hr : ∀ w, Kp w w) (ht : ∀ a b c, Kp a b → Kp b c → Kp a c) (ts is : List Nat) (hL : ¬ LetsOut Q) (hd : l.all notDefer = true) (hm : P.follows .mixedOrders = true)
    (hB : (canB l.toArray (zipT ts is) && is.all fun i => decide (i < l.length)) = true)
    (h : ∀ K : Act → World → Prop, (∀ a w, Q .normal a w → K a w) → ∀ w', Ext w w' → wpTag P l.toArray Kp K (LetsOut Q) ts (pickL l is) a w') : (Code.region id l.toArray true).wpIn (Fence.wide.inRound lo) n P Q a w := by
  rw [Bool.and_eq_true] at hB
  refine wpIn_region_draw fun t => ?_
  refine ops_in hL (by simpa using hd) _ _ _ ?_
  simp only [Region.schedule, hm, Bool.true_or, if_true]
  refine wpAny_sound l.toArray.size t _ a _ (any_can Kp hr ht _ hB.1 fun K hK => ?_)
  rw [pick_eq l is ts fun i hi => by simpa using List.all_eq_true.1 hB.2 i hi]
  exact h K hK _ (Ext.drew w)
theorem at_andb {X : Nat} {w w' : World} {p : Prop} (h1 : But X w w') (h2 : p) : But X w w' ∧ p := ⟨h1, h2⟩
theorem nolets {K : Act → World → Prop} : ¬ LetsOut (Exit.then K fun _ _ _ => False) := fun ⟨_, _, h⟩ => h
theorem then_mono {K : Act → World → Prop} {c : Code} (hK : ∀ a w, K a w → Q .normal a w) (h : c.wpIn (Fence.wide.inRound lo) n P (Exit.then K fun _ _ _ => False) a w) : c.wpIn (Fence.wide.inRound lo) n P Q a w :=
  wpIn_mono h fun e a w hq => by
    cases e with
    | normal => exact hK a w hq
    | exit id => exact hq.elim
    | goto t => exact hq.elim
    | ret => exact hq.elim
    | panic ch => exact hq.elim
    | outgrown => exact hq.elim
/-- a region in a round, what comes behind it hidden -/
theorem region_K {id : Nat} {l : List Oper} (hd : l.all notDefer = true) (h : ∀ K : Act → World → Prop, Hid (∀ a w, Q .normal a w → K a w) → wpList P l.toArray (Exit.then K fun _ _ _ => False) l a w) : (Code.region id l.toArray false).wpIn (Fence.wide.inRound lo) n P Q a w :=
  then_mono (K := Q .normal) (fun _ _ h => h) (region_in nolets hd (h _ (Lib.hid fun _ _ h => h)))
theorem region_Kk {id : Nat} {l : List Oper} (Kp : World → World → Prop) (hr : ∀ w, Kp w w) (ht : ∀ a b c, Kp a b → Kp b c → Kp a c) (ts is : List Nat) (hd : l.all notDefer = true) (hm : P.follows .mixedOrders = true)
    (hB : (canB l.toArray (zipT ts is) && is.all fun i => decide (i < l.length)) = true)
    (h : ∀ K : Act → World → Prop, Hid (∀ a w, Q .normal a w → K a w) → ∀ w', Ext w w' → wpTag P l.toArray Kp K False ts (pickL l is) a w') : (Code.region id l.toArray true).wpIn (Fence.wide.inRound lo) n P Q a w :=
  then_mono (K := Q .normal) (fun _ _ h => h) (region_in_k Kp hr ht ts is nolets hd hm hB fun K hK w' hx => by
    rw [show LetsOut (Exit.then (Q .normal) fun _ _ _ => False) = False from propext ⟨nolets, False.elim⟩]
    exact h K (Lib.hid fun a w h => hK a w h) w' hx)
end
end Go.Proofs.Ytnifgkgdphlleaa
set_option linter.unusedSimpArgs false
set_option linter.unusedVariables false
namespace Go.Proofs.Ytnifgkgdphlleaa
open Go.RowKit Tk
abbrev ORowS (W : World) (x : Sy) : Prop := ORow W 9 1 strC (x.hp.v x.perms.length) x.perms
/-- what an iterator over symbols does, whatever the loop's body is -/
def Iter (n : Nat) (P : Program) (gf : Nat) (lb : Array Value) (B : Nat) (V : List PS) (w : World) : Prop :=
  ∀ (l : Nat) (J : List Sy → List Nat → World → Prop) (Jx : List Sy → World → Prop) (W : World) (O : List Nat), Ext w W →
    (∀ pre O W W', J pre O W → Ext W W' → J pre O W') → (∀ pre O W, J pre O W → ∀ b ∈ O, B ≤ b ∧ b < W.heap.size) →
    (∀ pre x O W, J pre O W → ORowS W x → (pre ++ [x]).map Sy.ps <+: V → YieldAt Fence.wide (n - 1) P l #[.agg (syC x).toArray] W fun e W' =>
      (e = .returned (.bool true) ∧ ∃ O', J (pre ++ [x]) O' W' ∧ Only O W W' ∧ ∀ b ∈ O', b ∈ O ∨ W.heap.size ≤ b) ∨ (e = .returned (.bool false) ∧ Jx (pre ++ [x]) W')) →
    J [] O W →
    CallsIn Fence.wide n P gf (#[.func (.yield l) #[] #[]] ++ lb) W fun e W' => (∃ v, e = .returned v) ∧ ((∃ xs O', xs.map Sy.ps = V ∧ J xs O' W') ∨ (∃ pre, pre.map Sy.ps <+: V ∧ Jx pre W'))
/-- how a round may end -/
def rPost (I : List Sy → List Nat → World → Prop) (Ix : List Sy → World → Prop) (O : List Nat) (pre : List Sy) (W : World) : Exit → Act → World → Prop
  | .normal, _, W' => Only O W W' ∧ ∃ O', I pre O' W' ∧ ∀ b ∈ O', b ∈ O ∨ W.heap.size ≤ b
  | .ret, _, W' => Only O W W' ∧ Ix pre W'
  | _, _, _ => False
theorem Only.putObj {F : List Nat} {w w' : World} (h : Only F w w') {l : Nat} (o : Obj) (hl : l ∈ F) : Only F w (w'.putObj l o) :=
  h.trans (F' := [l]) ⟨rfl, rfl, rfl, by simp, fun k _ hk => World.putObj_heap_other (fun e => hk (by simp [e]))⟩ fun x hx => .inl (by rw [List.mem_singleton.1 hx]; exact hl)
theorem ORow.putObj {α : Type} {W : World} {t : TypeId} {k : Nat} {f : α → List Value} {v : Value} {xs : List α} {l : Nat} {r : Loop} (h : ORow W t k f v xs) (hl : W.heap[l]? = some (.loop r)) (o : Obj) : ORow (W.putObj l o) t k f v xs :=
  h.kept fun x hx => by
    refine World.putObj_heap_other fun e => ?_
    obtain ⟨hn, ⟨e1, e2⟩ | ⟨g, cap, cur, e1, hb, hg, h2⟩⟩ := h
    · subst e1; simp [Value.ownBlock] at hx
    · subst e1
      have hx' : g = x := by simpa [Value.ownBlock] using hx
      subst hx'
      rw [e] at hg
      first | (rw [hl] at hg; cases hg) | (rw [← e] at hg; rw [hl] at hg; cases hg)
section
variable {P : Program} {m : Nat} {Q : Exit → Act → World → Prop} {a : Act} {w : World}
theorem wp_rng {g : Operand} {p : Tmp} {assign body : Code} {gf : Nat} {lb : Array Value} (hg : a.eval g = .func (.func gf) #[] lb) (eg : ∀ args w, (callFunc gf args).run P w = .ok (.enter gf args) w)
    {B : Nat} {V : List PS} (hit : ∀ n, Iter n P gf lb B V w) (hB : B ≤ w.heap.size)
    (I : List Sy → List Nat → World → Prop) (Ix : List Sy → World → Prop)
    (hIe : ∀ pre O W W', I pre O W → Ext W W' → I pre O W') (hIo : ∀ pre O W, I pre O W → ∀ b ∈ O, B ≤ b ∧ b < W.heap.size)
    (hIp : ∀ pre O W (l : Nat) (r r' : Loop), I pre O W → w.heap.size ≤ l → l ∉ O → W.heap[l]? = some (.loop r) → I pre O (W.putObj l (.loop r')))
    (hIxp : ∀ pre W (l : Nat) (r r' : Loop), Ix pre W → w.heap.size ≤ l → W.heap[l]? = some (.loop r) → Ix pre (W.putObj l (.loop r')))
    (O0 : List Nat) (h0 : I [] O0 w) (hO0 : ∀ b ∈ O0, b < w.heap.size) (a₁ : Sy → Nat → Act)
    (hassign : ∀ (l k : Nat) (x : Sy) (W : World) (K : Act → World → Prop), (∀ X W2, Ext W W2 → Blk W2 X 57 (syC x).toArray → W.heap.size ≤ X → K (a₁ x X) W2) →
      assign.wpIn (Fence.wide.inRound l) k P (Exit.then K (fun _ _ _ => False)) { tmps := a.tmps.setIfInBounds p (.agg (syC x).toArray), defers := [] } W)
    (hbody : ∀ (l k : Nat) (pre : List Sy) (x : Sy) (O : List Nat) (X : Nat) (W : World), I pre O W → ORowS W x → (pre ++ [x]).map Sy.ps <+: V → Blk W X 57 (syC x).toArray → X ∉ O → w.heap.size ≤ X → body.wpIn (Fence.wide.inRound l) k P (rPost I Ix O (pre ++ [x]) W) (a₁ x X) W)
    (hdone : ∀ (D : Nat) xs O W, xs.map Sy.ps = V → I xs O W → w.heap.size ≤ D → D ∉ O → W.heap[D]? = some (.deferred (some [])) → Q .normal { a with defers := { target := .collected D, args := #[] } :: a.defers } W)
    (hstop : ∀ (D : Nat) pre W, pre.map Sy.ps <+: V → Ix pre W → w.heap.size ≤ D → W.heap[D]? = some (.deferred (some [])) → Q .ret { a with defers := { target := .collected D, args := #[] } :: a.defers } W) :
    (Code.rangeFunc g #[p] assign body).wpIn Fence.wide m P Q a w := by
  refine wpIn_rangeFunc fun fn hfn => ?_
  obtain ⟨rec, hrec⟩ : ∃ rec : LoopState → Option Code → Loop, rec = fun st pe => { state := st, pending := pe, fn, tmps := a.tmps, params := #[p], assign, body, defers := w.heap.size } := ⟨_, rfl⟩
  obtain ⟨W1, hW1⟩ : ∃ W1, (w.alloc (.deferred (some []))).alloc (.loop (rec .ready none)) = W1 := ⟨_, rfl⟩
  obtain ⟨L, hLd⟩ : ∃ L, L = w.heap.size + 1 := ⟨_, rfl⟩
  have hE1 : Ext w W1 := by rw [← hW1]; exact (Ext.alloc w _).trans ((Ext.alloc _ _).mono (by simp))
  have hL1 : W1.heap[L]? = some (.loop (rec .ready none)) := by
    rw [← hW1, hLd]
    have := World.alloc_heap_new (w.alloc (.deferred (some []))) (.loop (rec .ready none))
    rwa [World.size_alloc] at this
  have hD1 : W1.heap[w.heap.size]? = some (.deferred (some [])) := by
    rw [← hW1]
    exact (Below.heap_alloc _ _ _ (by simp)).trans (World.alloc_heap_new w _)
  refine ⟨L, [{ target := .collected w.heap.size, args := #[] }], W1, { target := .fn (.func gf) lb, args := #[.func (.yield L) #[] #[]] }, W1, gf, #[.func (.yield L) #[] #[]] ++ lb, W1, ?_, ?_, fun _ _ => trivial, ?_, fun h => (by cases h), ?_⟩
  · rw [← hW1, hrec, hLd]; exact run_enterLoop_outer _ _ _ _ _
  · simp only [resolve, hg]
    simp [go_sem]
  · simp [invoke, go_sem, eg]
  refine (hit (m - 1) L
    (fun pre O W => ∃ O1, O = L :: O1 ∧ I pre O1 W ∧ L ∉ O1 ∧ w.heap.size ∉ O1 ∧ W.heap[L]? = some (.loop (rec .ready none)) ∧ W.heap[w.heap.size]? = some (.deferred (some [])))
    (fun pre W => Ix pre W ∧ W.heap[L]? = some (.loop (rec .done (some .ret))) ∧ W.heap[w.heap.size]? = some (.deferred (some [])))
    W1 (L :: O0) hE1 ?_ ?_ ?_ ?_).mono ?_
  · rintro pre O W W' ⟨O1, rfl, h1, h2, h3, h4, h5⟩ hx
    exact ⟨O1, rfl, hIe _ _ _ _ h1 hx, h2, h3, (hx.block L (Array.getElem?_eq_some_iff.1 h4).1).trans h4, (hx.block _ (Array.getElem?_eq_some_iff.1 h5).1).trans h5⟩
  · rintro pre O W ⟨O1, rfl, h1, h2, h3, h4, h5⟩ b hb
    rcases List.mem_cons.1 hb with rfl | hb
    · exact ⟨by omega, (Array.getElem?_eq_some_iff.1 h4).1⟩
    · exact hIo _ _ _ h1 b hb
  · rintro pre x O W ⟨O1, rfl, h1, h2, h3, h4, h5⟩ hrow hpv
    have hlt : L < W.heap.size := (Array.getElem?_eq_some_iff.1 h4).1
    have hltD : w.heap.size < W.heap.size := (Array.getElem?_eq_some_iff.1 h5).1
    have hy := run_yield (P := P) (args := #[.agg (syC x).toArray]) h4 (by rw [hrec]; rfl)
    rw [hrec] at hy
    have hy2 : (Instr.yield L #[.agg (syC x).toArray]).run P W = .ok (.round L fn (a.tmps.setIfInBounds p (.agg (syC x).toArray)) assign body) W := by rw [hy]; simp
    refine ⟨fn, _, assign, body, hy2, roundIn_of_wpIn hfn (hassign L _ x W _ fun X W2 hx2 hX hXs => ?_)⟩
    have h42 : W2.heap[L]? = some (.loop (rec .ready none)) := (hx2.block L hlt).trans h4
    have h52 : W2.heap[w.heap.size]? = some (.deferred (some [])) := (hx2.block _ hltD).trans h5
    refine ⟨_, run_beginRound h42 (by rw [hrec]), ?_⟩
    obtain ⟨W3, hW3⟩ : ∃ W3, W2.putObj L (.loop { rec .ready none with state := .busy }) = W3 := ⟨_, rfl⟩
    rw [hW3]
    have hlt2 : L < W2.heap.size := (Array.getElem?_eq_some_iff.1 h42).1
    have h43 : W3.heap[L]? = some (.loop { rec .ready none with state := .busy }) := by rw [← hW3]; exact World.putObj_heap_same hlt2
    have h53 : W3.heap[w.heap.size]? = some (.deferred (some [])) := by rw [← hW3]; exact (World.putObj_heap_other (by omega)).trans h52
    have hI3 : I pre O1 W3 := by rw [← hW3]; exact hIp _ _ _ L _ _ (hIe _ _ _ _ h1 hx2) (by omega) h2 h42
    have hrow3 : ORowS W3 x := by rw [← hW3]; exact (ORow.low hrow hx2).putObj h42 _
    have hX3 : Blk W3 X 57 (syC x).toArray := by rw [← hW3]; exact hX.of (World.putObj_heap_other (by omega))
    have hXO : X ∉ O1 := fun hm => by have := (hIo _ _ _ h1 X hm).2; omega
    have hO3 : Only (L :: O1) W W3 := by rw [← hW3]; exact (Only.of_below hx2).putObj _ (.head _)
    have hs3 : W.heap.size ≤ W3.heap.size := hO3.size
    have hlt3 : L < W3.heap.size := (Array.getElem?_eq_some_iff.1 h43).1
    refine wpIn_mono (hbody L _ pre x O1 X W3 hI3 hrow3 hpv hX3 hXO (by omega)) ?_
    rintro e a3 W4 hp
    cases e with
    | normal =>
      obtain ⟨ho4, O', hI4, hO'⟩ := hp
      have h44 : W4.heap[L]? = some (.loop { rec .ready none with state := .busy }) := (ho4.block L hlt3 h2).trans h43
      have h54 : W4.heap[w.heap.size]? = some (.deferred (some [])) := (ho4.block _ (by omega) h3).trans h53
      have hn' : ∀ b, b < W3.heap.size → b ∉ O1 → b ∉ O' := fun b hb hn hm => by
        rcases hO' b hm with h | h
        · exact hn h
        · omega
      have hend := run_endRound (P := P) none h44
      rw [hrec] at hend
      refine ⟨_, _, hend, .inl ⟨rfl, L :: O', ⟨O', rfl, hIp _ _ _ L _ _ hI4 (by omega) (hn' L hlt3 h2) h44, hn' L hlt3 h2, hn' _ (by omega) h3, ?_, ?_⟩, ?_, ?_⟩⟩
      · rw [hrec]; exact World.putObj_heap_same (Array.getElem?_eq_some_iff.1 h44).1
      · exact (World.putObj_heap_other (by omega)).trans h54
      · refine ((hO3.trans ho4 fun b hb => ?_).putObj _ (.head _))
        exact .inl (.tail _ hb)
      · intro b hb
        rcases List.mem_cons.1 hb with rfl | hb
        · exact .inl (.head _)
        · rcases hO' b hb with h | h
          · exact .inl (.tail _ h)
          · exact .inr (by omega)
    | ret =>
      obtain ⟨ho4, hI4⟩ := hp
      have h44 : W4.heap[L]? = some (.loop { rec .ready none with state := .busy }) := (ho4.block L hlt3 h2).trans h43
      have h54 : W4.heap[w.heap.size]? = some (.deferred (some [])) := (ho4.block _ (by omega) h3).trans h53
      have hend := run_endRound (P := P) (some .ret) h44
      rw [hrec] at hend
      refine ⟨_, _, hend, .inr ⟨rfl, hIxp _ _ L _ _ hI4 (by omega) h44, ?_, ?_⟩⟩
      · rw [hrec]; exact World.putObj_heap_same (Array.getElem?_eq_some_iff.1 h44).1
      · exact (World.putObj_heap_other (by omega)).trans h54
    | exit id => exact hp.elim
    | goto t => exact hp.elim
    | panic ch => exact hp.elim
    | outgrown => exact hp.elim
  · exact ⟨O0, rfl, hIe _ _ _ _ h0 hE1, fun hm => by have := hO0 _ hm; omega, fun hm => by have := hO0 _ hm; omega, hL1, hD1⟩
  · rintro e W2 ⟨⟨v, rfl⟩, (⟨xs, O', hV, O1, rfl, h1, h2, h3, h4, h5⟩ | ⟨pre, hpre, h1, h4, h5⟩)⟩
    · refine ⟨none, _, by have := run_endLoop (P := P) h4 (by rw [hrec]; simp); rw [hrec] at this; exact this, ?_⟩
      exact hdone _ xs O1 _ hV (hIp _ _ _ L _ _ h1 (by omega) h2 h4) (Nat.le_refl _) h3 ((World.putObj_heap_other (by omega)).trans h5)
    · refine ⟨some .ret, _, by have := run_endLoop (P := P) h4 (by rw [hrec]; simp); rw [hrec] at this; exact this, ?_⟩
      exact wpIn_ret (hstop _ pre _ hpre (hIxp _ _ L _ _ h1 (by omega) h4) (Nat.le_refl _) ((World.putObj_heap_other (by omega)).trans h5))
end
end Go.Proofs.Ytnifgkgdphlleaa
set_option linter.unusedSimpArgs false
set_option linter.unusedVariables false
namespace Go.Proofs.Ytnifgkgdphlleaa
open Go.RowKit Tk
theorem Ext.notin {w w1 : World} {X : Nat} (h : Ext w w1) (hX : w1.heap.size ≤ X) : w.heap.size ≤ X := Nat.le_trans h.size hX
theorem Ext.but0 {w w1 w2 : World} {X : Nat} (h : Ext w w1) (hb : But X w1 w2) (hX : w.heap.size ≤ X) : Ext w w2 :=
  ⟨hb.os.trans h.os, hb.tape.trans h.tape, hb.output.trans h.output, Nat.le_trans h.size hb.size, fun i hi => (hb.block i (Nat.lt_of_lt_of_le hi h.size) (by omega)).trans (h.block i hi)⟩
theorem wp_rec0 {P : Program} {w : World} {K : Act → World → Prop} {a : Act} {Q : Exit → Act → World → Prop} {α : Type} {k : Nat} {f : α → List Value} {xs : List α} {y : α} {o : Oper} {ty : TypeId} {x : Operand} {g n c i : Nat} (r : RRow w k f (.slice (some ⟨g, 0, none⟩) n c) xs) (hy : xs[i]? = some y)
    (hf : ∀ x, (f x).length = k) (ho : o.op = .load ty x) (hx : a.eval x = .pointer (some ⟨g, i * k, none⟩))
    (hu : aggB P ty = true) (hk : (P.info? ty).map (·.size) = some k)
    (h : K (a.put o.dst (.agg (f y).toArray)) w) : o.wp P a w K Q := wp_rec2 r hy hf ho (by rw [hx, Nat.zero_add]) hu hk h
/-- rows that rounds may not write -/
structure Safe (W : World) (O : List Nat) (a : Option Addr) (c : Nat) (xs : List Sy) : Prop where
  row : ORow W 57 6 syC (.slice a xs.length c) xs
  perms : PermsOk W xs
  out : ∀ g ∈ O, g ∉ ownB (.slice a xs.length c) ∧ ∀ x ∈ xs, g ∉ ownB (x.hp.v x.perms.length)
theorem Safe.ext {W W' : World} {O : List Nat} {a : Option Addr} {c : Nat} {xs : List Sy} (h : Safe W O a c xs) (hx : Ext W W') : Safe W' O a c xs := ⟨h.row.low hx, h.perms.ext hx, h.out⟩
theorem Safe.step {W W' : World} {O O' : List Nat} {a : Option Addr} {c : Nat} {xs : List Sy} (h : Safe W O a c xs) (ho : Only O W W') (hO' : ∀ b ∈ O', b ∈ O ∨ W.heap.size ≤ b) : Safe W' O' a c xs :=
  ⟨ORow.only h.row ho fun g hg => (h.out g hg).1, fun x hx => ORow.only (h.perms x hx) ho fun g hg => (h.out g hg).2 x hx, fun g hg => by
    rcases hO' g hg with h1 | h1
    · exact h.out g h1
    · exact ⟨fun hm => by have := ORow.lt h.row (mem_ownB.1 hm); omega, fun x hx hm => by have := ORow.lt (h.perms x hx) (mem_ownB.1 hm); omega⟩⟩
theorem Safe.made {w W : World} {O : List Nat} {a : Option Addr} {c : Nat} {xs : List Sy} (h : YRow w W (.slice a xs.length c) xs) (hO : ∀ b ∈ O, b < w.heap.size) : Safe W O a c xs :=
  ⟨h.row.row, h.perms.ok, fun g hg => ⟨fun hm => by have := h.row.new g hm; have := hO g hg; omega, fun x hx hm => by have := (h.perms x hx).new g hm; have := hO g hg; omega⟩⟩
theorem Safe.but {W W' : World} {O : List Nat} {a : Option Addr} {c X : Nat} {xs : List Sy} {t : TypeId} {cs : Array Value} (h : Safe W O a c xs) (hb : But X W W') (k : Blk W X t cs) (ht : t ≠ 57 ∧ t ≠ 9) : Safe W' O a c xs :=
  ⟨ORow.but h.row hb k ht.1.symm, fun x hx => (h.perms x hx).but hb k ht.2.symm, h.out⟩
theorem Safe.notin {W : World} {O : List Nat} {a : Option Addr} {c X : Nat} {xs : List Sy} (h : Safe W O a c xs) (hX : W.heap.size ≤ X) : X ∉ ownB (.slice a xs.length c) ∧ ∀ x ∈ xs, X ∉ ownB (x.hp.v x.perms.length) :=
  ⟨fun hm => by have := ORow.lt h.row (mem_ownB.1 hm); omega, fun x hx hm => by have := ORow.lt (h.perms x hx) (mem_ownB.1 hm); omega⟩
theorem Safe.but0 {W W' : World} {O : List Nat} {a : Option Addr} {c X : Nat} {xs : List Sy} (h : Safe W O a c xs) (hb : But X W W') (hX : X ∉ ownB (.slice a xs.length c) ∧ ∀ x ∈ xs, X ∉ ownB (x.hp.v x.perms.length)) : Safe W' O a c xs :=
  ⟨ORow.kept h.row fun g hg => hb.block g (ORow.lt h.row hg) fun e => hX.1 (e ▸ mem_ownB.2 hg), fun x hx => ORow.kept (h.perms x hx) fun g hg => hb.block g (ORow.lt (h.perms x hx) hg) fun e => hX.2 x hx (e ▸ mem_ownB.2 hg), h.out⟩
theorem Safe.cells {W : World} {O : List Nat} {a : Option Addr} {c : Nat} {xs : List Sy} (h : Safe W O a c xs) : RRow W 6 syC (.slice a xs.length c) xs := h.row.reads syC_len
def allS (l : List St) : List PS := l.flatMap fun s => symsP s.h
theorem allS_take {l : List St} {j : Nat} {y : St} (h : l[j]? = some y) : allS (l.take (j + 1)) = allS (l.take j) ++ symsP y.h := by
  unfold allS; rw [take_at h, List.flatMap_append]; simp
theorem pre_of {l : List St} {j : Nat} {y : St} {k : Nat} {V : List PS} (h : l[j]? = some y) (hV : V = allS (l.take j) ++ (symsP y.h).take k) : V <+: allS l := by
  subst hV
  have h1 : allS l = allS (l.take (j + 1)) ++ allS (l.drop (j + 1)) := by
    unfold allS; rw [← List.flatMap_append, List.take_append_drop]
  rw [h1, allS_take h, List.append_assoc]
  exact List.prefix_append_right_inj _ |>.2 ((List.take_prefix _ _).trans (List.prefix_append _ _))
end Go.Proofs.Ytnifgkgdphlleaa
set_option linter.unusedSimpArgs false
set_option linter.unusedVariables false
namespace Go.Proofs.Ytnifgkgdphlleaa
open Go.RowKit Tk
attribute [local go_sem] Oper.semAt_some
theorem bodyPost_nrm {P : Program} {fn : Func} {R : Ending → World → Prop} {a : Act} {w : World} {v : Value} (hr : (results fn a.tmps).run P w = .ok v w) (hd : a.defers = []) (hR : R (.returned v) w) : bodyPost P fn R .normal a w := ⟨hd, v, hr, hR⟩
set_option maxHeartbeats 8000000 in
set_option maxRecDepth 100000 in
theorem written_iter {w0 w : World} {X1 : Nat} {a : Option Addr} {n c : Nat} {l : List St} (hb : Blk w X1 22 #[.slice a n c]) (hl : RRow w0 55 stC (.slice a n c) l) (hok : St.oks w0 l) (hfl : St.fewls l) (E : Only [] w0 w) (m : Nat) :
    Iter m Try.prog 32 #[.pointer (some ⟨X1, 0, none⟩)] w0.heap.size (allS l) w := by
  intro lo J Jx W O hxW hJe hJo hY hJ0
  obtain ⟨rfl, n2⟩ := RRow.lens hl
  have hY := Lib.hid hY
  have hJe := Lib.hid hJe
  have hJo := Lib.hid hJo
  refine callsIn_wide.2 ?_
  have c1 := (hb.low hxW).cell
  have f1 := (hb.low hxW).free
  replace E := E.ext hxW
  have hE0 := E
  go_enter Try.func32, Try.ntmps32
  go_upto_region 1 with (first | fail)
  obtain ⟨hcE, hfE⟩ := bcell E.low
  clear c1 f1
  go_loopw [9] (fun i wr => ∃ (j : Nat) (pre : List Sy) (O : List Nat), i = .int .i64 j ∧ j ≤ l.length ∧ J pre O wr ∧ Hid (pre.map Sy.ps = allS (l.take j)) ∧ Only [] w0 wr) (fun i _ => l.length - (intOf i).toNat)
  case atStart => exact ⟨0, [], O, rfl, Nat.zero_le _, hJ0, rfl, E⟩
  case round =>
    clear E hcE hfE hJ0
    obtain ⟨j, pre, O, rfl, hj, hJ, HP, E⟩ := hrel
    obtain ⟨hcE, hfE⟩ := bcell E.low
    by_cases hlt : j < l.length
    · obtain ⟨y, hy⟩ := at_some hlt
      obtain ⟨g, o, rfl, hg, -⟩ := RRow.cells hl hlt
      have hlc := hl
      have HY := Lib.hid hy
      have hyo : y.ok w0 := by
        obtain ⟨h1, h2⟩ := List.getElem?_eq_some_iff.1 hy
        exact h2 ▸ hok.at h1
      have hyf : y.fewl := by
        obtain ⟨h1, h2⟩ := List.getElem?_eq_some_iff.1 hy
        exact h2 ▸ hfl.at h1
      clear hy
      have EX := Ext.refl wr
      go_upto_region 4 with (first | ((with_reducible refine at_dst 12 ?_); (refine wp_rec2 ((hlc.ext E.low)) (HY.out) stC_len rfl rfl ?_ ?_ ?_); (· kernel_rfl); (· kernel_rfl)) | ((with_reducible refine at_dst 4 ?_); go_simp; (generalize hX4 : Array.size (World.heap _) = X4); refine new_block hX4 ?_; intro wn bb hx; (try (have n6_4 := (b6.ne hX4).1; have n4_6 := (b6.ne hX4).2)); (try (have z4 := Nat.le_trans E.size (Nat.le_of_eq hX4))); (try (have mhsf_4 := hsf.notin (Nat.le_of_eq hX4))); (try (have mEX_4 := EX.notin (Nat.le_of_eq hX4))); have b4 := Loc.new bb E hX4; clear bb hX4; (try replace E := E.ext hx); (try replace b6 := b6.ext hx); (try replace hsf := hsf.ext hx); (try replace EX := EX.ext hx); (try (clear hcE hfE)); (try (have hcf := bcell E.low; obtain ⟨hcE, hfE⟩ := hcf)); (try (clear c4 f4)); (try (have c4 := b4.cell; have f4 := b4.free)); (try (clear c6 f6)); (try (have c6 := b6.cell; have f6 := b6.free))) | ((with_reducible refine at_dst 13 ?_); (refine wp_all b4.blk rfl rfl ?_ ?_ ?_); (· kernel_rfl); (· kernel_rfl)) | ((with_reducible refine at_dst 14 ?_); go_simp; ((refine (symbols_any (hyo.hd.ext E.low) hyf.hd).mono ?_)); unfold WPost; rintro e wn ⟨sa, sc, xs, rfl, HXS, hyr, hx⟩; have hJ1 := hJe.out _ _ _ _ hJ EX; have hO1 := fun b hb => (hJo.out _ _ _ hJ1 b hb).2; have hsf := Safe.made hyr hO1; clear hO1; replace HXS := Lib.hid HXS; (try replace E := E.ext hx); (try replace b4 := b4.ext hx); (try replace b6 := b6.ext hx); (try replace hsf := hsf.ext hx); (try replace EX := EX.ext hx); (try (clear hcE hfE)); (try (have hcf := bcell E.low; obtain ⟨hcE, hfE⟩ := hcf)); (try (clear c4 f4)); (try (have c4 := b4.cell; have f4 := b4.free)); (try (clear c6 f6)); (try (have c6 := b6.cell; have f6 := b6.free))) | ((with_reducible refine at_store 4 ?_); (refine wp_put b4 rfl rfl ?_ ?_ ?_ ?_; (· kernel_rfl); (· first | rfl | kernel_rfl); (· first | decide | exact Nat.le_refl _ | simp [Act.eval, Value.cells] | (simp [Act.eval, Act.put, Value.cells]; done)); intro wn bn hb; have E2 := E.put b4 hb; (try replace b6 := b6.but hb n6_4); (first | (replace hsf := hsf.but hb b4.blk (of_decide_eq_true rfl)) | (replace hsf := hsf.but0 hb mhsf_4) | skip); (first | (replace EX := EX.but hb b4.blk (of_decide_eq_true rfl)) | (replace EX := EX.but0 hb mEX_4) | skip); clear E b4; have E := E2; clear E2; have b4 := bn; clear bn hb; dsimp only [Act.put]; simp only [putA, Act.eval, Value.cells, Nat.reduceAdd, putL, sizL] at b4; (try (clear hcE hfE)); (try (have hcf := bcell E.low; obtain ⟨hcE, hfE⟩ := hcf)); (try (clear c4 f4)); (try (have c4 := b4.cell; have f4 := b4.free)); (try (clear c6 f6)); (try (have c6 := b6.cell; have f6 := b6.free)))))
      have hJ2 := hJe.out _ _ _ _ hJ EX
      clear hJ hJ1 EX
      have hxl : xs.length ≤ 9223372036854775807 := (RRow.lens hsf.cells).2
      go_loopw [16] (fun i wr => ∃ (k : Nat) (pre : List Sy) (O : List Nat), i = .int .i64 k ∧ k ≤ xs.length ∧ J pre O wr ∧ Hid (pre.map Sy.ps = allS (l.take j) ++ (symsP y.h).take k) ∧ Safe wr O sa sc xs ∧ Only [] w0 wr) (fun i _ => xs.length - (intOf i).toNat)
      case atStart => exact ⟨0, pre, O, rfl, Nat.zero_le _, hJ2, Lib.hid (by rw [HP.out]; simp), hsf, E⟩
      case round =>
        clear hJ2 hsf E HP b4 c4 f4 hcE hfE
        obtain ⟨k, pre, O, rfl, hk, hJ, HP, hsf, E⟩ := hrel
        obtain ⟨hcE, hfE⟩ := bcell E.low
        by_cases hltk : k < xs.length
        · obtain ⟨z, hz⟩ := at_some hltk
          have HX := Lib.hid hz
          obtain ⟨g2, hsa⟩ : ∃ g2, sa = some ⟨g2, 0, none⟩ := by
            obtain ⟨g', cap, e, -⟩ := ORow.at syC_len hsf.row (by omega)
            injection e with e _ _
            exact ⟨g', e⟩
          subst hsa
          clear hz
          have EX := Ext.refl wr
          go_upto_region 6 with (first | ((with_reducible refine at_dst 19 ?_); (refine wp_rec0 (hsf.cells) (HX.out) syC_len rfl rfl ?_ ?_ ?_); (· kernel_rfl); (· kernel_rfl)) | ((with_reducible refine at_dst 6 ?_); go_simp; (generalize hX6 : Array.size (World.heap _) = X6); refine new_block hX6 ?_; intro wn bb hx; (try (have n4_6 := (b4.ne hX6).1; have n6_4 := (b4.ne hX6).2)); (try (have z6 := Nat.le_trans E.size (Nat.le_of_eq hX6))); (try (have mhsf_6 := hsf.notin (Nat.le_of_eq hX6))); (try (have mEX_6 := EX.notin (Nat.le_of_eq hX6))); have b6 := Loc.new bb E hX6; clear bb hX6; (try replace E := E.ext hx); (try replace b4 := b4.ext hx); (try replace hsf := hsf.ext hx); (try replace EX := EX.ext hx); (try (clear hcE hfE)); (try (have hcf := bcell E.low; obtain ⟨hcE, hfE⟩ := hcf)); (try (clear c4 f4)); (try (have c4 := b4.cell; have f4 := b4.free)); (try (clear c6 f6)); (try (have c6 := b6.cell; have f6 := b6.free))) | ((with_reducible refine at_store 6 ?_); (refine wp_put b6 rfl rfl ?_ ?_ ?_ ?_; (· kernel_rfl); (· first | rfl | kernel_rfl); (· first | decide | exact Nat.le_refl _ | simp [Act.eval, Value.cells] | (simp [Act.eval, Act.put, Value.cells]; done)); intro wn bn hb; have E2 := E.put b6 hb; (try replace b4 := b4.but hb n4_6); (first | (replace hsf := hsf.but hb b6.blk (of_decide_eq_true rfl)) | (replace hsf := hsf.but0 hb mhsf_6) | skip); (first | (replace EX := EX.but hb b6.blk (of_decide_eq_true rfl)) | (replace EX := EX.but0 hb mEX_6) | skip); clear E b6; have E := E2; clear E2; have b6 := bn; clear bn hb; dsimp only [Act.put]; simp only [putA, Act.eval, Value.cells, Nat.reduceAdd, putL, sizL] at b6; (try (clear hcE hfE)); (try (have hcf := bcell E.low; obtain ⟨hcE, hfE⟩ := hcf)); (try (clear c4 f4)); (try (have c4 := b4.cell; have f4 := b4.free)); (try (clear c6 f6)); (try (have c6 := b6.cell; have f6 := b6.free)))))
          have hJ2 := hJe.out _ _ _ _ hJ EX
          have hzm : z ∈ xs := List.mem_of_getElem? HX.out
          have hps : (pre ++ [z]).map Sy.ps = allS (l.take j) ++ (symsP y.h).take (k + 1) := by
            rw [List.map_append, HP.out, ← HXS.out, take_at (map_at (f := Sy.ps) HX.out), List.append_assoc]; rfl
          have HPS := Lib.hid hps
          clear hps
          obtain ⟨fn, tmps, assign, body, hy, hR⟩ := hY.out pre z O wn hJ2 (hsf.perms z hzm) (pre_of HY.out HPS.out)
          replace hy : (Instr.yield lo #[.agg #[.int .i64 z.kind, .string z.name, .bool z.req, .slice z.hp.a z.perms.length z.hp.c, .int .i64 z.line, .int .i64 z.col]]).run Try.prog wn = .ok (.round lo fn tmps assign body) wn := hy
          refine (wpIn_wide (n := m)).1 ?_
          gi_wp2
          clear hy
          refine ⟨fun h => (by cases h), hR.mono ?_⟩
          clear hR
          rintro e W' (⟨rfl, O', hJ', ho, hO'⟩ | ⟨rfl, hJx'⟩)
          · have hsf' := hsf.step ho hO'
            have E' : Only [] w0 W' := E.trans ho fun b hb => .inr (hJo.out _ _ _ hJ2 b hb).1
            gi_wp2
            clear E hcE hfE hsf b6 c6 f6 hJ2 hJ EX
            go_upto_region 9999 with (first | fail)
            go_roundw
            case rel => exact ⟨k + 1, pre ++ [z], O', by go_num, by omega, hJ', HPS.out, hsf', E'⟩
            case measure => simp [intOf]; omega
          · gi_wp2
            clear E hcE hfE hsf b6 c6 f6 hJ2 hJ EX
            go_upto_region 9999 with (first | fail)
            refine bodyPost_ret (v := .tuple #[]) (by simp [results, Try.f32, go_sem]) rfl ⟨⟨_, rfl⟩, .inr ⟨pre ++ [z], pre_of HY.out HPS.out, hJx'⟩⟩
        · have hps : pre.map Sy.ps = allS (l.take (j + 1)) := by
            rw [HP.out, allS_take HY.out, List.take_of_length_le (l := symsP y.h) (by rw [← HXS.out, List.length_map]; omega)]
          have HPS := Lib.hid hps
          clear hps
          go_upto_region 9999 with (first | fail)
          go_roundw
          case rel => exact ⟨j + 1, pre, O, by go_num, by omega, hJ, HPS.out, E⟩
          case measure => simp [intOf]; omega
    · go_upto_region 9999 with (first | fail)
      refine bodyPost_nrm (v := .tuple #[]) (by simp [results, Try.f32, go_sem]) rfl ?_
      exact ⟨⟨_, rfl⟩, .inl ⟨pre, O, by rw [HP.out, List.take_of_length_le (by omega)], hJ⟩⟩
end Go.Proofs.Ytnifgkgdphlleaa
set_option linter.unusedSimpArgs false
set_option linter.unusedVariables false
namespace Go.Proofs.Ytnifgkgdphlleaa
open Go.RowKit Tk
def clashGP (sp : Int → Int) (x : PS) : List PS → Bool → Int
  | [], t => if t then 12 else 0
  | y :: l, t => if sp y.kind ≠ sp x.kind ∨ y.name ≠ x.name then clashGP sp x l t else if y.kind ≠ x.kind then 13 else clashGP sp x l (t || (!x.req && !y.req))
def clashPS (sp : Int → Int) (l : List PS) (x : PS) : Int := clashGP sp x l (!x.req && isObj x.kind x.name)
theorem clashG_ps (sp : Int → Int) (x : Sy) : ∀ (l : List Sy) (t : Bool), clashG sp x l t = clashGP sp x.ps (l.map Sy.ps) t
  | [], t => rfl
  | y :: l, t => by
    unfold clashG
    rw [List.map_cons, clashGP, clashG_ps sp x l, clashG_ps sp x l]
    rfl
theorem clash_ps (sp : Int → Int) (l : List Sy) (x : Sy) : clashP sp l x = clashPS sp (l.map Sy.ps) x.ps := clashG_ps sp x l _
/-- the first clash -/
def scanB (sp : Int → Int) : List PS → List PS → Option (Int × PS)
  | _, [] => none
  | pre, x :: l => if clashPS sp pre x ≠ 0 then some (clashPS sp pre x, x) else scanB sp (pre ++ [x]) l
theorem scan_snoc {sp : Int → Int} {x : PS} : ∀ {l pre : List PS}, scanB sp pre l = none → scanB sp pre (l ++ [x]) = if clashPS sp (pre ++ l) x ≠ 0 then some (clashPS sp (pre ++ l) x, x) else none
  | [], pre, _ => by simp [scanB]
  | y :: l, pre, h => by
    unfold scanB at h
    split at h
    · cases h
    · rename_i hc
      rw [List.cons_append, scanB, if_neg hc, scan_snoc h]
      simp
theorem scan_pre {sp : Int → Int} {q : Int × PS} : ∀ {l m pre : List PS}, scanB sp pre l = some q → scanB sp pre (l ++ m) = some q
  | y :: l, m, pre, h => by
    unfold scanB at h
    rw [List.cons_append, scanB]
    split at h
    · rename_i hc; rw [if_pos hc]; exact h
    · rename_i hc; rw [if_neg hc]; exact scan_pre h
def declB (all : List PS) (k : Int × ByteArray) : Bool := all.any fun y => !y.req && decide (y.key = k)
def stepB (all : List PS) (out : List PS) (x : PS) : List PS :=
  if (x.req && (declB all x.key || isObj x.kind x.name)) = true then out
  else match idxP x.key out with
    | some i => if x.req = true then out.modify i (·.add x.perms) else out ++ [x]
    | none => out ++ [x]
def mergeB (all : List PS) : List PS := all.foldl (stepB all) []
structure FT where
  code : Int
  line : Int
  col : Int
  name : ByteArray
def FT.zero : FT := ⟨0, 0, 0, ⟨#[]⟩⟩
def FT.v (f : FT) : Value := .agg #[.int .i64 f.code, .int .i64 f.line, .int .i64 f.col, .string f.name]
def blockB (sp : Int → Int) (all : List PS) : List PS × FT :=
  match scanB sp [] all with
  | some (e, x) => ([], ⟨e, x.line, x.col, x.name⟩)
  | none => (mergeB all, FT.zero)
theorem clashGP_true {sp : Int → Int} {x : PS} : ∀ l : List PS, clashGP sp x l true ≠ 0
  | [] => by simp [clashGP]
  | y :: l => by
    unfold clashGP
    split
    · exact clashGP_true l
    · split
      · decide
      · rw [Bool.true_or]; exact clashGP_true l
theorem clashGP_mem {sp : Int → Int} {x z : PS} (h1 : z.kind = x.kind) (h2 : z.name = x.name) (h3 : z.req = false) (h4 : x.req = false) : ∀ (l : List PS) (t : Bool), z ∈ l → clashGP sp x l t ≠ 0
  | y :: l, t, hm => by
    unfold clashGP
    rcases List.mem_cons.1 hm with rfl | hm
    · rw [if_neg (by rw [h1, h2]; simp), if_neg (by simp [h1]), h3, h4]
      simp only [Bool.not_false, Bool.and_self, Bool.or_true]
      exact clashGP_true l
    · split
      · exact clashGP_mem h1 h2 h3 h4 l t hm
      · split
        · decide
        · exact clashGP_mem h1 h2 h3 h4 l _ hm
theorem scan_none_at {sp : Int → Int} : ∀ {l pre : List PS} {j : Nat} {y : PS}, scanB sp pre l = none → l[j]? = some y → clashPS sp (pre ++ l.take j) y = 0
  | x :: l, pre, 0, y, h, hy => by
    injection hy with hy
    subst hy
    unfold scanB at h
    split at h
    · cases h
    · rename_i hc
      simpa using hc
  | x :: l, pre, j + 1, y, h, hy => by
    unfold scanB at h
    split at h
    · cases h
    · have := scan_none_at (l := l) (j := j) h (by simpa using hy)
      simpa using this
def KeptB (all : List PS) (j : Nat) (out : List PS) : Prop := ∀ z ∈ out, ∃ z0 ∈ all.take j, z0.kind = z.kind ∧ z0.name = z.name ∧ z0.req = z.req ∧ (z.req = true → declB all z.key = false)
theorem idxP_key {k : Int × ByteArray} {U : List PS} {i : Nat} (h : idxP k U = some i) : ∃ x ∈ U, x.key = k := by
  obtain ⟨x, h1, h2⟩ := idx_some h
  exact ⟨x, List.mem_of_getElem? h1, h2⟩
theorem KeptB.step {all : List PS} {j : Nat} {out : List PS} {y : PS} (h : KeptB all j out) (hy : all[j]? = some y) : KeptB all (j + 1) (stepB all out y) := by
  have hw : ∀ z ∈ out, ∃ z0 ∈ all.take (j + 1), z0.kind = z.kind ∧ z0.name = z.name ∧ z0.req = z.req ∧ (z.req = true → declB all z.key = false) := fun z hz => by
    obtain ⟨z0, h1, h2⟩ := h z hz
    exact ⟨z0, by rw [take_at hy]; exact List.mem_append_left _ h1, h2⟩
  have hn : (y.req && (declB all y.key || isObj y.kind y.name)) ≠ true → KeptB all (j + 1) (out ++ [y]) := fun hc z hz => by
    rcases List.mem_append.1 hz with hz | hz
    · exact hw z hz
    · rw [List.mem_singleton.1 hz]
      refine ⟨y, by rw [take_at hy]; simp, rfl, rfl, rfl, fun hr => ?_⟩
      rw [hr] at hc
      cases hd : declB all y.key
      · rfl
      · rw [hd] at hc; simp at hc
  unfold stepB
  split
  · exact hw
  · rename_i hc
    split
    · split
      · intro z hz
        obtain ⟨k, hk, e⟩ := List.getElem_of_mem hz
        rw [List.getElem_modify] at e
        subst e
        split
        · obtain ⟨z0, h1, h2, h3, h4, h5⟩ := hw (out[k]'(by simpa using hk)) (List.getElem_mem _)
          exact ⟨z0, h1, h2, h3, h4, h5⟩
        · exact hw _ (List.getElem_mem _)
      · exact hn hc
    · exact hn hc
theorem KeptB.none {all : List PS} {j : Nat} {out : List PS} {y : PS} (h : KeptB all j out) (hs : scanB spC [] all = none) (hy : all[j]? = some y) (hr : y.req = false) : idxP y.key out = Option.none := by
  cases hi : idxP y.key out with
  | none => rfl
  | some i =>
    exfalso
    obtain ⟨z, hz, hk⟩ := idxP_key hi
    obtain ⟨z0, h1, h2, h3, h4, h5⟩ := h z hz
    have hk1 : z.kind = y.kind := congrArg Prod.fst hk
    have hk2 : z.name = y.name := congrArg Prod.snd hk
    cases hzr : z.req with
    | true =>
      have := h5 hzr
      rw [hk] at this
      have hd : declB all y.key = true := by
        unfold declB
        rw [List.any_eq_true]
        exact ⟨y, List.mem_of_getElem? hy, by simp [hr]⟩
      rw [hd] at this; cases this
    | false =>
      have hc := scan_none_at hs hy
      rw [List.nil_append] at hc
      exact clashGP_mem (h2.trans hk1) (h3.trans hk2) (h4.trans hzr) hr _ _ h1 hc
theorem stepB_wt (all out : List PS) (y : PS) : wtU (stepB all out y) ≤ wtU out + (1 + y.perms.length) := by
  have hn : wtU (out ++ [y]) ≤ wtU out + (1 + y.perms.length) := by rw [wtU_app]; simp [wtU]
  unfold stepB
  split
  · omega
  · split
    · split
      · have := wtU_mod y.perms out ‹_›; omega
      · exact hn
    · exact hn
theorem fold_wt (all : List PS) : ∀ (l out : List PS), wtU (l.foldl (stepB all) out) ≤ wtU out + wtU l
  | [], out => by simp [wtU]
  | y :: l, out => by
    have h1 := fold_wt all l (stepB all out y)
    have h2 := stepB_wt all out y
    have h3 : wtU (y :: l) = (1 + y.perms.length) + wtU l := by simp [wtU]
    rw [List.foldl_cons, h3]; omega
theorem stepB_nd {all out : List PS} {y : PS} (h : ndU out) (hy : y.perms.Nodup) : ndU (stepB all out y) := by
  have hn : ndU (out ++ [y]) := fun x hx => by
    rcases List.mem_append.1 hx with hx | hx
    · exact h x hx
    · rw [List.mem_singleton.1 hx]; exact hy
  unfold stepB
  split
  · exact h
  · split
    · split
      · intro x hx
        obtain ⟨j, hj, e⟩ := List.getElem_of_mem hx
        rw [List.getElem_modify] at e
        subst e
        split
        · exact joinN_nodup (h _ (List.getElem_mem _)) _
        · exact h _ (List.getElem_mem _)
      · exact hn
    · exact hn
theorem symsP_nd (h : StH) : ndU (symsP h) := by
  unfold symsP
  repeat' split
  all_goals
    intro x hx
    simp only [List.mem_cons, List.mem_map, List.not_mem_nil, or_false] at hx
  all_goals first
    | (rcases hx with rfl | ⟨a, _, rfl⟩ <;> first | exact dedup_nodup _ | exact List.nodup_nil)
    | (rcases hx with rfl | hx <;> first | exact dedup_nodup _ | exact List.nodup_nil | exact hx.elim)
    | (obtain ⟨a, _, rfl⟩ := hx; exact List.nodup_nil)
    | (subst hx; first | exact dedup_nodup _ | exact List.nodup_nil)
    | exact hx.elim
theorem allS_nd (l : List St) : ndU (allS l) := fun x hx => by
  obtain ⟨s, _, h⟩ := List.mem_flatMap.1 hx
  exact symsP_nd _ x h
/-! ### what the first loop keeps -/
def DeclOk (ml : List ((Int × ByteArray) × Value)) (pre : List PS) : Prop := ∀ k, mgetK k ml = if declB pre k = true then some (.bool true) else none
theorem DeclOk.nil : DeclOk [] [] := fun k => by simp [declB, mgetK]
theorem declB_snoc (pre : List PS) (x : PS) (k : Int × ByteArray) : declB (pre ++ [x]) k = (declB pre k || (!x.req && decide (x.key = k))) := by simp [declB]
theorem DeclOk.req {ml : List ((Int × ByteArray) × Value)} {pre : List PS} {x : PS} (h : DeclOk ml pre) (hx : x.req = true) : DeclOk ml (pre ++ [x]) := fun k => by
  rw [declB_snoc, hx]; simpa using h k
theorem DeclOk.decl {ml : List ((Int × ByteArray) × Value)} {pre : List PS} {x : PS} (h : DeclOk ml pre) (hx : x.req = false) : DeclOk (mputK x.key (.bool true) ml) (pre ++ [x]) := fun k => by
  rw [declB_snoc, hx, mget_putK]
  by_cases hk : k = x.key
  · subst hk; simp
  · rw [if_neg hk, h k]
    have : ¬ x.key = k := fun e => hk e.symm
    simp [this]
structure BI (w0 : World) (X2 X3 X4 X5 m5 : Nat) (pre : List Sy) (O : List Nat) (W : World) : Prop where
  ex : ∃ (a : Option Addr) (c : Nat) (ml : List ((Int × ByteArray) × Value)), O = X2 :: X3 :: X4 :: X5 :: m5 :: ownB (.slice a pre.length c) ∧ Loc [] w0 W X4 54 #[.slice a pre.length c] ∧ OwnR w0 W 57 6 syC (.slice a pre.length c) pre ∧ KMap W m5 ml ∧ DeclOk ml (pre.map Sy.ps)
  b2 : Loc [] w0 W X2 54 #[.slice none 0 0]
  b3 : Loc [] w0 W X3 31 #[.int .i64 0, .int .i64 0, .int .i64 0, .string ⟨#[]⟩]
  b5 : Loc [] w0 W X5 68 #[.map (some m5)]
  hm : w0.heap.size ≤ m5
  n24 : X2 ≠ X4
  perms : PermsOk W pre
  only : Only [] w0 W
  scan : scanB spC [] (pre.map Sy.ps) = none
structure BX (w0 : World) (X2 X3 : Nat) (pre : List Sy) (W : World) : Prop where
  b2 : Loc [] w0 W X2 54 #[.slice none 0 0]
  b3 : ∃ e x, scanB spC [] (pre.map Sy.ps) = some (e, x) ∧ Loc [] w0 W X3 31 #[.int .i64 e, .int .i64 x.line, .int .i64 x.col, .string x.name]
  only : Only [] w0 W
section
variable {w0 W W' : World} {X2 X3 X4 X5 m5 : Nat} {pre : List Sy} {O : List Nat}
theorem BI.ext (h : BI w0 X2 X3 X4 X5 m5 pre O W) (hx : Ext W W') : BI w0 X2 X3 X4 X5 m5 pre O W' := by
  obtain ⟨⟨a, c, ml, h1, h2, h3, h4, h5⟩, h6, h7, h8, h9, h10, h11, h12, h13⟩ := h
  exact ⟨⟨a, c, ml, h1, h2.ext hx, h3.ext hx, h4.ext hx, h5⟩, h6.ext hx, h7.ext hx, h8.ext hx, h9, h10, h11.ext hx, h12.ext hx, h13⟩
theorem BI.bounds (h : BI w0 X2 X3 X4 X5 m5 pre O W) : ∀ b ∈ O, w0.heap.size ≤ b ∧ b < W.heap.size := by
  obtain ⟨⟨a, c, ml, rfl, h2, h3, h4, h5⟩, h6, h7, h8, h9, h10, h11, h12, h13⟩ := h
  intro b hb
  simp only [List.mem_cons] at hb
  rcases hb with rfl | rfl | rfl | rfl | rfl | hb
  · exact ⟨h6.ge, h6.lt⟩
  · exact ⟨h7.ge, h7.lt⟩
  · exact ⟨h2.ge, h2.lt⟩
  · exact ⟨h8.ge, h8.lt⟩
  · exact ⟨h9, h4.lt⟩
  · exact ⟨h3.new b hb, h3.row.lt (mem_ownB.1 hb)⟩
theorem Loc.putObj {F : List Nat} {X l : Nat} {t : TypeId} {cs : Array Value} {r : Loop} (h : Loc F w0 W X t cs) (hl : W.heap[l]? = some (.loop r)) (o : Obj) : Loc F w0 (W.putObj l o) X t cs :=
  ⟨h.blk.of (World.putObj_heap_other fun e => by have := h.blk; unfold Blk at this; rw [e] at this; first | (rw [hl] at this; cases this) | (rw [← e] at this; rw [hl] at this; cases this)), h.may⟩
theorem KMap.putObj {l m : Nat} {ml : List ((Int × ByteArray) × Value)} {r : Loop} (h : KMap W m ml) (hl : W.heap[l]? = some (.loop r)) (o : Obj) : KMap (W.putObj l o) m ml :=
  h.of (World.putObj_heap_other fun e => by
    obtain ⟨es, cl, h1, -⟩ := h
    rw [e] at h1; first | (rw [hl] at h1; cases h1) | (rw [← e] at h1; rw [hl] at h1; cases h1))
theorem Only.putL {l : Nat} (h : Only [] w0 W) (hl : w0.heap.size ≤ l) (o : Obj) : Only [] w0 (W.putObj l o) :=
  h.trans (F' := [l]) ⟨rfl, rfl, rfl, by simp, fun k _ hk => World.putObj_heap_other (fun e => hk (by simp [e]))⟩ fun x hx => .inr (by rw [List.mem_singleton.1 hx]; exact hl)
theorem BI.putObj {l : Nat} {r : Loop} (h : BI w0 X2 X3 X4 X5 m5 pre O W) (hl : W.heap[l]? = some (.loop r)) (hw : w0.heap.size ≤ l) (o : Obj) : BI w0 X2 X3 X4 X5 m5 pre O (W.putObj l o) := by
  obtain ⟨⟨a, c, ml, h1, h2, h3, h4, h5⟩, h6, h7, h8, h9, h10, h11, h12, h13⟩ := h
  exact ⟨⟨a, c, ml, h1, h2.putObj hl o, ⟨h3.row.putObj hl o, h3.new⟩, h4.putObj hl o, h5⟩, h6.putObj hl o, h7.putObj hl o, h8.putObj hl o, h9, h10, fun x hx => (h11 x hx).putObj hl o, h12.putL hw o, h13⟩
theorem BX.putObj {l : Nat} {r : Loop} (h : BX w0 X2 X3 pre W) (hl : W.heap[l]? = some (.loop r)) (hw : w0.heap.size ≤ l) (o : Obj) : BX w0 X2 X3 pre (W.putObj l o) := by
  obtain ⟨h6, ⟨e, x, h7, h8⟩, h12⟩ := h
  exact ⟨h6.putObj hl o, ⟨e, x, h7, h8.putObj hl o⟩, h12.putL hw o⟩
/-- the block for the calls that rounds have put off, empty -/
def DefAt (W : World) (D : Nat) : Prop := W.heap[D]? = some (.deferred (some []))
theorem DefAt.lt {D : Nat} (h : DefAt W D) : D < W.heap.size := (Array.getElem?_eq_some_iff.1 h).1
theorem DefAt.ext {D : Nat} (h : DefAt W D) (hx : Ext W W') : DefAt W' D := (hx.block D h.lt).trans h
theorem DefAt.ne {D X : Nat} {t : TypeId} {cs : Array Value} (h : DefAt W D) (k : Blk W X t cs) : D ≠ X := by
  rintro rfl
  unfold DefAt at h; unfold Blk at k
  rw [h] at k; cases k
theorem DefAt.but {D X : Nat} {t : TypeId} {cs : Array Value} (h : DefAt W D) (hb : But X W W') (k : Blk W X t cs) (_ : True) : DefAt W' D := (hb.block D h.lt (h.ne k)).trans h
theorem DefAt.own {α : Type} {D k : Nat} {t : TypeId} {f : α → List Value} {v : Value} {xs : List α} (h : DefAt W D) (r : ORow W t k f v xs) : D ∉ ownB v := by
  intro hm
  obtain ⟨hl, ⟨e1, e2⟩ | ⟨g, cap, cur, e1, hb, hg, h2⟩⟩ := r
  · subst e1; simp [ownB, Value.ownBlock] at hm
  · subst e1
    have : D = g := by simpa [ownB, Value.ownBlock] using hm
    subst this
    exact h.ne (show Blk W D t cur from hg) rfl
theorem DefAt.grow {α : Type} {wb : World} {D k : Nat} {t : TypeId} {f : α → List Value} {v v' : Value} {xs zs : List α} (h : DefAt W D) (r : OwnR wb W t k f v xs) (hA : AppPost W W' t k f v v' zs) (_ : True) : DefAt W' D :=
  (hA.grown.block D h.lt fun e => h.own r.row (mem_ownB.2 e.symm)).trans h
theorem DefAt.turned {D m : Nat} {ml : List ((Int × ByteArray) × Value)} (h : DefAt W D) (hM : KMap W m ml) (ht : MapTurned m W W') : DefAt W' D := (ht.block D fun e => by
  obtain ⟨es, cl, h1, -⟩ := hM
  unfold DefAt at h; rw [e] at h; rw [h] at h1; cases h1).trans h
theorem DefAt.put {α : Type} {wb : World} {D k n c g : Nat} {t : TypeId} {f : α → List Value} {xs : List α} (h : DefAt W D) (r : OwnR wb W t k f (.slice (some ⟨g, 0, none⟩) n c) xs) (hb : But g W W') : DefAt W' D :=
  (hb.block D h.lt fun e => h.own r.row (by rw [e]; simp [ownB, Value.ownBlock])).trans h
theorem Loc.growO {α : Type} {F : List Nat} {wb : World} {X k : Nat} {t e : TypeId} {cs : Array Value} {f : α → List Value} {v v' : Value} {xs ys : List α} (b : Loc F w0 W X t cs) (h : OwnR wb W e k f v xs) (hA : AppPost W W' e k f v v' ys) (hne : e ≠ t) : Loc F w0 W' X t cs :=
  ⟨b.blk.grown hA.grown fun h1 => h.row.ne b.blk hne (mem_ownB.2 h1.symm), b.may⟩
theorem Loc.putD {F : List Nat} {X D : Nat} {t : TypeId} {cs : Array Value} (h : Loc F w0 W X t cs) (hD : DefAt W D) (o : Obj) : Loc F w0 (W.putObj D o) X t cs := ⟨h.blk.of (World.putObj_heap_other fun e => hD.ne h.blk e.symm), h.may⟩
theorem ORow.putD {α : Type} {D k : Nat} {t : TypeId} {f : α → List Value} {v : Value} {xs : List α} (h : ORow W t k f v xs) (hD : DefAt W D) (o : Obj) : ORow (W.putObj D o) t k f v xs :=
  h.kept fun x hx => World.putObj_heap_other fun e => hD.own h (e ▸ mem_ownB.2 hx)
/-- what Block leaves -/
def BPostB (w : World) (r : List PS × FT) (e : Ending) (w' : World) : Prop := ∃ (a : Option Addr) (c : Nat) (xs : List Sy), e = .returned (.tuple #[.slice a xs.length c, r.2.v]) ∧ xs.map Sy.ps = r.1 ∧ Syms w' (.slice a xs.length c) xs ∧ Ext w w'
end
end Go.Proofs.Ytnifgkgdphlleaa
