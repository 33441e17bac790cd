/- Ranging over the symbols that statements write: the law for the loop. -/
import Derived.Test.YtnifgkgdphlleaaVh
import Derived.Test.YtnifgkgdphlleaaGr
set_option linter.unusedSimpArgs false
set_option linter.unusedVariables false
namespace Go.Proofs.Ytnifgkgdphlleaa
open Go.RowKit Tk
abbrev ORowS (W : World) (x : Sy) : Prop := ORow W 9 1 strC (x.hp.v x.perms.length) x.perms
/-- what an iterator over symbols does, whatever the loop's body is -/
def Iter (n : Nat) (P : Program) (gf : Nat) (lb : Array Value) (B : Nat) (V : List PS) (w : World) : Prop :=
  ∀ (l : Nat) (J : List Sy → List Nat → World → Prop) (Jx : List Sy → World → Prop) (W : World) (O : List Nat), Ext w W →
    (∀ pre O W W', J pre O W → Ext W W' → J pre O W') → (∀ pre O W, J pre O W → ∀ b ∈ O, B ≤ b ∧ b < W.heap.size) →
    (∀ pre x O W, J pre O W → ORowS W x → (pre ++ [x]).map Sy.ps <+: V → YieldAt Fence.wide (n - 1) P l #[.agg (syC x).toArray] W fun e W' =>
      (e = .returned (.bool true) ∧ ∃ O', J (pre ++ [x]) O' W' ∧ Only O W W' ∧ ∀ b ∈ O', b ∈ O ∨ W.heap.size ≤ b) ∨ (e = .returned (.bool false) ∧ Jx (pre ++ [x]) W')) →
    J [] O W →
    CallsIn Fence.wide n P gf (#[.func (.yield l) #[] #[]] ++ lb) W fun e W' => (∃ v, e = .returned v) ∧ ((∃ xs O', xs.map Sy.ps = V ∧ J xs O' W') ∨ (∃ pre, pre.map Sy.ps <+: V ∧ Jx pre W'))
/-- how a round may end -/
def rPost (I : List Sy → List Nat → World → Prop) (Ix : List Sy → World → Prop) (O : List Nat) (pre : List Sy) (W : World) : Exit → Act → World → Prop
  | .normal, _, W' => Only O W W' ∧ ∃ O', I pre O' W' ∧ ∀ b ∈ O', b ∈ O ∨ W.heap.size ≤ b
  | .ret, _, W' => Only O W W' ∧ Ix pre W'
  | _, _, _ => False
theorem Only.putObj {F : List Nat} {w w' : World} (h : Only F w w') {l : Nat} (o : Obj) (hl : l ∈ F) : Only F w (w'.putObj l o) :=
  h.trans (F' := [l]) ⟨rfl, rfl, rfl, by simp, fun k _ hk => World.putObj_heap_other (fun e => hk (by simp [e]))⟩ fun x hx => .inl (by rw [List.mem_singleton.1 hx]; exact hl)
theorem ORow.putObj {α : Type} {W : World} {t : TypeId} {k : Nat} {f : α → List Value} {v : Value} {xs : List α} {l : Nat} {r : Loop} (h : ORow W t k f v xs) (hl : W.heap[l]? = some (.loop r)) (o : Obj) : ORow (W.putObj l o) t k f v xs :=
  h.kept fun x hx => by
    refine World.putObj_heap_other fun e => ?_
    obtain ⟨hn, ⟨e1, e2⟩ | ⟨g, cap, cur, e1, hb, hg, h2⟩⟩ := h
    · subst e1; simp [Value.ownBlock] at hx
    · subst e1
      have hx' : g = x := by simpa [Value.ownBlock] using hx
      subst hx'
      rw [e] at hg
      first | (rw [hl] at hg; cases hg) | (rw [← e] at hg; rw [hl] at hg; cases hg)
section
variable {P : Program} {m : Nat} {Q : Exit → Act → World → Prop} {a : Act} {w : World}
theorem wp_rng {g : Operand} {p : Tmp} {assign body : Code} {gf : Nat} {lb : Array Value} (hg : a.eval g = .func (.func gf) #[] lb) (eg : ∀ args w, (callFunc gf args).run P w = .ok (.enter gf args) w)
    {B : Nat} {V : List PS} (hit : ∀ n, Iter n P gf lb B V w) (hB : B ≤ w.heap.size)
    (I : List Sy → List Nat → World → Prop) (Ix : List Sy → World → Prop)
    (hIe : ∀ pre O W W', I pre O W → Ext W W' → I pre O W') (hIo : ∀ pre O W, I pre O W → ∀ b ∈ O, B ≤ b ∧ b < W.heap.size)
    (hIp : ∀ pre O W (l : Nat) (r r' : Loop), I pre O W → w.heap.size ≤ l → l ∉ O → W.heap[l]? = some (.loop r) → I pre O (W.putObj l (.loop r')))
    (hIxp : ∀ pre W (l : Nat) (r r' : Loop), Ix pre W → w.heap.size ≤ l → W.heap[l]? = some (.loop r) → Ix pre (W.putObj l (.loop r')))
    (O0 : List Nat) (h0 : I [] O0 w) (hO0 : ∀ b ∈ O0, b < w.heap.size) (a₁ : Sy → Nat → Act)
    (hassign : ∀ (l k : Nat) (x : Sy) (W : World) (K : Act → World → Prop), (∀ X W2, Ext W W2 → Blk W2 X 57 (syC x).toArray → W.heap.size ≤ X → K (a₁ x X) W2) →
      assign.wpIn (Fence.wide.inRound l) k P (Exit.then K (fun _ _ _ => False)) { tmps := a.tmps.setIfInBounds p (.agg (syC x).toArray), defers := [] } W)
    (hbody : ∀ (l k : Nat) (pre : List Sy) (x : Sy) (O : List Nat) (X : Nat) (W : World), I pre O W → ORowS W x → (pre ++ [x]).map Sy.ps <+: V → Blk W X 57 (syC x).toArray → X ∉ O → w.heap.size ≤ X → body.wpIn (Fence.wide.inRound l) k P (rPost I Ix O (pre ++ [x]) W) (a₁ x X) W)
    (hdone : ∀ (D : Nat) xs O W, xs.map Sy.ps = V → I xs O W → w.heap.size ≤ D → D ∉ O → W.heap[D]? = some (.deferred (some [])) → Q .normal { a with defers := { target := .collected D, args := #[] } :: a.defers } W)
    (hstop : ∀ (D : Nat) pre W, pre.map Sy.ps <+: V → Ix pre W → w.heap.size ≤ D → W.heap[D]? = some (.deferred (some [])) → Q .ret { a with defers := { target := .collected D, args := #[] } :: a.defers } W) :
    (Code.rangeFunc g #[p] assign body).wpIn Fence.wide m P Q a w := by
  refine wpIn_rangeFunc fun fn hfn => ?_
  obtain ⟨rec, hrec⟩ : ∃ rec : LoopState → Option Code → Loop, rec = fun st pe => { state := st, pending := pe, fn, tmps := a.tmps, params := #[p], assign, body, defers := w.heap.size } := ⟨_, rfl⟩
  obtain ⟨W1, hW1⟩ : ∃ W1, (w.alloc (.deferred (some []))).alloc (.loop (rec .ready none)) = W1 := ⟨_, rfl⟩
  obtain ⟨L, hLd⟩ : ∃ L, L = w.heap.size + 1 := ⟨_, rfl⟩
  have hE1 : Ext w W1 := by rw [← hW1]; exact (Ext.alloc w _).trans ((Ext.alloc _ _).mono (by simp))
  have hL1 : W1.heap[L]? = some (.loop (rec .ready none)) := by
    rw [← hW1, hLd]
    have := World.alloc_heap_new (w.alloc (.deferred (some []))) (.loop (rec .ready none))
    rwa [World.size_alloc] at this
  have hD1 : W1.heap[w.heap.size]? = some (.deferred (some [])) := by
    rw [← hW1]
    exact (Below.heap_alloc _ _ _ (by simp)).trans (World.alloc_heap_new w _)
  refine ⟨L, [{ target := .collected w.heap.size, args := #[] }], W1, { target := .fn (.func gf) lb, args := #[.func (.yield L) #[] #[]] }, W1, gf, #[.func (.yield L) #[] #[]] ++ lb, W1, ?_, ?_, fun _ _ => trivial, ?_, fun h => (by cases h), ?_⟩
  · rw [← hW1, hrec, hLd]; exact run_enterLoop_outer _ _ _ _ _
  · simp only [resolve, hg]
    simp [go_sem]
  · simp [invoke, go_sem, eg]
  refine (hit (m - 1) L
    (fun pre O W => ∃ O1, O = L :: O1 ∧ I pre O1 W ∧ L ∉ O1 ∧ w.heap.size ∉ O1 ∧ W.heap[L]? = some (.loop (rec .ready none)) ∧ W.heap[w.heap.size]? = some (.deferred (some [])))
    (fun pre W => Ix pre W ∧ W.heap[L]? = some (.loop (rec .done (some .ret))) ∧ W.heap[w.heap.size]? = some (.deferred (some [])))
    W1 (L :: O0) hE1 ?_ ?_ ?_ ?_).mono ?_
  · rintro pre O W W' ⟨O1, rfl, h1, h2, h3, h4, h5⟩ hx
    exact ⟨O1, rfl, hIe _ _ _ _ h1 hx, h2, h3, (hx.block L (Array.getElem?_eq_some_iff.1 h4).1).trans h4, (hx.block _ (Array.getElem?_eq_some_iff.1 h5).1).trans h5⟩
  · rintro pre O W ⟨O1, rfl, h1, h2, h3, h4, h5⟩ b hb
    rcases List.mem_cons.1 hb with rfl | hb
    · exact ⟨by omega, (Array.getElem?_eq_some_iff.1 h4).1⟩
    · exact hIo _ _ _ h1 b hb
  · rintro pre x O W ⟨O1, rfl, h1, h2, h3, h4, h5⟩ hrow hpv
    have hlt : L < W.heap.size := (Array.getElem?_eq_some_iff.1 h4).1
    have hltD : w.heap.size < W.heap.size := (Array.getElem?_eq_some_iff.1 h5).1
    have hy := run_yield (P := P) (args := #[.agg (syC x).toArray]) h4 (by rw [hrec]; rfl)
    rw [hrec] at hy
    have hy2 : (Instr.yield L #[.agg (syC x).toArray]).run P W = .ok (.round L fn (a.tmps.setIfInBounds p (.agg (syC x).toArray)) assign body) W := by rw [hy]; simp
    refine ⟨fn, _, assign, body, hy2, roundIn_of_wpIn hfn (hassign L _ x W _ fun X W2 hx2 hX hXs => ?_)⟩
    have h42 : W2.heap[L]? = some (.loop (rec .ready none)) := (hx2.block L hlt).trans h4
    have h52 : W2.heap[w.heap.size]? = some (.deferred (some [])) := (hx2.block _ hltD).trans h5
    refine ⟨_, run_beginRound h42 (by rw [hrec]), ?_⟩
    obtain ⟨W3, hW3⟩ : ∃ W3, W2.putObj L (.loop { rec .ready none with state := .busy }) = W3 := ⟨_, rfl⟩
    rw [hW3]
    have hlt2 : L < W2.heap.size := (Array.getElem?_eq_some_iff.1 h42).1
    have h43 : W3.heap[L]? = some (.loop { rec .ready none with state := .busy }) := by rw [← hW3]; exact World.putObj_heap_same hlt2
    have h53 : W3.heap[w.heap.size]? = some (.deferred (some [])) := by rw [← hW3]; exact (World.putObj_heap_other (by omega)).trans h52
    have hI3 : I pre O1 W3 := by rw [← hW3]; exact hIp _ _ _ L _ _ (hIe _ _ _ _ h1 hx2) (by omega) h2 h42
    have hrow3 : ORowS W3 x := by rw [← hW3]; exact (ORow.low hrow hx2).putObj h42 _
    have hX3 : Blk W3 X 57 (syC x).toArray := by rw [← hW3]; exact hX.of (World.putObj_heap_other (by omega))
    have hXO : X ∉ O1 := fun hm => by have := (hIo _ _ _ h1 X hm).2; omega
    have hO3 : Only (L :: O1) W W3 := by rw [← hW3]; exact (Only.of_below hx2).putObj _ (.head _)
    have hs3 : W.heap.size ≤ W3.heap.size := hO3.size
    have hlt3 : L < W3.heap.size := (Array.getElem?_eq_some_iff.1 h43).1
    refine wpIn_mono (hbody L _ pre x O1 X W3 hI3 hrow3 hpv hX3 hXO (by omega)) ?_
    rintro e a3 W4 hp
    cases e with
    | normal =>
      obtain ⟨ho4, O', hI4, hO'⟩ := hp
      have h44 : W4.heap[L]? = some (.loop { rec .ready none with state := .busy }) := (ho4.block L hlt3 h2).trans h43
      have h54 : W4.heap[w.heap.size]? = some (.deferred (some [])) := (ho4.block _ (by omega) h3).trans h53
      have hn' : ∀ b, b < W3.heap.size → b ∉ O1 → b ∉ O' := fun b hb hn hm => by
        rcases hO' b hm with h | h
        · exact hn h
        · omega
      have hend := run_endRound (P := P) none h44
      rw [hrec] at hend
      refine ⟨_, _, hend, .inl ⟨rfl, L :: O', ⟨O', rfl, hIp _ _ _ L _ _ hI4 (by omega) (hn' L hlt3 h2) h44, hn' L hlt3 h2, hn' _ (by omega) h3, ?_, ?_⟩, ?_, ?_⟩⟩
      · rw [hrec]; exact World.putObj_heap_same (Array.getElem?_eq_some_iff.1 h44).1
      · exact (World.putObj_heap_other (by omega)).trans h54
      · refine ((hO3.trans ho4 fun b hb => ?_).putObj _ (.head _))
        exact .inl (.tail _ hb)
      · intro b hb
        rcases List.mem_cons.1 hb with rfl | hb
        · exact .inl (.head _)
        · rcases hO' b hb with h | h
          · exact .inl (.tail _ h)
          · exact .inr (by omega)
    | ret =>
      obtain ⟨ho4, hI4⟩ := hp
      have h44 : W4.heap[L]? = some (.loop { rec .ready none with state := .busy }) := (ho4.block L hlt3 h2).trans h43
      have h54 : W4.heap[w.heap.size]? = some (.deferred (some [])) := (ho4.block _ (by omega) h3).trans h53
      have hend := run_endRound (P := P) (some .ret) h44
      rw [hrec] at hend
      refine ⟨_, _, hend, .inr ⟨rfl, hIxp _ _ L _ _ hI4 (by omega) h44, ?_, ?_⟩⟩
      · rw [hrec]; exact World.putObj_heap_same (Array.getElem?_eq_some_iff.1 h44).1
      · exact (World.putObj_heap_other (by omega)).trans h54
    | exit id => exact hp.elim
    | goto t => exact hp.elim
    | panic ch => exact hp.elim
    | outgrown => exact hp.elim
  · exact ⟨O0, rfl, hIe _ _ _ _ h0 hE1, fun hm => by have := hO0 _ hm; omega, fun hm => by have := hO0 _ hm; omega, hL1, hD1⟩
  · rintro e W2 ⟨⟨v, rfl⟩, (⟨xs, O', hV, O1, rfl, h1, h2, h3, h4, h5⟩ | ⟨pre, hpre, h1, h4, h5⟩)⟩
    · refine ⟨none, _, by have := run_endLoop (P := P) h4 (by rw [hrec]; simp); rw [hrec] at this; exact this, ?_⟩
      exact hdone _ xs O1 _ hV (hIp _ _ _ L _ _ h1 (by omega) h2 h4) (Nat.le_refl _) h3 ((World.putObj_heap_other (by omega)).trans h5)
    · refine ⟨some .ret, _, by have := run_endLoop (P := P) h4 (by rw [hrec]; simp); rw [hrec] at this; exact this, ?_⟩
      exact wpIn_ret (hstop _ pre _ hpre (hIxp _ _ L _ _ h1 (by omega) h4) (Nat.le_refl _) ((World.putObj_heap_other (by omega)).trans h5))
end
end Go.Proofs.Ytnifgkgdphlleaa
