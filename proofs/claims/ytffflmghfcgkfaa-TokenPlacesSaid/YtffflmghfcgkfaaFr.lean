/- What the rows of the laws have in common: the arguments read behind the call as before, the result is true. -/
import Derived.Test.YtffflmghfcgkfaaAw
import Derived.ProofKit
import Derived.OpenShut
import Derived.Deep.Slices
import Derived.Deep.Fields
set_option linter.unusedSimpArgs false
set_option linter.unusedVariables false
namespace Go.Proofs.Ytffflmghfcgkfaa
open Go.ChangeShapes Go.WideShapes Go.ChangeAt Go.RowKit
theorem own : ownKnob Try.prog.godebug = none := by kernel_rfl
theorem laidOut : laidOutB Try.prog = true := by kernel_rfl
section
variable {H : Type} {enc : TypeId × Value → H} {P : Program}
/-- the row's last step where the call leaves a world that has grown: each argument reads as it did -/
theorem post_grown {f : Func} {s : ChangeSpec} {apart fresh handsOn again : Bool} {W W' : World} {args : Array Value} {v : Value} {ds gs : List (DataW H)} {before pa pv : List MemPlace}
    (hW : DataW.Whole enc P f.params.toList s.vars apart W args.toList ds gs before)
    (hres : ∀ (b : Nat) (sp : Nat → Bool) (hd : Bool), DataW.TrodAll enc P W' b sp hd f.resultTypes.toList (v.resultList f.resultTypes.size) (s.fn H (ds ++ gs)).results [])
    (hargs : ∀ sp : Nat → Bool, (∀ p ∈ before, sp p.block = true) → DataW.TrodAll enc P W' 0 sp true f.params.toList args.toList (s.fn H (ds ++ gs)).args pa)
    (hvars : ∀ sp : Nat → Bool, (∀ p ∈ before, sp p.block = true) → DataW.TrodVars enc P W' sp s.vars (s.fn H (ds ++ gs)).vars pv)
    (hps : before = pa ++ pv) (hb : Below W.heap.size W W')
    (hok : ∀ (j : Nat) (t : TypeId) (r : Value), f.resultTypes[j]? = some t → (v.resultList f.resultTypes.size)[j]? = some r → Value.okWide P W' .any 0 t r) :
    s.post enc P f apart fresh handsOn again W args v W' := by
  have hlt : ∀ p ∈ before, p.block < W.heap.size := fun p hp => hW.lt p hp
  have hold : ∀ p ∈ before, (fun b => decide (b < W.heap.size)) p.block = true := fun p hp => by simpa using hlt p hp
  refine ⟨ds, gs, before, [], pa, pv, hW, hres _ _ _, hargs _ hold, hvars _ hold, World.keptBut_mono (fun p hp => ⟨hp, ?_⟩) (hb.frame (· ∈ before)), fun _ => ?_⟩
  · rw [hps, List.mem_append] at hp
    exact Or.inr hp
  · obtain ⟨_, _, _, _, _, hz, hn⟩ := hW
    refine ⟨hok, _, _, ([] ++ pa) ++ pv, ⟨[] ++ pa, pv, trodAll_append (hargs _ (fun _ _ => rfl)) (hres _ _ _), hvars _ (fun _ _ => rfl), rfl, ?_, ?_⟩, ?_⟩
    · intro b off hp
      have hin : MemPlace.cell b off ∈ before := by rw [hps]; simpa using hp
      rw [hb.frozen (hlt _ hin)]
      exact hz b off hin
    · intro ha
      have := hn ha
      rw [hps] at this
      simpa using this
    · intro p hp _
      rw [hps]
      simpa using hp
theorem trod_grown {t : TypeId} (hl : laidOutB P = true) (hr : P.readableRec t = true) (hrow : t < P.types.size) {W W' : World} {sp : Nat → Bool} {v : Value} {d : DataW H} {ps : List MemPlace}
    (h : DataW.Trod enc P W 0 (fun _ => true) true t v d ps) (hb : Below W.heap.size W W') (hlt : ∀ x ∈ ps, x.block < W.heap.size) (hs : ∀ x ∈ ps, sp x.block = true) : DataW.Trod enc P W' 0 sp true t v d ps :=
  WideElems.Trod_stays hl hr hrow h (fun x hx => hb.same (hlt x hx)) hs
end
section
open Tk
variable {H : Type} {enc : TypeId × Value → H} {W : World}
theorem toks_und : Try.prog.underlying 23 = some (.slice 34) := by kernel_rfl
theorem tok_cells : Try.prog.cellsOf 34 = 4 := by kernel_rfl
theorem pos_cells : Try.prog.cellsOf 26 = 2 := by kernel_rfl
theorem tok_und : ∃ fs, Try.prog.underlying 34 = some (.struct fs) ∧ fs.toList.map (fun f => (f.type, f.offset)) = [(3, 0), (9, 1), (26, 2)] := ⟨_, Try.underlying34, by kernel_rfl⟩
theorem pos_und : ∃ fs, Try.prog.underlying 26 = some (.struct fs) ∧ fs.toList.map (fun f => (f.type, f.offset)) = [(3, 0), (3, 1)] := ⟨_, Try.underlying26, by kernel_rfl⟩
theorem one_int : Try.prog.cellsOf 3 = 1 := by kernel_rfl
theorem one_string : Try.prog.cellsOf 9 = 1 := by kernel_rfl
theorem field_at {fs : Array Field} {l : List (TypeId × Nat)} (h : fs.toList.map (fun f => (f.type, f.offset)) = l) (i : Nat) (p : TypeId × Nat) (hp : l[i]? = some p) : ∃ f, fs[i]? = some f ∧ f.type = p.1 ∧ f.offset = p.2 := by
  subst h
  rw [List.getElem?_map, Array.getElem?_toList] at hp
  cases hf : fs[i]? with
  | none => rw [hf] at hp; cases hp
  | some f => rw [hf] at hp; injection hp with hp; subst hp; exact ⟨f, rfl, rfl, rfl⟩
theorem some_len {α : Type} {xs : List α} {i : Nat} {n : Nat} (h : xs.length = n) (hi : i < n) : ∃ x, xs[i]? = some x := ⟨_, List.getElem?_eq_getElem (by omega)⟩
theorem cells_tok {fuel : Nat} {base : Nat} {sp : Nat → Bool} {held : Bool} {cs : List Value} {x : DataW H × List MemPlace} (h : DataW.trod enc Try.prog W base sp held fuel 34 cs = some x) :
    ∃ (k : Int) (s : ByteArray) (l c : Int), cs = [.int .i64 k, .string s, .int .i64 l, .int .i64 c] ∧ s.size ≤ maxLen := by
  obtain ⟨fs, hu, hf⟩ := tok_und
  obtain ⟨xs, n, _, _, hl, hxl, hat⟩ := DataW.trod_struct hu h
  rw [tok_cells] at hl
  have hsz : fs.size = 3 := by have := congrArg List.length hf; simpa using this
  obtain ⟨f0, e0, t0, o0⟩ := field_at hf 0 _ rfl
  obtain ⟨f1, e1, t1, o1⟩ := field_at hf 1 _ rfl
  obtain ⟨f2, e2, t2, o2⟩ := field_at hf 2 _ rfl
  obtain ⟨x0, g0⟩ := some_len hxl (i := 0) (by omega)
  obtain ⟨x1, g1⟩ := some_len hxl (i := 1) (by omega)
  obtain ⟨x2, g2⟩ := some_len hxl (i := 2) (by omega)
  have h0 := (hat 0 f0 e0).trans g0
  have h1 := (hat 1 f1 e1).trans g1
  have h2 := (hat 2 f2 e2).trans g2
  rw [t0, o0] at h0
  rw [t1, o1] at h1
  rw [t2, o2] at h2
  dsimp only at h0 h1 h2
  rw [one_int] at h0
  rw [one_string] at h1
  rw [pos_cells] at h2
  match cs, hl with
  | [a, b, c, d], _ =>
    obtain ⟨k, hk, _⟩ := DataW.trod_int Try.underlying3 h0
    obtain ⟨s, hs, _, hsz2⟩ := DataW.trod_string Try.underlying9 h1
    obtain ⟨gs, hv, hg⟩ := pos_und
    obtain ⟨ys, m, _, _, hl2, hyl, hat2⟩ := DataW.trod_struct hv h2
    have hsz3 : gs.size = 2 := by have := congrArg List.length hg; simpa using this
    obtain ⟨p0, q0, u0, r0⟩ := field_at hg 0 _ rfl
    obtain ⟨p1, q1, u1, r1⟩ := field_at hg 1 _ rfl
    obtain ⟨y0, j0⟩ := some_len hyl (i := 0) (by omega)
    obtain ⟨y1, j1⟩ := some_len hyl (i := 1) (by omega)
    have k0 := (hat2 0 p0 q0).trans j0
    have k1 := (hat2 1 p1 q1).trans j1
    rw [u0, r0] at k0
    rw [u1, r1] at k1
    dsimp only at k0 k1
    rw [one_int] at k0 k1
    obtain ⟨l, hl3, _⟩ := DataW.trod_int Try.underlying3 k0
    obtain ⟨m', hm, _⟩ := DataW.trod_int Try.underlying3 k1
    simp at hk hs hl3 hm
    exact ⟨k, s, l, m', by rw [hk, hs, hl3, hm], hsz2⟩
theorem open_tok {base : Nat} {sp : Nat → Bool} {held : Bool} {r : Reach} {b0 : Nat} {v : Value} {d : DataW H} {ps : List MemPlace} (hval : Value.okWide Try.prog W r b0 34 v) (h : DataW.Trod enc Try.prog W base sp held 34 v d ps) :
    ∃ t : Tok, v = .agg #[.int .i64 t.kind, .string t.text, .int .i64 t.pos.1, .int .i64 t.pos.2] ∧ t.text.size ≤ maxLen := by
  obtain ⟨fs, hu, _⟩ := tok_und
  obtain ⟨cs, rfl, _⟩ := okWide_struct hu hval
  obtain ⟨fuel, hf⟩ := h
  obtain ⟨k, s, l, c, hc, hs⟩ := cells_tok hf
  refine ⟨⟨k, s, (l, c)⟩, ?_, hs⟩
  have : cs.toList = [.int .i64 k, .string s, .int .i64 l, .int .i64 c] := by simpa [Value.cells] using hc
  rw [← Array.toArray_toList (xs := cs), this]
theorem open_toks {sp : Nat → Bool} {held : Bool} {base : Nat} {r : Reach} {b0 : Nat} {v : Value} {d : DataW H} {ps : List MemPlace} (hval : Value.okWide Try.prog W r b0 23 v) (h : DataW.Trod enc Try.prog W base sp held 23 v d ps) : ∃ ts, Toks W v ts := by
  obtain ⟨ao, len, cap, rfl⟩ := okWide_slice toks_und hval
  obtain ⟨fuel, hf⟩ := h
  rcases Go.Deep.open_slice toks_und hf with ⟨hc, _⟩ | ⟨a, len', cap', m, n, D, Pl, hc, _, hle, hm, hmm, _, hat⟩
  · simp [Value.cells] at hc
    obtain ⟨rfl, rfl, rfl⟩ := hc
    exact ⟨[], Toks.nil _⟩
  · simp [Value.cells] at hc
    obtain ⟨rfl, rfl, rfl⟩ := hc
    have hml : len ≤ m := by rw [hmm]; split <;> omega
    have each : ∀ i, i < len → ∃ t : Tok, W.cell? (a.add (i * 4)) = some (.int .i64 t.kind) ∧ W.cell? ((a.add (i * 4)).add 1) = some (.string t.text) ∧ W.cell? ((a.add (i * 4)).add 2) = some (.int .i64 t.pos.1) ∧ W.cell? ((a.add (i * 4)).add 3) = some (.int .i64 t.pos.2) := by
      intro i hi
      obtain ⟨cs', hcs, ht⟩ := hat i (by omega)
      obtain ⟨k, s, l, c, rfl, _⟩ := cells_tok ht
      rw [tok_cells] at hcs
      obtain ⟨_, _, hcell⟩ := World.cells?_some hcs
      have h0 := hcell 0 (by omega)
      have h1 := hcell 1 (by omega)
      have h2 := hcell 2 (by omega)
      have h3 := hcell 3 (by omega)
      refine ⟨⟨k, s, (l, c)⟩, ?_, h1, h2, h3⟩
      exact h0
    have : ∃ f : Nat → Tok, ∀ i, i < len → W.cell? (a.add (i * 4)) = some (.int .i64 (f i).kind) ∧ W.cell? ((a.add (i * 4)).add 1) = some (.string (f i).text) ∧ W.cell? ((a.add (i * 4)).add 2) = some (.int .i64 (f i).pos.1) ∧ W.cell? ((a.add (i * 4)).add 3) = some (.int .i64 (f i).pos.2) :=
      ⟨fun i => if h : i < len then Classical.choose (each i h) else ⟨0, ⟨#[]⟩, (0, 0)⟩, fun i hi => by
        have := Classical.choose_spec (each i hi)
        simpa only [dif_pos hi] using this⟩
    obtain ⟨f, hf2⟩ := this
    refine ⟨(List.range len).map f, some a, cap, by simp, by simpa using hle, hm, ?_⟩
    by_cases h0 : len = 0
    · left; simpa using h0
    · right
      obtain ⟨b, o, sp'⟩ := a
      have hc0 := (hf2 0 (by omega)).1
      have hs : sp' = none := by
        cases sp' with
        | none => rfl
        | some z =>
          exfalso
          rw [Nat.zero_mul] at hc0
          have e : (⟨b, o, some z⟩ : Addr).add 0 = ⟨b, o, some z⟩ := rfl
          rw [e] at hc0
          unfold World.cell? at hc0
          split at hc0
          · simp at hc0
          · cases hc0
      subst hs
      refine ⟨b, o, rfl, ?_, fun i hi => ?_⟩
      · rw [Nat.zero_mul] at hc0
        have e : (⟨b, o, none⟩ : Addr).add 0 = ⟨b, o, none⟩ := rfl
        rw [e] at hc0
        rcases Nat.lt_or_ge b W.heap.size with hlt | hge
        · exact hlt
        · exfalso
          unfold World.cell? at hc0
          rw [Array.getElem?_eq_none hge] at hc0
          cases hc0
      · have hi' : i < len := by simpa using hi
        have := hf2 i hi'
        simp only [List.getElem_map, List.getElem_range]
        have e : ∀ j, (⟨b, o, none⟩ : Addr).add j = ⟨b, o + j, none⟩ := fun j => by unfold Addr.add; split <;> simp_all
        simp only [e] at this
        exact this
end
end Go.Proofs.Ytffflmghfcgkfaa
