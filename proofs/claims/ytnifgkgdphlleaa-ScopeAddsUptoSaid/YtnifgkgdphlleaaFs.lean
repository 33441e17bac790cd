/- What the rows of the laws have in common: the arguments read behind the call as before, the result is true; slices of records as they are read. -/
import Derived.Test.YtnifgkgdphlleaaUt
import Derived.Test.YtnifgkgdphlleaaRo
import Derived.ProofKit
import Derived.OpenShut
import Derived.Deep.Slices
import Derived.Deep.Fields
set_option linter.unusedSimpArgs false
set_option linter.unusedVariables false
namespace Go.Proofs.Ytnifgkgdphlleaa
open Go.ChangeShapes Go.WideShapes Go.ChangeAt Go.RowKit
theorem own : ownKnob Try.prog.godebug = none := by kernel_rfl
theorem laidOut : laidOutB Try.prog = true := by kernel_rfl
section
variable {H : Type} {enc : TypeId × Value → H} {P : Program}
/-- the row's last step where the call leaves a world that has grown: each argument reads as it did -/
theorem post_grown {f : Func} {s : ChangeSpec} {apart fresh handsOn again : Bool} {W W' : World} {args : Array Value} {v : Value} {ds gs : List (DataW H)} {before pa pv : List MemPlace}
    (hW : DataW.Whole enc P f.params.toList s.vars apart W args.toList ds gs before)
    (hres : ∀ (b : Nat) (sp : Nat → Bool) (hd : Bool), DataW.TrodAll enc P W' b sp hd f.resultTypes.toList (v.resultList f.resultTypes.size) (s.fn H (ds ++ gs)).results [])
    (hargs : ∀ sp : Nat → Bool, (∀ p ∈ before, sp p.block = true) → DataW.TrodAll enc P W' 0 sp true f.params.toList args.toList (s.fn H (ds ++ gs)).args pa)
    (hvars : ∀ sp : Nat → Bool, (∀ p ∈ before, sp p.block = true) → DataW.TrodVars enc P W' sp s.vars (s.fn H (ds ++ gs)).vars pv)
    (hps : before = pa ++ pv) (hb : Below W.heap.size W W')
    (hok : ∀ (j : Nat) (t : TypeId) (r : Value), f.resultTypes[j]? = some t → (v.resultList f.resultTypes.size)[j]? = some r → Value.okWide P W' .any 0 t r) :
    s.post enc P f apart fresh handsOn again W args v W' := by
  have hlt : ∀ p ∈ before, p.block < W.heap.size := fun p hp => hW.lt p hp
  have hold : ∀ p ∈ before, (fun b => decide (b < W.heap.size)) p.block = true := fun p hp => by simpa using hlt p hp
  refine ⟨ds, gs, before, [], pa, pv, hW, hres _ _ _, hargs _ hold, hvars _ hold, World.keptBut_mono (fun p hp => ⟨hp, ?_⟩) (hb.frame (· ∈ before)), fun _ => ?_⟩
  · rw [hps, List.mem_append] at hp
    exact Or.inr hp
  · obtain ⟨_, _, _, _, _, hz, hn⟩ := hW
    refine ⟨hok, _, _, ([] ++ pa) ++ pv, ⟨[] ++ pa, pv, trodAll_append (hargs _ (fun _ _ => rfl)) (hres _ _ _), hvars _ (fun _ _ => rfl), rfl, ?_, ?_⟩, ?_⟩
    · intro b off hp
      have hin : MemPlace.cell b off ∈ before := by rw [hps]; simpa using hp
      rw [hb.frozen (hlt _ hin)]
      exact hz b off hin
    · intro ha
      have := hn ha
      rw [hps] at this
      simpa using this
    · intro p hp _
      rw [hps]
      simpa using hp
theorem trod_grown {t : TypeId} (hl : laidOutB P = true) (hr : P.readableRec t = true) (hrow : t < P.types.size) {W W' : World} {sp : Nat → Bool} {v : Value} {d : DataW H} {ps : List MemPlace}
    (h : DataW.Trod enc P W 0 (fun _ => true) true t v d ps) (hb : Below W.heap.size W W') (hlt : ∀ x ∈ ps, x.block < W.heap.size) (hs : ∀ x ∈ ps, sp x.block = true) : DataW.Trod enc P W' 0 sp true t v d ps :=
  WideElems.Trod_stays hl hr hrow h (fun x hx => hb.same (hlt x hx)) hs
end
section
open Tk
variable {H : Type} {enc : TypeId × Value → H} {W : World}
theorem one_int : Try.prog.cellsOf 3 = 1 := by kernel_rfl
theorem one_string : Try.prog.cellsOf 9 = 1 := by kernel_rfl
theorem field_at {fs : Array Field} {l : List (TypeId × Nat)} (h : fs.toList.map (fun f => (f.type, f.offset)) = l) (i : Nat) (p : TypeId × Nat) (hp : l[i]? = some p) : ∃ f, fs[i]? = some f ∧ f.type = p.1 ∧ f.offset = p.2 := by
  subst h
  rw [List.getElem?_map, Array.getElem?_toList] at hp
  cases hf : fs[i]? with
  | none => rw [hf] at hp; cases hp
  | some f => rw [hf] at hp; injection hp with hp; subst hp; exact ⟨f, rfl, rfl, rfl⟩
theorem some_len {α : Type} {xs : List α} {i : Nat} {n : Nat} (h : xs.length = n) (hi : i < n) : ∃ x, xs[i]? = some x := ⟨_, List.getElem?_eq_getElem (by omega)⟩
theorem add_add (b o i j : Nat) : ((⟨b, o, none⟩ : Addr).add i).add j = ⟨b, o + i + j, none⟩ := by
  have e : ∀ o j, (⟨b, o, none⟩ : Addr).add j = ⟨b, o + j, none⟩ := fun o j => by unfold Addr.add; split <;> simp_all
  rw [e, e]
/-- a slice that can be read as data reads as a list of records, if each element does -/
theorem open_rrow {P : Program} {α : Type} {f : α → List Value} {ok : α → Prop} {k : Nat} {T E : TypeId} (und : P.underlying T = some (.slice E)) (hE : P.cellsOf E = k) (hk : 0 < k) (z : α)
    (cells : ∀ {fuel : Nat} {base : Nat} {sp : Nat → Bool} {held : Bool} {cs : List Value} {x : DataW H × List MemPlace}, DataW.trod enc P W base sp held fuel E cs = some x → ∃ a : α, cs = f a ∧ ok a ∧ (f a).length = k)
    {sp : Nat → Bool} {held : Bool} {base : Nat} {r : Reach} {b0 : Nat} {v : Value} {d : DataW H} {ps : List MemPlace} (hval : Value.okWide P W r b0 T v) (h : DataW.Trod enc P W base sp held T v d ps) : ∃ xs, RRow W k f v xs ∧ (∀ x ∈ xs, ok x) ∧ ∀ g ao n c, v = .slice (some ⟨g, ao, none⟩) n c → 0 < n → g < W.heap.size := by
  obtain ⟨ao, len, cap, rfl⟩ := okWide_slice und hval
  obtain ⟨fuel, hf⟩ := h
  rcases Go.Deep.open_slice und hf with ⟨hc, _⟩ | ⟨a, len', cap', m, n, D, Pl, hc, _, hle, hm, hmm, _, hat⟩
  · simp [Value.cells] at hc
    obtain ⟨rfl, rfl, rfl⟩ := hc
    exact ⟨[], RRow.nil _ _ _, by simp, by intro g ao n c h; cases h⟩
  · simp [Value.cells] at hc
    obtain ⟨rfl, rfl, rfl⟩ := hc
    have hml : len ≤ m := by rw [hmm]; split <;> omega
    have each : ∀ i, i < len → ∃ x : α, ok x ∧ (f x).length = k ∧ ∀ j, j < k → W.cell? ((a.add (i * k)).add j) = (f x)[j]? := by
      intro i hi
      obtain ⟨cs', hcs, ht⟩ := hat i (by omega)
      obtain ⟨x, rfl, hox, hlx⟩ := cells ht
      rw [hE] at hcs
      obtain ⟨_, _, hcell⟩ := World.cells?_some hcs
      exact ⟨x, hox, hlx, fun j hj => hcell j (by omega)⟩
    have : ∃ g : Nat → α, ∀ i, i < len → ok (g i) ∧ (f (g i)).length = k ∧ ∀ j, j < k → W.cell? ((a.add (i * k)).add j) = (f (g i))[j]? :=
      ⟨fun i => if h : i < len then Classical.choose (each i h) else z, fun i hi => by
        have := Classical.choose_spec (each i hi)
        simpa only [dif_pos hi] using this⟩
    obtain ⟨g, hg⟩ := this
    obtain ⟨b, o, sp'⟩ := a
    have hnone : 0 < len → sp' = none := fun h0 => by
      have h1 := (hg 0 h0).2.2 0 hk
      cases sp' with
      | none => rfl
      | some q =>
        exfalso
        rw [Nat.zero_mul] at h1
        have e : ((⟨b, o, some q⟩ : Addr).add 0).add 0 = ⟨b, o, some q⟩ := rfl
        rw [e] at h1
        have h2 : (f (g 0))[0]? = some ((f (g 0))[0]'(by have := (hg 0 h0).2.1; omega)) := List.getElem?_eq_getElem _
        rw [h2] at h1
        unfold World.cell? at h1
        split at h1
        · simp at h1
        · cases h1
    have hlt : 0 < len → b < W.heap.size := fun h0 => by
      have hs := hnone h0
      subst hs
      have h1 := (hg 0 h0).2.2 0 hk
      rw [Nat.zero_mul] at h1
      have e : ((⟨b, o, none⟩ : Addr).add 0).add 0 = ⟨b, o, none⟩ := rfl
      rw [e] at h1
      have h2 : (f (g 0))[0]? = some ((f (g 0))[0]'(by have := (hg 0 h0).2.1; omega)) := List.getElem?_eq_getElem _
      rw [h2] at h1
      exact World.block_lt_of_cell? W _ h1
    refine ⟨(List.range len).map g, ⟨some ⟨b, o, sp'⟩, cap, by simp, by simpa using hle, hm, ?_⟩, fun x hx => ?_, ?_⟩
    · by_cases h0 : len = 0
      · left; simpa using h0
      · right
        have hs := hnone (by omega)
        subst hs
        refine ⟨b, o, rfl, hlt (by omega), fun i hi j hj => ?_⟩
        have hi' : i < len := by simpa using hi
        have := (hg i hi').2.2 j hj
        rw [add_add] at this
        simp only [List.getElem_map, List.getElem_range]
        exact this
    · obtain ⟨i, hi, rfl⟩ := List.mem_map.1 hx
      exact (hg i (List.mem_range.1 hi)).1
    · intro g' ao n c he h0
      injection he with e1 e2 e3
      subst e2
      injection e1 with e1
      injection e1 with e4 e5 e6
      subst e4
      exact hlt h0
end
end Go.Proofs.Ytnifgkgdphlleaa
