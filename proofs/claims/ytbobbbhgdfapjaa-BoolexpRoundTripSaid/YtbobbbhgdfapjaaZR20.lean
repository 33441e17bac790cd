/- Hy, I1, I4, Hs -/
import Derived.Test.YtbobbbhgdfapjaaSh
import Derived.Sort.OwnSorted
import Derived.Test.YtbobbbhgdfapjaaZR1
import Derived.Test.YtbobbbhgdfapjaaZR2
import Derived.Test.YtbobbbhgdfapjaaZR3
import Derived.Test.YtbobbbhgdfapjaaZR4
import Derived.Test.YtbobbbhgdfapjaaZR5
import Derived.Test.YtbobbbhgdfapjaaZR6
import Derived.Test.YtbobbbhgdfapjaaZR7
import Derived.Test.YtbobbbhgdfapjaaZR9
import Derived.Test.YtbobbbhgdfapjaaZR10
import Derived.Test.YtbobbbhgdfapjaaZR11
import Derived.Test.YtbobbbhgdfapjaaZR12
import Derived.Test.YtbobbbhgdfapjaaZR13
import Derived.Test.YtbobbbhgdfapjaaZR14
import Derived.Test.YtbobbbhgdfapjaaZR15
import Derived.Test.YtbobbbhgdfapjaaZR16
import Derived.Test.YtbobbbhgdfapjaaZR17
import Derived.Test.YtbobbbhgdfapjaaZR18
import Derived.Test.YtbobbbhgdfapjaaZR19
import Derived.Test.YtbobbbhgdfapjaaZR8
import Derived.Laws.Bits64
import Derived.Laws.Bits64b
set_option linter.unusedSimpArgs false
set_option linter.unusedVariables false
namespace Go.Proofs.Ytbobbbhgdfapjaa
set_option maxHeartbeats 8000000
set_option maxRecDepth 100000
open Go.RowKit Tk
theorem enc_key (xs : List ByteArray) : (xs.map key).map encStr = xs.map Value.string := by
 rw [List.map_map]; rfl
theorem enc_sorted (xs : List ByteArray) : ((xs.map key).mergeSort fun x y => decide (x ≤ y)).map encStr = (sortS xs).map Value.string := by
 unfold sortS; rw [List.map_map]; rfl
theorem bsort_any {w : World} {v : Value} {xs : List ByteArray} (h : Row w v xs) (hx : xs.length ≤ 1000000000000) :
    Calls Try.prog 29 #[v] w fun e w' => e = .returned (.tuple #[]) ∧ Row w' v (sortS xs) ∧ w.grownBy w' v.ownBlock := by
 rcases h.2 with ⟨rfl, hn⟩ | ⟨g, cap, cur, rfl, hb, hgg, h1, h2, h3, h4⟩
 · have : xs = [] := List.eq_nil_of_length_eq_zero hn
   subst this
   refine (Try.slices_Sort_string_none none 0 w).mono ?_
   rintro e w' ⟨rfl, rfl⟩
   exact ⟨rfl, by simpa [sortS] using h, World.grownBy.refl _ _⟩
 · have hl : (xs.map key).length = xs.length := List.length_map _
   have hH : Sort.Holds encStr w g 0 (xs.map key).toArray := holds_of_block hgg (by rw [enc_key, hl]; simpa using h4)
   have := Try.slices_Sort_string g 0 cap (xs.map key) w hH (Blk.lt hgg) (by rw [hl]; omega)
   rw [hl] at this
   refine this.mono ?_
   rintro e w' ⟨rfl, n, os, rfl⟩
   refine ⟨rfl, ?_, grownBy_sorted _⟩
   have ho := ownsRow_sorted (w := w) (base := 0) (g := g) (cap := cap) (n := n) (e := 9) (os := os) (cur := cur) (ss := xs.map key) (ts := (xs.map key).mergeSort fun x y => decide (x ≤ y)) (by simp) hb hgg (by rw [hl]; exact h1) h2 h3
   unfold Row
   rw [sortS_len, ← enc_sorted]
   rw [hl] at ho
   exact ho
/-! ### Compact, plainly -/
def lastN (p : ByteArray) (l : List ByteArray) : ByteArray := l.getLast?.getD p
theorem lastN_cons (p x : ByteArray) (l : List ByteArray) : lastN p (x :: l) = lastN x l := by
 unfold lastN
 cases l with
 | nil => rfl
 | cons y l => simp [List.getLast?_cons]
theorem compF_snoc (y : ByteArray) : ∀ (l : List ByteArray) (p : ByteArray), compF p (l ++ [y]) = compF p l ++ if y = lastN p l then [] else [y]
 | [], p => by
   show compF p [y] = compF p [] ++ _
   rw [compF, compF]
   by_cases h : y = p <;> simp [h, lastN, compF]
 | x :: l, p => by
   rw [List.cons_append, compF, compF, compF_snoc y l p, compF_snoc y l x, lastN_cons]
   by_cases h : x = p
   · rw [if_pos h, if_pos h, h]
   · rw [if_neg h, if_neg h, List.cons_append]
theorem compact_key (xs : List ByteArray) : Lib.compact (xs.map key) = (compS xs).map key := by
 have hget : ∀ i (hi : i < xs.length), (xs.map key).toArray[i]! = key xs[i] := fun i hi => by
  rw [getElem!_pos (xs.map key).toArray i (by simpa using hi)]; simp
 have main : ∀ m, m ≤ xs.length → Lib.compactUpTo (xs.map key).toArray m = (compS (xs.take m)).map key := by
  intro m
  induction m with
  | zero => intro _; rfl
  | succ m ih =>
    intro hm
    have hlt : m < xs.length := hm
    rw [Lib.compactUpTo_succ, ih (by omega), List.take_succ_eq_append_getElem hlt, hget m hlt]
    cases m with
    | zero =>
      rw [if_pos (Lib.keeps_lt_one _ 0 (by decide))]
      simp [compS, compF]
    | succ k =>
      obtain ⟨a, t, ht⟩ : ∃ a t, xs.take (k + 1) = a :: t := by
       cases hq : xs.take (k + 1) with
       | nil =>
         have := congrArg List.length hq
         rw [List.length_take, List.length_nil] at this
         omega
       | cons a t => exact ⟨a, t, rfl⟩
      have hlast : lastN a t = xs[k] := by
       have h1 : (xs.take (k + 1)).getLast? = some xs[k] := by
        rw [List.take_succ_eq_append_getElem (by omega), List.getLast?_append]; simp
       rw [ht] at h1
       unfold lastN
       rw [List.getLast?_cons] at h1
       injection h1
      rw [ht, List.cons_append, compS, compS, compF_snoc, hlast]
      by_cases he : xs[k + 1] = xs[k]
      · rw [if_pos he, Lib.keeps_neg (by omega) (by rw [hget _ hlt, Nat.add_sub_cancel, hget k (by omega), he])]
        simp
      · rw [if_neg he, Lib.keeps_pos (by rw [hget _ hlt, Nat.add_sub_cancel, hget k (by omega)]; exact fun h => he (key_inj h))]
        simp
 have := main xs.length (Nat.le_refl _)
 rw [List.take_length] at this
 unfold Lib.compact
 rw [List.length_map]
 exact this
theorem compF_len : ∀ (l : List ByteArray) (p : ByteArray), (compF p l).length ≤ l.length
 | [], p => by rw [compF]; exact Nat.le_refl _
 | x :: l, p => by
   rw [compF]
   split
   · have := compF_len l p; simp; omega
   · have := compF_len l x; simp; omega
theorem compS_len (l : List ByteArray) : (compS l).length ≤ l.length := by
 cases l with
 | nil => exact Nat.le_refl _
 | cons x l => rw [compS]; have := compF_len l x; simp; omega
theorem Reads.take {w : World} {a : Option Addr} {n c : Nat} {xs ys : List ByteArray} (h : Reads w (.slice a n c) (xs ++ ys)) : Reads w (.slice a xs.length c) xs := by
 obtain ⟨ao, cap, e, h1, h2, h3⟩ := h
 injection e with e1 e2 e3
 subst e1 e3
 rw [List.length_append] at h1
 refine ⟨a, c, rfl, by omega, h2, ?_⟩
 rcases h3 with h3 | ⟨g, o, ho, hg, hc⟩
 · exact .inl (by simp at h3; simp [h3.1])
 · exact .inr ⟨g, o, ho, hg, fun i hi j hj => by
     have := hc i (by rw [List.length_append]; omega) j hj
     rw [List.getElem_append_left hi] at this
     exact this⟩
theorem grown0 {w : World} {g n : Nat} (d : Array (List UInt8)) : w.grownBy (Sort.putRow encStr (Sort.ahead w n) g 0 d) (some g) := by
 have := grownBy_sorted (w := w) (g := g) (n := n) (os := #[]) d
 rwa [Sort.grow_empty] at this
theorem bcompact_any {w : World} {v : Value} {xs : List ByteArray} (h : Row w v xs) (hx : xs.length ≤ 1000000000000) :
    Calls Try.prog 30 #[v] w fun e w' => ∃ a c, e = .returned (.slice a (compS xs).length c) ∧ Reads w' (.slice a (compS xs).length c) (compS xs) ∧ w.grownBy w' v.ownBlock := by
 rcases h.2 with ⟨rfl, hn⟩ | ⟨g, cap, cur, rfl, hb, hgg, h1, h2, h3, h4⟩
 · have : xs = [] := List.eq_nil_of_length_eq_zero hn
   subst this
   refine (Try.slices_Compact_string_empty none 0 w).mono ?_
   rintro e w' ⟨rfl, rfl⟩
   exact ⟨none, 0, rfl, Reads.nil0 _, World.grownBy.refl _ _⟩
 · have hl : (xs.map key).length = xs.length := List.length_map _
   have hH : Sort.Holds encStr w g 0 (xs.map key).toArray := holds_of_block hgg (by rw [enc_key, hl]; simpa using h4)
   have := Try.slices_Compact_string g 0 cap (xs.map key) w hH (by rw [hl]; omega) (by rw [hl]; exact h1)
   rw [hl, compact_key, List.length_map] at this
   refine this.mono ?_
   rintro e w' ⟨rfl, q, rfl⟩
   refine ⟨some ⟨g, 0, none⟩, cap, rfl, ?_, grown0 _⟩
   have hcl := compS_len xs
   have ho := ownsRow_sorted (w := w) (base := 0) (g := g) (cap := cap) (n := q) (e := 9) (os := #[]) (cur := cur) (ss := xs.map key) (ts := (compS xs).map key ++ List.replicate (xs.length - (compS xs).length) []) (by simp; omega) hb hgg (by rw [hl]; exact h1) h2 h3
   rw [Sort.grow_empty, hl] at ho
   have e1 : ((compS xs).map key ++ List.replicate (xs.length - (compS xs).length) []).map encStr = (compS xs ++ List.replicate (xs.length - (compS xs).length) (⟨#[]⟩ : ByteArray)).map Value.string := by
    rw [List.map_append, List.map_append, enc_key, List.map_replicate, List.map_replicate]
   rw [e1] at ho
   have e2 : xs.length = (compS xs ++ List.replicate (xs.length - (compS xs).length) (⟨#[]⟩ : ByteArray)).length := by simp; omega
   refine Reads.take (n := xs.length) (ys := List.replicate (xs.length - (compS xs).length) (⟨#[]⟩ : ByteArray)) (Row.reads ?_)
   unfold Row
   rw [← e2]
   exact ho
/-! ### collect -/
def ColPost (w0 w : World) (v : Value) (zs : List ByteArray) (e : Ending) (w' : World) : Prop := ∃ a c, e = .returned (.slice a zs.length c) ∧ OwnR w0 w' 9 1 strC (.slice a zs.length c) zs ∧ Only (ownB v) w w' ∧ (∀ b ∈ ownB (.slice a zs.length c), b ∈ ownB v ∨ w.heap.size ≤ b)
section
variable {F : List Nat} {w w1 w2 : World} {X : Nat}
theorem Only.notin (h : Only F w w1) (hX : w1.heap.size ≤ X) : w.heap.size ≤ X := Nat.le_trans h.size hX
theorem Only.but0 (h : Only F w w1) (hb : But X w1 w2) (hm : w.heap.size ≤ X) : Only F w w2 := h.trans (Only.of_but hb (List.mem_singleton.2 rfl)) fun x hx => .inr (by rw [List.mem_singleton.1 hx]; exact hm)
theorem Only.growA {α : Type} {t : TypeId} {k : Nat} {f : α → List Value} {v v' : Value} {ys : List α} (h : Only (ownB v) w w1) (hA : AppPost w1 w2 t k f v v' ys) : Only (ownB v) w w2 :=
 h.trans (Only.of_grown (F := ownB v) hA.grown fun b hb => mem_ownB.2 hb) fun x hx => .inl hx
theorem lies_app {α : Type} {t : TypeId} {k : Nat} {f : α → List Value} {v v' : Value} {ys : List α} (h : Only (ownB v) w w1) (hA : AppPost w1 w2 t k f v v' ys) : ∀ b ∈ ownB v', b ∈ ownB v ∨ w.heap.size ≤ b := fun b hb => by
 have hb' := mem_ownB.1 hb
 rcases hA.lies with h1 | h1
 · exact .inl (mem_ownB.2 (h1 ▸ hb'))
 · rw [h1] at hb'
   injection hb' with hb'
   have := h.size
   exact .inr (by omega)
theorem Loc.apart {α : Type} {F : List Nat} {w0 wb : World} {t e : TypeId} {k : Nat} {cs : Array Value} {f : α → List Value} {v : Value} {xs : List α} (b : Loc F w0 w X t cs) (r : OwnR wb w e k f v xs) (hx : Only (ownB v) w w1) (hne : e ≠ t) : Loc F w0 w1 X t cs := b.only hx (r.row.ne b.blk hne)
end
theorem names_kids {l : List Ex} {j : Nat} {y : Ex} {L R : List ByteArray} (h : Hid (L ++ namesEs (l.drop j) = R)) (hy : l[j]? = some y) : (L ++ namesE y) ++ namesEs (l.drop (j + 1)) = R := by
 have := h.out
 rw [drop_at hy, namesEs] at this
 rw [List.append_assoc]; exact this
@[reducible] def ColOk (N : Nat) : Prop := ∀ (x : Ex) {w0 w : World} {a : Option Addr} {c : Nat} {xs : List ByteArray}, x.ok w0 → Only [] w0 w → OwnR w0 w 9 1 strC (.slice a xs.length c) xs → x.sz < N → xs.length + (namesE x).length ≤ 1000000000000 →
 Calls Try.prog 24 #[.slice a xs.length c, .agg (exC x).toArray] w (ColPost w0 w (.slice a xs.length c) (xs ++ namesE x))
theorem collect_step {N : Nat} (IH : Hid (ColOk N)) : ColOk (N + 1) := by
 intro x w0 w a c xs hxo E r0 hz hlen
 rw [Ex.sz_kids] at hz
 have n2 := (RRow.lens hxo.kids).2
 have n3 := (Reads.lens hxo.names).2
 have hE := namesE_eq x
 have hnl : xs.length + x.h.names.length + (namesEs x.kids).length ≤ 1000000000000 := by rw [hE, List.length_append] at hlen; omega
 obtain ⟨V, hV⟩ : ∃ V, xs ++ namesE x = V := ⟨_, rfl⟩
 rw [hV]
 rw [hE, ← List.append_assoc] at hV
 have HV : Hid ((xs ++ x.h.names) ++ namesEs (x.kids.drop 0) = V) := Lib.hid hV
 have G : Only (ownB (.slice a xs.length c)) w w := Only.refl _ w
 clear hV hE hlen
 go_enter Try.func24, Try.ntmps24
 go_upto_region 1 with (first | ((with_reducible refine at_dst 3 ?_); go_simp; (generalize hX3 : Array.size (World.heap _) = X3); refine new_block hX3 ?_; intro wn bb hx; (try have z3 := Nat.le_trans E.size (Nat.le_of_eq hX3)); (try have mr0_3 := r0.notin (Nat.le_of_eq hX3)); (try have mG_3 := G.notin (Nat.le_of_eq hX3)); have b3 := Loc.new bb E hX3; clear bb hX3; (try replace E := E.ext hx); (try replace r0 := r0.ext hx); (try replace G := G.ext hx); (try replace hcE := bcell E.low); (try replace c3 := b3.cf)))
 have hG0 := G
 go_upto_region 3 with (first | ((with_reducible refine at_dst 10 ?_); refine wp_own (.tmp 7) (.tmp 9) rfl info_str und_strs rfl (by decide) strC_l strC_one r0 E (hxo.names.ext E.low) rfl rfl ?_ ?_ ?_; (· ((try unfold maxLen); omega)); (· (omega)); intro L10 hL10 s10 v10 wn r1 E2 hA; replace hL10 := Lib.hid hL10; (try replace b3 := b3.grow r0 hA (of_decide_eq_true rfl)); clear E; have E := E2; clear E2; replace G := G.growA hA; have lie := lies_app hG0 hA; obtain ⟨o10, k10, rfl, l10, m10⟩ := ORow.len r1.row; (try replace hcE := bcell E.low); (try replace c3 := b3.cf); (try simp only [Act.put, actL])))
 have HV2 : Hid (L10 ++ namesEs (x.kids.drop 0) = V) := Lib.hid (by rw [← hL10.out]; exact HV.out)
 have hnl2 : Hid (L10.length + (namesEs (x.kids.drop 0)).length ≤ 1000000000000) := Lib.hid (by have := congrArg List.length hL10.out; rw [List.length_append] at this; rw [List.drop_zero]; omega)
 clear hG0 HV hnl
 go_loopw [0, 14] (fun v i wr => ∃ (j : Nat) (L : List ByteArray) (so : Option Addr) (sc : Nat), i = .int .i64 j ∧ j ≤ x.kids.length ∧ v = .slice so L.length sc ∧ Hid (L ++ namesEs (x.kids.drop j) = V) ∧ Hid (L.length + (namesEs (x.kids.drop j)).length ≤ 1000000000000) ∧ OwnR w0 wr 9 1 strC (.slice so L.length sc) L ∧ (∀ b ∈ ownB (.slice so L.length sc), b ∈ ownB (.slice a xs.length c) ∨ w.heap.size ≤ b) ∧ Only (ownB (.slice a xs.length c)) w wr ∧ Only [] w0 wr ∧ Loc [] w0 wr X3 28 (exC x).toArray) (fun _ i _ => x.kids.length - (intOf i).toNat)
 case atStart => exact ⟨0, L10, _, _, rfl, Nat.zero_le _, rfl, HV2, hnl2, r1, lie, G, E, b3⟩
 case round =>
  clear E b3 c3 HV2 hnl2 r0 r1 G lie
  (try clear hcE)
  obtain ⟨j, L, so, sc, rfl, hj, rfl, HS, HL, r2, lie, G, E, b3⟩ := hrel
  have c3 := b3.cf
  have hcE := bcell E.low
  by_cases hlt : j < x.kids.length
  · obtain ⟨y, hy⟩ := at_some hlt
    have hyo := hxo.subs.mem (List.mem_of_getElem? hy)
    have hsz : y.sz < N := by have := Ex.sz_at hy; omega
    have hst := names_kids HS hy
    have hnl := namess_at hy
    have hll := HL.out
    have hlen2 : L.length + (namesE y).length ≤ 1000000000000 := by omega
    have HM : Hid ((L ++ namesE y).length + (namesEs (x.kids.drop (j + 1))).length ≤ 1000000000000) := Lib.hid (by rw [List.length_append]; omega)
    have HT := Lib.hid hst
    have HY := Lib.hid hy
    obtain ⟨g, o, hgo, hg, -⟩ := RRow.cells hxo.kids hlt
    have hkc : RRow w0 10 exC (.slice (some ⟨g, o, none⟩) x.kids.length x.h.hk.c) x.kids := hgo ▸ hxo.kids
    clear hy hst HS HL hnl hll
    go_upto_region 9999 with (first | ((first | ((with_reducible refine at_store 6 ?_); have bo := b6; refine wp_put bo rfl rfl ?_ ?_ ?_ ?_; (· kernel_rfl); (· first | rfl | kernel_rfl); (· first | decide | exact Nat.le_refl _ | simp [Act.eval, Value.cells] | (simp [Act.eval, Act.put, Value.cells]; done)); intro wn bn hb; dsimp only [Act.put]; simp only [putA, Act.eval, Value.cells, Nat.reduceAdd, putL, exC_size] at bn; have E2 := E.put bo hb; (try replace b3 := b3.but hb (by assumption)); (first | (replace r0 := r0.but hb bo.blk (of_decide_eq_true rfl)) | (replace r0 := r0.but0 hb (by assumption)) | skip); (first | (replace r2 := r2.but hb bo.blk (of_decide_eq_true rfl)) | (replace r2 := r2.but0 hb (by assumption)) | skip); (first | (replace G := G.but hb bo.blk (of_decide_eq_true rfl)) | (replace G := G.but0 hb (by assumption)) | skip); clear E bo; have E := E2; clear E2; clear b6; have b6 := bn; clear bn hb) | ((with_reducible refine at_dst 6 ?_); go_simp; (generalize hXn : Array.size (World.heap _) = X6); refine new_block hXn ?_; intro wn bb hx; have b6 := Loc.new bb E hXn; (try have ⟨nn, nm⟩ := b3.ne hXn); have zz := Nat.le_trans E.size (Nat.le_of_eq hXn); (try have mm := r2.notin (Nat.le_of_eq hXn)); (try have mm := G.notin (Nat.le_of_eq hXn)); clear bb hXn)); (try replace E := E.ext hx); (try replace b3 := b3.ext hx); (try replace r2 := r2.ext hx); (try replace G := G.ext hx); (try replace hcE := bcell E.low); (try replace c3 := b3.cf); (try replace c6 := b6.cf)) | ((with_reducible refine at_dst 17 ?_); (refine wp_rec2 ((RRow.ext hkc E.low)) (HY.out) exC_len rfl rfl ?_ ?_ ?_); (· kernel_rfl); (· kernel_rfl)) | ((with_reducible refine at_dst 19 ?_); (refine wp_all b6.blk rfl rfl ?_ ?_ ?_); (· kernel_rfl); (· kernel_rfl)) | ((with_reducible refine at_dst 20 ?_); go_simp; (have hc := IH.out y hyo E r2 hsz hlen2); ((with_reducible refine hc.mono ?_)); clear hc; unfold ColPost; rintro e wn ⟨a9, c9, rfl, r9, hx, hl9⟩; (try replace b3 := b3.apart r2 hx (of_decide_eq_true rfl)); (try replace b6 := b6.apart r2 hx (of_decide_eq_true rfl)); replace E := E.trans hx (fun b hb => .inr (r2.new b hb)); have G2 := G.trans hx (fun b hb => lie b hb); have lie2 : ∀ b ∈ ownB (.slice a9 (L ++ namesE y).length c9), b ∈ ownB (.slice a xs.length c) ∨ w.heap.size ≤ b := (fun b hb => (hl9 b hb).elim (fun h => lie b h) (fun h => .inr (Nat.le_trans G.size h))); clear G hx hl9 lie; have G := G2; have lie := lie2; clear G2 lie2))
    try simp only [← hgo]
    clear hgo
    go_roundw
    case rel => exact ⟨j + 1, L ++ namesE y, a9, c9, by go_num, by omega, by rw [List.length_append], HT, HM, r9, lie, G, E, b3⟩
    case measure => simp [intOf]; omega
  · have hz2 : L = V := by
      have := HS.out
      rw [List.drop_of_length_le (by omega), namesEs, List.append_nil] at this
      exact this
    subst hz2
    go_upto_region 9999 with (first | fail)
    go_ret
    exact ⟨_, _, rfl, r2, G, lie⟩
theorem collect_any : ∀ N : Nat, ColOk N
 | 0 => fun _ _ _ _ _ _ _ _ _ hz => absurd hz (Nat.not_lt_zero _)
 | N + 1 => collect_step (Lib.hid (collect_any N))
theorem collect_nil {x : Ex} {w0 w : World} (hxo : x.ok w0) (E : Only [] w0 w) (hl : (namesE x).length ≤ 1000000000000) :
    Calls Try.prog 24 #[.slice none 0 0, .agg (exC x).toArray] w (ColPost w0 w (.slice none 0 0) (namesE x)) := by
 have := collect_any (x.sz + 1) (xs := []) x hxo E (OwnR.nil w0 w 9 1 strC) (Nat.lt_succ_self _) (by simpa using hl)
 simpa using this
theorem bnames_any {x : Ex} {w : World} (hxo : x.ok w) (hs : x.small) (hz : x.sz ≤ 1000000000000) : Calls Try.prog 20 #[.agg (exC x).toArray] w (RPost w (namesR x)) := by
 unfold namesR
 obtain ⟨v, hv⟩ : ∃ v, chk x 1 = v := ⟨_, rfl⟩
 have HC := Lib.hid hv
 rw [hv]
 by_cases h0 : v = 0
 · have hwf := chk_wf x 1 (hv.trans h0)
   have hln : (namesE x).length ≤ 1000000000000 := Nat.le_trans (names_sz x hwf) hz
   have hln2 : (sortS (namesE x)).length ≤ 1000000000000 := by rw [sortS_len]; exact hln
   subst h0
   clear hv
   rw [if_neg (by decide)]
   go_enter Try.func20, Try.ntmps20
   have E := Only.refl [] w
   go_upto_region 9999 with (first | ((first | ((with_reducible refine at_dst 5 ?_); go_simp; (have hc := bCheck_any (hxo.ext E.low) hs hz); (first | with_reducible refine hc.mono ?_ | refine hc.mono ?_); clear hc; unfold IPost; rw [HC.out]; rintro e wn ⟨rfl, hx⟩) | ((with_reducible refine at_dst 1 ?_); go_simp; (generalize hXn : Array.size (World.heap _) = X1); refine new_block hXn ?_; intro wn bb hx; have b1 := Loc.new bb E hXn; have zz := Nat.le_trans E.size (Nat.le_of_eq hXn); clear bb hXn)); (try replace E := E.ext hx); (try replace b1 := b1.ext hx); (try replace hcE := bcell E.low); (try replace c1 := b1.cf)) | ((with_reducible refine at_dsts [4, 7] ?_ ?_); (· rfl); (refine wp_all (Loc.blk (by assumption)) rfl rfl ?_ ?_ ?_); (· kernel_rfl); (· kernel_rfl)) | ((with_reducible refine at_dst 8 ?_); go_simp; (have hc := collect_nil hxo E hln); ((with_reducible refine hc.mono ?_)); clear hc; unfold ColPost; rintro e wn ⟨a9, c9, rfl, r9, hx, -⟩; (try clear b1); replace E := E.trans hx (fun b hb => by cases hb); clear hx) | ((with_reducible refine at_dst 10 ?_); go_simp; (have hc := bsort_any (Row.of r9.row) hln); ((with_reducible refine hc.mono ?_)); clear hc; rintro e wn ⟨rfl, hr, hg9⟩; replace E := E.trans (Only.of_grown (F := ownB (.slice a9 (namesE x).length c9)) hg9 (fun b hb => mem_ownB.2 hb)) (fun b hb => .inr (r9.new b hb)); clear hg9) | ((with_reducible refine at_dst 12 ?_); go_simp; (have hc := bcompact_any hr hln2); ((with_reducible refine hc.mono ?_)); clear hc; rw [comp_sort]; rintro e wn ⟨a8, c8, rfl, hr8, hg9⟩; replace E := E.trans (Only.of_grown (F := ownB (.slice a9 (namesE x).length c9)) hg9 (fun b hb => mem_ownB.2 hb)) (fun b hb => .inr (r9.new b hb)); clear hg9))
   go_ret
   exact ⟨_, _, rfl, hr8, E.low⟩
 · obtain ⟨s1, s2⟩ := kd_f h0
   rw [if_pos h0]
   clear h0 hv
   go_enter Try.func20, Try.ntmps20
   have E := Only.refl [] w
   go_upto_region 9999 with (first | ((first | ((with_reducible refine at_dst 5 ?_); go_simp; (have hc := bCheck_any (hxo.ext E.low) hs hz); (first | with_reducible refine hc.mono ?_ | refine hc.mono ?_); clear hc; unfold IPost; rw [HC.out]; rintro e wn ⟨rfl, hx⟩) | ((with_reducible refine at_dst 1 ?_); go_simp; (generalize hXn : Array.size (World.heap _) = X1); refine new_block hXn ?_; intro wn bb hx; have b1 := Loc.new bb E hXn; have zz := Nat.le_trans E.size (Nat.le_of_eq hXn); clear bb hXn)); (try replace E := E.ext hx); (try replace b1 := b1.ext hx); (try replace hcE := bcell E.low); (try replace c1 := b1.cf)) | ((with_reducible refine at_dst 4 ?_); (refine wp_all b1.blk rfl rfl ?_ ?_ ?_); (· kernel_rfl); (· kernel_rfl)))
   go_ret
   exact ⟨none, 0, rfl, Reads.nil0 _, E.low⟩
open Go.RowKit Tk
/-- what Eval returns -/
def known (l : List (ByteArray × Bool)) (ns : List ByteArray) : Bool := ns.all fun n => (findB n l).isSome
def evK (k v : Bool) : Bool × Int := if k = true then (v, 0) else (false, 11)
def evalR (x : Ex) (l : List (ByteArray × Bool)) : Bool × Int :=
 if chk x 1 ≠ 0 then (false, chk x 1) else evK (known l (namesE x)) (valE l x)
def BIPost (r : Bool × Int) (w : World) (e : Ending) (w' : World) : Prop := e = .returned (.tuple #[.bool r.1, .int .i64 r.2]) ∧ Ext w w'
theorem valB_some (s : ByteArray) (l : List (ByteArray × Bool)) : (valB s l).isSome = (findB s l).isSome := by
 unfold valB
 cases h : findB s l with
 | none => rfl
 | some i =>
   have := findB_lt h
   simp [List.getElem?_eq_getElem this]
theorem known_at {l : List (ByteArray × Bool)} {ns : List ByteArray} {j : Nat} {y : ByteArray} {R : Bool} (h : Hid (known l (ns.drop j) = R)) (hy : ns[j]? = some y) : ((findB y l).isSome && known l (ns.drop (j + 1))) = R := by
 have := h.out
 rw [drop_at hy] at this
 exact this
theorem b2i_one (b : Bool) : (b2i b == 1) = b := by cases b <;> rfl
theorem beval_any {x : Ex} {w : World} {la : Option Addr} {lc : Nat} {l : List (ByteArray × Bool)} (hl : RRow w 2 boC (.slice la l.length lc) l) (hxo : x.ok w) (hs : x.small) (hz : x.sz ≤ 1000000000000) :
    Calls Try.prog 12 #[.agg (exC x).toArray, .slice la l.length lc] w (BIPost (evalR x l) w) := by
 unfold evalR
 obtain ⟨v, hv⟩ : ∃ v, chk x 1 = v := ⟨_, rfl⟩
 have HC := Lib.hid hv
 rw [hv]
 by_cases h0 : v = 0
 · have hwf := chk_wf x 1 (hv.trans h0)
   have hln : (namesE x).length ≤ 1000000000000 := Nat.le_trans (names_sz x hwf) hz
   subst h0
   clear hv
   rw [if_neg (by decide)]
   obtain ⟨K, hK⟩ : ∃ K, known l (namesE x) = K := ⟨_, rfl⟩
   rw [hK]
   have HK0 : Hid (known l ((namesE x).drop 0) = K) := Lib.hid hK
   clear hK
   obtain ⟨vb, hvb⟩ : ∃ v, valE l x = v := ⟨_, rfl⟩
   have HV := Lib.hid hvb
   rw [hvb]
   clear hvb
   go_enter Try.func12, Try.ntmps12
   have E := Only.refl [] w
   go_upto_region 5 with (first | ((first | ((with_reducible refine at_dst 12 ?_); go_simp; (have hc := bCheck_any (hxo.ext E.low) hs hz); (first | with_reducible refine hc.mono ?_ | refine hc.mono ?_); clear hc; unfold IPost; rw [HC.out]; rintro e wn ⟨rfl, hx⟩) | ((with_reducible refine at_dst 17 ?_); go_simp; (have hc := collect_nil hxo E hln); ((with_reducible refine hc.mono ?_)); clear hc; unfold ColPost; rintro e wn ⟨a9, c9, rfl, r9, hx, -⟩; replace b2 := b2.only hx (by simp [ownB, Value.ownBlock]); replace E := E.trans hx (fun b hb => by cases hb); clear hx) | ((with_reducible refine at_dst 2 ?_); go_simp; (generalize hXn : Array.size (World.heap _) = X2); refine new_block hXn ?_; intro wn bb hx; have b2 := Loc.new bb E hXn; have zz := Nat.le_trans E.size (Nat.le_of_eq hXn); clear bb hXn)); (try replace E := E.ext hx); (try replace b2 := b2.ext hx); (try replace hcE := bcell E.low); (try replace c2 := b2.cf)) | ((with_reducible refine at_dsts [11, 16] ?_ ?_); (· rfl); (refine wp_all (Loc.blk (by assumption)) rfl rfl ?_ ?_ ?_); (· kernel_rfl); (· kernel_rfl)))
   go_loopw [19] (fun i wr => ∃ j : Nat, i = .int .i64 j ∧ j ≤ (namesE x).length ∧ Hid (known l ((namesE x).drop j) = K) ∧ Only [] w wr ∧ OwnR w wr 9 1 strC (.slice a9 (namesE x).length c9) (namesE x) ∧ Loc [] w wr X2 28 (exC x).toArray) (fun i _ => (namesE x).length - (intOf i).toNat)
   case atStart => exact ⟨0, rfl, Nat.zero_le _, HK0, E, r9, b2⟩
   case round =>
    clear E b2 c2 r9 HK0
    (try clear hcE)
    obtain ⟨j, rfl, hj, HS, E, r9, b2⟩ := hrel
    have c2 := b2.cf
    have hcE := bcell E.low
    by_cases hlt : j < (namesE x).length
    · obtain ⟨y, hy⟩ := at_some hlt
      obtain ⟨g, o, hgo, hg, k0⟩ := r9.reads.cells hlt
      have ey : (namesE x)[j] = y := by rw [List.getElem?_eq_getElem hlt] at hy; injection hy
      rw [ey] at k0
      have hst := known_at HS hy
      obtain ⟨fb, hfb⟩ : ∃ v, valB y l = v := ⟨_, rfl⟩
      have HF := Lib.hid hfb
      rw [← valB_some, hfb] at hst
      clear hy ey HS hfb
      have HR9 := Lib.hid r9
      cases fb with
      | none =>
        have hKf : K = false := by rw [← hst]; rfl
        subst hKf
        clear hst
        go_upto_region 9999 with (first | ((with_reducible refine at_dst 26 ?_); go_simp; (have hc := bfind_any (RRow.ext hl E.low) y); (first | with_reducible refine hc.mono ?_ | refine hc.mono ?_); clear hc; unfold VPost; rw [HF.out]; rintro e wn ⟨rfl, hx⟩; (try replace E := E.ext hx); (try replace b2 := b2.ext hx); (try replace r9 := r9.ext hx); (try replace hcE := bcell E.low); (try replace c2 := b2.cf)))
        refine bodyPost_ret (v := .tuple #[.bool false, .int .i64 11]) (by simp [results, Try.f12, go_sem]) rfl ⟨rfl, E.low⟩
      | some bv =>
        have HT : Hid (known l ((namesE x).drop (j + 1)) = K) := Lib.hid (by rw [← hst]; rfl)
        clear hst
        go_upto_region 9999 with (first | ((with_reducible refine at_dst 26 ?_); go_simp; (have hc := bfind_any (RRow.ext hl E.low) y); (first | with_reducible refine hc.mono ?_ | refine hc.mono ?_); clear hc; unfold VPost; rw [HF.out]; rintro e wn ⟨rfl, hx⟩; (try replace E := E.ext hx); (try replace b2 := b2.ext hx); (try replace r9 := r9.ext hx); (try replace hcE := bcell E.low); (try replace c2 := b2.cf)))
        try simp only [← hgo]
        clear hgo
        go_roundw
        case rel => exact ⟨j + 1, by go_num, by omega, HT, E, r9, b2⟩
        case measure => simp [intOf]; omega
    · have hKt : K = true := by
        have := HS.out
        rw [List.drop_of_length_le (by omega)] at this
        exact this.symm
      subst hKt
      go_upto_region 9999 with (first | ((with_reducible refine at_dst 32 ?_); (refine wp_all b2.blk rfl rfl ?_ ?_ ?_); (· kernel_rfl); (· kernel_rfl)) | ((with_reducible refine at_dst 34 ?_); go_simp; (have hc := bvalue_any (x.sz + 1) x (RRow.ext hl E.low) (hxo.ext E.low) hwf (Nat.lt_succ_self _)); (first | with_reducible refine hc.mono ?_ | refine hc.mono ?_); clear hc; unfold U64Post; rw [HV.out]; rintro e wn ⟨rfl, hx⟩; (try replace E := E.ext hx); (try replace b2 := b2.ext hx); (try replace r9 := r9.ext hx); (try replace hcE := bcell E.low); (try replace c2 := b2.cf)))
      refine bodyPost_ret (v := .tuple #[.bool (b2i vb == 1), .int .i64 0]) (by simp [results, Try.f12, go_sem]) rfl ⟨by rw [b2i_one]; rfl, E.low⟩
 · obtain ⟨s1, s2⟩ := kd_f h0
   rw [if_pos h0]
   clear h0 hv
   go_enter Try.func12, Try.ntmps12
   have E := Only.refl [] w
   go_upto_region 9999 with (first | ((first | ((with_reducible refine at_dst 12 ?_); go_simp; (have hc := bCheck_any (hxo.ext E.low) hs hz); (first | with_reducible refine hc.mono ?_ | refine hc.mono ?_); clear hc; unfold IPost; rw [HC.out]; rintro e wn ⟨rfl, hx⟩) | ((with_reducible refine at_dst 2 ?_); go_simp; (generalize hXn : Array.size (World.heap _) = X2); refine new_block hXn ?_; intro wn bb hx; have b2 := Loc.new bb E hXn; have zz := Nat.le_trans E.size (Nat.le_of_eq hXn); clear bb hXn)); (try replace E := E.ext hx); (try replace b2 := b2.ext hx); (try replace hcE := bcell E.low); (try replace c2 := b2.cf)) | ((with_reducible refine at_dst 11 ?_); (refine wp_all b2.blk rfl rfl ?_ ?_ ?_); (· kernel_rfl); (· kernel_rfl)))
   refine bodyPost_ret (v := .tuple #[.bool false, .int .i64 v]) (by simp [results, Try.f12, go_sem]) rfl ⟨rfl, E.low⟩
open Go.RowKit Tk
/-- the word whose bits below n are those of f -/
def wdF (f : Nat → Bool) : Nat → Nat
 | 0 => 0
 | n + 1 => if f n = true then wdF f n ||| 2 ^ n else wdF f n
def wd (f : Nat → Bool) : Nat := wdF f 64
theorem wdF_bit (f : Nat → Bool) : ∀ n k, (wdF f n).testBit k = (decide (k < n) && f k)
 | 0, k => by simp [wdF]
 | n + 1, k => by
   rw [wdF]
   have ih := wdF_bit f n k
   split
   · rename_i hf
     rw [Nat.testBit_or, ih, Nat.testBit_two_pow]
     by_cases h : n = k
     · subst h; simp [hf]
     · rw [decide_eq_false h, Bool.or_false]
       by_cases h2 : k < n
       · simp [h2, Nat.lt_succ_of_lt h2]
       · simp [h2, show ¬ k < n + 1 by omega]
   · rename_i hf
     rw [ih]
     by_cases h2 : k < n
     · simp [h2, Nat.lt_succ_of_lt h2]
     · by_cases h : k = n
       · subst h; simp [hf]
       · simp [h2, show ¬ k < n + 1 by omega]
theorem wd_bit (f : Nat → Bool) (k : Nat) : (wd f).testBit k = (decide (k < 64) && f k) := wdF_bit f 64 k
theorem wdF_lt (f : Nat → Bool) (n : Nat) : wdF f n < 2 ^ n := Nat.lt_pow_two_of_testBit _ fun i hi => by rw [wdF_bit, decide_eq_false (by omega), Bool.false_and]
theorem wd_lt (f : Nat → Bool) : wd f < 18446744073709551616 := wdF_lt f 64
theorem wd_ext {a : Nat} {f : Nat → Bool} (h : ∀ k, a.testBit k = (decide (k < 64) && f k)) : a = wd f := Nat.eq_of_testBit_eq fun k => by rw [h, wd_bit]
theorem wd_congr {f g : Nat → Bool} (h : ∀ k, k < 64 → f k = g k) : wd f = wd g := wd_ext fun k => by
 rw [wd_bit]
 by_cases hk : k < 64
 · rw [h k hk]
 · simp [hk]
theorem wd_inj {f g : Nat → Bool} (h : wd f = wd g) : ∀ k, k < 64 → f k = g k := fun k hk => by
 have := congrArg (fun n => n.testBit k) h
 simpa [wd_bit, hk] using this
theorem wd_and (f g : Nat → Bool) : wAnd (wd f : Nat) (wd g : Nat) = (wd (fun k => f k && g k) : Nat) := by
 unfold wAnd
 rw [bits_and_u64_nat _ _ (wd_lt f) (wd_lt g)]
 exact congrArg _ (wd_ext fun k => by rw [Nat.testBit_and, wd_bit, wd_bit]; cases decide (k < 64) <;> simp)
theorem wd_or (f g : Nat → Bool) : wOr (wd f : Nat) (wd g : Nat) = (wd (fun k => f k || g k) : Nat) := by
 unfold wOr
 rw [bits_or_u64_nat _ _ (wd_lt f) (wd_lt g)]
 exact congrArg _ (wd_ext fun k => by rw [Nat.testBit_or, wd_bit, wd_bit]; cases decide (k < 64) <;> simp)
theorem wd_xor (f g : Nat → Bool) : wXor (wd f : Nat) (wd g : Nat) = (wd (fun k => f k != g k) : Nat) := by
 unfold wXor
 rw [bits_xor_u64_nat _ _ (wd_lt f) (wd_lt g)]
 exact congrArg _ (wd_ext fun k => by rw [Nat.testBit_xor, wd_bit, wd_bit]; cases decide (k < 64) <;> simp)
theorem max_wd : IntKind.u64.max = ((wd fun _ => true : Nat) : Int) := by
 have : (wd fun _ => true) = 18446744073709551615 := by decide +kernel
 rw [this]; rfl
theorem wd_not (f : Nat → Bool) : wNot (wd f : Nat) = (wd (fun k => !f k) : Nat) := by
 unfold wNot
 rw [max_wd]
 have := wd_xor (fun _ => true) f
 unfold wXor at this
 rw [this]
 exact congrArg _ (wd_congr fun k _ => by cases f k <;> rfl)
theorem wd_same (f g : Nat → Bool) : wSame (wd f : Nat) (wd g : Nat) = (wd (fun k => f k == g k) : Nat) := by
 unfold wSame
 rw [wd_xor, wd_not]
 exact congrArg _ (wd_congr fun k _ => by cases f k <;> cases g k <;> rfl)
/-- an operator at words -/
def opB (op : Int) (a b : Bool) : Bool := if op = 3 then a && b else if op = 4 then a || b else if op = 6 then a == b else a != b
theorem wd_oper (op : Int) (f g : Nat → Bool) : operW op (wd f : Nat) (wd g : Nat) = (wd (fun k => opB op (f k) (g k)) : Nat) := by
 unfold operW opB
 by_cases h3 : op = 3
 · simp only [if_pos h3]; exact wd_and f g
 by_cases h4 : op = 4
 · simp only [if_neg h3, if_pos h4]; exact wd_or f g
 by_cases h6 : op = 6
 · simp only [if_neg h3, if_neg h4, if_pos h6]; exact wd_same f g
 · simp only [if_neg h3, if_neg h4, if_neg h6]; exact wd_xor f g
/-! ### tables -/
/-- the word w of a table -/
def tw64 (F : Nat → Bool) (w : Nat) : Nat := wd fun k => F (64 * w + k)
def tabN (F : Nat → Bool) (len : Nat) : List Nat := (List.range len).map (tw64 F)
def lenT (n : Nat) : Nat := max 1 (2 ^ n / 64)
theorem tabN_len (F : Nat → Bool) (len : Nat) : (tabN F len).length = len := by unfold tabN; simp
theorem tabN_at (F : Nat → Bool) {len w : Nat} (h : w < len) : (tabN F len)[w]? = some (tw64 F w) := by unfold tabN; simp [h]
/-- the booleans whose values are the binary digits of a number -/
def numbF : List ByteArray → Nat → Nat → List (ByteArray × Bool)
 | [], _, _ => []
 | s :: l, i, r => (s, r.testBit i) :: numbF l (i + 1) r
def numb (ns : List ByteArray) (r : Nat) : List (ByteArray × Bool) := numbF ns 0 r
def idxN (s : ByteArray) : List ByteArray → Nat
 | [] => 0
 | x :: l => if x = s then 0 else idxN s l + 1
theorem numbF_find {s : ByteArray} : ∀ (l : List ByteArray) (i r : Nat), s ∈ l → ∃ j, findB s (numbF l i r) = some j ∧ idxN s l = j ∧ (numbF l i r)[j]? = some (s, r.testBit (i + j))
 | x :: l, i, r, h => by
   rw [numbF]
   by_cases hx : x = s
   · subst hx
     exact ⟨0, by simp [findB], by simp [idxN], by simp⟩
   · obtain ⟨j, h1, h2, h3⟩ := numbF_find l (i + 1) r ((List.mem_cons.1 h).resolve_left fun e => hx e.symm)
     exact ⟨j + 1, by simp [findB, hx, h1], by simp [idxN, hx, h2], by rw [List.getElem?_cons_succ, h3]; congr 3; omega⟩
theorem numb_val {s : ByteArray} {ns : List ByteArray} {r : Nat} (h : s ∈ ns) : valB s (numb ns r) = some (r.testBit (idxN s ns)) := by
 obtain ⟨j, h1, h2, h3⟩ := numbF_find ns 0 r h
 unfold valB numb
 rw [h1, h2]
 show Option.map _ _ = _
 rw [h3]; simp
/-- the value of a condition in a row of its table -/
def rowV (ns : List ByteArray) (x : Ex) (r : Nat) : Bool := valE (numb ns r) x
open Go.RowKit Tk
theorem RRow.tok {w : World} {a : Option Addr} {c : Nat} {ts : List Tok} (h : RRow w 4 Tok.cells (.slice a ts.length c) ts) {i : Nat} {t : Tok} (ht : ts[i]? = some t) : ∃ g o, a = some ⟨g, o, none⟩ ∧ g < w.heap.size ∧
    w.cell? ⟨g, o + i * 4, none⟩ = some (.int .i64 t.kind) ∧ w.cell? ⟨g, o + i * 4 + 1, none⟩ = some (.string t.text) ∧ w.cell? ⟨g, o + i * 4 + 2, none⟩ = some (.int .i64 t.pos.1) ∧ w.cell? ⟨g, o + i * 4 + 3, none⟩ = some (.int .i64 t.pos.2) := by
 obtain ⟨hi, e⟩ := List.getElem?_eq_some_iff.1 ht
 obtain ⟨g, o, ha, hg, hc⟩ := RRow.cells h hi
 rw [e] at hc
 exact ⟨g, o, ha, hg, hc 0 (by omega), hc 1 (by omega), hc 2 (by omega), hc 3 (by omega)⟩
end Go.Proofs.Ytbobbbhgdfapjaa
