/- H9, I2, I5, I6 -/
import Derived.Test.YtbobbbhgdfapjaaZR1
import Derived.Test.YtbobbbhgdfapjaaZR2
import Derived.Test.YtbobbbhgdfapjaaZR3
import Derived.Test.YtbobbbhgdfapjaaZR4
import Derived.Test.YtbobbbhgdfapjaaZR9
import Derived.Test.YtbobbbhgdfapjaaZR10
import Derived.Test.YtbobbbhgdfapjaaZR5
import Derived.Test.YtbobbbhgdfapjaaZR6
import Derived.Test.YtbobbbhgdfapjaaZR7
import Derived.Test.YtbobbbhgdfapjaaZR11
import Derived.Test.YtbobbbhgdfapjaaZR12
import Derived.Test.YtbobbbhgdfapjaaZR13
import Derived.Test.YtbobbbhgdfapjaaZR14
import Derived.Test.YtbobbbhgdfapjaaZR15
import Derived.Test.YtbobbbhgdfapjaaZR16
import Derived.Test.YtbobbbhgdfapjaaZR17
import Derived.Test.YtbobbbhgdfapjaaZR18
import Derived.Test.YtbobbbhgdfapjaaZR19
import Derived.Test.YtbobbbhgdfapjaaZR20
import Derived.Test.YtbobbbhgdfapjaaZR21
import Derived.Deep.OwnRows
import Derived.Test.YtbobbbhgdfapjaaZR8
set_option linter.unusedSimpArgs false
set_option linter.unusedVariables false
namespace Go.Proofs.Ytbobbbhgdfapjaa
set_option maxHeartbeats 8000000
set_option maxRecDepth 100000
open Go.RowKit Tk
mutual
def cntE : Ex → Int → Int
 | .mk h k, n => if n < 1 ∨ (4 : Int) < h.names.length then -1 else cnts k (n - 1)
def cnts : List Ex → Int → Int
 | [], n => n
 | e :: r, n => if cntE e n < 0 then -1 else cnts r (cntE e n)
end
theorem cntE_eq (x : Ex) (n : Int) : cntE x n = if n < 1 ∨ (4 : Int) < x.h.names.length then -1 else cnts x.kids (n - 1) := by cases x; rw [cntE]; rfl
theorem cnts_at {l : List Ex} {j : Nat} {y : Ex} {n R : Int} (h : Hid (cnts (l.drop j) n = R)) (hy : l[j]? = some y) : (if cntE y n < 0 then -1 else cnts (l.drop (j + 1)) (cntE y n)) = R := by
 have := h.out
 rw [drop_at hy, cnts] at this
 exact this
mutual
theorem cntE_le : ∀ (x : Ex) (n : Int), -1 ≤ cntE x n ∧ (0 ≤ cntE x n → cntE x n + x.sz ≤ n)
 | .mk h k, n => by
   rw [cntE, Ex.sz]
   split
   · exact ⟨by omega, fun h => by omega⟩
   · rename_i hn
     have := cnts_le k (n - 1) (by omega)
     exact ⟨this.1, fun h => by have := this.2 h; omega⟩
theorem cnts_le : ∀ (k : List Ex) (n : Int), -1 ≤ n → -1 ≤ cnts k n ∧ (0 ≤ cnts k n → cnts k n + Ex.szs k ≤ n)
 | [], n, hn => by rw [cnts, Ex.szs]; exact ⟨hn, fun _ => by omega⟩
 | e :: r, n, hn => by
   have h1 := cntE_le e n
   rw [cnts, Ex.szs]
   split
   · exact ⟨by omega, fun h => by omega⟩
   · have := cnts_le r (cntE e n) (by omega)
     exact ⟨this.1, fun h => by have := this.2 h; have := h1.2 (by omega); omega⟩
end
mutual
/-- each node has at most four names -/
def Ex.four : Ex → Prop
 | .mk h k => h.names.length ≤ 4 ∧ Ex.fours k
def Ex.fours : List Ex → Prop
 | [] => True
 | e :: l => e.four ∧ Ex.fours l
end
@[reducible] def CountOk (N : Nat) : Prop := ∀ (x : Ex) (i : Int) {w : World}, x.ok w → x.sz < N → -9000000000000000000 ≤ i ∧ i ≤ 9000000000000000000 → Calls Try.prog 9 #[.agg (exC x).toArray, .int .i64 i] w (IPost (cntE x i) w)
theorem count_step {N : Nat} (IH : Hid (CountOk N)) : CountOk (N + 1) := by
 intro x m w hxo hz hm
 obtain ⟨hm0, hm1⟩ := hm
 rw [Ex.sz_kids] at hz
 have n2 := (RRow.lens hxo.kids).2
 have n3 := (Reads.lens hxo.names).2
 by_cases h1 : m < 1
 · rw [show cntE x m = -1 by rw [cntE_eq, if_pos (.inl h1)]]
   go_enter Try.func9, Try.ntmps9
   have E := Only.refl [] w
   go_upto_region 9999 with (first | ((with_reducible refine at_dst 2 ?_); go_simp; (generalize hX2 : Array.size (World.heap _) = X2); refine new_block hX2 ?_; intro wn bb hx; (try have z2 := Nat.le_trans E.size (Nat.le_of_eq hX2)); have b2 := Loc.new bb E hX2; clear bb hX2; (try replace E := E.ext hx); (try replace hcE := bcell E.low); (try replace c2 := b2.cf)))
   all_goals
    go_ret
    exact ⟨rfl, E.low⟩
 by_cases h2 : (4 : Int) < x.h.names.length
 · rw [show cntE x m = -1 by rw [cntE_eq, if_pos (.inr h2)]]
   go_enter Try.func9, Try.ntmps9
   have E := Only.refl [] w
   go_upto_region 9999 with (first | ((with_reducible refine at_dst 2 ?_); go_simp; (generalize hX2 : Array.size (World.heap _) = X2); refine new_block hX2 ?_; intro wn bb hx; (try have z2 := Nat.le_trans E.size (Nat.le_of_eq hX2)); have b2 := Loc.new bb E hX2; clear bb hX2; (try replace E := E.ext hx); (try replace hcE := bcell E.low); (try replace c2 := b2.cf)))
   all_goals
    go_ret
    exact ⟨rfl, E.low⟩
 · obtain ⟨V, hV⟩ : ∃ V, cntE x m = V := ⟨_, rfl⟩
   rw [hV]
   rw [cntE_eq, if_neg (by omega)] at hV
   have HV : Hid (cnts (x.kids.drop 0) (m - 1) = V) := Lib.hid hV
   clear hV
   go_enter Try.func9, Try.ntmps9
   have E := Only.refl [] w
   go_upto_region 5 with (first | ((with_reducible refine at_dst 2 ?_); go_simp; (generalize hX2 : Array.size (World.heap _) = X2); refine new_block hX2 ?_; intro wn bb hx; (try have z2 := Nat.le_trans E.size (Nat.le_of_eq hX2)); have b2 := Loc.new bb E hX2; clear bb hX2; (try replace E := E.ext hx); (try replace hcE := bcell E.low); (try replace c2 := b2.cf)))
   go_loopw [1, 19] (fun v i wr => ∃ (j : Nat) (n : Int), i = .int .i64 j ∧ j ≤ x.kids.length ∧ v = .int .i64 n ∧ Hid (cnts (x.kids.drop j) n = V) ∧ (-9000000000000000000 ≤ n ∧ n ≤ 9000000000000000000) ∧ Only [] w wr ∧ Loc [] w wr X2 28 (exC x).toArray) (fun _ i _ => x.kids.length - (intOf i).toNat)
   case atStart => exact ⟨0, _, rfl, Nat.zero_le _, rfl, HV, ⟨by omega, by omega⟩, E, b2⟩
   case round =>
    clear E b2 c2 HV
    (try clear hcE)
    obtain ⟨j, n, rfl, hj, rfl, HS, ⟨hn0, hn1⟩, E, b2⟩ := hrel
    have c2 := b2.cf
    have hcE := bcell E.low
    by_cases hlt : j < x.kids.length
    · obtain ⟨y, hy⟩ := at_some hlt
      have hyo := hxo.subs.mem (List.mem_of_getElem? hy)
      have hsz : y.sz < N := by have := Ex.sz_at hy; omega
      obtain ⟨r, hr⟩ : ∃ r, cntE y n = r := ⟨_, rfl⟩
      have hst := cnts_at HS hy
      have hrb : -1 ≤ r ∧ (0 ≤ r → r ≤ n) := by
       have := cntE_le y n
       rw [hr] at this
       exact ⟨this.1, fun h => by have := this.2 h; omega⟩
      obtain ⟨hr0, hr1⟩ := hrb
      rw [hr] at hst
      have HC := Lib.hid hr
      have HT := Lib.hid hst
      have HY := Lib.hid hy
      obtain ⟨g, o, hgo, hg, -⟩ := RRow.cells hxo.kids hlt
      have hkc : RRow w 10 exC (.slice (some ⟨g, o, none⟩) x.kids.length x.h.hk.c) x.kids := hgo ▸ hxo.kids
      clear hy hr hst HS
      go_upto_region 8 with (first | ((with_reducible refine at_dst 26 ?_); (refine wp_rec2 ((RRow.ext hkc E.low)) (HY.out) exC_len rfl rfl ?_ ?_ ?_); (· kernel_rfl); (· kernel_rfl)) | ((with_reducible refine at_dst 28 ?_); go_simp; (have hc := IH.out y n (hyo.ext E.low) hsz ⟨hn0, hn1⟩); ((with_reducible refine hc.mono ?_)); clear hc; unfold IPost; rw [HC.out]; rintro e wn ⟨rfl, hx⟩; (try replace E := E.ext hx); (try replace b2 := b2.ext hx); (try replace hcE := bcell E.low); (try replace c2 := b2.cf)))
      by_cases hrn : r < 0
      · have hVr : V = -1 := by rw [← HT.out, if_pos hrn]
        subst hVr
        go_upto_region 9999 with (first | fail)
        go_ret
        exact ⟨rfl, E.low⟩
      · have HT2 : Hid (cnts (x.kids.drop (j + 1)) r = V) := Lib.hid (by rw [← HT.out, if_neg hrn])
        clear HT
        go_upto_region 9999 with (first | fail)
        try simp only [← hgo]
        clear hgo
        go_roundw
        case rel => exact ⟨_, _, _, _, ⟨j + 1, by go_num, by omega, r, rfl, HT2, by omega, by omega⟩, rfl, rfl, rfl, rfl⟩
        case measure => simp [intOf]; omega
    · have hz2 : n = V := by
        have := HS.out
        rw [List.drop_of_length_le (by omega), cnts] at this
        exact this
      subst hz2
      go_upto_region 9999 with (first | fail)
      go_ret
      exact ⟨rfl, E.low⟩
theorem count_any : ∀ N : Nat, CountOk N
 | 0 => fun _ _ _ _ hz _ => absurd hz (Nat.not_lt_zero _)
 | N + 1 => count_step (Lib.hid (count_any N))
theorem few_any {w : World} {x : Ex} (hxo : x.ok w) (i : Int) (hi : -9000000000000000000 ≤ i ∧ i ≤ 9000000000000000000) : Calls Try.prog 4 #[.agg (exC x).toArray, .int .i64 i] w (BPost (decide (0 ≤ cntE x i)) w) := by
 go_enter Try.func4, Try.ntmps4
 have E := Only.refl [] w
 go_upto_region 9999 with (first | ((first | ((with_reducible refine at_dst 7 ?_); go_simp; (have hc := count_any (x.sz + 1) x i (hxo.ext E.low) (Nat.lt_succ_self _) hi); (first | with_reducible refine hc.mono ?_ | refine hc.mono ?_); clear hc; unfold IPost; rintro e wn ⟨rfl, hx⟩) | ((with_reducible refine at_dst 2 ?_); go_simp; (generalize hXn : Array.size (World.heap _) = X2); refine new_block hXn ?_; intro wn bb hx; have b2 := Loc.new bb E hXn; have zz := Nat.le_trans E.size (Nat.le_of_eq hXn); clear bb hXn)); (try replace E := E.ext hx); (try replace b2 := b2.ext hx); (try replace hcE := bcell E.low); (try replace c2 := b2.cf)) | ((with_reducible refine at_dst 5 ?_); (refine wp_all b2.blk rfl rfl ?_ ?_ ?_); (· kernel_rfl); (· kernel_rfl)))
 go_ret
 exact ⟨rfl, E.low⟩
open Go.RowKit Tk
theorem info_ex : (Try.prog.info? 28).map (fun i => (i.zero, i.size, i.bytes)) = some (some (.agg (exC zX).toArray), 10, 112) := by kernel_rfl
theorem und_kids : Try.prog.underlying 26 = some (.slice 28) := by kernel_rfl
theorem bclone_any {w : World} {a : Option Addr} {c : Nat} {xs : List ByteArray} (h : Reads w (.slice a xs.length c) xs) (hx : xs.length ≤ 1000000000000) :
    Calls Try.prog 47 #[.slice a xs.length c] w fun e w' => ∃ a' c', e = .returned (.slice a' xs.length c') ∧ OwnR w w' 9 1 strC (.slice a' xs.length c') xs ∧ Ext w w' := by
 cases a with
 | none =>
   obtain ⟨rfl, hn⟩ := RRow.none_nil h
   refine (Try.slices_Clone_string_nil 0 c w).mono ?_
   rintro e w' ⟨rfl, rfl⟩
   exact ⟨none, 0, rfl, OwnR.nil w' w' _ 1 strC, Ext.refl _⟩
 | some ad =>
   have done : ∀ (e : Ending) (w' : World), (∃ v', e = .returned v' ∧ w'.ownsRow w.heap.size 9 1 v' xs.length (xs.map Value.string) ∧ v' ≠ .slice none 0 0 ∧ Below w.heap.size w w') → ∃ a' c', e = .returned (.slice a' xs.length c') ∧ OwnR w w' 9 1 strC (.slice a' xs.length c') xs ∧ Ext w w' := fun e w' ⟨v', he, ho, hv, hb⟩ => by
    have hr : Row w' v' xs := own_base ho (Nat.zero_le _)
    obtain ⟨a', c', rfl, -⟩ := ORow.len hr.o
    exact ⟨a', c', he, ⟨hr.o, fun b hb => (World.ownsRow.lt ho b (mem_ownB.1 hb)).1⟩, hb⟩
   by_cases h0 : xs.length = 0
   · have : xs = [] := List.eq_nil_of_length_eq_zero h0
     subst this
     exact (Try.slices_Clone_string_zero ad c w).mono fun e w' he => done e w' he
   · obtain ⟨g, o, ha, hg, -⟩ := Reads.cells h (show 0 < xs.length by omega)
     injection ha with ha
     subst ha
     have hc : ∀ j, j < xs.length → w.cell? ⟨g, o + j, none⟩ = some (.string (xs.getD j ByteArray.empty)) := fun j hj => by
      obtain ⟨g', o', e', -, k⟩ := Reads.cells h hj
      injection e' with e'
      injection e' with e1 e2 _
      subst e1 e2
      rw [k, List.getD_eq_getElem?_getD, List.getElem?_eq_getElem hj]; rfl
     have := Try.slices_Clone_string g o xs.length c xs w (Nat.le_refl _) (by omega) hc
     rw [List.take_length] at this
     exact this.mono fun e w' he => done e w' he
section
variable {w0 w w1 : World} {X : Nat} {F : List Nat}
theorem nil_own (X : Nat) : X ∉ ownB (.slice Option.none 0 0) := by simp [ownB, Value.ownBlock]
theorem AppPost.notin {α : Type} {t : TypeId} {k : Nat} {f : α → List Value} {u v' : Value} {zs : List α} (h : X ∉ ownB u) (hl : X < w.heap.size) (hA : AppPost w w1 t k f u v' zs) : X ∉ ownB v' := fun hm => by
 have hm' := mem_ownB.1 hm
 rcases hA.lies with h1 | h1
 · exact h (mem_ownB.2 (h1 ▸ hm'))
 · rw [h1] at hm'
   injection hm' with e
   omega
theorem Loc.growX {α : Type} {t t2 : TypeId} {k : Nat} {cs : Array Value} {f : α → List Value} {u v' : Value} {zs : List α} (b : Loc F w0 w X t cs) (h : X ∉ ownB u) (hA : AppPost w w1 t2 k f u v' zs) : Loc F w0 w1 X t cs :=
 ⟨b.blk.grown hA.grown fun h1 => h (mem_ownB.2 h1.symm), b.may⟩
theorem ORow.growT {α β : Type} {t t2 : TypeId} {k k2 : Nat} {f : α → List Value} {f2 : β → List Value} {v v2 v' : Value} {xs : List α} {ys zs : List β} (h : ORow w t k f v xs) (r : ORow w t2 k2 f2 v2 ys) (hA : AppPost w w1 t2 k2 f2 v2 v' zs) (hne : t ≠ t2) : ORow w1 t k f v xs :=
 h.kept fun x hx => hA.grown.block x (h.lt hx) fun e => by
  obtain ⟨hl, ⟨e1, e2⟩ | ⟨g, cap, cur, e1, hb, hg, h2⟩⟩ := r
  · subst e1; simp [Value.ownBlock] at e
  · subst e1
    have : x = g := by simpa [Value.ownBlock] using e
    subst this
    exact h.ne (show Blk w x t2 cur from hg) hne (mem_ownB.2 hx)
theorem OwnR.grow {α β : Type} {wa : World} {t t2 : TypeId} {k k2 : Nat} {f : α → List Value} {f2 : β → List Value} {v v2 v' : Value} {xs : List α} {ys zs : List β} (h : OwnR w0 w t k f v xs) (r : OwnR wa w t2 k2 f2 v2 ys) (hA : AppPost w w1 t2 k2 f2 v2 v' zs) (hne : t ≠ t2) : OwnR w0 w1 t k f v xs := ⟨h.row.growT r.row hA hne, h.new⟩
end
/-! ### trees that lie apart from blocks -/
structure Trees (bs : List Nat) (w : World) (L : List Ex) : Prop where
 ok : Ex.oks w L
 away : ∀ b ∈ bs, Ex.aways b L
section
variable {bs : List Nat} {w w1 : World} {L : List Ex} {X : Nat}
theorem Trees.ext (h : Trees bs w L) (hx : Ext w w1) : Trees bs w1 L := ⟨Ex.oks.ext hx h.ok, h.away⟩
theorem Trees.nil (bs : List Nat) (w : World) : Trees bs w [] := ⟨by unfold Ex.oks; trivial, fun _ _ => by unfold Ex.aways; trivial⟩
theorem Trees.notin (h : Trees bs w L) (hX : w.heap.size ≤ X) : Ex.aways X L := Ex.oks.notin hX h.ok
theorem Trees.but0 (h : Trees bs w L) (hb : But X w w1) (hm : Ex.aways X L) : Trees bs w1 L := ⟨Ex.oks.only (Only.of_but hb (List.mem_singleton.2 rfl)) h.ok hm, h.away⟩
theorem Trees.with (h : Trees bs w L) (hm : Ex.aways X L) : Trees (X :: bs) w L := ⟨h.ok, fun b hb => (List.mem_cons.1 hb).elim (fun e => e ▸ hm) (h.away b)⟩
theorem Trees.sub {cs : List Nat} (h : Trees bs w L) (hs : ∀ b ∈ cs, b ∈ bs) : Trees cs w L := ⟨h.ok, fun b hb => h.away b (hs b hb)⟩
theorem aways_app {p : Nat} : ∀ {l : List Ex} {y : Ex}, Ex.aways p l → y.away p → Ex.aways p (l ++ [y])
 | [], y, _, hy => aways1 hy
 | e :: l, y, h, hy => by
   unfold Ex.aways at h
   rw [List.cons_append]
   unfold Ex.aways
   exact ⟨h.1, aways_app h.2 hy⟩
theorem oks_app {w : World} : ∀ {l : List Ex} {y : Ex}, Ex.oks w l → y.ok w → Ex.oks w (l ++ [y])
 | [], y, _, hy => oks1 hy
 | e :: l, y, h, hy => by
   unfold Ex.oks at h
   rw [List.cons_append]
   unfold Ex.oks
   exact ⟨h.1, oks_app h.2 hy⟩
theorem frs_app {N : Nat} : ∀ {l : List Ex} {y : Ex}, Ex.frs N l → y.fr N → Ex.frs N (l ++ [y])
 | [], y, _, hy => frs1 hy
 | e :: l, y, h, hy => by
   unfold Ex.frs at h
   rw [List.cons_append]
   unfold Ex.frs
   exact ⟨h.1, frs_app h.2 hy⟩
theorem Trees.snoc {y : Ex} (h : Trees bs w L) (hy : y.ok w) (ha : ∀ b ∈ bs, y.away b) : Trees bs w (L ++ [y]) := ⟨oks_app h.ok hy, fun b hb => aways_app (h.away b hb) (ha b hb)⟩
/-- trees, and a row of expressions that grows apart from them -/
theorem Trees.growA {α : Type} {t : TypeId} {k : Nat} {f : α → List Value} {u v' : Value} {zs : List α} (h : Trees bs w L) (hu : ∀ b ∈ ownB u, Ex.aways b L) (hA : AppPost w w1 t k f u v' zs) : Trees bs w1 L ∧ ∀ b ∈ ownB v', Ex.aways b L := by
 have hO : ∀ {b : Nat}, b ∈ ownB u → Ex.aways b L := fun hb => hu _ hb
 refine ⟨⟨?_, h.away⟩, fun b hb => ?_⟩
 · rcases hq : ownB u with _ | ⟨g, r⟩
   · refine Ex.oks.ext (Only.grown (Only.of_grown (F := []) hA.grown fun b hb => ?_) rfl) h.ok
     have := mem_ownB.2 hb
     rw [hq] at this
     exact this
   · have hg : Only [g] w w1 := Only.of_grown (F := [g]) hA.grown fun b hb => by
       have h1 : g ∈ ownB u := by rw [hq]; exact .head _
       have h2 := mem_ownB.1 h1
       rw [hb] at h2
       injection h2 with h2
       rw [h2]; exact .head _
     exact Ex.oks.only hg h.ok (hO (by rw [hq]; exact .head _))
 · have hb' := mem_ownB.1 hb
   rcases hA.lies with h1 | h1
   · exact hu b (mem_ownB.2 (h1 ▸ hb'))
   · rw [h1] at hb'
     injection hb' with e
     exact h.notin (Nat.le_of_eq e)
end
open Go.RowKit Tk
def u64C (n : Nat) : List Value := [.int .u64 n]
theorem u64C_len (n : Nat) : (u64C n).length = 1 := rfl
theorem u64C_one (n : Nat) : ∀ c ∈ u64C n, Value.oneCell' c = true := by intro c hc; simp [u64C] at hc; subst hc; rfl
theorem made_list (z : Value) (n : Nat) : madeCells #[z] n = (List.replicate n z).toArray := by
 apply Array.ext'
 simp [madeCells]
 apply List.ext_getElem <;> simp [Nat.mod_one]
theorem info_u64 : (Try.prog.info? 23).map (fun i => (i.zero, i.size, i.bytes)) = some (some (.int .u64 0), 1, 8) := by kernel_rfl
theorem und_u64s : Try.prog.underlying 72 = some (.slice 23) := by kernel_rfl
theorem len_int {n : Nat} (h : n ≤ 16) : max 1 (wrap64 ((wrap64 ((2 : Int) ^ n)).tdiv 64)) = (lenT n : Nat) := by
 have key : ∀ m : Fin 17, max 1 (wrap64 ((wrap64 ((2 : Int) ^ m.val)).tdiv 64)) = (lenT m.val : Nat) := by decide +kernel
 exact key ⟨n, by omega⟩
theorem lenT_le {n : Nat} (h : n ≤ 16) : 1 ≤ lenT n ∧ lenT n ≤ 1024 := by
 have key : ∀ m : Fin 17, 1 ≤ lenT m.val ∧ lenT m.val ≤ 1024 := by decide +kernel
 exact key ⟨n, by omega⟩
theorem mk_u64 {n : Nat} (hn : n ≤ 16) (w : World) : (Instr.makeSlice 72 (.int .i64 (max 1 (wrap64 ((wrap64 ((2 : Int) ^ n)).tdiv 64)))) (.int .i64 (max 1 (wrap64 ((wrap64 ((2 : Int) ^ n)).tdiv 64))))).run Try.prog w =
    .ok (.slice (some ⟨w.heap.size, 0, none⟩) (lenT n) (lenT n)) (w.alloc (.cells (List.replicate (lenT n) (Value.int .u64 0)).toArray 23)) := by
 have hl := lenT_le hn
 have hmk := run_make_row' (P := Try.prog) 72 23 (.int .u64 0) 8 und_u64s info_u64 rfl .i64 .i64 (lenT n) (by omega) (by omega) w
 rw [made_list] at hmk
 rw [len_int hn]
 exact hmk
/-! ### a column while it is made -/
def bitF (i W : Nat) (k : Nat) : Bool := (64 * W + k).testBit i
def colL (len i W k : Nat) : List Nat := (List.range len).map fun v => if v < W then tw64 (fun r => r.testBit i) v else if v = W then wdF (bitF i W) k else 0
theorem colL_len (len i W k : Nat) : (colL len i W k).length = len := by unfold colL; simp
theorem colL_start (len i : Nat) : colL len i 0 0 = List.replicate len 0 := by
 unfold colL
 apply List.ext_getElem
 · simp
 · intro v h1 h2
   simp [wdF]
theorem colL_at {len i W k : Nat} (h : W < len) : (colL len i W k)[W]? = some (wdF (bitF i W) k) := by unfold colL; simp [h]
theorem colL_set {len i W k : Nat} (h : W < len) : (colL len i W k).set W (wdF (bitF i W) (k + 1)) = colL len i W (k + 1) := by
 apply List.ext_getElem
 · simp [colL_len]
 · intro v h1 h2
   rw [List.getElem_set]
   by_cases hv : W = v
   · subst hv; simp [colL]
   · rw [if_neg hv]; simp [colL, show ¬ v = W from fun e => hv e.symm]
theorem colL_keep {len i W k : Nat} (hb : bitF i W k = false) : colL len i W (k + 1) = colL len i W k := by
 unfold colL
 have : wdF (bitF i W) (k + 1) = wdF (bitF i W) k := by rw [wdF, hb]; rfl
 rw [this]
theorem colL_next (len i W : Nat) : colL len i W 64 = colL len i (W + 1) 0 := by
 unfold colL
 apply List.map_congr_left
 intro v _
 by_cases h1 : v < W
 · rw [if_pos h1, if_pos (by omega)]
 · rw [if_neg h1]
   by_cases h2 : v = W
   · subst h2
     rw [if_pos rfl, if_pos (by omega)]; rfl
   · rw [if_neg h2, if_neg (by omega)]
     split <;> rfl
theorem colL_end (len i : Nat) : colL len i len 0 = tabN (fun r => r.testBit i) len := by
 unfold colL tabN
 apply List.map_congr_left
 intro v hv
 rw [if_pos (List.mem_range.1 hv)]
def TabPost (w : World) (xs : List Nat) (e : Ending) (w' : World) : Prop := ∃ X, e = .returned (.slice (some ⟨X, 0, none⟩) xs.length xs.length) ∧ OwnR w w' 23 1 u64C (.slice (some ⟨X, 0, none⟩) xs.length xs.length) xs ∧ Ext w w'
theorem u64_at {w0 w : World} {X n c W y : Nat} {xs : List Nat} (r : OwnR w0 w 23 1 u64C (.slice (some ⟨X, 0, none⟩) n c) xs) (h : xs[W]? = some y) : w.cell? ⟨X, W, none⟩ = some (.int .u64 y) := by
 obtain ⟨hi, e⟩ := List.getElem?_eq_some_iff.1 h
 obtain ⟨g, o, hgo, hg, hcl⟩ := RRow.cells (r.row.reads u64C_len) hi
 injection hgo with hgo
 injection hgo with e1 e2 _
 subst e1 e2
 have k0 := hcl 0 (by decide)
 rw [e] at k0
 simpa [u64C] using k0
theorem wp_put_u64 {P : Program} {w0 w : World} {o : Oper} {a : Act} {K : Act → World → Prop} {Q : Exit → Act → World → Prop} {ty : TypeId} {x y : Operand} {g n c i z' : Nat} {xs : List Nat} (z : Nat) (r : OwnR w0 w 23 1 u64C (.slice (some ⟨g, 0, none⟩) n c) xs) (hi' : xs[i]? = some z')
    (ho : o.op = .store ty x y) (hx : a.eval x = .pointer (some ⟨g, i, none⟩)) (hy : a.eval y = .int .u64 z) (hi : (P.info? ty).map (·.size) = some 1)
    (h : ∀ w', OwnR w0 w' 23 1 u64C (.slice (some ⟨g, 0, none⟩) n c) (xs.set i z) → But g w w' → K (a.put o.dst undef) w') : o.wp P a w K Q :=
 wp_put_row z r u64C_len u64C_one (List.getElem?_eq_some_iff.1 hi').1 ho (by rw [hx, Nat.mul_one]) (by rw [hy]; rfl) hi h
theorem i64_and1 (n : Int) : bits .and .i64 n 1 = n % 2 := by
 have h1 : (BitVec.ofInt 64 n).toNat = (n % 18446744073709551616).toNat := by simp [BitVec.toNat_ofInt]
 have hb : (BitVec.ofInt 64 (1 : Int)).toNat = 1 := rfl
 have h : bits .and .i64 n 1 = IntKind.i64.wrap (((BitVec.ofInt 64 n) &&& (BitVec.ofInt 64 (1 : Int))).toNat : Int) := rfl
 rw [h, BitVec.toNat_and, h1, hb, Nat.and_one_is_mod, IntKind.wrap_i64]
 omega
theorem bit_int (i W k : Nat) : (bits .and .i64 (((W : Int) * 64 + k) / 2 ^ i) 1 == 1) = bitF i W k := by
 rw [i64_and1]
 unfold bitF
 rw [Nat.testBit_eq_decide_div_mod_eq]
 have e : ((W : Int) * 64 + k) / 2 ^ i = (((64 * W + k) / 2 ^ i : Nat) : Int) := by
  rw [Int.natCast_ediv, Int.natCast_pow]
  congr 1
  omega
 rw [e]
 generalize (64 * W + k) / 2 ^ i = m
 rcases Nat.mod_two_eq_zero_or_one m with h | h
 · rw [decide_eq_false (by omega)]
   simp; omega
 · rw [decide_eq_true h]
   simp; omega
theorem or_bit {f : Nat → Bool} {k : Nat} (hf : f k = true) (hk : k < 64) : bits .or .u64 (wdF f k : Nat) (IntKind.u64.wrap (2 ^ k)) = (wdF f (k + 1) : Nat) := by
 have h2 : (2 : Nat) ^ k < 18446744073709551616 := Nat.pow_lt_pow_right (by decide) hk
 have h1 : wdF f k < 18446744073709551616 := Nat.lt_trans (wdF_lt f k) h2
 have e : IntKind.u64.wrap ((2 : Int) ^ k) = ((2 ^ k : Nat) : Int) := by
  rw [IntKind.wrap_u64, show ((2 : Int) ^ k) = ((2 ^ k : Nat) : Int) by rw [Int.natCast_pow]; rfl]
  exact Int.emod_eq_of_lt (Int.natCast_nonneg _) (Int.ofNat_lt.2 h2)
 rw [e, bits_or_u64_nat _ _ h1 h2, wdF, if_pos hf]
theorem bcolumn_any {w : World} {i n : Nat} (hi : i < n) (hn : n ≤ 16) : Calls Try.prog 50 #[.int .i64 i, .int .i64 n] w (TabPost w (tabN (fun r => r.testBit i) (lenT n))) := by
 have hmk := mk_u64 hn w
 have hl := lenT_le hn
 obtain ⟨len, hlen⟩ : ∃ len, lenT n = len := ⟨_, rfl⟩
 rw [hlen] at hl hmk ⊢
 obtain ⟨hl1, hl2⟩ := hl
 go_enter Try.func50, Try.ntmps50
 go_upto_region 3 with (first | fail)
 obtain ⟨X, hX⟩ : ∃ X, w.heap.size = X := ⟨_, rfl⟩
 have hb : Blk (w.alloc (.cells (Array.replicate len (Value.int .u64 0)) 23)) w.heap.size 23 (Array.replicate len (Value.int .u64 0)) := Blk.fresh w _ _
 have hx : Ext w (w.alloc (.cells (Array.replicate len (Value.int .u64 0)) 23)) := Ext.alloc w _
 generalize hwn : w.alloc (.cells (Array.replicate len (Value.int .u64 0)) 23) = wn at hb hx ⊢
 rw [hX] at hb ⊢
 have E := (Only.refl [] w).ext hx
 have b12 : Loc [] w wn X 23 (Array.replicate len (Value.int .u64 0)) := ⟨hb, .inr (Nat.le_of_eq hX)⟩
 have r0 : OwnR w wn 23 1 u64C (.slice (some ⟨X, 0, none⟩) len len) (colL len i 0 0) := by
  have := OwnR.ofBlk (k := 1) (f := u64C) (xs := colL len i 0 0) b12 rfl u64C_len (by rw [colL_start]; simp [u64C, List.flatMap_replicate]) (by rw [colL_len]; unfold maxLen; omega)
  rwa [colL_len] at this
 clear hmk hwn hb b12 hx
 go_loopw [15] (fun v wr => ∃ W : Nat, v = .int .i64 W ∧ W ≤ len ∧ Only [] w wr ∧ OwnR w wr 23 1 u64C (.slice (some ⟨X, 0, none⟩) len len) (colL len i W 0)) (fun v _ => len - (intOf v).toNat)
 case atStart => exact ⟨0, rfl, Nat.zero_le _, E, r0⟩
 case round =>
  clear E r0
  obtain ⟨W, rfl, hW, E, r0⟩ := hrel
  by_cases hlt : W < len
  · obtain ⟨wo, hwo⟩ : ∃ wo, wo = wr := ⟨_, rfl⟩
    subst hwo
    go_upto_region 6 with (first | fail)
    go_loopw [18] (fun v wr => ∃ k : Nat, v = .int .i64 k ∧ k ≤ 64 ∧ Only [] w wr ∧ OwnR w wr 23 1 u64C (.slice (some ⟨X, 0, none⟩) len len) (colL len i W k)) (fun v _ => 64 - (intOf v).toNat)
    case atStart => exact ⟨0, rfl, Nat.zero_le _, E, r0⟩
    case round =>
     clear E r0
     obtain ⟨k, rfl, hk, E, r0⟩ := hrel
     by_cases hkt : k < 64
     · have HK1 := Lib.hid (colL_at (i := i) (k := k) hlt)
       have k1 := u64_at r0 HK1.out
       have g1 := bit_int i W k
       obtain ⟨b, hb⟩ : ∃ b, bitF i W k = b := ⟨_, rfl⟩
       rw [hb] at g1
       have HB := Lib.hid hb
       cases b with
       | true =>
         have g2 := or_bit hb hkt
         clear hb
         go_upto_region 9999 with (first | ((with_reducible refine at_store 36 ?_); (refine wp_put_u64 (wdF (bitF i W) (k + 1)) r0 HK1.out rfl rfl ?_ ?_ ?_); (· first | rfl | exact congrArg (Value.int .u64) g2); (· kernel_rfl); intro wn rn hb; have E2 := r0.put E hb; clear E r0; have E := E2; clear E2; have r0 := rn; clear rn hb; dsimp only [Act.put]; (try replace hcE := bcell E.low); (try clear k1)) | ((with_reducible refine at_reg 9 ?_); (refine wp_region_x (id := 9) (spOf []) [0, 1, 2, 3, 4, 5, 6, 7] [] [8] mixed ?_ ?_); (· decide +kernel); intro K ws hx hK; (try replace E := E.ext hx); (try replace r0 := r0.ext hx); (try replace hcE := bcell E.low); (try clear k1); (try have k1 := u64_at r0 HK1.out); dsimp only [pickE, pickL, List.getElem?_cons_succ, List.getElem?_cons_zero] at hK ⊢) | ((with_reducible refine wpE_q ?_ ?_ ?_); rfl; rfl; intro wq hq _ _; (try replace hcE := bcell (E.ext hq).low); (try clear k1); (try have k1 := u64_at (r0.ext hq) HK1.out)) | ((with_reducible refine at_nil 0 ?_); refine wpE_nil (fun wn hx hΦ hfp hdis => ?_); (try replace E := E.ext hx); (try replace r0 := r0.ext hx); (try replace hcE := bcell E.low); (try clear k1); (try have k1 := u64_at r0 HK1.out); clear hΦ hfp hdis; refine hK _ _ ?_; clear hK) | ((with_reducible refine wpTxt_w0 ?_ ?_ ?_); rfl; rfl; intro _ _) | (with_reducible refine wpTxt_nil ?_))
         go_roundw
         case rel => exact ⟨k + 1, by go_num, by omega, E, by rw [← colL_set hlt]; exact r0⟩
         case measure => simp [intOf]; omega
       | false =>
         clear hb
         go_upto_region 9999 with (first | fail)
         go_roundw
         case rel => exact ⟨k + 1, by go_num, by omega, E, by rw [colL_keep HB.out]; exact r0⟩
         case measure => simp [intOf]; omega
     · have hk64 : k = 64 := by omega
       subst hk64
       rw [colL_next] at r0
       go_upto_region 9999 with (first | fail)
       go_roundw
       case rel => exact ⟨W + 1, by go_num, by omega, E, r0⟩
       case measure => simp [intOf]; omega
  · have hWl : W = len := by omega
    subst hWl
    rw [colL_end] at r0
    go_upto_region 9999 with (first | fail)
    go_ret
    have e := tabN_len (fun r => r.testBit i) W
    refine ⟨X, by rw [e]; rfl, by rw [e]; exact r0, E.low⟩
open Go.RowKit Tk
theorem idx_from {x : ByteArray} : ∀ {zs : List ByteArray} (i : Nat), x ∈ zs → Lib.idxFromS zs x i = ((i + idxN x zs : Nat) : Int)
 | z :: zs, i, h => by
   rw [Lib.idxFromS, idxN]
   by_cases hz : z = x
   · rw [if_pos hz, if_pos hz]; rfl
   · rw [if_neg hz, if_neg hz, idx_from (i + 1) ((List.mem_cons.1 h).resolve_left fun e => hz e.symm)]
     congr 1; omega
theorem idx_lt {x : ByteArray} : ∀ {zs : List ByteArray}, x ∈ zs → idxN x zs < zs.length
 | z :: zs, h => by
   rw [idxN]
   by_cases hz : z = x
   · rw [if_pos hz]; simp
   · rw [if_neg hz]
     have := idx_lt ((List.mem_cons.1 h).resolve_left fun e => hz e.symm)
     simp; omega
theorem bindex_any {w : World} {a : Option Addr} {c : Nat} {xs : List ByteArray} (h : Reads w (.slice a xs.length c) xs) {s : ByteArray} (hs : s ∈ xs) :
    Calls Try.prog 51 #[.slice a xs.length c, .string s] w (IPost (idxN s xs : Nat) w) := by
 have h0 : 0 < xs.length := by cases xs with
  | nil => cases hs
  | cons y l => simp
 obtain ⟨g, o, rfl, hg, -⟩ := h.cells h0
 have hc : ∀ j, j < xs.length → w.cell? ⟨g, o + j, none⟩ = some (.string (xs.getD j ByteArray.empty)) := fun j hj => by
  obtain ⟨g', o', e', -, k⟩ := Reads.cells h hj
  injection e' with e'
  injection e' with e1 e2 _
  subst e1 e2
  rw [k, List.getD_eq_getElem?_getD, List.getElem?_eq_getElem hj]; rfl
 have := Try.slices_Index_string g o xs.length c xs s w (Nat.le_refl _) h.lens.2 hc
 rw [List.take_length] at this
 refine this.mono ?_
 rintro e w' ⟨rfl, rfl⟩
 refine ⟨?_, Ext.refl _⟩
 unfold Lib.idxOfS
 rw [idx_from 0 hs, Nat.zero_add]
/-- a list, its first j elements those of another -/
def mixL (xs ys : List Nat) (j : Nat) : List Nat := ys.take j ++ xs.drop j
theorem mix_end {xs ys : List Nat} (h : ys.length = xs.length) : mixL xs ys xs.length = ys := by
 unfold mixL; rw [List.drop_length, List.append_nil, List.take_of_length_le (by omega)]
theorem mix_at {xs ys : List Nat} {j : Nat} (h : ys.length = xs.length) (hj : j < xs.length) : (mixL xs ys j)[j]? = xs[j]? := by
 unfold mixL
 rw [List.getElem?_append_right (by rw [List.length_take]; omega), List.length_take, List.getElem?_drop]
 congr 1; omega
theorem mix_set {xs ys : List Nat} {j z : Nat} (h : ys.length = xs.length) (hj : j < xs.length) (hz : ys[j]? = some z) : (mixL xs ys j).set j z = mixL xs ys (j + 1) := by
 unfold mixL
 have hl : (ys.take j).length = j := by rw [List.length_take]; omega
 rw [List.set_append_right _ _ (by omega), hl, Nat.sub_self, drop_at (List.getElem?_eq_getElem hj), List.set_cons_zero]
 rw [List.take_add_one, hz]
 simp
theorem OwnR.back {α : Type} {w0 w1 w : World} {t : TypeId} {k : Nat} {f : α → List Value} {v : Value} {xs : List α} (h : OwnR w1 w t k f v xs) (hs : w0.heap.size ≤ w1.heap.size) : OwnR w0 w t k f v xs := ⟨h.row, fun b hb => Nat.le_trans hs (h.new b hb)⟩
theorem row_name {ns : List ByteArray} {x : Ex} {nm : ByteArray} (hop : x.h.op = 1) (hn : x.h.names = [nm]) (hm : nm ∈ ns) : (fun r => r.testBit (idxN nm ns)) = rowV ns x := funext fun r => by
 unfold rowV
 rw [valE_eq, hn, show firstN [nm] = nm from rfl, numb_val hm]
 unfold bodyV
 rw [if_pos hop]; rfl
theorem row_not {ns : List ByteArray} {x a : Ex} (hop : x.h.op = 2) (hk : x.kids = [a]) (r : Nat) : rowV ns x r = !rowV ns a r := by
 unfold rowV
 rw [valE_eq, hk]
 unfold bodyV
 rw [if_neg (by omega), if_pos hop]; rfl
theorem row_two {ns : List ByteArray} {x a b : Ex} (h1 : ¬ x.h.op = 1) (h2 : ¬ x.h.op = 2) (hk : x.kids = [a, b]) (r : Nat) : rowV ns x r = opB x.h.op (rowV ns a r) (rowV ns b r) := by
 unfold rowV
 rw [valE_eq, hk]
 unfold bodyV
 rw [if_neg h1, if_neg h2]; rfl
theorem not_word (F : Nat → Bool) (W : Nat) : bits .xor .u64 IntKind.u64.max (tw64 F W : Nat) = (tw64 (fun r => !F r) W : Nat) := by
 have := wd_not fun k => F (64 * W + k)
 unfold wNot at this
 exact this
@[reducible] def TabOk (N : Nat) : Prop := ∀ (x : Ex) {w : World} {na : Option Addr} {nc : Nat} {ns : List ByteArray}, Reads w (.slice na ns.length nc) ns → x.ok w → x.wf → x.sz < N → ns.length ≤ 16 → (∀ n ∈ namesE x, n ∈ ns) → Calls Try.prog 31 #[.agg (exC x).toArray, .slice na ns.length nc] w (TabPost w (tabN (rowV ns x) (lenT ns.length)))
theorem btable_name (x : Ex) {w : World} {na : Option Addr} {nc : Nat} {ns : List ByteArray} (hns : Reads w (.slice na ns.length nc) ns) (hok : x.ok w) (hwf : x.wf) (hop : x.h.op = 1) (hn16 : ns.length ≤ 16) (hall : ∀ n ∈ namesE x, n ∈ ns) :
    Calls Try.prog 31 #[.agg (exC x).toArray, .slice na ns.length nc] w (TabPost w (tabN (rowV ns x) (lenT ns.length))) := by
 have hnm := hwf.names
 rw [hop, show namedE 1 = 1 from rfl] at hnm
 have n3 := (Reads.lens hok.names).2
 have hlt : 0 < x.h.names.length := by omega
 obtain ⟨nm, hnm2⟩ : ∃ nm, x.h.names = [nm] := by
  have h8 : x.h.names.length = 1 := by omega
  match hq : x.h.names, h8 with
  | [nm], _ => exact ⟨nm, rfl⟩
 obtain ⟨gg, oo, hgo, hg, k0⟩ := hok.names.cells hlt
 have hn0 : x.h.names[0] = nm := by simp [hnm2]
 rw [hn0, Nat.add_zero] at k0
 have hmem := hall nm (by rw [namesE_eq, hnm2]; simp)
 have hidx := idx_lt hmem
 have HF : Hid ((fun r => Nat.testBit r (idxN nm ns)) = rowV ns x) := Lib.hid (row_name hop hnm2 hmem)
 have HNM := Lib.hid hnm2
 have HOP := Lib.hid hop
 obtain ⟨s1, s2⟩ := kd_t hop
 clear hnm2 hn0 hnm hall hop
 go_enter Try.func31, Try.ntmps31
 have E := Only.refl [] w
 go_upto_region 9999 with (first | ((first | ((with_reducible refine at_dst 18 ?_); go_simp; (have hc := bindex_any (hns.ext E.low) hmem); (first | with_reducible refine hc.mono ?_ | refine hc.mono ?_); clear hc; unfold IPost; rintro e wn ⟨rfl, hx⟩) | ((with_reducible refine at_dst 21 ?_); go_simp; ((with_reducible refine (bcolumn_any hidx hn16).mono ?_)); unfold TabPost; rw [HF.out]; rintro e wn ⟨X21, rfl, r21, hx⟩; replace r21 := r21.back E.size) | ((with_reducible refine at_dst 2 ?_); go_simp; (generalize hXn : Array.size (World.heap _) = X2); refine new_block hXn ?_; intro wn bb hx; have b2 := Loc.new bb E hXn; have zz := Nat.le_trans E.size (Nat.le_of_eq hXn); clear bb hXn)); (try replace E := E.ext hx); (try replace b2 := b2.ext hx); (try replace hcE := bcell E.low); (try replace c2 := b2.cf)))
 go_ret
 exact ⟨X21, rfl, r21, E.low⟩
theorem btable_not {N : Nat} (IH : Hid (TabOk N)) (x : Ex) {w : World} {na : Option Addr} {nc : Nat} {ns : List ByteArray} (hns : Reads w (.slice na ns.length nc) ns) (hok : x.ok w) (hwf : x.wf) (hz : x.sz < N + 1) (hop : x.h.op = 2) (hn16 : ns.length ≤ 16) (hall : ∀ n ∈ namesE x, n ∈ ns) :
    Calls Try.prog 31 #[.agg (exC x).toArray, .slice na ns.length nc] w (TabPost w (tabN (rowV ns x) (lenT ns.length))) := by
 rw [Ex.sz_kids] at hz
 have hk := hwf.kids
 rw [hop, show opn 2 = 1 from rfl] at hk
 have n2 := (RRow.lens hok.kids).2
 obtain ⟨a, hka⟩ : ∃ a, x.kids = [a] := by
  have h8 : x.kids.length = 1 := by omega
  match hq : x.kids, h8 with
  | [a], _ => exact ⟨a, rfl⟩
 have ham : a ∈ x.kids := by rw [hka]; simp
 have hao := hok.subs.mem ham
 have haw := hwf.subs.mem ham
 have HNA : Hid (∀ n ∈ namesE a, n ∈ ns) := Lib.hid fun n hn => hall n (names_mem ham hn)
 have hs1 : Ex.szs x.kids = a.sz := by rw [hka, Ex.szs, Ex.szs]; rfl
 have has : a.sz < N := by omega
 have hlt : 0 < x.kids.length := by omega
 obtain ⟨g, o, hgo, hg, -⟩ := RRow.cells hok.kids hlt
 have hkc : RRow w 10 exC (.slice (some ⟨g, o, none⟩) x.kids.length x.h.hk.c) x.kids := hgo ▸ hok.kids
 have H0 : Hid (x.kids[0]? = some a) := Lib.hid (by rw [hka]; rfl)
 have e1 : rowV ns x = fun r => !rowV ns a r := funext fun r => row_not hop hka r
 rw [e1]
 have hl := lenT_le hn16
 obtain ⟨len, hlen⟩ : ∃ len, lenT ns.length = len := ⟨_, rfl⟩
 rw [hlen] at hl ⊢
 obtain ⟨hl1, hl2⟩ := hl
 have HLEN := Lib.hid hlen
 have HKA := Lib.hid hka
 have HOP := Lib.hid hop
 have HY1 : Hid ((tabN (fun r => !rowV ns a r) len).length = (tabN (rowV ns a) len).length) := Lib.hid (by rw [tabN_len, tabN_len])
 have HY2 : Hid ((tabN (rowV ns a) len).length = len) := Lib.hid (tabN_len _ _)
 obtain ⟨s1, s2⟩ := kd_f (show ¬ x.h.op = 1 by omega)
 obtain ⟨s3, s4⟩ := kd_t hop
 clear hka hk hs1 hwf ham hop hall e1 hlen
 go_enter Try.func31, Try.ntmps31
 have E := Only.refl [] w
 go_upto_region 6 with (first | ((first | ((with_reducible refine at_dst 27 ?_); go_simp; (have hc := IH.out a (hns.ext E.low) (hao.ext E.low) haw has hn16 HNA.out); (first | with_reducible refine hc.mono ?_ | refine hc.mono ?_); clear hc; unfold TabPost; rw [tabN_len]; rintro e wn ⟨X27, rfl, r0, hx⟩; replace r0 := r0.back E.size) | ((with_reducible refine at_dst 2 ?_); go_simp; (generalize hXn : Array.size (World.heap _) = X2); refine new_block hXn ?_; intro wn bb hx; have b2 := Loc.new bb E hXn; have zz := Nat.le_trans E.size (Nat.le_of_eq hXn); clear bb hXn)); (try replace E := E.ext hx); (try replace b2 := b2.ext hx); (try replace hcE := bcell E.low); (try replace c2 := b2.cf)) | ((with_reducible refine at_dst 25 ?_); (refine wp_rec2 ((RRow.ext hkc E.low)) (H0.out) exC_len rfl rfl ?_ ?_ ?_); (· kernel_rfl); (· kernel_rfl)))
 have hr0 := r0
 rw [HLEN.out] at hr0
 clear r0
 have r0 : OwnR w wn 23 1 u64C (.slice (some ⟨X27, 0, none⟩) len len) (mixL (tabN (rowV ns a) len) (tabN (fun r => !rowV ns a r) len) 0) := hr0
 rw [HLEN.out]
 go_loopw [33] (fun v wr => ∃ W : Nat, v = .int .i64 W ∧ W ≤ len ∧ Only [] w wr ∧ OwnR w wr 23 1 u64C (.slice (some ⟨X27, 0, none⟩) len len) (mixL (tabN (rowV ns a) len) (tabN (fun r => !rowV ns a r) len) W)) (fun v _ => len - (intOf v).toNat)
 case atStart => exact ⟨0, rfl, Nat.zero_le _, E, r0⟩
 case round =>
  clear E r0 hr0
  (try clear b2 c2)
  obtain ⟨W, rfl, hW, E, r0⟩ := hrel
  by_cases hlt : W < len
  · have HK1 : Hid ((mixL (tabN (rowV ns a) len) (tabN (fun r => !rowV ns a r) len) W)[W]? = some (tw64 (rowV ns a) W)) := Lib.hid (by rw [mix_at HY1.out (by rw [HY2.out]; exact hlt)]; exact tabN_at _ hlt)
    have k1 := u64_at r0 HK1.out
    have g2 := not_word (rowV ns a) W
    go_upto_region 9999 with (first | ((with_reducible refine at_store 43 ?_); (refine wp_put_u64 (tw64 (fun r => !rowV ns a r) W) r0 HK1.out rfl rfl ?_ ?_ ?_); (· first | rfl | exact congrArg (Value.int .u64) g2); (· kernel_rfl); intro wn rn hb; have E2 := r0.put E hb; clear E r0; have E := E2; clear E2; have r0 := rn; clear rn hb; dsimp only [Act.put]; (try replace hcE := bcell E.low); (try clear k1)))
    go_roundw
    case rel => exact ⟨W + 1, by go_num, by omega, E, by rw [← mix_set HY1.out (by rw [HY2.out]; exact hlt) (tabN_at _ hlt)]; exact r0⟩
    case measure => simp [intOf]; omega
  · have hWl : W = len := by omega
    subst hWl
    have e2 : mixL (tabN (rowV ns a) W) (tabN (fun r => !rowV ns a r) W) W = tabN (fun r => !rowV ns a r) W := by
     have := mix_end HY1.out
     rwa [HY2.out] at this
    rw [e2] at r0
    clear e2
    go_upto_region 9999 with (first | fail)
    go_ret
    have e := tabN_len (fun r => !rowV ns a r) W
    refine ⟨X27, by rw [e]; rfl, by rw [e]; exact r0, E.low⟩
end Go.Proofs.Ytbobbbhgdfapjaa
