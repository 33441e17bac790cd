/- Hh, Hk, Hz, H6 -/
import Derived.Test.YtbobbbhgdfapjaaZR1
import Derived.Test.YtbobbbhgdfapjaaZR2
import Derived.Test.YtbobbbhgdfapjaaZR3
import Derived.Test.YtbobbbhgdfapjaaZR4
import Derived.Test.YtbobbbhgdfapjaaZR5
import Derived.Test.YtbobbbhgdfapjaaZR6
import Derived.Test.YtbobbbhgdfapjaaZR7
import Derived.Test.YtbobbbhgdfapjaaZR8
set_option linter.unusedSimpArgs false
set_option linter.unusedVariables false
namespace Go.Proofs.Ytbobbbhgdfapjaa
set_option maxHeartbeats 8000000
set_option maxRecDepth 100000
open Go.RowKit Tk
theorem bvalue_name (x : Ex) {w : World} {la : Option Addr} {ln lc : Nat} {l : List (ByteArray × Bool)} (hl : RRow w 2 boC (.slice la ln lc) l) (hxo : x.ok w) (hwf : x.wf) (hop : x.h.op = 1) :
    Calls Try.prog 26 #[.agg (exC x).toArray, .slice la ln lc] w (U64Post (b2i (valE l x)) w) := by
 have hnm := hwf.names
 rw [hop, show namedE 1 = 1 from rfl] at hnm
 have n3 := (Reads.lens hxo.names).2
 have hlt : 0 < x.h.names.length := by omega
 obtain ⟨nm, hnm2⟩ : ∃ nm, x.h.names = [nm] := by
  have h8 : x.h.names.length = 1 := by omega
  match hq : x.h.names, h8 with
  | [nm], _ => exact ⟨nm, rfl⟩
 obtain ⟨gg, oo, hgo, hg, k0⟩ := hxo.names.cells hlt
 have hn0 : x.h.names[0] = nm := by simp [hnm2]
 rw [hn0, Nat.add_zero] at k0
 obtain ⟨v, hv⟩ : ∃ v, valB nm l = v := ⟨_, rfl⟩
 have HF := Lib.hid hv
 have hV : valE l x = v.getD false := by
  rw [valE_eq, hnm2, show firstN [nm] = nm from rfl, hv]
  unfold bodyV
  rw [if_pos hop]
 rw [hV]
 have HNM := Lib.hid hnm2
 clear hnm2 hn0 hnm hv hV
 rcases v with _ | b
 · go_enter Try.func26, Try.ntmps26
   have E := Only.refl [] w
   go_upto_region 9999 with (first | ((first | ((with_reducible refine at_dst 17 ?_); go_simp; (have hc := bfind_any (RRow.ext hl E.low) nm); (first | with_reducible refine hc.mono ?_ | refine hc.mono ?_); clear hc; unfold VPost; rw [HF.out]; rintro e wn ⟨rfl, hx⟩) | ((with_reducible refine at_dst 2 ?_); go_simp; (generalize hXn : Array.size (World.heap _) = X2); refine new_block hXn ?_; intro wn bb hx; have b2 := Loc.new bb E hXn; have zz := Nat.le_trans E.size (Nat.le_of_eq hXn); clear bb hXn)); (try replace E := E.ext hx); (try replace b2 := b2.ext hx); (try replace hcE := bcell E.low); (try replace c2 := b2.cf)))
   go_ret
   exact ⟨rfl, E.low⟩
 · rcases (show b = true ∨ b = false by cases b <;> simp) with rfl | rfl
   all_goals
    go_enter Try.func26, Try.ntmps26
    have E := Only.refl [] w
    go_upto_region 9999 with (first | ((first | ((with_reducible refine at_dst 17 ?_); go_simp; (have hc := bfind_any (RRow.ext hl E.low) nm); (first | with_reducible refine hc.mono ?_ | refine hc.mono ?_); clear hc; unfold VPost; rw [HF.out]; rintro e wn ⟨rfl, hx⟩) | ((with_reducible refine at_dst 2 ?_); go_simp; (generalize hXn : Array.size (World.heap _) = X2); refine new_block hXn ?_; intro wn bb hx; have b2 := Loc.new bb E hXn; have zz := Nat.le_trans E.size (Nat.le_of_eq hXn); clear bb hXn)); (try replace E := E.ext hx); (try replace b2 := b2.ext hx); (try replace hcE := bcell E.low); (try replace c2 := b2.cf)))
    go_ret
    exact ⟨rfl, E.low⟩
theorem bvalue_not {N : Nat} (IH : Hid (ValOk N)) (x : Ex) {w : World} {la : Option Addr} {ln lc : Nat} {l : List (ByteArray × Bool)} (hl : RRow w 2 boC (.slice la ln lc) l) (hxo : x.ok w) (hwf : x.wf) (hz : x.sz < N + 1) (hop : x.h.op = 2) :
    Calls Try.prog 26 #[.agg (exC x).toArray, .slice la ln lc] w (U64Post (b2i (valE l x)) w) := by
 rw [Ex.sz_kids] at hz
 have hk := hwf.kids
 rw [hop, show opn 2 = 1 from rfl] at hk
 have n2 := (RRow.lens hxo.kids).2
 obtain ⟨a, hka⟩ : ∃ a, x.kids = [a] := by
  have h8 : x.kids.length = 1 := by omega
  match hq : x.kids, h8 with
  | [a], _ => exact ⟨a, rfl⟩
 have ham : a ∈ x.kids := by rw [hka]; simp
 have hao := hxo.subs.mem ham
 have haw := hwf.subs.mem ham
 have hs1 : Ex.szs x.kids = a.sz := by rw [hka, Ex.szs, Ex.szs]; rfl
 have has : a.sz < N := by omega
 obtain ⟨va, hva⟩ : ∃ v, valE l a = v := ⟨_, rfl⟩
 have hlt : 0 < x.kids.length := by omega
 obtain ⟨g, o, hgo, hg, -⟩ := RRow.cells hxo.kids hlt
 have hkc : RRow w 10 exC (.slice (some ⟨g, o, none⟩) x.kids.length x.h.hk.c) x.kids := hgo ▸ hxo.kids
 have H0 : Hid (x.kids[0]? = some a) := Lib.hid (by rw [hka]; rfl)
 have hV : b2i (valE l x) = bits .and .u64 (bits .xor .u64 IntKind.u64.max (b2i va)) 1 := by
  rw [not_low, valE_eq, hka, ← hva]
  unfold bodyV
  rw [if_neg (by rw [hop]; decide), if_pos hop]
  rfl
 rw [hV]
 have HA := Lib.hid hva
 have HKA := Lib.hid hka
 clear hva hka hk hs1 hwf ham hV
 go_enter Try.func26, Try.ntmps26
 have E := Only.refl [] w
 go_upto_region 9999 with (first | ((first | ((with_reducible refine at_dst 28 ?_); go_simp; (have hc := IH.out a (RRow.ext hl E.low) (hao.ext E.low) haw has); (first | with_reducible refine hc.mono ?_ | refine hc.mono ?_); clear hc; unfold U64Post; rw [HA.out]; rintro e wn ⟨rfl, hx⟩) | ((with_reducible refine at_dst 2 ?_); go_simp; (generalize hXn : Array.size (World.heap _) = X2); refine new_block hXn ?_; intro wn bb hx; have b2 := Loc.new bb E hXn; have zz := Nat.le_trans E.size (Nat.le_of_eq hXn); clear bb hXn)); (try replace E := E.ext hx); (try replace b2 := b2.ext hx); (try replace hcE := bcell E.low); (try replace c2 := b2.cf)) | ((with_reducible refine at_dst 26 ?_); (refine wp_rec2 ((RRow.ext hkc E.low)) (H0.out) exC_len rfl rfl ?_ ?_ ?_); (· kernel_rfl); (· kernel_rfl)))
 go_ret
 exact ⟨rfl, E.low⟩
theorem bvalue_any : ∀ N : Nat, ValOk N
 | 0 => fun _ _ _ _ _ _ _ _ _ hz => absurd hz (Nat.not_lt_zero _)
 | N + 1 => fun x w la ln lc l hl hxo hwf hz => by
   have hk := hwf.kids
   have IH := Lib.hid (bvalue_any N)
   have hv : x.h.op = 1 ∨ x.h.op = 2 ∨ x.h.op = 3 ∨ x.h.op = 4 ∨ x.h.op = 5 ∨ x.h.op = 6 ∨ x.h.op = 7 := by
    have h0 : 0 ≤ opn x.h.op := by omega
    unfold opn at h0
    repeat' split at h0
    all_goals omega
   rcases hv with h | h | h | h | h | h | h
   · exact bvalue_name x hl hxo hwf h
   · exact bvalue_not IH x hl hxo hwf hz h
   · exact bvalue_3 IH x hl hxo hwf hz h
   · exact bvalue_4 IH x hl hxo hwf hz h
   · exact bvalue_5 IH x hl hxo hwf hz h
   · exact bvalue_6 IH x hl hxo hwf hz h
   · exact bvalue_7 IH x hl hxo hwf hz h
open Go.RowKit Tk
def insN : List ByteArray → ByteArray → List ByteArray
 | [], s => [s]
 | x :: l, s => if key s < key x then s :: x :: l else if s = x then x :: l else x :: insN l s
mutual
def namesE : Ex → List ByteArray
 | .mk h k => h.names ++ namesEs k
def namesEs : List Ex → List ByteArray
 | [] => []
 | e :: l => namesE e ++ namesEs l
end
theorem namesE_eq (x : Ex) : namesE x = x.h.names ++ namesEs x.kids := by cases x; rw [namesE]; rfl
def gathN (l : List ByteArray) (more : List ByteArray) : List ByteArray := more.foldl insN l
/-- what Names returns of a condition -/
def namesS (x : Ex) : List ByteArray := gathN [] (namesE x)
def SAsc (l : List ByteArray) : Prop := l.Pairwise fun a b => key a < key b
theorem key_lt_ne {a b : ByteArray} (h : key a < key b) : a ≠ b := by rintro rfl; exact absurd h (List.lt_irrefl _)
theorem key_tri {a b : ByteArray} (h1 : ¬ key a < key b) (h2 : a ≠ b) : key b < key a := by
 have h3 : key b ≤ key a := List.not_lt.1 h1
 rcases List.le_iff_lt_or_eq.1 h3 with h | h
 · exact h
 · exact absurd (key_inj h).symm h2
theorem ins_mem {y s : ByteArray} : ∀ {l : List ByteArray}, y ∈ insN l s ↔ y ∈ l ∨ y = s
 | [] => by simp [insN]
 | x :: l => by
   unfold insN
   split
   · simp only [List.mem_cons]
     constructor
     · rintro (h | h | h) <;> simp [h]
     · rintro ((h | h) | h) <;> simp [h]
   · split
     · rename_i h; subst h
       simp only [List.mem_cons]
       constructor
       · exact .inl
       · rintro (h | h)
         · exact h
         · exact .inl h
     · simp only [List.mem_cons, ins_mem (l := l), or_assoc]
theorem ins_asc {s : ByteArray} : ∀ {l : List ByteArray}, SAsc l → SAsc (insN l s)
 | [], _ => by unfold insN SAsc; simp
 | x :: l, h => by
   have h' := List.pairwise_cons.1 h
   unfold insN
   split
   · rename_i hs
     refine List.pairwise_cons.2 ⟨fun b hb => ?_, h⟩
     rcases List.mem_cons.1 hb with rfl | hb
     · exact hs
     · exact List.lt_trans hs (h'.1 b hb)
   · split
     · exact h
     · rename_i h1 h2
       refine List.pairwise_cons.2 ⟨fun b hb => ?_, ins_asc h'.2⟩
       rcases ins_mem.1 hb with hb | rfl
       · exact h'.1 b hb
       · exact key_tri h1 h2
theorem gath_mem {y : ByteArray} {m : List ByteArray} : ∀ {l : List ByteArray}, y ∈ gathN l m ↔ y ∈ l ∨ y ∈ m := by
 induction m with
 | nil => intro l; simp [gathN]
 | cons x m ih =>
   intro l
   show y ∈ gathN (insN l x) m ↔ _
   rw [ih, ins_mem, List.mem_cons, or_assoc]
theorem gath_asc {m : List ByteArray} : ∀ {l : List ByteArray}, SAsc l → SAsc (gathN l m) := by
 induction m with
 | nil => intro l h; exact h
 | cons x m ih => intro l h; exact ih (l := insN l x) (ins_asc h)
theorem SAsc.nodup {l : List ByteArray} (h : SAsc l) : l.Nodup := h.imp fun hab => key_lt_ne hab
theorem SAsc.asc {l : List ByteArray} (h : SAsc l) : Asc l := h.imp fun hab => List.le_of_lt hab
theorem SAsc.unique {l m : List ByteArray} (hl : SAsc l) (hm : SAsc m) (h : ∀ y, y ∈ l ↔ y ∈ m) : l = m :=
 hl.asc.unique hm.asc ((List.perm_ext_iff_of_nodup hl.nodup hm.nodup).2 h)
/-! ### lists in order without what stands twice -/
def compF : ByteArray → List ByteArray → List ByteArray
 | _, [] => []
 | p, x :: l => if x = p then compF p l else x :: compF x l
def compS : List ByteArray → List ByteArray
 | [] => []
 | x :: l => x :: compF x l
theorem compF_mem {y : ByteArray} : ∀ {l : List ByteArray} {p : ByteArray}, (y = p ∨ y ∈ compF p l) ↔ (y = p ∨ y ∈ l)
 | [], p => by simp [compF]
 | x :: l, p => by
   unfold compF
   split
   · rename_i h; subst h
     rw [compF_mem (l := l)]; simp
   · have := compF_mem (y := y) (l := l) (p := x)
     simp only [List.mem_cons]
     constructor
     · rintro (h | h)
       · exact .inl h
       · exact .inr (this.1 h)
     · rintro (h | h)
       · exact .inl h
       · exact .inr (this.2 h)
theorem compS_mem {y : ByteArray} {l : List ByteArray} : y ∈ compS l ↔ y ∈ l := by
 cases l with
 | nil => exact Iff.rfl
 | cons x l => unfold compS; rw [List.mem_cons, List.mem_cons]; exact compF_mem
theorem compF_asc : ∀ {l : List ByteArray} {p : ByteArray}, Asc (p :: l) → SAsc (p :: compF p l)
 | [], p, _ => by unfold compF SAsc; simp
 | x :: l, p, h => by
   have h' := List.pairwise_cons.1 h
   unfold compF
   split
   · rename_i e; subst e
     exact compF_asc h'.2
   · rename_i e
     have ih := compF_asc (l := l) (p := x) h'.2
     refine List.pairwise_cons.2 ⟨fun b hb => ?_, ih⟩
     have hpx : key p < key x := by
      rcases List.le_iff_lt_or_eq.1 (h'.1 x (.head _)) with h1 | h1
      · exact h1
      · exact absurd (key_inj h1).symm e
     rcases List.mem_cons.1 hb with rfl | hb
     · exact hpx
     · exact List.lt_trans hpx ((List.pairwise_cons.1 ih).1 b hb)
theorem compS_asc {l : List ByteArray} (h : Asc l) : SAsc (compS l) := by
 cases l with
 | nil => exact List.Pairwise.nil
 | cons x l => exact compF_asc h
theorem comp_sort (xs : List ByteArray) : compS (sortS xs) = gathN [] xs :=
 SAsc.unique (compS_asc (sortS_asc xs)) (gath_asc List.Pairwise.nil) fun y => by
  rw [compS_mem, (sortS_perm xs).mem_iff, gath_mem]; simp
theorem namesS_mem {x : Ex} {y : ByteArray} : y ∈ namesS x ↔ y ∈ namesE x := by unfold namesS; rw [gath_mem]; simp
mutual
theorem names_sz : ∀ x : Ex, x.wf → (namesE x).length ≤ x.sz
 | .mk h k, hw => by
   unfold Ex.wf at hw
   have h1 := namess_sz k hw.2.2
   have h2 := hw.2.1
   have h3 : namedE h.op ≤ 1 := by unfold namedE; split <;> omega
   rw [namesE, Ex.sz, List.length_append]
   omega
theorem namess_sz : ∀ k : List Ex, Ex.wfs k → (namesEs k).length ≤ Ex.szs k
 | [], _ => by rw [namesEs, Ex.szs]; exact Nat.le_refl _
 | e :: l, hw => by
   unfold Ex.wfs at hw
   have h1 := names_sz e hw.1
   have h2 := namess_sz l hw.2
   rw [namesEs, Ex.szs, List.length_append]
   omega
end
open Go.RowKit Tk
theorem names_mem {x a : Ex} (h : a ∈ x.kids) {n : ByteArray} (hn : n ∈ namesE a) : n ∈ namesE x := by
 rw [namesE_eq, List.mem_append]
 refine .inr ?_
 have key : ∀ l : List Ex, a ∈ l → n ∈ namesEs l := by
  intro l
  induction l with
  | nil => intro h; cases h
  | cons e r ih =>
    intro hm
    rw [namesEs, List.mem_append]
    rcases List.mem_cons.1 hm with rfl | hm
    · exact .inl hn
    · exact .inr (ih hm)
 exact key _ h
open Go.RowKit Tk
theorem equalS_any {w : World} {a a' : Option Addr} {n c n' c' : Nat} {xs ys : List ByteArray} (h1 : Reads w (.slice a n c) xs) (h2 : Reads w (.slice a' n' c') ys) :
    Calls Try.prog 34 #[.slice a n c, .slice a' n' c'] w (BPost (decide (xs = ys)) w) := by
 obtain ⟨rfl, n2⟩ := h1.lens
 obtain ⟨rfl, n3⟩ := h2.lens
 obtain ⟨R, hR⟩ : ∃ R, decide (xs = ys) = R := ⟨_, rfl⟩
 rw [hR]
 have HR := Lib.hid hR
 clear hR
 go_enter Try.func34, Try.ntmps34
 have E := Only.refl [] w
 by_cases hl : xs.length = ys.length
 · obtain ⟨gl, gl'⟩ := kd_t (show (xs.length : Int) = (ys.length : Int) by omega)
   have HL := Lib.hid hl
   clear hl
   go_upto_region 4 with (first | fail)
   go_loopw [13] (fun i wr => ∃ j : Nat, i = .int .i64 j ∧ j ≤ xs.length ∧ Hid (xs.take j = ys.take j) ∧ Only [] w wr) (fun i _ => xs.length - (intOf i).toNat)
   case atStart => exact ⟨0, rfl, Nat.zero_le _, rfl, E⟩
   case round =>
    clear E
    (try clear hcE)
    obtain ⟨j, rfl, hj, hA, E⟩ := hrel
    have hcE := bcell E.low
    by_cases hlt : j < xs.length
    · have hlt2 : j < ys.length := HL.out ▸ hlt
      obtain ⟨g, o, hgo, hg, k0⟩ := h1.cells hlt
      obtain ⟨g2, o2, hgo2, hg2, m0⟩ := h2.cells hlt2
      by_cases he : xs[j] = ys[j]
      · have g1 := txt_t he
        have HE := Lib.hid he
        clear he
        go_upto_region 9999 with (first | ((with_reducible refine at_reg 6 ?_); (refine wp_region_x (id := 6) (spOf []) [0, 1, 2, 3, 4, 5, 6, 7, 8] [] [] mixed ?_ ?_); (· decide +kernel); intro K ws hx hK; (try replace E := E.ext hx); (try replace hcE := bcell E.low); dsimp only [pickE, pickL, List.getElem?_cons_succ, List.getElem?_cons_zero] at hK ⊢) | ((with_reducible refine wpE_q ?_ ?_ ?_); rfl; rfl; intro wq hq _ _; (try replace hcE := bcell (E.ext hq).low)) | ((with_reducible refine at_nil 0 ?_); refine wpE_nil (fun wn hx hΦ hfp hdis => ?_); (try replace E := E.ext hx); (try replace hcE := bcell E.low); clear hΦ hfp hdis; refine hK _ _ ?_; clear hK) | (with_reducible refine wpTxt_nil ?_))
        (try simp only [← hgo])
        (try simp only [← hgo2])
        clear hgo hgo2
        go_roundw
        case rel => exact ⟨j + 1, by go_num, by omega, Lib.hid (by rw [List.take_succ_eq_append_getElem hlt, List.take_succ_eq_append_getElem hlt2, hA.out, HE.out]), E⟩
        case measure => simp [intOf]; omega
      · have g1 := txt_f he
        have hz : R = false := by rw [← HR.out]; exact decide_eq_false (fun h => by subst h; exact he rfl)
        have HE := Lib.hid he
        have HZ := Lib.hid hz
        clear he hz
        go_upto_region 9999 with (first | ((with_reducible refine at_reg 6 ?_); (refine wp_region_x (id := 6) (spOf []) [0, 1, 2, 3, 4, 5, 6, 7, 8] [] [] mixed ?_ ?_); (· decide +kernel); intro K ws hx hK; (try replace E := E.ext hx); (try replace hcE := bcell E.low); dsimp only [pickE, pickL, List.getElem?_cons_succ, List.getElem?_cons_zero] at hK ⊢) | ((with_reducible refine wpE_q ?_ ?_ ?_); rfl; rfl; intro wq hq _ _; (try replace hcE := bcell (E.ext hq).low)) | ((with_reducible refine at_nil 0 ?_); refine wpE_nil (fun wn hx hΦ hfp hdis => ?_); (try replace E := E.ext hx); (try replace hcE := bcell E.low); clear hΦ hfp hdis; refine hK _ _ ?_; clear hK) | (with_reducible refine wpTxt_nil ?_))
        go_ret
        exact ⟨by rw [HZ.out]; rfl, E.low⟩
    · have hz : R = true := by rw [← HR.out]; exact decide_eq_true (by have := hA.out; rwa [List.take_of_length_le (by omega), List.take_of_length_le (by have := HL.out; omega)] at this)
      have HZ := Lib.hid hz
      clear hz
      go_upto_region 9999 with (first | fail)
      go_ret
      exact ⟨by rw [HZ.out]; rfl, E.low⟩
 · obtain ⟨gl, gl'⟩ := kd_f (show ¬ (xs.length : Int) = (ys.length : Int) by omega)
   have hz : R = false := by rw [← HR.out]; exact decide_eq_false (fun h => by subst h; exact hl rfl)
   have HZ := Lib.hid hz
   clear hl hz
   go_upto_region 9999 with (first | fail)
   go_ret
   exact ⟨by rw [HZ.out]; rfl, E.low⟩
theorem sameS_any {w : World} {a a' : Option Addr} {n c n' c' : Nat} {xs ys : List ByteArray} (h1 : Reads w (.slice a n c) xs) (h2 : Reads w (.slice a' n' c') ys) :
    Calls Try.prog 19 #[.slice a n c, .slice a' n' c'] w (BPost (decide (xs = ys)) w) := by
 obtain ⟨rfl, n2⟩ := h1.lens
 obtain ⟨rfl, n3⟩ := h2.lens
 obtain ⟨R, hR⟩ : ∃ R, decide (xs = ys) = R := ⟨_, rfl⟩
 rw [hR]
 have HR := Lib.hid hR
 clear hR
 go_enter Try.func19, Try.ntmps19
 have E := Only.refl [] w
 by_cases hl : xs.length = ys.length
 · obtain ⟨gl, gl'⟩ := kd_t (show (xs.length : Int) = (ys.length : Int) by omega)
   have HL := Lib.hid hl
   clear hl
   go_upto_region 4 with (first | fail)
   go_loopw [13] (fun i wr => ∃ j : Nat, i = .int .i64 j ∧ j ≤ xs.length ∧ Hid (xs.take j = ys.take j) ∧ Only [] w wr) (fun i _ => xs.length - (intOf i).toNat)
   case atStart => exact ⟨0, rfl, Nat.zero_le _, rfl, E⟩
   case round =>
    clear E
    (try clear hcE)
    obtain ⟨j, rfl, hj, hA, E⟩ := hrel
    have hcE := bcell E.low
    by_cases hlt : j < xs.length
    · have hlt2 : j < ys.length := HL.out ▸ hlt
      obtain ⟨g, o, hgo, hg, k0⟩ := h1.cells hlt
      obtain ⟨g2, o2, hgo2, hg2, m0⟩ := h2.cells hlt2
      by_cases he : xs[j] = ys[j]
      · have g1 := txt_t he
        have HE := Lib.hid he
        clear he
        go_upto_region 9999 with (first | ((with_reducible refine at_reg 6 ?_); (refine wp_region_x (id := 6) (spOf []) [0, 1, 2, 3, 4, 5, 6, 7, 8] [] [] mixed ?_ ?_); (· decide +kernel); intro K ws hx hK; (try replace E := E.ext hx); (try replace hcE := bcell E.low); dsimp only [pickE, pickL, List.getElem?_cons_succ, List.getElem?_cons_zero] at hK ⊢) | ((with_reducible refine wpE_q ?_ ?_ ?_); rfl; rfl; intro wq hq _ _; (try replace hcE := bcell (E.ext hq).low)) | ((with_reducible refine at_nil 0 ?_); refine wpE_nil (fun wn hx hΦ hfp hdis => ?_); (try replace E := E.ext hx); (try replace hcE := bcell E.low); clear hΦ hfp hdis; refine hK _ _ ?_; clear hK) | (with_reducible refine wpTxt_nil ?_))
        (try simp only [← hgo])
        (try simp only [← hgo2])
        clear hgo hgo2
        go_roundw
        case rel => exact ⟨j + 1, by go_num, by omega, Lib.hid (by rw [List.take_succ_eq_append_getElem hlt, List.take_succ_eq_append_getElem hlt2, hA.out, HE.out]), E⟩
        case measure => simp [intOf]; omega
      · have g1 := txt_f he
        have hz : R = false := by rw [← HR.out]; exact decide_eq_false (fun h => by subst h; exact he rfl)
        have HE := Lib.hid he
        have HZ := Lib.hid hz
        clear he hz
        go_upto_region 9999 with (first | ((with_reducible refine at_reg 6 ?_); (refine wp_region_x (id := 6) (spOf []) [0, 1, 2, 3, 4, 5, 6, 7, 8] [] [] mixed ?_ ?_); (· decide +kernel); intro K ws hx hK; (try replace E := E.ext hx); (try replace hcE := bcell E.low); dsimp only [pickE, pickL, List.getElem?_cons_succ, List.getElem?_cons_zero] at hK ⊢) | ((with_reducible refine wpE_q ?_ ?_ ?_); rfl; rfl; intro wq hq _ _; (try replace hcE := bcell (E.ext hq).low)) | ((with_reducible refine at_nil 0 ?_); refine wpE_nil (fun wn hx hΦ hfp hdis => ?_); (try replace E := E.ext hx); (try replace hcE := bcell E.low); clear hΦ hfp hdis; refine hK _ _ ?_; clear hK) | (with_reducible refine wpTxt_nil ?_))
        go_ret
        exact ⟨by rw [HZ.out]; rfl, E.low⟩
    · have hz : R = true := by rw [← HR.out]; exact decide_eq_true (by have := hA.out; rwa [List.take_of_length_le (by omega), List.take_of_length_le (by have := HL.out; omega)] at this)
      have HZ := Lib.hid hz
      clear hz
      go_upto_region 9999 with (first | fail)
      go_ret
      exact ⟨by rw [HZ.out]; rfl, E.low⟩
 · obtain ⟨gl, gl'⟩ := kd_f (show ¬ (xs.length : Int) = (ys.length : Int) by omega)
   have hz : R = false := by rw [← HR.out]; exact decide_eq_false (fun h => by subst h; exact hl rfl)
   have HZ := Lib.hid hz
   clear hl hz
   go_upto_region 9999 with (first | fail)
   go_ret
   exact ⟨by rw [HZ.out]; rfl, E.low⟩
end Go.Proofs.Ytbobbbhgdfapjaa
