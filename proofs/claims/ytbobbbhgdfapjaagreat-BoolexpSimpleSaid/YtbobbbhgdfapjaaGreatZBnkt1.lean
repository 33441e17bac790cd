/- Or, H1, Hk, Hx -/
import Derived.Test.YtbobbbhgdfapjaaGreatZB1
import Derived.Test.YtbobbbhgdfapjaaGreatZB2
import Derived.Test.YtbobbbhgdfapjaaGreatZB4
import Derived.Deep.Cut
import Derived.Outline
import Derived.Laws.StructEq
import Derived.Test.YtbobbbhgdfapjaaGreatZB3
import Derived.Test.YtbobbbhgdfapjaaGreatZB5
import Derived.Test.YtbobbbhgdfapjaaGreatZB6
import Derived.Test.YtbobbbhgdfapjaaGreatZB7
import Derived.Test.YtbobbbhgdfapjaaGreatZB9
import Derived.Test.YtbobbbhgdfapjaaGreatZB10
import Derived.Test.YtbobbbhgdfapjaaGreatZB11
import Derived.Test.YtbobbbhgdfapjaaGreatZB12
import Derived.Test.YtbobbbhgdfapjaaGreatZB13
import Derived.Test.YtbobbbhgdfapjaaGreatZB14
import Derived.Test.YtbobbbhgdfapjaaGreatZB15
import Derived.Test.YtbobbbhgdfapjaaGreatZB16
import Derived.Test.YtbobbbhgdfapjaaGreatZB17
import Derived.Test.YtbobbbhgdfapjaaGreatZB18
import Derived.Test.YtbobbbhgdfapjaaGreatZB19
import Derived.Test.YtbobbbhgdfapjaaGreatZB20
set_option linter.unusedSimpArgs false
set_option linter.unusedVariables false
namespace Go.Proofs.YtbobbbhgdfapjaaGreat
set_option maxHeartbeats 8000000
set_option maxRecDepth 100000
open Go.RowKit Tk
theorem bless_eq : ∀ (x y : List UInt8), Op.bytesLess x y = decide (x < y)
 | [], [] => by simp [Op.bytesLess]
 | _ :: _, [] => by simp [Op.bytesLess]
 | [], _ :: _ => by simp [Op.bytesLess]
 | a :: x, b :: y => by
   rw [Op.bytesLess, bless_eq x y]
   rw [Bool.eq_iff_iff]
   simp only [List.cons_lt_cons_iff, Bool.or_eq_true, Bool.and_eq_true, beq_iff_eq, decide_eq_true_eq]
theorem less_iff (a b : ByteArray) : Op.bytesLess a.toList b.toList = true ↔ key a < key b := by
 rw [bless_eq, bl, bl]; simp [key]
theorem less_t {a b : ByteArray} (h : key a < key b) : Op.bytesLess a.toList b.toList = true := (less_iff a b).2 h
theorem less_f {a b : ByteArray} (h : ¬ key a < key b) : Op.bytesLess a.toList b.toList = false := by
 cases hb : Op.bytesLess a.toList b.toList with
 | false => rfl
 | true => exact absurd ((less_iff a b).1 hb) h
open Go.RowKit Tk
def SPost (w : World) (xs : List ByteArray) (e : Ending) (w' : World) : Prop := ∃ a c, e = .returned (.slice a xs.length c) ∧ OwnR w w' 9 1 strC (.slice a xs.length c) xs ∧ Ext w w'
theorem spost {w w' : World} {a : Option Addr} {c n : Nat} {xs ys : List ByteArray} (h : OwnR w w' 9 1 strC (.slice a n c) xs) (hn : n = xs.length) (e : xs = ys) (hx : Ext w w') : SPost w ys (.returned (.slice a n c)) w' := by
 subst hn e; exact ⟨a, c, rfl, h, hx⟩
open Go.RowKit Tk
theorem gath_app (l a b : List ByteArray) : gathN l (a ++ b) = gathN (gathN l a) b := List.foldl_append ..
theorem ins_len (s : ByteArray) : ∀ l : List ByteArray, (insN l s).length ≤ l.length + 1
 | [] => by simp [insN]
 | x :: l => by
   have := ins_len s l
   unfold insN
   split
   · simp
   · split <;> simp <;> omega
theorem gath_len (m : List ByteArray) : ∀ l : List ByteArray, (gathN l m).length ≤ l.length + m.length := by
 induction m with
 | nil => intro l; simp [gathN]
 | cons x m ih =>
   intro l
   have h1 := ih (insN l x)
   have h2 := ins_len x l
   show (gathN (insN l x) m).length ≤ _
   rw [List.length_cons]; omega
/-! ### lists in order without what stands twice -/
open Go.RowKit Tk
/-- what insert does from an element on -/
def insR (zs rest : List ByteArray) (b : Bool) (s : ByteArray) : List ByteArray := if b = true then zs ++ rest else zs ++ insN rest s
theorem insR_t (zs : List ByteArray) (y : ByteArray) (r : List ByteArray) (s : ByteArray) : insR zs (y :: r) true s = insR (zs ++ [y]) r true s := by simp [insR]
theorem insR_lt {y s : ByteArray} (h : key s < key y) (zs r : List ByteArray) : insR zs (y :: r) false s = insR (zs ++ [s] ++ [y]) r true s := by simp [insR, insN, h]
theorem insR_eq (s : ByteArray) (zs r : List ByteArray) : insR zs (s :: r) false s = insR (zs ++ [s]) r true s := by simp [insR, insN]
theorem insR_gt {y s : ByteArray} (h : key y < key s) (zs r : List ByteArray) : insR zs (y :: r) false s = insR (zs ++ [y]) r false s := by
 have h1 : ¬ key s < key y := List.not_lt.2 (List.le_of_lt h)
 simp [insR, insN, h1, (key_lt_ne h).symm]
theorem insR_at {l : List ByteArray} {j : Nat} {y s : ByteArray} {zs R : List ByteArray} {b : Bool} (h : Hid (insR zs (l.drop j) b s = R)) (hy : l[j]? = some y) : insR zs (y :: l.drop (j + 1)) b s = R := by
 have := h.out
 rwa [drop_at hy] at this
theorem qinsert_any {w : World} {a : Option Addr} {n c : Nat} {xs : List ByteArray} (h : Reads w (.slice a n c) xs) (s : ByteArray) (hf : xs.length ≤ 1000000000000) :
    Calls Tryz.prog 72 #[.slice a n c, .string s] w (SPost w (insN xs s)) := by
 obtain ⟨rfl, n2⟩ := h.lens
 obtain ⟨R, hR⟩ : ∃ R, insN xs s = R := ⟨_, rfl⟩
 have hRl := ins_len s xs
 rw [hR] at hRl ⊢
 have HV : Hid (insR [] (xs.drop 0) false s = R) := Lib.hid hR
 clear hR
 go_enter Tryz.func72, Tryz.ntmps72
 have E := Only.refl [] w
 have r0 := OwnR.nil w w 9 1 strC
 go_upto_region 4 with (first | fail)
 go_loopw [5, 6, 7] (fun v b i wr => ∃ (j : Nat) (d : Bool) (L : List ByteArray) (so : Option Addr) (sc : Nat), i = .int .i64 j ∧ j ≤ xs.length ∧ b = .bool d ∧ v = .slice so L.length sc ∧ Hid (insR L (xs.drop j) d s = R) ∧ OwnR w wr 9 1 strC (.slice so L.length sc) L ∧ Only [] w wr ∧ L.length ≤ j + d.toNat) (fun _ _ i _ => xs.length - (intOf i).toNat)
 case atStart => exact ⟨0, false, [], none, 0, rfl, Nat.zero_le _, rfl, rfl, HV, r0, E, Nat.zero_le _⟩
 case round =>
  clear r0 E HV
  obtain ⟨j, d, L, so, sc, rfl, hj, rfl, rfl, HS, r0, E, hLj⟩ := hrel
  have hcE := bcell E.low
  have hL1 : L.length ≤ j + 1 := by cases d <;> simp at hLj <;> omega
  by_cases hlt : j < xs.length
  · obtain ⟨g, o, rfl, hg, k0⟩ := h.cells hlt
    obtain ⟨y, hy⟩ := at_some hlt
    have ey : xs[j] = y := by rw [List.getElem?_eq_getElem hlt] at hy; injection hy
    rw [ey] at k0
    have hst := insR_at HS hy
    clear hy ey HS
    cases d with
    | true =>
      rw [insR_t] at hst
      have HT := Lib.hid hst
      clear hst
      go_upto_region 9999 with (first | ((first | ((with_reducible refine at_dst 42 ?_); go_simp; (generalize hX42 : Array.size (World.heap _) = X42); refine new_block hX42 ?_; intro wn bb hx; (try have z42 := Nat.le_trans E.size (Nat.le_of_eq hX42)); (try have mr0_42 := r0.notin (Nat.le_of_eq hX42)); have b42 := bb; have g42 := Loc.new bb E hX42; clear bb hX42) | ((with_reducible refine at_dst 43 ?_); refine wp_own (.tmp 37) (.tmp 42) rfl info_str und_strs rfl (by decide) strC_l strC_one r0 E (RRow.blk (xs := [y]) strC_l b42 rfl (show 1 ≤ maxLen by decide)) rfl rfl ?_ ?_ ?_; (· (simp only [List.length_cons, List.length_nil]; (try unfold maxLen); omega)); (· (simp only [List.length_cons, List.length_nil]; omega)); intro L43 hL43 s43 v43 wn r2 E2 hA; replace hL43 := Lib.hid hL43; clear E; have E := E2; clear E2; obtain ⟨o43, k43, rfl, l43, m43⟩ := ORow.len r2.row; (try simp only [Act.put, actL]))); (try replace E := E.ext hx); (try replace r0 := r0.ext hx); (try replace hcE := bcell E.low)))
      go_roundw
      case rel => exact ⟨j + 1, true, _, _, _, by go_num, by omega, rfl, rfl, Lib.hid (by rw [← hL43.out]; exact HT.out), r2, E, by have := congrArg List.length hL43.out; simp at this hLj ⊢; omega⟩
      case measure => simp [intOf]; omega
    | false =>
      by_cases h1 : key s < key y
      · have g1 := less_t h1
        have g2 := less_f (List.not_lt.2 (List.le_of_lt h1))
        rw [insR_lt h1] at hst
        have HT := Lib.hid hst
        clear hst h1
        go_upto_region 9999 with (first | ((first | ((with_reducible refine at_dst 26 ?_); go_simp; (generalize hX26 : Array.size (World.heap _) = X26); refine new_block hX26 ?_; intro wn bb hx; (try have z26 := Nat.le_trans E.size (Nat.le_of_eq hX26)); (try have mr0_26 := r0.notin (Nat.le_of_eq hX26)); have b26 := bb; have g26 := Loc.new bb E hX26; clear bb hX26) | ((with_reducible refine at_dst 27 ?_); refine wp_own (.tmp 24) (.tmp 26) rfl info_str und_strs rfl (by decide) strC_l strC_one r0 E (RRow.blk (xs := [s]) strC_l b26 rfl (show 1 ≤ maxLen by decide)) rfl rfl ?_ ?_ ?_; (· (simp only [List.length_cons, List.length_nil]; (try unfold maxLen); omega)); (· (simp only [List.length_cons, List.length_nil]; omega)); intro L27 hL27 s27 v27 wn r1 E2 hA; replace hL27 := Lib.hid hL27; clear E; have E := E2; clear E2; obtain ⟨o27, k27, rfl, l27, m27⟩ := ORow.len r1.row; (try simp only [Act.put, actL])) | ((with_reducible refine at_dst 42 ?_); go_simp; (generalize hX42 : Array.size (World.heap _) = X42); refine new_block hX42 ?_; intro wn bb hx; (try have z42 := Nat.le_trans E.size (Nat.le_of_eq hX42)); (try have mr1_42 := r1.notin (Nat.le_of_eq hX42)); have b42 := bb; have g42 := Loc.new bb E hX42; clear bb hX42) | ((with_reducible refine at_dst 43 ?_); refine wp_own (.tmp 37) (.tmp 42) rfl info_str und_strs rfl (by decide) strC_l strC_one r1 E (RRow.blk (xs := [y]) strC_l b42 rfl (show 1 ≤ maxLen by decide)) rfl rfl ?_ ?_ ?_; (· (have s9 := s27; simp only [List.length_cons, List.length_nil] at s9 ⊢; (try unfold maxLen); omega)); (· (have s9 := s27; simp only [List.length_cons, List.length_nil] at s9 ⊢; omega)); intro L43 hL43 s43 v43 wn r2 E2 hA; replace hL43 := Lib.hid hL43; clear E; have E := E2; clear E2; obtain ⟨o43, k43, rfl, l43, m43⟩ := ORow.len r2.row; (try simp only [Act.put, actL]))); (try replace E := E.ext hx); (try replace r0 := r0.ext hx); (try replace r1 := r1.ext hx); (try replace hcE := bcell E.low)))
        go_roundw
        case rel => exact ⟨j + 1, true, _, _, _, by go_num, by omega, rfl, rfl, Lib.hid (by rw [← hL43.out, ← hL27.out]; exact HT.out), r2, E, by have h3 := congrArg List.length hL43.out; have h4 := congrArg List.length hL27.out; simp at h3 h4 hLj ⊢; omega⟩
        case measure => simp [intOf]; omega
      · have g1 := less_f h1
        by_cases h2 : s = y
        · subst h2
          have g2 := less_f (List.lt_irrefl (key s))
          rw [insR_eq] at hst
          have HT := Lib.hid hst
          clear hst h1
          go_upto_region 9999 with (first | ((first | ((with_reducible refine at_dst 42 ?_); go_simp; (generalize hX42 : Array.size (World.heap _) = X42); refine new_block hX42 ?_; intro wn bb hx; (try have z42 := Nat.le_trans E.size (Nat.le_of_eq hX42)); (try have mr0_42 := r0.notin (Nat.le_of_eq hX42)); have b42 := bb; have g42 := Loc.new bb E hX42; clear bb hX42) | ((with_reducible refine at_dst 43 ?_); refine wp_own (.tmp 37) (.tmp 42) rfl info_str und_strs rfl (by decide) strC_l strC_one r0 E (RRow.blk (xs := [s]) strC_l b42 rfl (show 1 ≤ maxLen by decide)) rfl rfl ?_ ?_ ?_; (· (simp only [List.length_cons, List.length_nil]; (try unfold maxLen); omega)); (· (simp only [List.length_cons, List.length_nil]; omega)); intro L43 hL43 s43 v43 wn r2 E2 hA; replace hL43 := Lib.hid hL43; clear E; have E := E2; clear E2; obtain ⟨o43, k43, rfl, l43, m43⟩ := ORow.len r2.row; (try simp only [Act.put, actL]))); (try replace E := E.ext hx); (try replace r0 := r0.ext hx); (try replace hcE := bcell E.low)))
          go_roundw
          case rel => exact ⟨j + 1, true, _, _, _, by go_num, by omega, rfl, rfl, Lib.hid (by rw [← hL43.out]; exact HT.out), r2, E, by have := congrArg List.length hL43.out; simp at this hLj ⊢; omega⟩
          case measure => simp [intOf]; omega
        · have h3 := key_tri h1 h2
          have g2 := less_t h3
          have g3 := txt_f h2
          rw [insR_gt h3] at hst
          have HT := Lib.hid hst
          clear hst h1 h2 h3
          go_upto_region 9999 with (first | ((first | ((with_reducible refine at_dst 42 ?_); go_simp; (generalize hX42 : Array.size (World.heap _) = X42); refine new_block hX42 ?_; intro wn bb hx; (try have z42 := Nat.le_trans E.size (Nat.le_of_eq hX42)); (try have mr0_42 := r0.notin (Nat.le_of_eq hX42)); have b42 := bb; have g42 := Loc.new bb E hX42; clear bb hX42) | ((with_reducible refine at_dst 43 ?_); refine wp_own (.tmp 37) (.tmp 42) rfl info_str und_strs rfl (by decide) strC_l strC_one r0 E (RRow.blk (xs := [y]) strC_l b42 rfl (show 1 ≤ maxLen by decide)) rfl rfl ?_ ?_ ?_; (· (simp only [List.length_cons, List.length_nil]; (try unfold maxLen); omega)); (· (simp only [List.length_cons, List.length_nil]; omega)); intro L43 hL43 s43 v43 wn r2 E2 hA; replace hL43 := Lib.hid hL43; clear E; have E := E2; clear E2; obtain ⟨o43, k43, rfl, l43, m43⟩ := ORow.len r2.row; (try simp only [Act.put, actL]))); (try replace E := E.ext hx); (try replace r0 := r0.ext hx); (try replace hcE := bcell E.low)))
          go_roundw
          case rel => exact ⟨j + 1, false, _, _, _, by go_num, by omega, rfl, rfl, Lib.hid (by rw [← hL43.out]; exact HT.out), r2, E, by have := congrArg List.length hL43.out; simp at this hLj ⊢; omega⟩
          case measure => simp [intOf]; omega
  · have hz := HS.out
    rw [List.drop_of_length_le (by omega)] at hz
    have HZ := Lib.hid hz
    clear HS hz
    cases d with
    | true =>
      go_upto_region 9999 with (first | fail)
      go_ret
      exact spost r0 rfl (by have := HZ.out; simpa [insR] using this) E.low
    | false =>
      go_upto_region 9999 with (first | ((first | ((with_reducible refine at_dst 48 ?_); go_simp; (generalize hX48 : Array.size (World.heap _) = X48); refine new_block hX48 ?_; intro wn bb hx; (try have z48 := Nat.le_trans E.size (Nat.le_of_eq hX48)); (try have mr0_48 := r0.notin (Nat.le_of_eq hX48)); have b48 := bb; have g48 := Loc.new bb E hX48; clear bb hX48) | ((with_reducible refine at_dst 49 ?_); refine wp_own (.tmp 46) (.tmp 48) rfl info_str und_strs rfl (by decide) strC_l strC_one r0 E (RRow.blk (xs := [s]) strC_l b48 rfl (show 1 ≤ maxLen by decide)) rfl rfl ?_ ?_ ?_; (· (simp only [List.length_cons, List.length_nil]; (try unfold maxLen); omega)); (· (simp only [List.length_cons, List.length_nil]; omega)); intro L49 hL49 s49 v49 wn r3 E2 hA; replace hL49 := Lib.hid hL49; clear E; have E := E2; clear E2; obtain ⟨o49, k49, rfl, l49, m49⟩ := ORow.len r3.row; (try simp only [Act.put, actL]))); (try replace E := E.ext hx); (try replace r0 := r0.ext hx); (try replace hcE := bcell E.low)))
      go_ret
      exact spost r3 rfl (by have := HZ.out; rw [← hL49.out]; simpa [insR, insN] using this) E.low
/-! ### gather -/
theorem gath_one (l : List ByteArray) (s : ByteArray) : gathN l [s] = insN l s := rfl
theorem gath_at {l : List Ex} {j : Nat} {y : Ex} {L R : List ByteArray} (h : Hid (gathN L (namesEs (l.drop j)) = R)) (hy : l[j]? = some y) : gathN (gathN L (namesE y)) (namesEs (l.drop (j + 1))) = R := by
 have := h.out
 rw [drop_at hy, namesEs, gath_app] at this
 exact this
@[reducible] def GatOk (N : Nat) : Prop := ∀ (x : Ex) {w : World} {a : Option Addr} {c : Nat} {xs : List ByteArray}, x.ok w → x.wf → x.sz < N → Reads w (.slice a xs.length c) xs → xs.length + (namesE x).length ≤ 1000000000000 →
 Calls Tryz.prog 45 #[.agg (exC x).toArray, .slice a xs.length c] w (RPost w (gathN xs (namesE x)))
theorem gather_step {N : Nat} (IH : Hid (GatOk N)) : GatOk (N + 1) := by
 intro x w a c xs hxo hwf hz hr hlen
 rw [Ex.sz_kids] at hz
 have n2 := (RRow.lens hxo.kids).2
 have n3 := (Reads.lens hxo.names).2
 have hnm := hwf.names
 have hkd := hwf.kids
 by_cases hop : x.h.op = 1
 · rw [hop, show namedE 1 = 1 from rfl] at hnm
   rw [hop, show opn 1 = 0 from rfl] at hkd
   have hk0 : x.kids = [] := List.eq_nil_of_length_eq_zero (by omega)
   obtain ⟨nm, hnm2⟩ : ∃ nm, x.h.names = [nm] := by
    have h8 : x.h.names.length = 1 := by omega
    match hq : x.h.names, h8 with
    | [nm], _ => exact ⟨nm, rfl⟩
   have hE : namesE x = [nm] := by rw [namesE_eq, hk0, hnm2]; rfl
   have hlt : 0 < x.h.names.length := by omega
   obtain ⟨gg, oo, hgo, hg, k0⟩ := hxo.names.cells hlt
   have hn0 : x.h.names[0] = nm := by simp [hnm2]
   rw [hn0, Nat.add_zero] at k0
   rw [hE, gath_one]
   have hlen1 : xs.length ≤ 1000000000000 := by omega
   obtain ⟨V, hV⟩ : ∃ V, insN xs nm = V := ⟨_, rfl⟩
   have HI := Lib.hid hV
   rw [hV]
   have HNM := Lib.hid hnm2
   have HE := Lib.hid hE
   have HK0 := Lib.hid hk0
   obtain ⟨s1, s2⟩ := kd_t hop
   have HOP := Lib.hid hop
   clear hnm2 hn0 hnm hkd hE hk0 hV hop
   go_enter Tryz.func45, Tryz.ntmps45
   have E := Only.refl [] w
   go_upto_region 9999 with (first | ((first | ((with_reducible refine at_dst 14 ?_); go_simp; (have hc := qinsert_any (hr.ext E.low) nm hlen1); (first | with_reducible refine hc.mono ?_ | refine hc.mono ?_); clear hc; unfold SPost; rw [HI.out]; rintro e wn ⟨a9, c9, rfl, hr9, hx⟩) | ((with_reducible refine at_dst 2 ?_); go_simp; (generalize hXn : Array.size (World.heap _) = X2); refine new_block hXn ?_; intro wn bb hx; have b2 := Loc.new bb E hXn; have zz := Nat.le_trans E.size (Nat.le_of_eq hXn); clear bb hXn)); (try replace E := E.ext hx); (try replace b2 := b2.ext hx); (try replace hcE := bcell E.low); (try replace c2 := b2.cf)))
   go_ret
   exact ⟨_, _, rfl, hr9.reads, E.low⟩
 · have hn0 : x.h.names = [] := by
     have : namedE x.h.op = 0 := by
      unfold namedE opn
      rw [if_neg]
      repeat' split
      all_goals omega
     exact List.eq_nil_of_length_eq_zero (by omega)
   have hE : namesE x = namesEs x.kids := by rw [namesE_eq, hn0]; rfl
   obtain ⟨s1, s2⟩ := kd_f hop
   have HOP := Lib.hid hop
   obtain ⟨V, hV⟩ : ∃ V, gathN xs (namesE x) = V := ⟨_, rfl⟩
   rw [hV]
   rw [hE] at hV hlen
   have HV : Hid (gathN xs (namesEs (x.kids.drop 0)) = V) := Lib.hid hV
   have hvl : xs.length + (namesEs (x.kids.drop 0)).length ≤ 1000000000000 := hlen
   have HVL := Lib.hid hvl
   have HN0 := Lib.hid hn0
   have r0 := hr
   have hxs : xs = xs := rfl
   clear hop hn0 hE hV hnm hkd hvl hxs
   go_enter Tryz.func45, Tryz.ntmps45
   have E := Only.refl [] w
   go_upto_region 4 with (first | ((with_reducible refine at_dst 2 ?_); go_simp; (generalize hX2 : Array.size (World.heap _) = X2); refine new_block hX2 ?_; intro wn bb hx; (try have z2 := Nat.le_trans E.size (Nat.le_of_eq hX2)); have b2 := Loc.new bb E hX2; clear bb hX2; (try replace E := E.ext hx); (try replace r0 := r0.ext hx); (try replace hcE := bcell E.low); (try replace c2 := b2.cf)))
   go_loopw [1, 5] (fun v i wr => ∃ (j : Nat) (L : List ByteArray) (so : Option Addr) (sc : Nat), i = .int .i64 j ∧ j ≤ x.kids.length ∧ v = .slice so L.length sc ∧ Hid (gathN L (namesEs (x.kids.drop j)) = V) ∧ Hid (L.length + (namesEs (x.kids.drop j)).length ≤ 1000000000000) ∧ Reads wr (.slice so L.length sc) L ∧ Only [] w wr ∧ Loc [] w wr X2 28 (exC x).toArray) (fun _ i _ => x.kids.length - (intOf i).toNat)
   case atStart => exact ⟨0, xs, a, c, rfl, Nat.zero_le _, rfl, HV, HVL, r0, E, b2⟩
   case round =>
    clear E b2 c2 HV HVL r0
    (try clear hcE)
    obtain ⟨j, L, so, sc, rfl, hj, rfl, HS, HL, r0, E, b2⟩ := hrel
    have c2 := b2.cf
    have hcE := bcell E.low
    by_cases hlt : j < x.kids.length
    · obtain ⟨y, hy⟩ := at_some hlt
      have hyo := hxo.subs.mem (List.mem_of_getElem? hy)
      have hyw := hwf.subs.mem (List.mem_of_getElem? hy)
      have hsz : y.sz < N := by have := Ex.sz_at hy; omega
      have hst := gath_at HS hy
      have hnl := namess_at hy
      have hll := HL.out
      have hlen2 : L.length + (namesE y).length ≤ 1000000000000 := by omega
      obtain ⟨M, hM⟩ : ∃ M, gathN L (namesE y) = M := ⟨_, rfl⟩
      have hMl := gath_len (namesE y) L
      rw [hM] at hst hMl
      have HM : Hid (M.length + (namesEs (x.kids.drop (j + 1))).length ≤ 1000000000000) := Lib.hid (by omega)
      have HG := Lib.hid hM
      have HT := Lib.hid hst
      have HY := Lib.hid hy
      obtain ⟨g, o, hgo, hg, -⟩ := RRow.cells hxo.kids hlt
      have hkc : RRow w 10 exC (.slice (some ⟨g, o, none⟩) x.kids.length x.h.hk.c) x.kids := hgo ▸ hxo.kids
      clear hy hM hst HS HL hnl hll hMl
      go_upto_region 9999 with (first | ((with_reducible refine at_dst 26 ?_); (refine wp_rec2 ((RRow.ext hkc E.low)) (HY.out) exC_len rfl rfl ?_ ?_ ?_); (· kernel_rfl); (· kernel_rfl)) | ((with_reducible refine at_dst 28 ?_); go_simp; (have hc := IH.out y (hyo.ext E.low) hyw hsz r0 hlen2); (first | with_reducible refine hc.mono ?_ | refine hc.mono ?_); clear hc; unfold RPost; rw [HG.out]; rintro e wn ⟨a9, c9, rfl, r9, hx⟩; (try replace E := E.ext hx); (try replace b2 := b2.ext hx); (try replace r0 := r0.ext hx); (try replace hcE := bcell E.low); (try replace c2 := b2.cf)))
      try simp only [← hgo]
      clear hgo
      go_roundw
      case rel => exact ⟨j + 1, M, a9, c9, by go_num, by omega, rfl, HT, HM, r9, E, b2⟩
      case measure => simp [intOf]; omega
    · have hz2 : L = V := by
        have := HS.out
        rw [List.drop_of_length_le (by omega)] at this
        exact this
      subst hz2
      go_upto_region 9999 with (first | fail)
      go_ret
      exact ⟨_, _, rfl, r0, E.low⟩
theorem gather_any : ∀ N : Nat, GatOk N
 | 0 => fun _ _ _ _ _ _ _ hz => absurd hz (Nat.not_lt_zero _)
 | N + 1 => gather_step (Lib.hid (gather_any N))
/-! ### Names -/
theorem gather_nil {x : Ex} {w : World} (hxo : x.ok w) (hwf : x.wf) (hl : (namesE x).length ≤ 1000000000000) :
    Calls Tryz.prog 45 #[.agg (exC x).toArray, .slice none 0 0] w (RPost w (namesS x)) :=
 gather_any (x.sz + 1) x hxo hwf (Nat.lt_succ_self _) (Reads.nil0 w) (by simpa using hl)
theorem qnames_any {x : Ex} {w : World} (hxo : x.ok w) (hs : x.small) (hz : x.sz ≤ 1000000000000) : Calls Tryz.prog 16 #[.agg (exC x).toArray] w (RPost w (namesR x)) := by
 unfold namesR
 obtain ⟨v, hv⟩ : ∃ v, chk x 1 = v := ⟨_, rfl⟩
 have HC := Lib.hid hv
 rw [hv]
 by_cases h0 : v = 0
 · have hwf := chk_wf x 1 (hv.trans h0)
   have hln : (namesE x).length ≤ 1000000000000 := Nat.le_trans (names_sz x hwf) hz
   subst h0
   clear hv
   rw [if_neg (by decide)]
   go_enter Tryz.func16, Tryz.ntmps16
   have E := Only.refl [] w
   go_upto_region 9999 with (first | ((first | ((with_reducible refine at_dst 4 ?_); go_simp; (have hc := qCheck_any (hxo.ext E.low) hs hz); (first | with_reducible refine hc.mono ?_ | refine hc.mono ?_); clear hc; unfold IPost; rw [HC.out]; rintro e wn ⟨rfl, hx⟩) | ((with_reducible refine at_dst 7 ?_); go_simp; (have hc := gather_nil (hxo.ext E.low) hwf hln); (first | with_reducible refine hc.mono ?_ | refine hc.mono ?_); clear hc; unfold RPost; rintro e wn ⟨a9, c9, rfl, r9, hx⟩) | ((with_reducible refine at_dst 1 ?_); go_simp; (generalize hXn : Array.size (World.heap _) = X1); refine new_block hXn ?_; intro wn bb hx; have b1 := Loc.new bb E hXn; have zz := Nat.le_trans E.size (Nat.le_of_eq hXn); clear bb hXn)); (try replace E := E.ext hx); (try replace b1 := b1.ext hx); (try replace hcE := bcell E.low); (try replace c1 := b1.cf)) | ((with_reducible refine at_dsts [3, 6] ?_ ?_); (· rfl); (refine wp_all (Loc.blk (by assumption)) rfl rfl ?_ ?_ ?_); (· kernel_rfl); (· kernel_rfl)))
   go_ret
   exact ⟨_, _, rfl, r9, E.low⟩
 · obtain ⟨s1, s2⟩ := kd_f h0
   rw [if_pos h0]
   clear h0 hv
   go_enter Tryz.func16, Tryz.ntmps16
   have E := Only.refl [] w
   go_upto_region 9999 with (first | ((first | ((with_reducible refine at_dst 4 ?_); go_simp; (have hc := qCheck_any (hxo.ext E.low) hs hz); (first | with_reducible refine hc.mono ?_ | refine hc.mono ?_); clear hc; unfold IPost; rw [HC.out]; rintro e wn ⟨rfl, hx⟩) | ((with_reducible refine at_dst 1 ?_); go_simp; (generalize hXn : Array.size (World.heap _) = X1); refine new_block hXn ?_; intro wn bb hx; have b1 := Loc.new bb E hXn; have zz := Nat.le_trans E.size (Nat.le_of_eq hXn); clear bb hXn)); (try replace E := E.ext hx); (try replace b1 := b1.ext hx); (try replace hcE := bcell E.low); (try replace c1 := b1.cf)) | ((with_reducible refine at_dst 3 ?_); (refine wp_all b1.blk rfl rfl ?_ ?_ ?_); (· kernel_rfl); (· kernel_rfl)))
   go_ret
   exact ⟨none, 0, rfl, Reads.nil0 _, E.low⟩
end Go.Proofs.YtbobbbhgdfapjaaGreat
