/- I4, K3, L1 -/
import Derived.Laws.Bits64
import Derived.Laws.Bits64b
import Derived.Test.YtbobbbhgdfapjaaGreatZB1
import Derived.Test.YtbobbbhgdfapjaaGreatZB2
import Derived.Test.YtbobbbhgdfapjaaGreatZB3
import Derived.Test.YtbobbbhgdfapjaaGreatZB4
import Derived.Test.YtbobbbhgdfapjaaGreatZBnkt1
import Derived.Test.YtbobbbhgdfapjaaGreatZB5
import Derived.Test.YtbobbbhgdfapjaaGreatZB6
import Derived.Test.YtbobbbhgdfapjaaGreatZB7
import Derived.Test.YtbobbbhgdfapjaaGreatZB8
import Derived.Test.YtbobbbhgdfapjaaGreatZB9
import Derived.Test.YtbobbbhgdfapjaaGreatZB10
import Derived.Test.YtbobbbhgdfapjaaGreatZB11
import Derived.Test.YtbobbbhgdfapjaaGreatZB12
import Derived.Test.YtbobbbhgdfapjaaGreatZB13
import Derived.Test.YtbobbbhgdfapjaaGreatZB14
import Derived.Test.YtbobbbhgdfapjaaGreatZB15
import Derived.Test.YtbobbbhgdfapjaaGreatZB16
import Derived.Test.YtbobbbhgdfapjaaGreatZB17
import Derived.Test.YtbobbbhgdfapjaaGreatZB18
import Derived.Test.YtbobbbhgdfapjaaGreatZB19
import Derived.Test.YtbobbbhgdfapjaaGreatZB20
import Derived.Test.YtbobbbhgdfapjaaGreatZB21
import Derived.Laws.BitsLemmas
import Derived.Test.YtbobbbhgdfapjaaGreatZBnk1
import Derived.Test.YtbobbbhgdfapjaaGreatZB22
import Derived.Test.YtbobbbhgdfapjaaGreatZB23
import Derived.Test.YtbobbbhgdfapjaaGreatZB24
import Derived.Test.YtbobbbhgdfapjaaGreatZB25
import Derived.Test.YtbobbbhgdfapjaaGreatZB26
import Derived.Test.YtbobbbhgdfapjaaGreatZB27
import Derived.Test.YtbobbbhgdfapjaaGreatZB28
import Derived.Test.YtbobbbhgdfapjaaGreatZB29
import Derived.Test.YtbobbbhgdfapjaaGreatZB30
import Derived.Test.YtbobbbhgdfapjaaGreatZB31
import Derived.Test.YtbobbbhgdfapjaaGreatZB32
set_option linter.unusedSimpArgs false
set_option linter.unusedVariables false
namespace Go.Proofs.YtbobbbhgdfapjaaGreat
set_option maxHeartbeats 8000000
set_option maxRecDepth 100000
open Go.RowKit Tk
/-! ### tables -/
theorem numbF_len : ∀ (l : List ByteArray) (i r : Nat), (numbF l i r).length = l.length
 | [], _, _ => rfl
 | s :: l, i, r => by rw [numbF, List.length_cons, List.length_cons, numbF_len l]
theorem numb_known {ns : List ByteArray} {r : Nat} {s : ByteArray} (h : s ∈ ns) : (findB s (numb ns r)).isSome = true := by
 obtain ⟨j, h1, -, -⟩ := numbF_find ns 0 r h
 unfold numb; rw [h1]; rfl
open Go.RowKit Tk
theorem info_bo : (Tryz.prog.info? 66).map (fun i => (i.zero, i.size, i.bytes)) = some (some (.agg #[.string ⟨#[]⟩, .bool false]), 2, 24) := by kernel_rfl
theorem und_bos : Tryz.prog.underlying 37 = some (.slice 66) := by kernel_rfl
theorem boC_ones (x : ByteArray × Bool) : ∀ c ∈ boC x, Value.oneCell' c = true := by intro c hc; simp [boC] at hc; rcases hc with rfl | rfl <;> rfl
theorem numb_len (ns : List ByteArray) (r : Nat) : (numb ns r).length = ns.length := numbF_len ns 0 r
theorem numbF_at : ∀ (l : List ByteArray) (i r j : Nat) {s : ByteArray}, l[j]? = some s → (numbF l i r)[j]? = some (s, r.testBit (i + j))
 | x :: l, i, r, 0, s, h => by
   rw [numbF]
   rw [List.getElem?_cons_zero] at h ⊢
   injection h with h
   subst h; rfl
 | x :: l, i, r, j + 1, s, h => by
   rw [numbF, List.getElem?_cons_succ]
   rw [List.getElem?_cons_succ] at h
   rw [numbF_at l (i + 1) r j h, show i + 1 + j = i + (j + 1) by omega]
theorem numb_at {ns : List ByteArray} {r j : Nat} {s : ByteArray} (h : ns[j]? = some s) : (numb ns r)[j]? = some (s, r.testBit j) := by
 have := numbF_at ns 0 r j h
 rwa [Nat.zero_add] at this
theorem i64_andOne (n : Int) : bits .and .i64 n 1 = n % 2 := by
 have h1 : (BitVec.ofInt 64 1).toNat = 2 ^ 1 - 1 := by decide
 have key : (BitVec.ofInt 64 n &&& BitVec.ofInt 64 1).toNat = (n % ((2 ^ 64 : Nat) : Int)).toNat % 2 ^ 1 := by
  rw [BitVec.toNat_and, BitVec.toNat_ofInt, h1, Nat.and_two_pow_sub_one_eq_mod]
 show IntKind.i64.wrap ((BitVec.ofInt 64 n &&& BitVec.ofInt 64 1).toNat : Nat) = n % 2
 rw [key, IntKind.wrap_i64]
 omega
theorem bit_one (r j : Nat) : ((bits .and .i64 ((r : Int) / 2 ^ j) 1) == 1) = r.testBit j := by
 have e : ((r : Int) / 2 ^ j) % 2 = ((r / 2 ^ j % 2 : Nat) : Int) := by push_cast; rfl
 rw [i64_andOne, e, Nat.testBit_eq_decide_div_mod_eq, Bool.eq_iff_iff, beq_iff_eq, decide_eq_true_eq]
 omega
def NumPost (l : List (ByteArray × Bool)) (w : World) (e : Ending) (w' : World) : Prop := ∃ a c, e = .returned (.slice a l.length c) ∧ RRow w' 2 boC (.slice a l.length c) l ∧ Ext w w'
theorem qnumbered_any {ns : List ByteArray} {r : Nat} {w : World} {a : Option Addr} {c : Nat} (h : Reads w (.slice a ns.length c) ns) (hn : ns.length ≤ 16) (hr : r < 2 ^ 20) :
    Calls Tryz.prog 36 #[.slice a ns.length c, .int .i64 r] w (NumPost (numb ns r) w) := by
 have n2 := h.lens.2
 go_enter Tryz.func36, Tryz.ntmps36
 have E := Only.refl [] w
 have r0 := OwnR.nil w w 66 2 boC
 go_upto_region 3 with (first | fail)
 go_loopw [5, 6] (fun v i wr => ∃ (j : Nat) (L : List (ByteArray × Bool)) (so : Option Addr) (sc : Nat), i = .int .i64 j ∧ j ≤ ns.length ∧ v = .slice so L.length sc ∧ Hid (L = (numb ns r).take j) ∧ Hid (L.length = j) ∧ OwnR w wr 66 2 boC (.slice so L.length sc) L ∧ Only [] w wr) (fun _ i _ => ns.length - (intOf i).toNat)
 case atStart => exact ⟨0, [], none, 0, rfl, Nat.zero_le _, rfl, rfl, rfl, r0, E⟩
 case round =>
  clear r0 E
  obtain ⟨j, L, so, sc, rfl, hj, rfl, HS, HJ, r0, E⟩ := hrel
  have hcE := bcell E.low
  have hL1 : L.length ≤ 16 := by rw [HJ.out]; omega
  by_cases hlt : j < ns.length
  · obtain ⟨g, o, hgo, hg, k0⟩ := h.cells hlt
    obtain ⟨y, hy⟩ := at_some hlt
    have ey : ns[j] = y := by rw [List.getElem?_eq_getElem hlt] at hy; injection hy
    rw [ey] at k0
    have HY := Lib.hid hy
    subst hgo
    have hb1 := bit_one r j
    clear hy ey
    go_upto_region 9999 with (first | ((first | ((with_reducible refine at_dst 25 ?_); (refine wp_rows2 1 (boC (y, r.testBit j)).toArray 66 ?_ ?_); (· kernel_rfl); intro X25 wn hX25 bb hx; (try have z25 := Nat.le_trans E.size (Nat.le_of_eq hX25)); (try have mr0_25 := r0.notin (Nat.le_of_eq hX25)); have b25 := Loc.new bb E hX25; clear bb hX25) | ((with_reducible refine at_dst 26 ?_); refine wp_own (.tmp 13) (.tmp 25) rfl info_bo und_bos rfl (by decide) boC_len boC_ones r0 E (RRow.blk (xs := [(y, r.testBit j)]) boC_len b25.blk rfl (show 1 ≤ maxLen by decide)) rfl rfl ?_ ?_ ?_; (· (simp only [List.length_cons, List.length_nil]; (try unfold maxLen); omega)); (· (simp only [List.length_cons, List.length_nil]; omega)); intro L26 hL26 s26 v26 wn r1 E2 hA; replace hL26 := Lib.hid hL26; clear E; have E := E2; clear E2; obtain ⟨o26, k26, rfl, l26, m26⟩ := ORow.len r1.row; (try simp only [Act.put, actL]))); (try replace E := E.ext hx); (try replace r0 := r0.ext hx); (try replace hcE := bcell E.low); (try replace c25 := b25.cf)))
    go_roundw
    case rel => exact ⟨j + 1, L26, o26, k26, by go_num, by omega, rfl, Lib.hid (by rw [← hL26.out, HS.out, take_at (numb_at HY.out)]), Lib.hid (by rw [← hL26.out, List.length_append, HJ.out]; rfl), r1, E⟩
    case measure => simp [intOf]; omega
  · go_upto_region 9999 with (first | fail)
    go_ret
    have hl : (numb ns r).take j = numb ns r := List.take_of_length_le (by rw [numb_len]; omega)
    have e := HS.out
    rw [hl] at e
    subst e
    exact ⟨so, sc, rfl, r0.row.reads boC_len, E.low⟩
open Go.RowKit Tk
/-! ### Text, for any expression -/
/-! ### at expressions that are the same but for where they lie -/
section
variable {u v x y : Ex} {w : World}
theorem lnode2 (op : Int) {X : Nat} {a b : Ex} {cs : Array Value} (hcs : cs = ([a, b].flatMap exC).toArray) (hb : Blk w X 28 cs) (ha : a.ok w) (hbo : b.ok w) : Calls Tryz.prog 39 #[.int .i64 op, .slice (some ⟨X, 0, none⟩) 2 2] w (fun e w' => ∃ t, e = .returned (.agg (exC t).toArray) ∧ t.ok w' ∧ t.bare = opX op [a.bare, b.bare] ∧ Ext w w') := by
 subst hcs
 refine (lnode_any op (some ⟨X, 0, none⟩) 2 [a, b] w).mono fun e w' he => ?_
 exact ⟨_, he.1, nodeX_ok ((RRow.blk (xs := [a, b]) exC_len hb (by simp) (show 2 ≤ maxLen by decide)).ext he.2) (oks2 (ha.ext he.2) (hbo.ext he.2)), by rw [nodeX_bare]; rfl, he.2⟩
end
end Go.Proofs.YtbobbbhgdfapjaaGreat
