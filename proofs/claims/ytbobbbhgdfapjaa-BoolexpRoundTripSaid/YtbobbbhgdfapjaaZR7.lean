/- Hb, Hc -/
import Derived.Test.YtbobbbhgdfapjaaZR1
import Derived.Test.YtbobbbhgdfapjaaZR2
import Derived.Test.YtbobbbhgdfapjaaZR3
import Derived.Test.YtbobbbhgdfapjaaZR4
import Derived.Test.YtbobbbhgdfapjaaZR5
import Derived.Test.YtbobbbhgdfapjaaZR6
set_option linter.unusedSimpArgs false
set_option linter.unusedVariables false
namespace Go.Proofs.Ytbobbbhgdfapjaa
set_option maxHeartbeats 8000000
set_option maxRecDepth 100000
open Go.RowKit Tk
def signM (op : Int) : ByteArray := if op = 6 then ⟨#[61, 61]⟩ else if op = 7 then ⟨#[33, 61]⟩ else if op = 3 then ⟨#[38, 38]⟩ else if op = 5 then ⟨#[94]⟩ else ⟨#[124, 124]⟩
def signN (op : Int) : Int := if op = 6 then 4 else if op = 7 then 4 else if op = 3 then 3 else if op = 5 then 2 else 1
def strB (op : Int) : Int := if opn op < 2 then 5 else signN op
def TPost (s : ByteArray) (w : World) (e : Ending) (w' : World) : Prop := e = .returned (.string s) ∧ Ext w w'
def TIPost (s : ByteArray) (n : Int) (w : World) (e : Ending) (w' : World) : Prop := e = .returned (.tuple #[.string s, .int .i64 n]) ∧ Ext w w'
theorem seven (k : Int) : (k = 2 ∨ k = 3 ∨ k = 4 ∨ k = 5 ∨ k = 6 ∨ k = 7) ∨ (¬ k = 2 ∧ ¬ k = 3 ∧ ¬ k = 4 ∧ ¬ k = 5 ∧ ¬ k = 6 ∧ ¬ k = 7) := by omega
theorem bsign_any (k : Int) (w : World) : Calls Try.prog 36 #[.int .i64 k] w (TIPost (signM k) (signN k) w) := by
 rcases seven k with hin | ⟨n2, n3, n4, n5, n6, n7⟩
 · rcases hin with rfl | rfl | rfl | rfl | rfl | rfl
   all_goals
    go_enter Try.func36, Try.ntmps36
    have E := Only.refl [] w
    go_upto_region 9999 with (first | fail)
    refine bodyPost_ret (v := .tuple #[.string (signM _), .int .i64 (signN _)]) (by simp [results, Try.f36, go_sem]; first | exact ⟨rfl, rfl⟩ | rfl) rfl ⟨rfl, E.low⟩
 · obtain ⟨g3, -⟩ := kd_f n3
   obtain ⟨g5, -⟩ := kd_f n5
   obtain ⟨g6, -⟩ := kd_f n6
   obtain ⟨g7, -⟩ := kd_f n7
   have hv : signM k = ⟨#[124, 124]⟩ ∧ signN k = 1 := by simp [signM, signN, n3, n5, n6, n7]
   have HV := Lib.hid hv
   clear hv n2 n3 n4 n5 n6 n7
   go_enter Try.func36, Try.ntmps36
   have E := Only.refl [] w
   go_upto_region 9999 with (first | fail)
   refine bodyPost_ret (v := .tuple #[.string ⟨#[124, 124]⟩, .int .i64 1]) (by simp [results, Try.f36, go_sem]) rfl ⟨by rw [HV.out.1, HV.out.2], E.low⟩
theorem bstrength_any (x : Ex) (w : World) : Calls Try.prog 37 #[.agg (exC x).toArray] w (IPost (strB x.h.op) w) := by
 obtain ⟨n, hn⟩ : ∃ n, opn x.h.op = n := ⟨_, rfl⟩
 unfold strB
 rw [hn]
 have HN := Lib.hid hn
 clear hn
 by_cases h : n < 2
 · rw [if_pos h]
   go_enter Try.func37, Try.ntmps37
   have E := Only.refl [] w
   go_upto_region 9999 with (first | ((first | ((with_reducible refine at_dst 7 ?_); go_simp; ((with_reducible refine (boperands_any _ _).mono ?_)); unfold IPost; rw [HN.out]; rintro e wn ⟨rfl, hx⟩) | ((with_reducible refine at_dst 1 ?_); go_simp; (generalize hXn : Array.size (World.heap _) = X1); refine new_block hXn ?_; intro wn bb hx; have b1 := Loc.new bb E hXn; have zz := Nat.le_trans E.size (Nat.le_of_eq hXn); clear bb hXn)); (try replace E := E.ext hx); (try replace b1 := b1.ext hx); (try replace hcE := bcell E.low); (try replace c1 := b1.cf)))
   go_ret
   exact ⟨rfl, E.low⟩
 · rw [if_neg h]
   go_enter Try.func37, Try.ntmps37
   have E := Only.refl [] w
   go_upto_region 9999 with (first | ((first | ((with_reducible refine at_dst 7 ?_); go_simp; ((with_reducible refine (boperands_any _ _).mono ?_)); unfold IPost; rw [HN.out]; rintro e wn ⟨rfl, hx⟩) | ((with_reducible refine at_dst 12 ?_); go_simp; ((with_reducible refine (bsign_any _ _).mono ?_)); unfold TIPost; rintro e wn ⟨rfl, hx⟩) | ((with_reducible refine at_dst 1 ?_); go_simp; (generalize hXn : Array.size (World.heap _) = X1); refine new_block hXn ?_; intro wn bb hx; have b1 := Loc.new bb E hXn; have zz := Nat.le_trans E.size (Nat.le_of_eq hXn); clear bb hXn)); (try replace E := E.ext hx); (try replace b1 := b1.ext hx); (try replace hcE := bcell E.low); (try replace c1 := b1.cf)))
   go_ret
   exact ⟨rfl, E.low⟩
open Go.RowKit Tk
mutual
def Ex.wf : Ex → Prop
 | .mk h k => opn h.op = (k.length : Int) ∧ (h.names.length : Int) = namedE h.op ∧ Ex.wfs k
def Ex.wfs : List Ex → Prop
 | [] => True
 | e :: l => e.wf ∧ Ex.wfs l
end
theorem Ex.wf.kids {x : Ex} (h : x.wf) : opn x.h.op = (x.kids.length : Int) := by cases x; unfold Ex.wf at h; exact h.1
theorem Ex.wf.names {x : Ex} (h : x.wf) : (x.h.names.length : Int) = namedE x.h.op := by cases x; unfold Ex.wf at h; exact h.2.1
theorem Ex.wf.subs {x : Ex} (h : x.wf) : Ex.wfs x.kids := by cases x; unfold Ex.wf at h; exact h.2.2
theorem Ex.wfs.mem : ∀ {l : List Ex}, Ex.wfs l → ∀ {x : Ex}, x ∈ l → x.wf
 | y :: l, h, x, hm => by
   unfold Ex.wfs at h
   rcases List.mem_cons.1 hm with rfl | hm
   · exact h.1
   · exact Ex.wfs.mem h.2 hm
theorem node_wf {x : Ex} {l : Int} (h : nodeE x l = 0) : opn x.h.op = (x.kids.length : Int) ∧ (x.h.names.length : Int) = namedE x.h.op := by
 unfold nodeE at h
 split at h
 · cases h
 · split at h
   · cases h
   · rename_i h2
     simp only [not_or, ne_eq, Classical.not_not] at h2
     exact ⟨h2.2.2.2.2.2.2.2.2.1.symm, h2.2.2.2.2.2.2.2.2.2⟩
mutual
theorem chk_wf : ∀ (x : Ex) (l : Int), chk x l = 0 → x.wf
 | .mk h k, l, hc => by
   rw [chk] at hc
   split at hc
   · rename_i hn; exact absurd hc hn
   · rename_i hn
     have hn0 := node_wf (Classical.not_not.1 hn)
     unfold Ex.wf
     exact ⟨hn0.1, hn0.2, chks_wf k (l + 1) hc⟩
theorem chks_wf : ∀ (k : List Ex) (l : Int), chks k l = 0 → Ex.wfs k
 | [], _, _ => by unfold Ex.wfs; trivial
 | e :: r, l, hc => by
   rw [chks] at hc
   split at hc
   · rename_i hn; exact absurd hc hn
   · rename_i hn
     unfold Ex.wfs
     exact ⟨chk_wf e l (Classical.not_not.1 hn), chks_wf r l hc⟩
end
/-- in parentheses -/
def paren (b : Bool) (s : ByteArray) : ByteArray := if b then ⟨#[40]⟩ ++ s ++ ⟨#[41]⟩ else s
mutual
def textB : Ex → Int → ByteArray
 | .mk h k, least => paren (decide (strB h.op < least)) (bodyT h k.length (textBs k (if k.length = 1 then 5 else signN h.op)))
def textBs : List Ex → Int → List ByteArray
 | [], _ => []
 | e :: l, n => textB e n :: textBs l (n + 1)
def bodyT (h : ExH) (n : Nat) (ts : List ByteArray) : ByteArray :=
 if n = 0 then firstN h.names else if n = 1 then ⟨#[33]⟩ ++ ts.headD ⟨#[]⟩ else ts.headD ⟨#[]⟩ ++ ⟨#[32]⟩ ++ signM h.op ++ ⟨#[32]⟩ ++ ts.getD 1 ⟨#[]⟩
end
end Go.Proofs.Ytbobbbhgdfapjaa
