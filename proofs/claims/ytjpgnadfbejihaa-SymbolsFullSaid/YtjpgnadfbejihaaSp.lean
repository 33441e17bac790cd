/- The walk of play: calls of the table and of the reference, side by side. -/
import Derived.Test.YtjpgnadfbejihaaSk
import Derived.Test.YtjpgnadfbejihaaC6
set_option linter.unusedSimpArgs false
set_option linter.unusedVariables false
namespace Go.Proofs.Ytjpgnadfbejihaa
open Go.RowKit Tk
structure Stp where
  kind : Int
  name : ByteArray
  n : Int
def stpC (s : Stp) : List Value := [.int .i64 s.kind, .string s.name, .int .i64 s.n]
theorem stpC_len (s : Stp) : (stpC s).length = 3 := rfl
def TS.step (T : TS) (s : Stp) : TS := if s.kind = 0 then (T.add s.name).1 else (T.also s.name s.n).1
def TS.run (T : TS) (l : List Stp) : TS := l.foldl TS.step T
theorem run_succ (T : TS) (l : List Stp) (k : Nat) (h : k < l.length) : T.run (l.take (k + 1)) = (T.run (l.take k)).step l[k] := by
  unfold TS.run; rw [List.take_succ_eq_append_getElem h, List.foldl_append]; rfl
theorem step_add {T : TS} {s : Stp} (h : s.kind = 0) : T.step s = (T.add s.name).1 := by simp [TS.step, h]
theorem step_also {T : TS} {s : Stp} (h : ¬ s.kind = 0) : T.step s = (T.also s.name s.n).1 := by simp [TS.step, h]
theorem Blk.c3 {w : World} {g : Nat} {t : TypeId} {x y z : Value} (h : Blk w g t #[x, y, z]) : w.cell? ⟨g, 0, none⟩ = some x ∧ w.cell? ⟨g, 1, none⟩ = some y ∧ w.cell? ⟨g, 2, none⟩ = some z ∧ w.frozen? ⟨g, 0, none⟩ = false ∧ w.frozen? ⟨g, 1, none⟩ = false ∧ w.frozen? ⟨g, 2, none⟩ = false :=
  ⟨h.cell 0, h.cell 1, h.cell 2, h.free 0, h.free 1, h.free 2⟩
theorem Blk.put3 {w : World} {g : Nat} {t : TypeId} {x y z x' y' z' : Value} (h : Blk w g t #[x, y, z]) : Blk (((w.setCell ⟨g, 0, none⟩ x').setCell ⟨g, 1, none⟩ y').setCell ⟨g, 2, none⟩ z') g t #[x', y', z'] ∧ Only [g] w (((w.setCell ⟨g, 0, none⟩ x').setCell ⟨g, 1, none⟩ y').setCell ⟨g, 2, none⟩ z') := by
  refine ⟨((h.set 0 x').set 1 y').set 2 z', rfl, rfl, rfl, by simp, fun k _ hk => ?_⟩
  have hk' : k ≠ g := by simpa using hk
  rw [Below.heap_setCell _ _ _ _ hk', Below.heap_setCell _ _ _ _ hk', Below.heap_setCell _ _ _ _ hk']
theorem ORow.ne {α : Type} {w : World} {t t' : TypeId} {k : Nat} {f : α → List Value} {v : Value} {xs : List α} {g : Nat} {cs : Array Value} (h : ORow w t k f v xs) (hb : Blk w g t' cs) (hne : t ≠ t') : g ∉ ownB v := by
  intro hm
  rcases h.2 with ⟨rfl, _⟩ | ⟨g', cap, cur, rfl, _, hg, _⟩
  · simp [ownB, Value.ownBlock] at hm
  · have : g = g' := by simpa [ownB, Value.ownBlock] using hm
    subst this
    exact Blk.ne_ (show Blk w g t cur from hg) hb hne rfl
theorem StA.ne {w : World} {nv av : Value} {T : TS} {g : Nat} {t' : TypeId} {cs : Array Value} (h : StA w nv av T) (hb : Blk w g t' cs) (h1 : 9 ≠ t') (h2 : 67 ≠ t') : g ∉ ownB nv ++ ownB av := by
  rw [List.mem_append, not_or]; exact ⟨h.1.o.ne hb h1, h.2.1.ne hb h2⟩
theorem StA.only {w w1 : World} {nv av : Value} {T : TS} {F : List Nat} (h : StA w nv av T) (ho : Only F w w1) (hF : ∀ x ∈ ownB nv ++ ownB av, x ∉ F) : StA w1 nv av T :=
  ⟨h.1.only ho fun x hx => hF x (List.mem_append.2 (.inl hx)), h.2.1.kept fun x hx => ho.block x (h.2.1.lt hx) (hF x (List.mem_append.2 (.inr (mem_ownB.2 hx)))), h.2.2⟩
theorem StA.lt {w : World} {nv av : Value} {T : TS} (h : StA w nv av T) : ∀ x ∈ ownB nv ++ ownB av, x < w.heap.size := fun x hx =>
  (List.mem_append.1 hx).elim (fun h' => h.1.lt x h') (fun h' => h.2.1.lt (mem_ownB.1 h'))
/-- what a call of the reference yields -/
def spSt (R : List Nat) (N : Nat) (T : TS) (r : Value → Value) : Sp :=
  { φ := fun v => ∃ no nc ao ac, v = r (.agg #[.int .i64 T.lim, .slice no T.names.length nc, .slice ao T.als.length ac])
    Φ := fun v w => ∀ nv av, v = r (.agg #[.int .i64 T.lim, nv, av]) → StA w nv av T ∧ ∀ x ∈ ownB nv ++ ownB av, x ∈ R ∨ N ≤ x
    mono := fun v w w' hx h nv av e => ⟨(h nv av e).1.low hx, (h nv av e).2⟩ }
theorem good_st {R : List Nat} {N : Nat} {T : TS} {r : Value → Value} {w w' : World} {nv av : Value} (hr : ∀ a b, r a = r b → a = b) (hN : N ≤ w.heap.size) (hS : StA w' nv av T) (hb : Below w.heap.size w w') (ho : ∀ x ∈ ownB nv ++ ownB av, x ∈ R ∨ w.heap.size ≤ x) : (spSt R N T r).Good (r (.agg #[.int .i64 T.lim, nv, av])) w w' := by
  obtain ⟨no, nc, rfl, _, _⟩ := hS.1.len
  obtain ⟨ao, ac, rfl, _, _⟩ := hS.2.1.len
  refine ⟨⟨no, nc, ao, ac, rfl⟩, fun nv' av' e => ?_, hb, fun x hx => by cases hx⟩
  have e' := hr _ _ e
  injection e' with e'
  simp at e'
  obtain ⟨rfl, rfl⟩ := e'
  exact ⟨hS, fun x hx => (ho x hx).imp id fun h => Nat.le_trans hN h⟩
structure Play (w wr : World) (b : Nat) (F R : List Nat) (F' : List Nat) (nv av : Value) (T : TS) : Prop where
  tab : Tab wr b F' T
  st : StA wr nv av T
  box : Blk wr w.heap.size 28 #[.int .i64 T.lim, nv, av]
  out : Blk wr (w.heap.size + 1) 28 #[.int .i64 0, .slice none 0 0, .slice none 0 0]
  only : Only F w wr
  own : ∀ x ∈ F', x ∈ F ∨ w.heap.size + 2 ≤ x
  rows : ∀ x ∈ ownB nv ++ ownB av, x ∈ R ∨ w.heap.size + 2 ≤ x
  apart : ∀ x ∈ ownB nv ++ ownB av, x ∉ F'
def PlayPost (w : World) (b : Nat) (F R : List Nat) (T : TS) (e : Ending) (w' : World) : Prop :=
  ∃ F' no nc ao ac, e = .returned (.tuple #[.agg #[.int .i64 T.lim, .slice no T.names.length nc, .slice ao T.als.length ac], .bool true]) ∧ Tab w' b F' T ∧ StA w' (.slice no T.names.length nc) (.slice ao T.als.length ac) T ∧ Only F w w' ∧ (∀ x ∈ F', x ∈ F ∨ w.heap.size ≤ x) ∧ (∀ x ∈ ownB (.slice no T.names.length nc) ++ ownB (.slice ao T.als.length ac), x ∈ R ∨ w.heap.size ≤ x) ∧ ∀ x ∈ ownB (.slice no T.names.length nc) ++ ownB (.slice ao T.als.length ac), x ∉ F'
section
variable {w wr w' : World} {b : Nat} {F R F' : List Nat} {nv av : Value} {T : TS}
theorem Play.own_ne (h : Play w wr b F R F' nv av T) (hF : ∀ x ∈ F, x < w.heap.size) : ∀ x ∈ F', x ≠ w.heap.size ∧ x ≠ w.heap.size + 1 := fun x hx => by
  rcases h.own x hx with h1 | h1
  · have := hF x h1; omega
  · omega
theorem Play.rows_ne (h : Play w wr b F R F' nv av T) (hR : ∀ x ∈ R, x < w.heap.size) : ∀ x ∈ ownB nv ++ ownB av, x ≠ w.heap.size ∧ x ≠ w.heap.size + 1 := fun x hx => by
  rcases h.rows x hx with h1 | h1
  · have := hR x h1; omega
  · omega
theorem Play.done {no ao : Option Addr} {nc ac : Nat} {x' y' z' : Value} (h : Play w wr b F R F' (.slice no T.names.length nc) (.slice ao T.als.length ac) T) (hF : ∀ x ∈ F, x < w.heap.size) (hR : ∀ x ∈ R, x < w.heap.size) :
    PlayPost w b F R T (.returned (.tuple #[.agg #[.int .i64 T.lim, .slice no T.names.length nc, .slice ao T.als.length ac], .bool true])) (((wr.setCell ⟨w.heap.size + 1, 0, none⟩ x').setCell ⟨w.heap.size + 1, 1, none⟩ y').setCell ⟨w.heap.size + 1, 2, none⟩ z') := by
  obtain ⟨hB, hO⟩ := h.out.put3 (x' := x') (y' := y') (z' := z')
  refine ⟨F', no, nc, ao, ac, rfl, h.tab.only hO fun x hx => by simpa using (h.own_ne hF x hx).2, h.st.only hO fun x hx => by simpa using (h.rows_ne hR x hx).2, h.only.trans hO fun x hx => .inr (by simp at hx; omega), fun x hx => (h.own x hx).imp id fun h => by omega, fun x hx => (h.rows x hx).imp id fun h => by omega, h.apart⟩
theorem Play.next {w5 w6 : World} {F6 : List Nat} {nv2 av2 : Value} {T2 : TS} (h : Play w wr b F R F' nv av T) (hF : ∀ x ∈ F, x < w.heap.size) (hR : ∀ x ∈ R, x < w.heap.size) (h5 : Below wr.heap.size wr w5) (hS : StA w5 nv2 av2 T2) (hO : ∀ x ∈ ownB nv2 ++ ownB av2, x ∈ ownB nv ++ ownB av ∨ wr.heap.size ≤ x)
    (hT : Tab w6 b F6 T2) (hO6 : Only F' w5 w6) (hF6 : ∀ x ∈ F6, x ∈ F' ∨ w5.heap.size ≤ x) : Play w (((w6.setCell ⟨w.heap.size, 0, none⟩ (.int .i64 T2.lim)).setCell ⟨w.heap.size, 1, none⟩ nv2).setCell ⟨w.heap.size, 2, none⟩ av2) b F R F6 nv2 av2 T2 := by
  have hlt := h.out.lt
  have hTl := h.tab.lt
  have hSl := hS.lt
  have own1 := h.own_ne hF
  have row1 := h.rows_ne hR
  have hz := h5.size
  have hb6 : Blk w6 w.heap.size 28 #[.int .i64 T.lim, nv, av] := (h.box.low h5).of (hO6.block _ (by omega) fun hm => (own1 _ hm).1 rfl)
  have ho6 : Blk w6 (w.heap.size + 1) 28 #[.int .i64 0, .slice none 0 0, .slice none 0 0] := (h.out.low h5).of (hO6.block _ (by omega) fun hm => (own1 _ hm).2 rfl)
  obtain ⟨hB7, hO7⟩ := hb6.put3 (x' := .int .i64 T2.lim) (y' := nv2) (z' := av2)
  have own6 : ∀ x ∈ F6, x ∈ F ∨ w.heap.size + 2 ≤ x := fun x hx => (hF6 x hx).elim (fun h' => h.own x h') (fun h' => .inr (by omega))
  have rows6 : ∀ x ∈ ownB nv2 ++ ownB av2, x ∈ R ∨ w.heap.size + 2 ≤ x := fun x hx => (hO x hx).elim (fun h' => h.rows x h') (fun h' => .inr (by omega))
  refine ⟨hT.only hO7 fun x hx => ?_, (hS.only hO6 fun x hx hm => ?_).only hO7 fun x hx => ?_, hB7, ho6.of (hO7.block _ ho6.lt (by simp)), ?_, own6, rows6, fun x hx hm => ?_⟩
  · rcases own6 x hx with h1 | h1
    · have := hF x h1; simp; omega
    · simp; omega
  · rcases hO x hx with h1 | h1
    · exact h.apart x h1 hm
    · have := hTl x hm; omega
  · rcases rows6 x hx with h1 | h1
    · have := hR x h1; simp; omega
    · simp; omega
  · exact ((h.only.trans (Only.of_below (F := []) h5) (by simp)).trans hO6 (fun x hx => (h.own x hx).imp id fun h' => by omega)).trans hO7 (fun x hx => .inr (by simp at hx; omega))
  · rcases hF6 x hm with h1 | h1
    · rcases hO x hx with h2 | h2
      · exact h.apart x h2 h1
      · have := hTl x h1; omega
    · have := hSl x hx; omega
end
set_option maxHeartbeats 4000000 in
set_option maxRecDepth 100000 in
theorem play_any {w : World} {b : Nat} {F : List Nat} {T : TS} {nv av lv : Value} {l : List Stp} (hT : Tab w b F T) (hS : StA w nv av T) (hap : ∀ x ∈ ownB nv ++ ownB av, x ∉ F) (hl : RRow w 3 stpC lv l) (hlF : 0 < l.length → ∀ x ∈ ownB lv, x ∉ F) (hn : ∀ s ∈ l, s.name.size ≤ maxLen) (hL : l.length ≤ 1000) :
    Calls Try.prog 12 #[.pointer (some ⟨b, 0, none⟩), .agg #[.int .i64 T.lim, nv, av], lv] w (PlayPost w b F (ownB nv ++ ownB av) (T.run l)) := by
  obtain ⟨no, nc, rfl, -, -⟩ := hS.1.len
  obtain ⟨ao, ac, rfl, -, -⟩ := hS.2.1.len
  obtain ⟨lo, lc, rfl, l1, l2⟩ := hl.len
  have hFlt := hT.lt
  have hRlt := hS.lt
  unfold maxLen at l2
  go_enter Try.func12, Try.ntmps12
  go_wp2_with (first | ((with_reducible refine wpTxt_q ?_ ?_ ?_); rfl; rfl; intro _ _) | ((with_reducible refine wpTxt_w0 ?_ ?_ ?_); rfl; rfl; intro _ _) | ((with_reducible refine wpTxt_s ?_ ?_); rfl; intro _ _; go_simp) | ((with_reducible refine wpTxt_sw ?_ ?_); rfl; intro _ _; go_simp) | (with_reducible refine wpTxt_nil ?_) | ((with_reducible refine wp_region_t mixed ?_ ?_); decide +kernel; intro _ _))
  go_loopw [8] (fun i wr => ∃ k : Nat, i = .int .i64 k ∧ k ≤ l.length ∧ ∃ F' no' nc' ao' ac', Play w wr b F (ownB (.slice no T.names.length nc) ++ ownB (.slice ao T.als.length ac)) F' (.slice no' (T.run (l.take k)).names.length nc') (.slice ao' (T.run (l.take k)).als.length ac') (T.run (l.take k))) (fun i _ => l.length - (intOf i).toNat)
  case atStart =>
    refine ⟨0, rfl, Nat.zero_le _, F, no, nc, ao, ac, ⟨?_, ?_, ?_, ?_, ?_, ?_, ?_, ?_⟩⟩
    · exact hT.low (by (repeat (first | with_reducible assumption | with_reducible exact Below.refl _ _ | ((with_reducible refine Below.setCell ?_ ?_ _); rotate_left; (· first | omega | (simp only [World.size_alloc, World.size_drew, World.size_setCell]; omega) | (dsimp only; omega))) | ((with_reducible refine Below.alloc ?_ ?_ _); rotate_left; (· first | omega | (simp only [World.size_alloc, World.size_drew, World.size_setCell]; omega))) | ((with_reducible refine Below.drewN' ?_ _)) | ((with_reducible refine Below.drew ?_)))))
    · exact hS.low (by (repeat (first | with_reducible assumption | with_reducible exact Below.refl _ _ | ((with_reducible refine Below.setCell ?_ ?_ _); rotate_left; (· first | omega | (simp only [World.size_alloc, World.size_drew, World.size_setCell]; omega) | (dsimp only; omega))) | ((with_reducible refine Below.alloc ?_ ?_ _); rotate_left; (· first | omega | (simp only [World.size_alloc, World.size_drew, World.size_setCell]; omega))) | ((with_reducible refine Below.drewN' ?_ _)) | ((with_reducible refine Below.drew ?_)))))
    · exact (Blk.fresh _ _ _).alloc _
    · exact Blk.at_ _ _ _ _ (by simp)
    · exact Only.of_below (by (repeat (first | with_reducible assumption | with_reducible exact Below.refl _ _ | ((with_reducible refine Below.setCell ?_ ?_ _); rotate_left; (· first | omega | (simp only [World.size_alloc, World.size_drew, World.size_setCell]; omega) | (dsimp only; omega))) | ((with_reducible refine Below.alloc ?_ ?_ _); rotate_left; (· first | omega | (simp only [World.size_alloc, World.size_drew, World.size_setCell]; omega))) | ((with_reducible refine Below.drewN' ?_ _)) | ((with_reducible refine Below.drew ?_)))))
    · exact fun x hx => .inl hx
    · exact fun x hx => .inl hx
    · exact hap
  case round =>
    obtain ⟨k, rfl, hk, F', no', nc', ao', ac', hP⟩ := hrel
    have hP' := Lib.hid hP
    obtain ⟨b0, b1, b2, y0, y1, y2⟩ := hP.box.c3
    obtain ⟨z0, z1, z2, v0, v1, v2⟩ := hP.out.c3
    by_cases hlt : k < l.length
    · have hlr : RRow wr 3 stpC (.slice lo l.length lc) l := hl.kept hP.only.size fun x hx hx' => hP.only.block x hx' (hlF (by omega) x (mem_ownB.2 hx))
      obtain ⟨lg, loff, lc', e, -, -, hlg, hlc⟩ := hlr.at (by omega)
      injection e with e1 e2 e3
      subst e1
      clear e2 e3
      have k0 := hlc k hlt 0 (by omega)
      have k1 := hlc k hlt 1 (by omega)
      have k2 := hlc k hlt 2 (by omega)
      have hnk := hn l[k] (List.getElem_mem hlt)
      have HS := Lib.hid (run_succ T l k hlt)
      simp only [stpC, List.getElem?_cons_zero, List.getElem?_cons_succ, Nat.add_zero] at k0 k1 k2
      generalize l[k] = s at *
      obtain ⟨kd, nm, n⟩ := s
      dsimp only at k0 k1 k2 hnk
      generalize T.run (l.take k) = T1 at *
      by_cases hkd : kd = 0
      · obtain ⟨g1, g2⟩ := kd_t hkd
        have HT2 := Lib.hid (show T.run (l.take (k + 1)) = (T1.add nm).1 from HS.out.trans (step_add hkd))
        clear hkd hlc HS
        go_upto_region 5 with (first | ((with_reducible refine wpTxt_q ?_ ?_ ?_); rfl; rfl; intro _ _) | ((with_reducible refine wpTxt_w0 ?_ ?_ ?_); rfl; rfl; intro _ _) | ((with_reducible refine wpTxt_s ?_ ?_); rfl; intro _ _; go_simp) | ((with_reducible refine wpTxt_sw ?_ ?_); rfl; intro _ _; go_simp) | (with_reducible refine wpTxt_nil ?_) | ((with_reducible refine wp_region_t mixed ?_ ?_); decide +kernel; intro _ _))
        clear b0 b1 b2 y0 y1 y2 z0 z1 z2 v0 v1 v2 k0 k2
        refine wp_region_h (spOf [(6, spSt (ownB (.slice no' T1.names.length nc') ++ ownB (.slice ao' T1.als.length ac')) wr.heap.size (T1.add nm).1 fun v => .tuple #[v, .int .i64 (T1.add nm).2.1, .int .i64 (T1.add nm).2.2]), (11, spNew 28 #[.int .i64 0, .slice none 0 0, .slice none 0 0])]) [0, 1, 2, 3, 4, 5, 6, 7, 8, 9, 10, 11] [9, 10] [12, 13, 14] mixed ?_ ?_
        · decide +kernel
        intro K ws hws hK
        have hxw : Below wr.heap.size wr ws := by rw [hws]; (repeat (first | with_reducible assumption | with_reducible exact Below.refl _ _ | ((with_reducible refine Below.setCell ?_ ?_ _); rotate_left; (· first | omega | (simp only [World.size_alloc, World.size_drew, World.size_setCell]; omega) | (dsimp only; omega))) | ((with_reducible refine Below.alloc ?_ ?_ _); rotate_left; (· first | omega | (simp only [World.size_alloc, World.size_drew, World.size_setCell]; omega))) | ((with_reducible refine Below.drewN' ?_ _)) | ((with_reducible refine Below.drew ?_))))
        clear hws
        have hlgs : lg < ws.heap.size := by have := hxw.size; omega
        have hkw := Lib.hid k1
        have HK1 := Lib.hid ((hxw.cell (p := ⟨lg, loff + k * 3 + 1, none⟩) hlg).trans k1)
        clear k1
        dsimp only [pickE, pickL, List.getElem?_cons_succ, List.getElem?_cons_zero] at hK ⊢
        go_wp2_with (first | ((with_reducible refine wpE_q ?_ ?_ ?_); rfl; rfl; intro wq hq _ _; obtain ⟨b0, b1, b2, -, -, -⟩ := (hP'.out.box.low (hxw.trans (hq.mono hxw.size))).c3; have k1 := (Below.cell hq (p := ⟨lg, loff + k * 3 + 1, none⟩) hlgs).trans HK1.out) | ((with_reducible refine wpE_s ?_ ?_); rfl; intro wq hq _ _; obtain ⟨b0, b1, b2, -, -, -⟩ := (hP'.out.box.low (hxw.trans (hq.mono hxw.size))).c3; have k1 := (Below.cell hq (p := ⟨lg, loff + k * 3 + 1, none⟩) hlgs).trans HK1.out; go_simp))
        refine wpE_w (spSt (ownB (.slice no' T1.names.length nc') ++ ownB (.slice ao' T1.als.length ac')) wr.heap.size (T1.add nm).1 fun v => .tuple #[v, .int .i64 (T1.add nm).2.1, .int .i64 (T1.add nm).2.2]) _ rfl rfl rfl rfl rfl ⟨_, none, 0, none, 0, rfl⟩ ?_ ?_
        · intro wq hq K2 hK2
          go_wp2_with fail
          refine (r4Add_any (hP'.out.st.low (hxw.trans (hq.mono hxw.size))) nm hnk).mono ?_
          rintro e w' ⟨nv', av', rfl, hS', hb', ho'⟩
          go_wp2_with fail
          exact good_st (fun a b e => by injection e with e; simpa using e) (Nat.le_trans hxw.size hq.size) hS' hb' ho'
        · rintro v ⟨no2, nc2, ao2, ac2, rfl⟩
          go_wp2_with (first | ((with_reducible refine wpE_q ?_ ?_ ?_); rfl; rfl; intro wq hq _ _; skip) | ((with_reducible refine wpE_s ?_ ?_); rfl; intro wq hq _ _; skip; go_simp))
          refine wpE_w (spNew 28 #[.int .i64 0, .slice none 0 0, .slice none 0 0]) _ rfl rfl rfl rfl rfl ⟨_, 0, rfl⟩ ?_ ?_
          · intro wq hq K2 hK2
            go_wp2_with fail
            exact good_new _ _ wq
          · rintro v ⟨g9, rfl⟩
            refine wpE_nil (fun w4 hx4 hΦ hfp hdis => ?_)
            obtain ⟨hS4, hO4⟩ := hΦ (6, .tuple #[.agg #[.int .i64 (T1.add nm).1.lim, .slice no2 (T1.add nm).1.names.length nc2, .slice ao2 (T1.add nm).1.als.length ac2], .int .i64 (T1.add nm).2.1, .int .i64 (T1.add nm).2.2]) (by simp) _ _ rfl
            have hG4 : Blk w4 g9 28 #[.int .i64 0, .slice none 0 0, .slice none 0 0] := hΦ (11, .pointer (some ⟨g9, 0, none⟩)) (by simp)
            have hg9 : ws.heap.size ≤ g9 := (hfp (11, .pointer (some ⟨g9, 0, none⟩)) (by simp) g9 (by simp [spOf, spNew, blkOf])).1
            have hB4 : Below wr.heap.size wr w4 := hxw.trans (hx4.mono hxw.size)
            clear hΦ hfp hdis
            refine hK _ _ ?_
            clear hK HK1
            obtain ⟨q0, q1, q2, r0, r1, r2⟩ := hG4.c3
            go_upto_region 6 with (first | ((with_reducible refine wpTxt_q ?_ ?_ ?_); rfl; rfl; intro _ _) | ((with_reducible refine wpTxt_w0 ?_ ?_ ?_); rfl; rfl; intro _ _) | ((with_reducible refine wpTxt_s ?_ ?_); rfl; intro _ _; go_simp) | ((with_reducible refine wpTxt_sw ?_ ?_); rfl; intro _ _; go_simp) | (with_reducible refine wpTxt_nil ?_) | ((with_reducible refine wp_region_t mixed ?_ ?_); decide +kernel; intro _ _))
            clear q0 q1 q2 r0 r1 r2
            obtain ⟨hG5, hO5⟩ := hG4.put3 (x' := .int .i64 (T1.add nm).1.lim) (y' := .slice no2 (T1.add nm).1.names.length nc2) (z' := .slice ao2 (T1.add nm).1.als.length ac2)
            generalize hw5 : ((w4.setCell ⟨g9, 0, none⟩ (.int .i64 (T1.add nm).1.lim)).setCell ⟨g9, 1, none⟩ (.slice no2 (T1.add nm).1.names.length nc2)).setCell ⟨g9, 2, none⟩ (.slice ao2 (T1.add nm).1.als.length ac2) = w5 at hG5 hO5 ⊢
            clear hw5
            have hgr : wr.heap.size ≤ g9 := Nat.le_trans hxw.size hg9
            have hB5 : Below wr.heap.size wr w5 := hB4.trans (hO5.below (by simp; omega) hB4.size)
            have hS5 := hS4.only hO5 fun x hx hm => by
              have := hS4.ne hG4 (by decide) (by decide)
              simp at hm; subst hm; exact this hx
            have hT5 := hP'.out.tab.low hB5
            have hgF : g9 ∉ F' := fun hm => by have := hP'.out.tab.lt g9 hm; omega
            have k1 := (hB5.cell (p := ⟨lg, loff + k * 3 + 1, none⟩) hlg).trans hkw.out
            have hbw := hP'.out.own_ne hFlt
            go_wp2_with (first | ((with_reducible refine wpTxt_q ?_ ?_ ?_); rfl; rfl; intro _ _) | ((with_reducible refine wpTxt_w0 ?_ ?_ ?_); rfl; rfl; intro _ _) | ((with_reducible refine wpTxt_s ?_ ?_); rfl; intro _ _; go_simp) | ((with_reducible refine wpTxt_sw ?_ ?_); rfl; intro _ _; go_simp) | (with_reducible refine wpTxt_nil ?_) | ((with_reducible refine wp_region_t mixed ?_ ?_); decide +kernel; intro _ _) | (go_at_call 17; ((with_reducible refine (add_tab hT5 nm hnk).mono ?_); rintro e w6 ⟨F6, rfl, hT6, hO6, hF6⟩; have hG6 := hG5.of (hO6.block _ hG5.lt hgF); have hX6 := (hP'.out.box.low hB5).of (hO6.block _ (hP'.out.box.low hB5).lt fun hm => (hbw _ hm).1 rfl); obtain ⟨q0, q1, q2, r0, r1, r2⟩ := hG6.c3; obtain ⟨b0, b1, b2, y0, y1, y2⟩ := hX6.c3)))
            go_roundw
            case rel =>
              refine ⟨k + 1, by go_num, by omega, F6, no2, nc2, ao2, ac2, ?_⟩
              rw [HT2.out]
              exact hP'.out.next hFlt hRlt hB5 hS5 hO4 hT6 hO6 hF6
            case measure => simp [intOf]; omega
      · obtain ⟨g1, g2⟩ := kd_f hkd
        have HT2 := Lib.hid (show T.run (l.take (k + 1)) = (T1.also nm n).1 from HS.out.trans (step_also hkd))
        clear hkd hlc HS
        go_upto_region 10 with (first | ((with_reducible refine wpTxt_q ?_ ?_ ?_); rfl; rfl; intro _ _) | ((with_reducible refine wpTxt_w0 ?_ ?_ ?_); rfl; rfl; intro _ _) | ((with_reducible refine wpTxt_s ?_ ?_); rfl; intro _ _; go_simp) | ((with_reducible refine wpTxt_sw ?_ ?_); rfl; intro _ _; go_simp) | (with_reducible refine wpTxt_nil ?_) | ((with_reducible refine wp_region_t mixed ?_ ?_); decide +kernel; intro _ _))
        clear b0 b1 b2 y0 y1 y2 z0 z1 z2 v0 v1 v2 k0
        refine wp_region_h (spOf [(11, spSt (ownB (.slice no' T1.names.length nc') ++ ownB (.slice ao' T1.als.length ac')) wr.heap.size (T1.also nm n).1 fun v => .tuple #[v, .int .i64 (T1.also nm n).2]), (15, spNew 28 #[.int .i64 0, .slice none 0 0, .slice none 0 0])]) [0, 1, 2, 3, 4, 5, 6, 7, 8, 9, 10, 11, 12, 13, 14, 15] [14] [16, 17] mixed ?_ ?_
        · decide +kernel
        intro K ws hws hK
        have hxw : Below wr.heap.size wr ws := by rw [hws]; (repeat (first | with_reducible assumption | with_reducible exact Below.refl _ _ | ((with_reducible refine Below.setCell ?_ ?_ _); rotate_left; (· first | omega | (simp only [World.size_alloc, World.size_drew, World.size_setCell]; omega) | (dsimp only; omega))) | ((with_reducible refine Below.alloc ?_ ?_ _); rotate_left; (· first | omega | (simp only [World.size_alloc, World.size_drew, World.size_setCell]; omega))) | ((with_reducible refine Below.drewN' ?_ _)) | ((with_reducible refine Below.drew ?_))))
        clear hws
        have hlgs : lg < ws.heap.size := by have := hxw.size; omega
        have hkw := Lib.hid k1
        have HK1 := Lib.hid ((hxw.cell (p := ⟨lg, loff + k * 3 + 1, none⟩) hlg).trans k1)
        have hkx := Lib.hid k2
        have HK2 := Lib.hid ((hxw.cell (p := ⟨lg, loff + k * 3 + 2, none⟩) hlg).trans k2)
        clear k1 k2
        dsimp only [pickE, pickL, List.getElem?_cons_succ, List.getElem?_cons_zero] at hK ⊢
        go_wp2_with (first | ((with_reducible refine wpE_q ?_ ?_ ?_); rfl; rfl; intro wq hq _ _; obtain ⟨b0, b1, b2, -, -, -⟩ := (hP'.out.box.low (hxw.trans (hq.mono hxw.size))).c3; have k1 := (Below.cell hq (p := ⟨lg, loff + k * 3 + 1, none⟩) hlgs).trans HK1.out; have k2 := (Below.cell hq (p := ⟨lg, loff + k * 3 + 2, none⟩) hlgs).trans HK2.out) | ((with_reducible refine wpE_s ?_ ?_); rfl; intro wq hq _ _; obtain ⟨b0, b1, b2, -, -, -⟩ := (hP'.out.box.low (hxw.trans (hq.mono hxw.size))).c3; have k1 := (Below.cell hq (p := ⟨lg, loff + k * 3 + 1, none⟩) hlgs).trans HK1.out; have k2 := (Below.cell hq (p := ⟨lg, loff + k * 3 + 2, none⟩) hlgs).trans HK2.out; go_simp))
        refine wpE_w (spSt (ownB (.slice no' T1.names.length nc') ++ ownB (.slice ao' T1.als.length ac')) wr.heap.size (T1.also nm n).1 fun v => .tuple #[v, .int .i64 (T1.also nm n).2]) _ rfl rfl rfl rfl rfl ⟨_, none, 0, none, 0, rfl⟩ ?_ ?_
        · intro wq hq K2 hK2
          go_wp2_with fail
          refine (r4AliasOf_any (hP'.out.st.low (hxw.trans (hq.mono hxw.size))) nm n hnk).mono ?_
          rintro e w' ⟨nv', av', rfl, hS', hb', ho'⟩
          go_wp2_with fail
          exact good_st (fun a b e => by injection e with e; simpa using e) (Nat.le_trans hxw.size hq.size) hS' hb' ho'
        · rintro v ⟨no2, nc2, ao2, ac2, rfl⟩
          go_wp2_with (first | ((with_reducible refine wpE_q ?_ ?_ ?_); rfl; rfl; intro wq hq _ _; skip) | ((with_reducible refine wpE_s ?_ ?_); rfl; intro wq hq _ _; skip; go_simp))
          refine wpE_w (spNew 28 #[.int .i64 0, .slice none 0 0, .slice none 0 0]) _ rfl rfl rfl rfl rfl ⟨_, 0, rfl⟩ ?_ ?_
          · intro wq hq K2 hK2
            go_wp2_with fail
            exact good_new _ _ wq
          · rintro v ⟨g9, rfl⟩
            refine wpE_nil (fun w4 hx4 hΦ hfp hdis => ?_)
            obtain ⟨hS4, hO4⟩ := hΦ (11, .tuple #[.agg #[.int .i64 (T1.also nm n).1.lim, .slice no2 (T1.also nm n).1.names.length nc2, .slice ao2 (T1.also nm n).1.als.length ac2], .int .i64 (T1.also nm n).2]) (by simp) _ _ rfl
            have hG4 : Blk w4 g9 28 #[.int .i64 0, .slice none 0 0, .slice none 0 0] := hΦ (15, .pointer (some ⟨g9, 0, none⟩)) (by simp)
            have hg9 : ws.heap.size ≤ g9 := (hfp (15, .pointer (some ⟨g9, 0, none⟩)) (by simp) g9 (by simp [spOf, spNew, blkOf])).1
            have hB4 : Below wr.heap.size wr w4 := hxw.trans (hx4.mono hxw.size)
            clear hΦ hfp hdis
            refine hK _ _ ?_
            clear hK HK1 HK2
            obtain ⟨q0, q1, q2, r0, r1, r2⟩ := hG4.c3
            go_upto_region 11 with (first | ((with_reducible refine wpTxt_q ?_ ?_ ?_); rfl; rfl; intro _ _) | ((with_reducible refine wpTxt_w0 ?_ ?_ ?_); rfl; rfl; intro _ _) | ((with_reducible refine wpTxt_s ?_ ?_); rfl; intro _ _; go_simp) | ((with_reducible refine wpTxt_sw ?_ ?_); rfl; intro _ _; go_simp) | (with_reducible refine wpTxt_nil ?_) | ((with_reducible refine wp_region_t mixed ?_ ?_); decide +kernel; intro _ _))
            clear q0 q1 q2 r0 r1 r2
            obtain ⟨hG5, hO5⟩ := hG4.put3 (x' := .int .i64 (T1.also nm n).1.lim) (y' := .slice no2 (T1.also nm n).1.names.length nc2) (z' := .slice ao2 (T1.also nm n).1.als.length ac2)
            generalize hw5 : ((w4.setCell ⟨g9, 0, none⟩ (.int .i64 (T1.also nm n).1.lim)).setCell ⟨g9, 1, none⟩ (.slice no2 (T1.also nm n).1.names.length nc2)).setCell ⟨g9, 2, none⟩ (.slice ao2 (T1.also nm n).1.als.length ac2) = w5 at hG5 hO5 ⊢
            clear hw5
            have hgr : wr.heap.size ≤ g9 := Nat.le_trans hxw.size hg9
            have hB5 : Below wr.heap.size wr w5 := hB4.trans (hO5.below (by simp; omega) hB4.size)
            have hS5 := hS4.only hO5 fun x hx hm => by
              have := hS4.ne hG4 (by decide) (by decide)
              simp at hm; subst hm; exact this hx
            have hT5 := hP'.out.tab.low hB5
            have hgF : g9 ∉ F' := fun hm => by have := hP'.out.tab.lt g9 hm; omega
            have k1 := (hB5.cell (p := ⟨lg, loff + k * 3 + 1, none⟩) hlg).trans hkw.out
            have k2 := (hB5.cell (p := ⟨lg, loff + k * 3 + 2, none⟩) hlg).trans hkx.out
            have hbw := hP'.out.own_ne hFlt
            have hT5d : Tab w5.drew b F' T1 := hT5.low ((Below.refl _ _).drew)
            refine wp_region_o [0, 1, 2, 3, 4, 5, 6, 7, 8, 9, 10, 12, 11, 13] mixed ?_ ?_
            · decide +kernel
            intro K9 hK9
            dsimp only [pickL, List.getElem?_cons_succ, List.getElem?_cons_zero]
            go_wp2_with (first | ((with_reducible refine wpTxt_q ?_ ?_ ?_); rfl; rfl; intro _ _) | ((with_reducible refine wpTxt_w0 ?_ ?_ ?_); rfl; rfl; intro _ _) | ((with_reducible refine wpTxt_s ?_ ?_); rfl; intro _ _; go_simp) | ((with_reducible refine wpTxt_sw ?_ ?_); rfl; intro _ _; go_simp) | (with_reducible refine wpTxt_nil ?_) | ((with_reducible refine wp_region_t mixed ?_ ?_); decide +kernel; intro _ _) | (go_at_call 19; ((with_reducible refine (also_tab hT5d nm n hnk).mono ?_); rintro e w6 ⟨F6, rfl, hT6, hO6', hF6⟩; have hO6 : Only F' w5 w6 := ⟨hO6'.os, hO6'.tape, hO6'.output, hO6'.size, hO6'.block⟩; have hG6 := hG5.of (hO6.block _ hG5.lt hgF); have hX6 := (hP'.out.box.low hB5).of (hO6.block _ (hP'.out.box.low hB5).lt fun hm => (hbw _ hm).1 rfl); obtain ⟨q0, q1, q2, r0, r1, r2⟩ := hG6.c3; obtain ⟨b0, b1, b2, y0, y1, y2⟩ := hX6.c3)))

            go_roundw
            case rel =>
              refine ⟨k + 1, by go_num, by omega, F6, no2, nc2, ao2, ac2, ?_⟩
              rw [HT2.out]
              exact hP'.out.next hFlt hRlt hB5 hS5 hO4 hT6 hO6 hF6
            case measure => simp [intOf]; omega
    · have hkk : k = l.length := by omega
      subst hkk
      clear hP
      go_wp2_with (first | ((with_reducible refine wpTxt_q ?_ ?_ ?_); rfl; rfl; intro _ _) | ((with_reducible refine wpTxt_w0 ?_ ?_ ?_); rfl; rfl; intro _ _) | ((with_reducible refine wpTxt_s ?_ ?_); rfl; intro _ _; go_simp) | ((with_reducible refine wpTxt_sw ?_ ?_); rfl; intro _ _; go_simp) | (with_reducible refine wpTxt_nil ?_) | ((with_reducible refine wp_region_t mixed ?_ ?_); decide +kernel; intro _ _))
      rw [List.take_length] at hP'
      refine bodyPost_ret (v := .tuple #[.agg #[.int .i64 (T.run l).lim, .slice no' (T.run l).names.length nc', .slice ao' (T.run l).als.length ac'], .bool true]) (by simp [results, Try.f12, go_sem, *]) rfl ?_
      exact hP'.out.done hFlt hRlt
end Go.Proofs.Ytjpgnadfbejihaa
