/- Moves made one after the other on a rule, in plain words; a single move of either side. Conditions: the setting and the move are valid. Moves made one after the other: the program. Conditions: the rule, the setting and the moves are valid. -/
import Derived.Test.YtednjmldjbndhaaGreatKEy18
import Derived.Test.YtednjmldjbndhaaGreatKEy26
import Derived.Test.YtednjmldjbndhaaGreatKEy30
import Derived.Test.YtednjmldjbndhaaGreatKEy8
import Derived.Test.YtednjmldjbndhaaGreatKEy9
set_option linter.unusedSimpArgs false
set_option linter.unusedVariables false
namespace Go.Proofs.YtednjmldjbndhaaGreat
open Go.RowKit
/-- a move made: the setting behind it, and whether it is possible -/
def stepM (l1 l2 : List Int) (st : Int × Int) (m : Move) : (Int × Int) × Bool := moveR l1 l2 st.1 st.2 m.kind m.scale (pointT m.scale m.digits m.tens)
/-- moves made: the setting behind the possible ones, and how many they are -/
def runR (l1 l2 : List Int) : Int × Int → List Move → (Int × Int) × Nat
  | st, [] => (st, 0)
  | st, m :: r => if (stepM l1 l2 st m).2 = true then ((runR l1 l2 (stepM l1 l2 st m).1 r).1, (runR l1 l2 (stepM l1 l2 st m).1 r).2 + 1) else (st, 0)
section
variable {l1 l2 : List Int} {s0 st : Int × Int} {l : List Move} {k : Nat}
theorem step_ok {m : Move} (h : (stepM l1 l2 st m).2 = true) : setB (stepM l1 l2 st m).1.1 (stepM l1 l2 st m).1.2 = true := by
  unfold stepM moveR at *
  split at h
  · cases h
  · rename_i hn
    rw [if_neg hn]
    exact h
/-- behind the first k moves -/
def RunI (l1 l2 : List Int) (s0 : Int × Int) (l : List Move) (k : Nat) (st : Int × Int) : Prop := runR l1 l2 s0 l = ((runR l1 l2 st (l.drop k)).1, (runR l1 l2 st (l.drop k)).2 + k)
theorem RunI.start (l1 l2 : List Int) (s0 : Int × Int) (l : List Move) : RunI l1 l2 s0 l 0 s0 := rfl
theorem RunI.next (h : RunI l1 l2 s0 l k st) (hk : k < l.length) (hs : (stepM l1 l2 st l[k]).2 = true) : RunI l1 l2 s0 l (k + 1) (stepM l1 l2 st l[k]).1 := by
  unfold RunI at *
  rw [h, List.drop_eq_getElem_cons hk]
  conv => lhs; unfold runR
  rw [if_pos hs]
  simp only
  congr 1
  omega
theorem RunI.stop (h : RunI l1 l2 s0 l k st) (hk : k < l.length) (hs : (stepM l1 l2 st l[k]).2 = false) : runR l1 l2 s0 l = (st, k) := by
  unfold RunI at *
  rw [h, List.drop_eq_getElem_cons hk]
  unfold runR
  rw [if_neg (by rw [hs]; decide)]
  simp
theorem RunI.done (h : RunI l1 l2 s0 l k st) (hk : k = l.length) : runR l1 l2 s0 l = (st, k) := by
  unfold RunI at *
  rw [h, hk, List.drop_length]
  unfold runR
  simp
theorem runR_le (l1 l2 : List Int) : ∀ (l : List Move) (s0 : Int × Int), (runR l1 l2 s0 l).2 ≤ l.length
  | [], _ => Nat.le_refl _
  | m :: r, s0 => by
    unfold runR
    split
    · have := runR_le l1 l2 r (stepM l1 l2 s0 m).1
      simp only [List.length_cons]
      omega
    · simp
end
theorem move_parts {m : Move} (h : moveB m = true) : (m.kind = 0 ∨ m.kind = 1 ∨ m.kind = 2 ∨ m.kind = 3 ∨ m.kind = 4 ∨ m.kind = 5 ∨ m.kind = 6) ∧ (m.kind ≤ 2 → (0 ≤ m.scale ∧ m.scale ≤ 4) ∧ (1000 ≤ m.digits ∧ m.digits ≤ 9999) ∧ (-30 ≤ m.tens ∧ m.tens ≤ 30)) := by
  by_cases hout : m.kind < 0 ∨ 6 < m.kind
  · rw [moveB_out hout] at h; cases h
  · refine ⟨by omega, fun h2 => ?_⟩
    rw [moveB_lo (by omega), Bool.and_eq_true] at h
    obtain ⟨h3, h4⟩ := fig_bd h.2
    refine ⟨?_, h3, h4⟩
    have h5 := h.1
    unfold scaleB at h5
    rw [Bool.and_eq_true, inB_true] at h5
    have h6 : m.scale ≠ 5 := by simpa using h5.2
    omega
set_option maxRecDepth 100000 in
theorem movedM_c (L : Int) (A1 : Option Addr) (c1 : Nat) (l1 : List Int) (A2 : Option Addr) (c2 : Nat) (l2 : List Int) (st : Int × Int) (m : Move) (w : World)
    (hst : setB st.1 st.2 = true) (hm : moveB m = true) (h1 : l1.length ≤ 1048576) (h2 : l2.length ≤ 1048576) (s1 : Sl w w.heap.size 1 A1 (l1.map ic)) (s2 : Sl w w.heap.size 1 A2 (l2.map ic)) :
    Calls Tryz.prog 171 #[.agg #[.int .i64 L, .slice A1 l1.length c1, .slice A2 l2.length c2], .agg #[.int .i64 st.1, .int .i64 st.2], m.agg] w fun e w' =>
      e = .returned (.tuple #[.agg #[.int .i64 (stepM l1 l2 st m).1.1, .int .i64 (stepM l1 l2 st m).1.2], .bool (stepM l1 l2 st m).2]) ∧ Below w.heap.size w w' := by
  obtain ⟨hk, hp⟩ := move_parts hm
  obtain ⟨hsh, hcu⟩ := setB_true.1 hst
  obtain ⟨k, s, d, t⟩ := m
  simp only at hk hp
  unfold Move.agg stepM
  simp only
  rcases hk with rfl | rfl | rfl | rfl | rfl | rfl | rfl
  · obtain ⟨p1, p2, p3⟩ := hp (by decide)
    exact moved0_c L A1 c1 l1 A2 c2 l2 st.1 st.2 s d t (pointT s d t) w hsh hcu (pointT_bd p1 p2) (fun W => Lib.hid (pointOfT_c s d t W p1 p2 (by omega))) h1 h2 s1 s2
  · obtain ⟨p1, p2, p3⟩ := hp (by decide)
    exact moved1_c L A1 c1 l1 A2 c2 l2 st.1 st.2 s d t (pointT s d t) w hsh hcu (pointT_bd p1 p2) (fun W => Lib.hid (pointOfT_c s d t W p1 p2 (by omega))) h1 h2 s1 s2
  · obtain ⟨p1, p2, p3⟩ := hp (by decide)
    exact moved2_c L A1 c1 l1 A2 c2 l2 st.1 st.2 s d t (pointT s d t) w hsh hcu (pointT_bd p1 p2) (fun W => Lib.hid (pointOfT_c s d t W p1 p2 (by omega))) h1 h2 s1 s2
  · exact moved3_c L A1 c1 l1 A2 c2 l2 st.1 st.2 s d t (pointT s d t) w hsh hcu
  · exact moved4_c L A1 c1 l1 A2 c2 l2 st.1 st.2 s d t (pointT s d t) w hsh hcu
  · exact moved5_c L A1 c1 l1 A2 c2 l2 st.1 st.2 s d t (pointT s d t) w hsh hcu
  · exact moved6_c L A1 c1 l1 A2 c2 l2 st.1 st.2 s d t (pointT s d t) w hsh hcu
set_option maxRecDepth 100000 in
theorem applyM_c (L : Int) (A1 : Option Addr) (c1 : Nat) (l1 : List Int) (A2 : Option Addr) (c2 : Nat) (l2 : List Int) (st : Int × Int) (m : Move) (w : World)
    (hst : setB st.1 st.2 = true) (hm : moveB m = true) (h1 : l1.length ≤ 1048576) (h2 : l2.length ≤ 1048576) (s1 : Sl w w.heap.size 1 A1 (l1.map ic)) (s2 : Sl w w.heap.size 1 A2 (l2.map ic)) :
    Calls Tryz.prog 127 #[.agg #[.int .i64 L, .slice A1 l1.length c1, .slice A2 l2.length c2], .agg #[.int .i64 st.1, .int .i64 st.2], m.agg] w fun e w' =>
      e = .returned (.tuple #[.agg #[.int .i64 (stepM l1 l2 st m).1.1, .int .i64 (stepM l1 l2 st m).1.2], .bool (stepM l1 l2 st m).2]) ∧ Below w.heap.size w w' := by
  obtain ⟨hk, hp⟩ := move_parts hm
  obtain ⟨hsh, hcu⟩ := setB_true.1 hst
  obtain ⟨k, s, d, t⟩ := m
  simp only at hk hp
  unfold Move.agg stepM
  simp only
  rcases hk with rfl | rfl | rfl | rfl | rfl | rfl | rfl
  · obtain ⟨p1, p2, p3⟩ := hp (by decide)
    exact apply0_c L A1 c1 l1 A2 c2 l2 st.1 st.2 s d t (pointT s d t) w hsh hcu (pointT_bd p1 p2) (fun W => Lib.hid (l11PointT_c s d t W p1 p2 (by omega))) h1 s1
  · obtain ⟨p1, p2, p3⟩ := hp (by decide)
    exact apply1_c L A1 c1 l1 A2 c2 l2 st.1 st.2 s d t (pointT s d t) w hsh hcu (pointT_bd p1 p2) (fun W => Lib.hid (l11PointT_c s d t W p1 p2 (by omega))) h2 s2
  · obtain ⟨p1, p2, p3⟩ := hp (by decide)
    exact apply2_c L A1 c1 l1 A2 c2 l2 st.1 st.2 s d t (pointT s d t) w hsh hcu (pointT_bd p1 p2) (fun W => Lib.hid (l11PointT_c s d t W p1 p2 (by omega))) h2 s2
  · exact apply3_c L A1 c1 l1 A2 c2 l2 st.1 st.2 s d t (pointT s d t) w hsh hcu
  · exact apply4_c L A1 c1 l1 A2 c2 l2 st.1 st.2 s d t (pointT s d t) w hsh hcu
  · exact apply5_c L A1 c1 l1 A2 c2 l2 st.1 st.2 s d t (pointT s d t) w hsh hcu
  · exact apply6_c L A1 c1 l1 A2 c2 l2 st.1 st.2 s d t (pointT s d t) w hsh hcu
end Go.Proofs.YtednjmldjbndhaaGreat
namespace Go.Proofs.YtednjmldjbndhaaGreat
open Go.RowKit
theorem info_Setting : (Tryz.prog.info? 104).map (fun i => (i.zero, i.size, i.bytes)) = some (some (.agg #[.int .i64 0, .int .i64 0]), 2, 16) := by kernel_rfl
def stc (st : Int × Int) : List Value := [.int .i64 st.1, .int .i64 st.2]
theorem stc_one {R : List (Int × Int)} : ∀ y ∈ R.map stc, ∀ u ∈ y, u.oneCell' = true := fun y hy u hu => by
  obtain ⟨x, _, rfl⟩ := List.mem_map.1 hy
  simp only [stc, List.mem_cons, List.not_mem_nil, or_false] at hu
  rcases hu with rfl | rfl <;> rfl
def LastSt (R : List (Int × Int)) (s0 st : Int × Int) : Prop := (R = [] ∧ st = s0) ∨ ∃ R', R = R' ++ [st]
structure StL (w : World) (rc : Array Value) (sh cu : Int) (rows : List (List Value)) (o : Value) (wr : World) : Prop where
  hb : Below w.heap.size w wr
  br : Blk wr w.heap.size 26 rc
  bs : Blk wr (w.heap.size + 1) 104 #[.int .i64 sh, .int .i64 cu]
  o : Own wr (w.heap.size + 2) 104 2 o rows
section
variable {w : World} {rc : Array Value} {sh cu : Int} {rows rows' : List (List Value)} {o o' : Value} {wr w2 : World}
theorem StL.below (h : StL w rc sh cu rows o wr) (hb : Below wr.heap.size wr w2) : StL w rc sh cu rows o w2 :=
  ⟨h.hb.trans (hb.mono h.hb.size), h.br.below hb h.br.lt, h.bs.below hb h.bs.lt, h.o.below hb⟩
theorem StL.alloc (h : StL w rc sh cu rows o wr) (ob : Obj) : StL w rc sh cu rows o (wr.alloc ob) := h.below ((Below.refl _ _).alloc (Nat.le_refl _) ob)
theorem StL.app (h : StL w rc sh cu rows o wr) (hg : wr.grownBy w2 o.ownBlock) (h2 : Own w2 (w.heap.size + 2) 104 2 o' rows') : StL w rc sh cu rows' o' w2 :=
  ⟨below_app h.hb hg h.hb.size (fun g hh => by have := h.o.ownGe g hh; omega), (hg.block _ h.br.lt (fun hh => by have := h.o.ownGe _ hh.symm; omega)).trans h.br, (hg.block _ h.bs.lt (fun hh => by have := h.o.ownGe _ hh.symm; omega)).trans h.bs, h2⟩
theorem StL.set (h : StL w rc sh cu rows o wr) (a b : Int) : StL w rc a b rows o ((wr.setCell ⟨w.heap.size + 1, 0, none⟩ (.int .i64 a)).setCell ⟨w.heap.size + 1, 1, none⟩ (.int .i64 b)) :=
  ⟨(by repeat (first | with_reducible exact h.hb | with_reducible apply below_drewN' | with_reducible apply Below.drew | (with_reducible refine Below.alloc ?_ (by first | omega | (simp; omega) | simp | (have := (h.hb).size; omega) | (have := (h.hb).size; simp; omega)) _) | (with_reducible refine Below.setCell ?_ (by first | omega | (simp; omega) | simp | (have := (h.hb).size; omega) | (have := (h.hb).size; simp; omega)) _) | exact h.hb)), (h.br.far (by simp) _).far (by simp) _, h.bs.two0.two1, h.o.kept (grownBy_stores [.int .i64 a, .int .i64 b] 0 (World.grownBy.refl wr (some (w.heap.size + 1)))) (by
    cases hv : o.ownBlock with
    | none => exact .inl rfl
    | some r => exact .inr fun e => by have := h.o.ownGe r hv; cases e; omega)⟩
end
set_option maxRecDepth 100000 in
set_option maxHeartbeats 4000000 in
theorem settings_c (L : Int) (A1 : Option Addr) (c1 : Nat) (l1 : List Int) (A2 : Option Addr) (c2 : Nat) (l2 : List Int) (a0 b0 : Int) (A : Option Addr) (c : Nat) (l : List Move) (w : World)
    (hst : setB a0 b0 = true) (hall : l.all moveB = true) (hl : l.length ≤ 30) (h1 : l1.length ≤ 1048576) (h2 : l2.length ≤ 1048576) (s1 : Sl w w.heap.size 1 A1 (l1.map ic)) (s2 : Sl w w.heap.size 1 A2 (l2.map ic)) (hs : Sl w w.heap.size 4 A (l.map Move.cells)) :
    Calls Tryz.prog 132 #[.agg #[.int .i64 L, .slice A1 l1.length c1, .slice A2 l2.length c2], .agg #[.int .i64 a0, .int .i64 b0], .slice A l.length c] w fun e w' =>
      ∃ (R : List (Int × Int)) (A' : Option Addr) (c' : Nat), e = .returned (.slice A' R.length c') ∧ R.length = (runR l1 l2 (a0, b0) l).2 ∧ LastSt R (a0, b0) (runR l1 l2 (a0, b0) l).1 ∧ Own w' w.heap.size 104 2 (.slice A' R.length c') (R.map stc) ∧ Below w.heap.size w w' := by
  obtain ⟨i0, hi, hz0, hz1, hz2⟩ := info_parts info_Setting
  have HM : Hid (∀ (a b : Int) (m : Move) (W : World), setB a b = true → moveB m = true → Below w.heap.size w W → _) := fun a b m W hs hm hW => movedM_c L A1 c1 l1 A2 c2 l2 (a, b) m W hs hm h1 h2 ((s1.below hW).more hW.size) ((s2.below hW).more hW.size)
  unfold Move.agg at HM
  simp only at HM
  have HS := Lib.hid hs
  have HA := Lib.hid (List.all_eq_true.1 hall)
  have Hst := Lib.hid hst
  have hR0 := Lib.hid (RunI.start l1 l2 (a0, b0) l)
  have L0 : StL w #[.int .i64 L, .slice A1 l1.length c1, .slice A2 l2.length c2] a0 b0 (([] : List (Int × Int)).map stc) (.slice (some ⟨w.heap.size + 1 + 1, 0, none⟩) 0 0) (((w.alloc (.cells #[.int .i64 L, .slice A1 l1.length c1, .slice A2 l2.length c2] 26)).alloc (.cells #[.int .i64 a0, .int .i64 b0] 104)).alloc (.cells #[] 104)) := by
    refine ⟨(by repeat (first | with_reducible exact Below.refl _ _ | with_reducible apply below_drewN' | with_reducible apply Below.drew | (with_reducible refine Below.alloc ?_ (by first | omega | (simp; omega) | simp | (have := (Below.refl _ _).size; omega) | (have := (Below.refl _ _).size; simp; omega)) _) | (with_reducible refine Below.setCell ?_ (by first | omega | (simp; omega) | simp | (have := (Below.refl _ _).size; omega) | (have := (Below.refl _ _).size; simp; omega)) _) | exact Below.refl _ _)), ((Blk.new _ _ _).alloc _).alloc _, (Blk.new' _ _ _ (by simp)).alloc _, ?_⟩
    have := Own.empty (w := (w.alloc (.cells #[.int .i64 L, .slice A1 l1.length c1, .slice A2 l2.length c2] 26)).alloc (.cells #[.int .i64 a0, .int .i64 b0] 104)) (base := w.heap.size + 2) (e := 104) (k := 2) (by simp)
    simpa using this
  clear hst hall h1 h2 s1 s2 hs
  go_enter Tryz.func132, Tryz.ntmps132
  go_wp2_with fail
  generalize (((w.alloc (.cells #[.int .i64 L, .slice A1 l1.length c1, .slice A2 l2.length c2] 26)).alloc (.cells #[.int .i64 a0, .int .i64 b0] 104)).alloc (.cells #[] 104)) = W0 at *
  go_loopw [7, 15] (fun o i wr => ∃ (k : Nat) (R : List (Int × Int)) (a b : Int), k ≤ l.length ∧ i = .int .i64 k ∧ Hid (R.length = k) ∧ Hid (RunI l1 l2 (a0, b0) l k (a, b)) ∧ Hid (LastSt R (a0, b0) (a, b)) ∧ Hid (setB a b = true) ∧ StL w #[.int .i64 L, .slice A1 l1.length c1, .slice A2 l2.length c2] a b (R.map stc) o wr) (fun _ i _ => l.length - (intOf i).toNat)
  case atStart => exact ⟨0, [], a0, b0, Nat.zero_le _, rfl, rfl, hR0, .inl ⟨rfl, rfl⟩, Hst, L0⟩
  case round =>
    clear L0 Hst hR0
    obtain ⟨k, R, a, b, hk, rfl, hRk, hRun, hLa, hSt, hL⟩ := hrel
    obtain ⟨A9, c9, hv, hle⟩ := hL.o.form
    rw [List.length_map] at hv
    have hRl : R.length ≤ 30 := by have := hRk.out; omega
    subst hv
    by_cases hlt : k < l.length
    · obtain ⟨bm, off, rfl, hbB, hc⟩ := (HS.out.below hL.hb).at_ (i := k) (by rw [List.length_map]; exact hlt)
      simp only [List.getElem_map] at hc
      have hmv := Lib.hid (HA.out l[k] (List.getElem_mem hlt))
      have hnx := Lib.hid (fun hs => hRun.out.next hlt hs)
      have hsp := Lib.hid (fun hs => hRun.out.stop hlt hs)
      generalize l[k] = m at *
      obtain ⟨mk, ms, md, mt⟩ := m
      have y0 : wr.cell? ⟨bm, off + k * 4, none⟩ = some (.int .i64 mk) := hc 0 _ rfl
      have y1 : wr.cell? ⟨bm, off + k * 4 + 1, none⟩ = some (.int .i64 ms) := hc 1 _ rfl
      have y2 : wr.cell? ⟨bm, off + k * 4 + 2, none⟩ = some (.int .i64 md) := hc 2 _ rfl
      have y3 : wr.cell? ⟨bm, off + k * 4 + 3, none⟩ = some (.int .i64 mt) := hc 3 _ rfl
      have hz := hL.hb.size
      have hzl := hL.bs.lt
      have hL1 := hL.alloc (.cells #[.int .i64 mk, .int .i64 ms, .int .i64 md, .int .i64 mt] 75)
      have hcall := Lib.hid (HM.out a b ⟨mk, ms, md, mt⟩ _ hSt.out hmv.out hL1.hb)
      have r0 : (wr.alloc (.cells #[.int .i64 mk, .int .i64 ms, .int .i64 md, .int .i64 mt] 75)).cell? ⟨w.heap.size, 0, none⟩ = some (.int .i64 L) := hL1.br.cell 0
      have r1 : (wr.alloc (.cells #[.int .i64 mk, .int .i64 ms, .int .i64 md, .int .i64 mt] 75)).cell? ⟨w.heap.size, 1, none⟩ = some (.slice A1 l1.length c1) := hL1.br.cell 1
      have r2 : (wr.alloc (.cells #[.int .i64 mk, .int .i64 ms, .int .i64 md, .int .i64 mt] 75)).cell? ⟨w.heap.size, 2, none⟩ = some (.slice A2 l2.length c2) := hL1.br.cell 2
      have q0 : (wr.alloc (.cells #[.int .i64 mk, .int .i64 ms, .int .i64 md, .int .i64 mt] 75)).cell? ⟨w.heap.size + 1, 0, none⟩ = some (.int .i64 a) := hL1.bs.cell 0
      have q1 : (wr.alloc (.cells #[.int .i64 mk, .int .i64 ms, .int .i64 md, .int .i64 mt] 75)).cell? ⟨w.heap.size + 1, 1, none⟩ = some (.int .i64 b) := hL1.bs.cell 1
      have hso := Lib.hid (fun h => step_ok (l1 := l1) (l2 := l2) (st := (a, b)) (m := ⟨mk, ms, md, mt⟩) h)
      generalize stepM l1 l2 (a, b) ⟨mk, ms, md, mt⟩ = x at *
      obtain ⟨⟨xa, xb⟩, ok⟩ := x
      simp only at hcall hso hnx hsp
      clear hc HM hmv hRun hL
      go_wp2_with fail
      refine Calls.mono hcall.out ?_; rintro e w1 ⟨rfl, hb1⟩
      have hL2 := hL1.below hb1
      clear y0 y1 y2 y3 r0 r1 r2 q0 q1 hcall hL1 hb1
      cases ok with
      | false =>
        have hrr := hsp.out rfl
        have hO := hL2.o
        have hB := hL2.hb
        go_wp2
        go_ret
        exact ⟨R, A9, c9, rfl, by rw [hrr]; exact hRk.out, by rw [hrr]; exact hLa.out, (hO.alloc _).mono (show w.heap.size ≤ w.heap.size + 2 by omega), (by repeat (first | with_reducible exact hB | with_reducible apply below_drewN' | with_reducible apply Below.drew | (with_reducible refine Below.alloc ?_ (by first | omega | (simp; omega) | simp | (have := (hB).size; omega) | (have := (hB).size; simp; omega)) _) | (with_reducible refine Below.setCell ?_ (by first | omega | (simp; omega) | simp | (have := (hB).size; omega) | (have := (hB).size; simp; omega)) _) | exact hB))⟩
      | true =>
        have hrn := hnx.out rfl
        have hst2 := hso.out rfl
        have hzq1 := hL2.hb.size
        have hzq2 := hL2.bs.lt
        have hL3 := hL2.alloc (.cells #[.int .i64 xa, .int .i64 xb] 104)
        have hL4 := hL3.alloc (.cells #[.int .i64 xa, .int .i64 xb] 104)
        have hne : ∀ r, (Value.slice A9 R.length c9).ownBlock = some r → r ≠ w1.heap.size := fun r hr => by have := (hL2.o.1.lt r hr).2; omega
        have Hrn := Lib.hid hrn; have Hst2 := Lib.hid hst2; have Hne := Lib.hid hne
        clear hnx hsp hso hrn hst2 hne
        go_wp2_with (at_builtin; refine wpList_append_rows _ rfl _ _ _ rfl (w.heap.size + 2) 104 i0 _ 2 16 Tryz.underlying171 hi hz0 hz1 hz2 rfl (by omega) _ _ rfl hL4.o _ _ _ _ ([(xa, xb)].map stc) rfl rfl (Sl.of_blk (Blk.new' _ _ _ (by first | rfl | simp)) _ rfl (by simp [stc])) (stc_one (R := [(xa, xb)])) (by simp; unfold maxLen; omega) (by simp; omega) (by have := hL4.bs.lt; omega) ?_; intro v1 w2 hO2 hg2 hat; have hL5 := hL4.app hg2 hO2; have B10 : Blk w2 w1.heap.size 104 #[.int .i64 xa, .int .i64 xb] := (hg2.block w1.heap.size (by first | (simp; done) | (simp; omega)) (fun e => Hne.out _ e.symm rfl)).trans ((Blk.new w1 _ _).alloc _); have x0 : w2.cell? ⟨w1.heap.size, 0, none⟩ = some (.int .i64 xa) := B10.cell 0; have x1 : w2.cell? ⟨w1.heap.size, 1, none⟩ = some (.int .i64 xb) := B10.cell 1; have p0 : w2.cell? ⟨w.heap.size + 1, 0, none⟩ = some (.int .i64 a) := hL5.bs.cell 0; have p1 : w2.cell? ⟨w.heap.size + 1, 1, none⟩ = some (.int .i64 b) := hL5.bs.cell 1; have f0 := hL5.bs.frozen 0; have f1 := hL5.bs.frozen 1; clear hL3 hL4 hL2)
        go_roundw
        case rel => exact ⟨k + 1, R ++ [(xa, xb)], xa, xb, by omega, by go_num, (by have := hRk.out; unfold Hid; simp; omega), Hrn, Lib.hid (.inr ⟨R, rfl⟩), Hst2, by rw [List.map_append]; exact hL5.set xa xb⟩
        case measure => simp [intOf]; omega
    · have hke : k = l.length := by omega
      have hrr := hRun.out.done hke
      have hO := hL.o
      have hB := hL.hb
      go_wp2
      go_ret
      exact ⟨R, A9, c9, rfl, by rw [hrr]; exact hRk.out, by rw [hrr]; exact hLa.out, hO.mono (show w.heap.size ≤ w.heap.size + 2 by omega), (by repeat (first | with_reducible exact hB | with_reducible apply below_drewN' | with_reducible apply Below.drew | (with_reducible refine Below.alloc ?_ (by first | omega | (simp; omega) | simp | (have := (hB).size; omega) | (have := (hB).size; simp; omega)) _) | (with_reducible refine Below.setCell ?_ (by first | omega | (simp; omega) | simp | (have := (hB).size; omega) | (have := (hB).size; simp; omega)) _) | exact hB))⟩
end Go.Proofs.YtednjmldjbndhaaGreat
