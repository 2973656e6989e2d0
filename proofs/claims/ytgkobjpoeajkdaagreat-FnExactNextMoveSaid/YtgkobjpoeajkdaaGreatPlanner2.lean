/- The planner's methods toCursor and term, and the usual plan: the program's. Conditions: the rule has ScaleC on both parts; the terms are valid. -/
import Derived.Test.YtgkobjpoeajkdaaGreatPlanner
namespace Go.Proofs.YtgkobjpoeajkdaaGreat
open Go.RowKit
/-- a rule with ScaleC on both parts, as it lies in w0 -/
structure RuleIn (w0 : World) (A1 : Option Addr) (l1 : List Int) (A2 : Option Addr) (l2 : List Int) : Prop where
  h1 : l1.length ≤ 1048576
  h2 : l2.length ≤ 1048576
  s1 : Sl w0 w0.heap.size 1 A1 (l1.map ic)
  s2 : Sl w0 w0.heap.size 1 A2 (l2.map ic)
  m1 : (0 : Int) ∈ l1
  m2 : (0 : Int) ∈ l2
theorem moveR_has {l1 l2 : List Int} (m1 : (0 : Int) ∈ l1) (m2 : (0 : Int) ∈ l2) (sh cu k pt : Int) : moveR l1 l2 sh cu k 0 pt = (moveS sh cu k pt, setB (moveS sh cu k pt).1 (moveS sh cu k pt).2) := by
  unfold moveR hasS
  rw [decide_eq_true m1, decide_eq_true m2]
  simp
theorem movedC_c {w0 : World} {A1 : Option Addr} {l1 : List Int} {A2 : Option Addr} {l2 : List Int} (R : RuleIn w0 A1 l1 A2 l2) (L : Int) (c1 c2 : Nat) (sh cu k d t : Int) (hk : 0 ≤ k ∧ k ≤ 6) (hs : (-1048576 ≤ sh ∧ sh ≤ 1048576) ∧ 0 ≤ cu ∧ cu ≤ 1048576) (hd : k ≤ 2 → 1000 ≤ d ∧ d ≤ 9999)
    (W : World) (hW : Below w0.heap.size w0 W) :
    Hid (Calls Tryz.prog 181 #[.agg #[.int .i64 L, .slice A1 l1.length c1, .slice A2 l2.length c2], .agg #[.int .i64 sh, .int .i64 cu], .agg #[.int .i64 k, .int .i64 0, .int .i64 d, .int .i64 t]] W fun e w' =>
      e = .returned (.tuple #[.agg #[.int .i64 (moveS sh cu k (pointC d)).1, .int .i64 (moveS sh cu k (pointC d)).2], .bool (setB (moveS sh cu k (pointC d)).1 (moveS sh cu k (pointC d)).2)]) ∧ Below W.heap.size W w') := by
  have e := moveR_has R.m1 R.m2 sh cu k (pointC d)
  have s1 := (R.s1.below hW).more hW.size
  have s2 := (R.s2.below hW).more hW.size
  have hk' : k = 0 ∨ k = 1 ∨ k = 2 ∨ k = 3 ∨ k = 4 ∨ k = 5 ∨ k = 6 := by omega
  unfold Hid
  rcases hk' with rfl | rfl | rfl | rfl | rfl | rfl | rfl
  · have h := moved0_c L A1 c1 l1 A2 c2 l2 sh cu 0 d t (pointC d) W hs.1 hs.2 (pointC_bd (hd (by omega))) (fun W => pointOf_c d t W (hd (by omega))) R.h1 R.h2 s1 s2
    rw [e] at h
    exact h
  · have h := moved1_c L A1 c1 l1 A2 c2 l2 sh cu 0 d t (pointC d) W hs.1 hs.2 (pointC_bd (hd (by omega))) (fun W => pointOf_c d t W (hd (by omega))) R.h1 R.h2 s1 s2
    rw [e] at h
    exact h
  · have h := moved2_c L A1 c1 l1 A2 c2 l2 sh cu 0 d t (pointC d) W hs.1 hs.2 (pointC_bd (hd (by omega))) (fun W => pointOf_c d t W (hd (by omega))) R.h1 R.h2 s1 s2
    rw [e] at h
    exact h
  · have h := moved3_c L A1 c1 l1 A2 c2 l2 sh cu 0 d t (pointC d) W hs.1 hs.2
    rw [e] at h
    exact h
  · have h := moved4_c L A1 c1 l1 A2 c2 l2 sh cu 0 d t (pointC d) W hs.1 hs.2
    rw [e] at h
    exact h
  · have h := moved5_c L A1 c1 l1 A2 c2 l2 sh cu 0 d t (pointC d) W hs.1 hs.2
    rw [e] at h
    exact h
  · have h := moved6_c L A1 c1 l1 A2 c2 l2 sh cu 0 d t (pointC d) W hs.1 hs.2
    rw [e] at h
    exact h
/-- the planner p, at block g; all that lay in w0 is as it was -/
structure PlAt (w0 : World) (g : Nat) (L : Int) (A1 : Option Addr) (n1 c1 : Nat) (A2 : Option Addr) (n2 c2 : Nat) (p : PS) (mv : Value) (v : World) : Prop where
  hb : Below w0.heap.size w0 v
  bp : Blk v g 162 (plCells L A1 n1 c1 A2 n2 c2 p.sh p.cu mv p.en)
  own : Own v w0.heap.size 72 4 mv (p.ms.map Move.cells)
section
variable {w0 v v' : World} {g : Nat} {L : Int} {A1 : Option Addr} {n1 c1 : Nat} {A2 : Option Addr} {n2 c2 : Nat} {p : PS} {mv : Value}
theorem PlAt.below (h : PlAt w0 g L A1 n1 c1 A2 n2 c2 p mv v) (hb : Below v.heap.size v v') : PlAt w0 g L A1 n1 c1 A2 n2 c2 p mv v' :=
  ⟨h.hb.trans (hb.mono h.hb.size), h.bp.below hb h.bp.lt, h.own.below hb⟩
theorem PlAt.setEn (h : PlAt w0 g L A1 n1 c1 A2 n2 c2 p mv v) (hg : w0.heap.size ≤ g) (b : Bool) : PlAt w0 g L A1 n1 c1 A2 n2 c2 ⟨p.sh, p.cu, p.ms, b⟩ mv (v.setCell ⟨g, 6, none⟩ (.bool b)) :=
  ⟨h.hb.setCell hg _, h.bp.set_ 6 (.bool b), h.own.kept (grownBy_stores [_] 6 (World.grownBy.refl _ _)) (.inr (Ne.symm (own_ne_blk h.own h.bp (by decide))))⟩
end
theorem doP_c {w0 : World} {A1 : Option Addr} {l1 : List Int} {A2 : Option Addr} {l2 : List Int} (R : RuleIn w0 A1 l1 A2 l2) (L : Int) (c1 c2 : Nat) (g : Nat) (p : PS) (mv : Value) (k d t : Int) (w : World)
    (P : PlAt w0 g L A1 l1.length c1 A2 l2.length c2 p mv w) (hg : w0.heap.size ≤ g) (hk : 0 ≤ k ∧ k ≤ 6) (hs : (-1048576 ≤ p.sh ∧ p.sh ≤ 1048576) ∧ 0 ≤ p.cu ∧ p.cu ≤ 1048576) (hd : k ≤ 2 → 1000 ≤ d ∧ d ≤ 9999) (hr : p.ms.length ≤ 1000) :
    Calls Tryz.prog 123 #[.pointer (some ⟨g, 0, none⟩), .int .i64 k, .agg #[.int .i64 d, .int .i64 t]] w fun e w' => e = .returned (.tuple #[]) ∧ ∃ mv', PlAt w0 g L A1 l1.length c1 A2 l2.length c2 (mvP p k d t p.en) mv' w' ∧ Spare w w' g mv mv' := by
  refine (do_c w0.heap.size g L A1 l1.length c1 A2 l2.length c2 p.sh p.cu mv (p.ms.map Move.cells) p.en k d t _ _ _ w P.bp P.own hg (by simpa using hr) (fun W hW => movedC_c R L c1 c2 p.sh p.cu k d t hk hs hd W (P.hb.trans (hW.mono P.hb.size)))).mono ?_
  rintro e w' ⟨rfl, mv', h1, h2, h3, h4⟩
  refine ⟨rfl, mv', ⟨P.hb.trans h3, h1, ?_⟩, h4⟩
  unfold mvP
  rw [List.map_append]
  exact h2
set_option maxRecDepth 100000 in
set_option maxHeartbeats 1000000 in
theorem toCursor_c {w0 : World} {A1 : Option Addr} {l1 : List Int} {A2 : Option Addr} {l2 : List Int} (R : RuleIn w0 A1 l1 A2 l2) (L : Int) (c1 c2 : Nat) (g : Nat) (p : PS) (mv : Value) (w : World)
    (P : PlAt w0 g L A1 l1.length c1 A2 l2.length c2 p mv w) (hg : w0.heap.size ≤ g) (hs : (-1048576 ≤ p.sh ∧ p.sh ≤ 1048576) ∧ 0 ≤ p.cu ∧ p.cu ≤ 1048576) (hr : p.ms.length ≤ 1000) :
    Calls Tryz.prog 125 #[.pointer (some ⟨g, 0, none⟩)] w fun e w' => e = .returned (.tuple #[]) ∧ ∃ mv', PlAt w0 g L A1 l1.length c1 A2 l2.length c2 (underP p) mv' w' ∧ Spare w w' g mv mv' := by
  have HD := fun k (hk : 5 ≤ k ∧ k ≤ 6) => Lib.hid (doP_c R L c1 c2 g p mv k 0 0 w P hg (by omega) hs (fun h => by omega) hr)
  obtain ⟨sh, cu, ms, en⟩ := p
  have k6 : w.cell? ⟨g, 6, none⟩ = some (.bool en) := P.bp.cell 6
  have k3 : w.cell? ⟨g, 3, none⟩ = some (.int .i64 sh) := P.bp.cell 3
  have P' := Lib.hid P
  clear P
  unfold underP
  cases en with
  | false =>
    go_enter Tryz.func125, Tryz.ntmps125
    go_wp2
    refine bodyPost_ret (v := .tuple #[]) (by simp [results, Tryz.results125, go_sem]) rfl ⟨rfl, mv, P'.out, Spare.refl _ _ _⟩
  | true =>
    by_cases h5 : 0 ≤ sh
    · have H := HD 5 (by omega)
      simp only [if_true, if_pos h5]
      clear HD
      go_enter Tryz.func125, Tryz.ntmps125
      go_wp2_with fail
      refine Calls.mono H.out ?_; rintro e w1 ⟨rfl, mv', P1, hSp⟩
      have z6 : w1.cell? ⟨g, 6, none⟩ = some (.bool true) := P1.bp.cell 6
      have zf := P1.bp.frozen 6
      go_wp2
      refine bodyPost_end (v := .tuple #[]) (by simp [results, Tryz.results125, go_sem]) rfl ⟨rfl, mv', P1.setEn hg false, hSp.set⟩
    · have H := HD 6 (by omega)
      simp only [if_true, if_neg h5]
      clear HD
      go_enter Tryz.func125, Tryz.ntmps125
      go_wp2_with fail
      refine Calls.mono H.out ?_; rintro e w1 ⟨rfl, mv', P1, hSp⟩
      have z6 : w1.cell? ⟨g, 6, none⟩ = some (.bool true) := P1.bp.cell 6
      have zf := P1.bp.frozen 6
      go_wp2
      refine bodyPost_end (v := .tuple #[]) (by simp [results, Tryz.results125, go_sem]) rfl ⟨rfl, mv', P1.setEn hg false, hSp.set⟩
end Go.Proofs.YtgkobjpoeajkdaaGreat
