/- A move is added to a plan: the reference's. Conditions: the rule has ScaleC on both parts; the plan so far is sound. -/
import Derived.Test.YtednjmldjbndhaaGreatKSc11
import Derived.Test.YtednjmldjbndhaaGreatKSc8
set_option linter.unusedSimpArgs false
set_option linter.unusedVariables false
namespace Go.Proofs.YtednjmldjbndhaaGreat
open Go.RowKit
theorem applyC_c {w0 : World} {A1 : Option Addr} {l1 : List Int} {A2 : Option Addr} {l2 : List Int} (R : RuleIn w0 A1 l1 A2 l2) (L : Int) (c1 c2 : Nat) (sh cu k d t : Int) (hk : 0 ≤ k ∧ k ≤ 6) (hs : (-1048576 ≤ sh ∧ sh ≤ 1048576) ∧ 0 ≤ cu ∧ cu ≤ 1048576) (hd : k ≤ 2 → 1000 ≤ d ∧ d ≤ 9999)
  (W : World) (hW : Below w0.heap.size w0 W) :
  Hid (Calls Tryz.prog 127 #[.agg #[.int .i64 L, .slice A1 l1.length c1, .slice A2 l2.length c2], .agg #[.int .i64 sh, .int .i64 cu], .agg #[.int .i64 k, .int .i64 0, .int .i64 d, .int .i64 t]] W fun e w' =>
   e = .returned (.tuple #[.agg #[.int .i64 (moveS sh cu k (pointC d)).1, .int .i64 (moveS sh cu k (pointC d)).2], .bool (setB (moveS sh cu k (pointC d)).1 (moveS sh cu k (pointC d)).2)]) ∧ Below W.heap.size W w') := by
 have e := moveR_has R.m1 R.m2 sh cu k (pointC d)
 have s1 := (R.s1.below hW).more hW.size
 have s2 := (R.s2.below hW).more hW.size
 have hk' : k = 0 ∨ k = 1 ∨ k = 2 ∨ k = 3 ∨ k = 4 ∨ k = 5 ∨ k = 6 := by omega
 unfold Hid
 rcases hk' with rfl | rfl | rfl | rfl | rfl | rfl | rfl
 ·have h := apply0_c L A1 c1 l1 A2 c2 l2 sh cu 0 d t (pointC d) W hs.1 hs.2 (pointC_bd (hd (by omega))) (fun W => l11Point_c d t W (hd (by omega))) R.h1 s1
  rw [e] at h
  exact h
 ·have h := apply1_c L A1 c1 l1 A2 c2 l2 sh cu 0 d t (pointC d) W hs.1 hs.2 (pointC_bd (hd (by omega))) (fun W => l11Point_c d t W (hd (by omega))) R.h2 s2
  rw [e] at h
  exact h
 ·have h := apply2_c L A1 c1 l1 A2 c2 l2 sh cu 0 d t (pointC d) W hs.1 hs.2 (pointC_bd (hd (by omega))) (fun W => l11Point_c d t W (hd (by omega))) R.h2 s2
  rw [e] at h
  exact h
 ·have h := apply3_c L A1 c1 l1 A2 c2 l2 sh cu 0 d t (pointC d) W hs.1 hs.2
  rw [e] at h
  exact h
 ·have h := apply4_c L A1 c1 l1 A2 c2 l2 sh cu 0 d t (pointC d) W hs.1 hs.2
  rw [e] at h
  exact h
 ·have h := apply5_c L A1 c1 l1 A2 c2 l2 sh cu 0 d t (pointC d) W hs.1 hs.2
  rw [e] at h
  exact h
 ·have h := apply6_c L A1 c1 l1 A2 c2 l2 sh cu 0 d t (pointC d) W hs.1 hs.2
  rw [e] at h
  exact h
/-- while 'append(append([]Move{}, p.list...), m)' runs: what has come up -/
structure DlS (w1 : World) (rows : List (List Value)) (m : List Value) (b24 b27 b29 b30 : Bool) (v24 v27 v29 v30 : Value) (v : World) : Prop where
 hb : Below w1.heap.size w1 v
 q24 : b24 = true → b27 = false → Own v w1.heap.size 75 4 v24 []
 q27 : b27 = true → b30 = false → Own v w1.heap.size 75 4 v27 rows
 q29 : b29 = true → b30 = false → ∃ gb, v29 = .slice (some ⟨gb, 0, none⟩) 1 1 ∧ Blk v gb 75 m.toArray ∧ (b24 = true → b27 = false → some gb ≠ v24.ownBlock)
 q30 : b30 = true → Own v w1.heap.size 75 4 v30 (rows ++ [m])
 dd : (b30 = true → b27 = true ∧ b29 = true) ∧ (b27 = true → b24 = true)
section
variable {w1 v v' : World} {rows : List (List Value)} {m : List Value} {b24 b27 b29 b30 : Bool} {v24 v27 v29 v30 u : Value}
theorem DlS.drew (h : DlS w1 rows m b24 b27 b29 b30 v24 v27 v29 v30 v) : DlS w1 rows m b24 b27 b29 b30 v24 v27 v29 v30 v.drew := ⟨h.hb.drew, h.q24, h.q27, h.q29, h.q30, h.dd⟩
theorem DlS.s24 (h : DlS w1 rows m b24 b27 b29 b30 v24 v27 v29 v30 v) (h24 : b24 = false) : DlS w1 rows m true b27 b29 b30 (.slice (some ⟨v.heap.size, 0, none⟩) 0 0) v27 v29 v30 (v.alloc (.cells #[] 75)) := by
 have h27 : b27 = false := by cases e : b27 with | false => rfl | true => have := h.dd.2 e; rw [h24] at this; cases this
 have h30 : b30 = false := by cases e : b30 with | false => rfl | true => have := (h.dd.1 e).1; rw [h27] at this; cases this
 refine ⟨h.hb.alloc h.hb.size _, fun _ _ => Own.empty h.hb.size, fun e => (by rw [h27] at e; cases e), fun e e' => ?_, fun e => (by rw [h30] at e; cases e), ⟨fun e => (by rw [h30] at e; cases e), fun _ => rfl⟩⟩
 obtain ⟨gb, r1, r2, _⟩ := h.q29 e e'
 refine ⟨gb, r1, r2.alloc _, fun _ _ => ?_⟩
 have := r2.lt
 simp only [Value.ownBlock, ne_eq, Option.some.injEq]
 omega
theorem DlS.s29 (h : DlS w1 rows m b24 b27 b29 b30 v24 v27 v29 v30 v) (h29 : b29 = false) : DlS w1 rows m b24 b27 true b30 v24 v27 (.slice (some ⟨v.heap.size, 0, none⟩) 1 1) v30 (v.alloc (.cells m.toArray 75)) := by
 have h30 : b30 = false := by cases e : b30 with | false => rfl | true => have := (h.dd.1 e).2; rw [h29] at this; cases this
 exact ⟨h.hb.alloc h.hb.size _, fun e e' => (h.q24 e e').alloc _, fun e e' => (h.q27 e e').alloc _, fun _ _ => ⟨_, rfl, Blk.new _ _ _, fun e e' => own_lt (h.q24 e e') (Nat.le_refl _)⟩, fun e => (by rw [h30] at e; cases e), ⟨fun e => (by rw [h30] at e; cases e), h.dd.2⟩⟩
theorem DlS.s27 (h : DlS w1 rows m b24 b27 b29 b30 v24 v27 v29 v30 v) (h27 : b27 = false) (h24 : b24 = true) (hO : Own v' w1.heap.size 75 4 u ([] ++ rows)) (hg : v.grownBy v' v24.ownBlock) : DlS w1 rows m b24 true b29 b30 v24 u v29 v30 v' := by
 have h30 : b30 = false := by cases e : b30 with | false => rfl | true => have := (h.dd.1 e).1; rw [h27] at this; cases this
 refine ⟨below_app h.hb hg h.hb.size (h.q24 h24 h27).ownGe, nofun, fun _ _ => hO, fun e e' => ?_, fun e => (by rw [h30] at e; cases e), ⟨fun e => (by rw [h30] at e; cases e), fun _ => h24⟩⟩
 obtain ⟨gb, r1, r2, r3⟩ := h.q29 e e'
 exact ⟨gb, r1, (hg.block gb r2.lt (r3 h24 h27)).trans r2, nofun⟩
theorem DlS.s30 (h : DlS w1 rows m b24 b27 b29 b30 v24 v27 v29 v30 v) (h30 : b30 = false) (h27 : b27 = true) (h29 : b29 = true) (hO : Own v' w1.heap.size 75 4 u (rows ++ [m])) (hg : v.grownBy v' v27.ownBlock) : DlS w1 rows m b24 b27 b29 true v24 v27 v29 u v' :=
 ⟨below_app h.hb hg h.hb.size (h.q27 h27 h30).ownGe, fun _ e => (by rw [h27] at e; cases e), nofun, nofun, fun _ => hO, ⟨fun _ => ⟨h27, h29⟩, h.dd.2⟩⟩
theorem DlS.init : DlS w1 rows m false false false false undef undef undef undef w1.drew := ⟨(Below.refl _ _).drew, nofun, nofun, nofun, nofun, ⟨nofun, nofun⟩⟩
end
/-- a plan, as the reference hands it on -/
def PlanV (w0 : World) (p : PS) (v : Value) (w' : World) : Prop := ∃ A' c', v = .agg #[.int .i64 p.sh, .int .i64 p.cu, .slice A' p.ms.length c', .bool p.en] ∧ Own w' w0.heap.size 75 4 (.slice A' p.ms.length c') (p.ms.map Move.cells)
set_option maxRecDepth 100000 in
set_option maxHeartbeats 1000000 in
theorem l14Do_c (L : Int) (A1 : Option Addr) (c1 : Nat) (l1 : List Int) (A2 : Option Addr) (c2 : Nat) (l2 : List Int) (p : PS) (A c : _) (k d t : Int) (w : World) (R : RuleIn w A1 l1 A2 l2)
  (hk : 0 ≤ k ∧ k ≤ 6) (hs : (-1048576 ≤ p.sh ∧ p.sh ≤ 1048576) ∧ 0 ≤ p.cu ∧ p.cu ≤ 1048576) (hd : k ≤ 2 → 1000 ≤ d ∧ d ≤ 9999) (hr : p.ms.length ≤ 1000) (hS : Sl w w.heap.size 4 A (p.ms.map Move.cells)) :
  Calls Tryz.prog 118 #[.agg #[.int .i64 p.sh, .int .i64 p.cu, .slice A p.ms.length c, .bool p.en], .agg #[.int .i64 L, .slice A1 l1.length c1, .slice A2 l2.length c2], .int .i64 k, .agg #[.int .i64 d, .int .i64 t]] w fun e w' => (∃ v, e = .returned v ∧ PlanV w (mvP p k d t false) v w') ∧ Below w.heap.size w w' := by
 obtain ⟨i0, hi0, hz0, hz1, hz2⟩ := info_parts info_Move
 obtain ⟨sh, cu, ms, en⟩ := p
 simp only at hs hr hS ⊢
 have HA := fun (W : World) (hW : Below w.heap.size w W) => applyC_c R L c1 c2 sh cu k d t hk hs hd W hW
 have Hres : Hid (mvP ⟨sh, cu, ms, en⟩ k d t false = ⟨(moveS sh cu k (pointC d)).1, (moveS sh cu k (pointC d)).2, ms ++ [⟨k, 0, d, t⟩], false⟩) := rfl
 have Hres2 : Hid ((ms ++ [(⟨k, 0, d, t⟩ : Move)]).map Move.cells = ms.map Move.cells ++ [[.int .i64 k, .int .i64 0, .int .i64 d, .int .i64 t]]) := by unfold Hid; simp [Move.cells]
 have Hlen : Hid ((ms.map Move.cells).length = ms.length) := List.length_map _
 generalize (moveS sh cu k (pointC d)).1 = a at *
 generalize (moveS sh cu k (pointC d)).2 = b at *
 generalize setB a b = ok at *
 have HA := Lib.hid HA
 have Hr := Lib.hid hr
 have HSl := Lib.hid hS
 have hW : Below w.heap.size w (((((w.alloc (.cells #[.int .i64 sh, .int .i64 cu, .slice A ms.length c, .bool en] 154)).alloc (.cells #[.int .i64 L, .slice A1 l1.length c1, .slice A2 l2.length c2] 26)).alloc (.cells #[.int .i64 d, .int .i64 t] 51)).alloc (.cells #[.int .i64 0, .int .i64 0, .slice none 0 0, .bool false] 154)).alloc (.cells #[.int .i64 k, .int .i64 0, .int .i64 d, .int .i64 t] 75)) := (by repeat first | with_reducible (first | exact Below.refl _ _ | apply below_drewN' | apply Below.drew | refine Below.alloc ?_ ?_ _ | refine Below.setCell ?_ ?_ _) | exact Below.refl _ _ | omega | (simp <;> omega) | (have := (Below.refl _ _).size; first | omega | (simp <;> omega)))
 have B4 : Blk (((((w.alloc (.cells #[.int .i64 sh, .int .i64 cu, .slice A ms.length c, .bool en] 154)).alloc (.cells #[.int .i64 L, .slice A1 l1.length c1, .slice A2 l2.length c2] 26)).alloc (.cells #[.int .i64 d, .int .i64 t] 51)).alloc (.cells #[.int .i64 0, .int .i64 0, .slice none 0 0, .bool false] 154)).alloc (.cells #[.int .i64 k, .int .i64 0, .int .i64 d, .int .i64 t] 75)) w.heap.size 154 #[.int .i64 sh, .int .i64 cu, .slice A ms.length c, .bool en] := ((((Blk.new _ _ _).alloc _).alloc _).alloc _).alloc _
 have B8 : Blk (((((w.alloc (.cells #[.int .i64 sh, .int .i64 cu, .slice A ms.length c, .bool en] 154)).alloc (.cells #[.int .i64 L, .slice A1 l1.length c1, .slice A2 l2.length c2] 26)).alloc (.cells #[.int .i64 d, .int .i64 t] 51)).alloc (.cells #[.int .i64 0, .int .i64 0, .slice none 0 0, .bool false] 154)).alloc (.cells #[.int .i64 k, .int .i64 0, .int .i64 d, .int .i64 t] 75)) (w.heap.size + 3) 154 #[.int .i64 0, .int .i64 0, .slice none 0 0, .bool false] := (Blk.new' _ _ _ (by simp)).alloc _
 have B9 : Blk (((((w.alloc (.cells #[.int .i64 sh, .int .i64 cu, .slice A ms.length c, .bool en] 154)).alloc (.cells #[.int .i64 L, .slice A1 l1.length c1, .slice A2 l2.length c2] 26)).alloc (.cells #[.int .i64 d, .int .i64 t] 51)).alloc (.cells #[.int .i64 0, .int .i64 0, .slice none 0 0, .bool false] 154)).alloc (.cells #[.int .i64 k, .int .i64 0, .int .i64 d, .int .i64 t] 75)) (w.heap.size + 4) 75 #[.int .i64 k, .int .i64 0, .int .i64 d, .int .i64 t] := Blk.new' _ _ _ (by simp)
 clear hk hs hd hr hS R
 go_enter Tryz.func118, Tryz.ntmps118
 go_wp2_with fail
 generalize (((((w.alloc (.cells #[.int .i64 sh, .int .i64 cu, .slice A ms.length c, .bool en] 154)).alloc (.cells #[.int .i64 L, .slice A1 l1.length c1, .slice A2 l2.length c2] 26)).alloc (.cells #[.int .i64 d, .int .i64 t] 51)).alloc (.cells #[.int .i64 0, .int .i64 0, .slice none 0 0, .bool false] 154)).alloc (.cells #[.int .i64 k, .int .i64 0, .int .i64 d, .int .i64 t] 75)) = W at *
 refine Calls.mono (HA.out W hW).out ?_; rintro e w1 ⟨rfl, hb1⟩
 have hW1 := hW.trans (hb1.mono hW.size)
 have C4 := B4.below hb1 B4.lt
 have C8 := B8.below hb1 B8.lt
 have C9 := B9.below hb1 B9.lt
 clear hW B4 B8 B9 hb1 HA
 go_wp2_with fail
 have hba : Below w1.heap.size w1 (w1.alloc (.cells #[.int .i64 a, .int .i64 b] 104)) := (Below.refl _ _).alloc (Nat.le_refl _) _
 have D4 := C4.below hba C4.lt
 have D8 := C8.below hba C8.lt
 have D9 := C9.below hba C9.lt
 have D10 := Blk.new w1 104 #[.int .i64 a, .int .i64 b]
 have hW2 := hW1.trans (hba.mono hW1.size)
 clear C4 C8 C9 hba hW1
 generalize w1.alloc (.cells #[.int .i64 a, .int .i64 b] 104) = w2 at *
 generalize w1.heap.size = g10 at *
 have HSl2 : Hid (Sl w2 w2.heap.size 4 A (ms.map Move.cells)) := (HSl.out.below hW2).more hW2.size
 have hD0 : DlS w2 (ms.map Move.cells) [.int .i64 k, .int .i64 0, .int .i64 d, .int .i64 t] false false false false undef undef undef undef w2.drew := DlS.init
 refine wp_region_sink 8 (fun a0 fL bA v => ∃ v23 v24 v25 v26 v27 v28 v29 v30 : Value, bA = (((((((a0.put (some 23) v23).put (some 24) v24).put (some 25) v25).put (some 26) v26).put (some 27) v27).put (some 28) v28).put (some 29) v29).put (some 30) v30 ∧ (DlS w2 (ms.map Move.cells) [.int .i64 k, .int .i64 0, .int .i64 d, .int .i64 t] (fL 1) (fL 4) (fL 6) (fL 7) v24 v27 v29 v30 v) ∧ (fL 0 = true → v23 = .agg #[.int .i64 a, .int .i64 b]) ∧ (fL 1 = true → True) ∧ (fL 2 = true → v25 = .pointer (some ⟨w.heap.size, 2, none⟩)) ∧ (fL 3 = true → v26 = .slice A ms.length c) ∧ (fL 4 = true → True) ∧ (fL 5 = true → v28 = .agg #[.int .i64 k, .int .i64 0, .int .i64 d, .int .i64 t]) ∧ (fL 6 = true → True) ∧ (fL 7 = true → True)) (by kernel_rfl) (by decide +kernel) ?_ ?_ ?_
 ·exact ⟨undef, undef, undef, undef, undef, undef, undef, undef, by simp only [Act.put, List.setIfInBounds_toArray, List.set_cons_zero, List.set_cons_succ], hD0, nofun, nofun, nofun, nofun, nofun, nofun, nofun, nofun⟩
 ·rintro fL bA v ⟨v23, v24, v25, v26, v27, v28, v29, v30, rfl, hS, q0, q1, q2, q3, q4, q5, q6, q7⟩ i hi hf o ho hall
  simp only [Act.put, List.setIfInBounds_toArray, List.set_cons_zero, List.set_cons_succ]
  have hn : i = 0 ∨ i = 1 ∨ i = 2 ∨ i = 3 ∨ i = 4 ∨ i = 5 ∨ i = 6 ∨ i = 7 := by omega
  clear hi
  rcases hn with rfl | rfl | rfl | rfl | rfl | rfl | rfl | rfl
  ·obtain rfl := Option.some.inj ho
   have E := D10.below hS.hb D10.lt
   have y0 : v.cell? ⟨g10, 0, none⟩ = some (.int .i64 a) := E.cell 0
   have y1 : v.cell? ⟨g10, 1, none⟩ = some (.int .i64 b) := E.cell 1
   clear hall ho
   refine wpOp_step rfl (fun K hK => ?_)
   go_simp
   exact hK _ _ ⟨_, _, _, _, _, _, _, _, rfl, hS, fun _ => rfl, fun _ => trivial, q2, q3, fun _ => trivial, q5, fun _ => trivial, fun _ => trivial⟩
  ·obtain rfl := Option.some.inj ho
   clear hall ho
   refine wpOp_step rfl (fun K hK => ?_)
   go_simp
   exact hK _ _ ⟨_, _, _, _, _, _, _, _, rfl, hS.s24 hf, q0, fun _ => trivial, q2, q3, fun _ => trivial, q5, fun _ => trivial, fun _ => trivial⟩
  ·obtain rfl := Option.some.inj ho
   clear hall ho
   refine wpOp_step rfl (fun K hK => ?_)
   go_simp
   exact hK _ _ ⟨_, _, _, _, _, _, _, _, rfl, hS, q0, fun _ => trivial, fun _ => rfl, q3, fun _ => trivial, q5, fun _ => trivial, fun _ => trivial⟩
  ·obtain rfl := Option.some.inj ho
   obtain rfl := q2 (hall ⟨2, .data⟩ (by simp) rfl)
   have E := D4.below hS.hb D4.lt
   have y0 : v.cell? ⟨w.heap.size, 2, none⟩ = some (.slice A ms.length c) := E.cell 2
   clear hall ho
   refine wpOp_step rfl (fun K hK => ?_)
   go_simp
   exact hK _ _ ⟨_, _, _, _, _, _, _, _, rfl, hS, q0, fun _ => trivial, fun _ => rfl, fun _ => rfl, fun _ => trivial, q5, fun _ => trivial, fun _ => trivial⟩
  ·obtain rfl := Option.some.inj ho
   have e1 : fL 1 = true := hall ⟨1, .data⟩ (by simp) rfl
   obtain rfl := q3 (hall ⟨3, .data⟩ (by simp) rfl)
   clear hall ho
   refine wpOp_step rfl (fun K hK => ?_)
   refine step_append_rows _ rfl _ _ _ rfl w2.heap.size 75 i0 _ 4 32 Tryz.underlying49 hi0 hz0 hz1 hz2 rfl (by omega) _ [] rfl (hS.q24 e1 hf) _ _ _ _ (ms.map Move.cells) rfl Hlen.out (HSl2.out.below hS.hb) Move.one (by have := Hr.out; unfold maxLen; simp only [List.length_nil]; omega) (by have := Hr.out; simp only [List.length_nil]; omega) hS.hb.size ?_
   intro v' w' hO' hg' hat
   exact hK _ _ ⟨_, _, _, _, _, _, _, _, rfl, hS.s27 hf e1 hO' hg', q0, fun _ => trivial, q2, fun _ => rfl, fun _ => trivial, q5, fun _ => trivial, fun _ => trivial⟩
  ·obtain rfl := Option.some.inj ho
   have E := D9.below hS.hb D9.lt
   have y0 : v.cell? ⟨w.heap.size + 1 + 1 + 1 + 1, 0, none⟩ = some (.int .i64 k) := E.cell 0
   have y1 : v.cell? ⟨w.heap.size + 1 + 1 + 1 + 1, 1, none⟩ = some (.int .i64 0) := E.cell 1
   have y2 : v.cell? ⟨w.heap.size + 1 + 1 + 1 + 1, 2, none⟩ = some (.int .i64 d) := E.cell 2
   have y3 : v.cell? ⟨w.heap.size + 1 + 1 + 1 + 1, 3, none⟩ = some (.int .i64 t) := E.cell 3
   clear hall ho
   refine wpOp_step rfl (fun K hK => ?_)
   go_simp
   exact hK _ _ ⟨_, _, _, _, _, _, _, _, rfl, hS, q0, fun _ => trivial, q2, q3, fun _ => trivial, fun _ => rfl, fun _ => trivial, fun _ => trivial⟩
  ·obtain rfl := Option.some.inj ho
   obtain rfl := q5 (hall ⟨5, .data⟩ (by simp) rfl)
   clear hall ho
   refine wpOp_step rfl (fun K hK => ?_)
   go_simp
   exact hK _ _ ⟨_, _, _, _, _, _, _, _, rfl, hS.s29 hf, q0, fun _ => trivial, q2, q3, fun _ => trivial, fun _ => rfl, fun _ => trivial, fun _ => trivial⟩
  ·obtain rfl := Option.some.inj ho
   have e4 : fL 4 = true := hall ⟨4, .data⟩ (by simp) rfl
   have e6 : fL 6 = true := hall ⟨6, .data⟩ (by simp) rfl
   clear hall ho
   refine wpOp_step rfl (fun K hK => ?_)
   obtain ⟨gb, rfl, Bb, _⟩ := hS.q29 e6 hf
   refine step_append_rows _ rfl _ _ _ rfl w2.heap.size 75 i0 _ 4 32 Tryz.underlying49 hi0 hz0 hz1 hz2 rfl (by omega) _ (ms.map Move.cells) rfl (hS.q27 e4 hf) _ _ _ _ [[.int .i64 k, .int .i64 0, .int .i64 d, .int .i64 t]] rfl rfl (Sl.of_blk Bb _ rfl (by simp)) (by simp [Value.oneCell']) (by rw [Hlen.out]; have := Hr.out; unfold maxLen; omega) (by rw [Hlen.out]; have := Hr.out; omega) hS.hb.size ?_
   intro v' w' hO' hg' hat
   exact hK _ _ ⟨_, _, _, _, _, _, _, _, rfl, hS.s30 hf e4 e6 hO' hg', q0, fun _ => trivial, q2, q3, fun _ => trivial, q5, fun _ => trivial, fun _ => trivial⟩
 ·rintro fL bA v ⟨v23, v24, v25, v26, v27, v28, v29, v30, rfl, hS, q0, q1, q2, q3, q4, q5, q6, q7⟩ hall
  simp only [Act.put, List.setIfInBounds_toArray, List.set_cons_zero, List.set_cons_succ]
  obtain rfl := q0 (hall 0 (by omega))
  have e1 : fL 1 = true := hall 1 (by omega)
  obtain rfl := q2 (hall 2 (by omega))
  obtain rfl := q3 (hall 3 (by omega))
  have e4 : fL 4 = true := hall 4 (by omega)
  obtain rfl := q5 (hall 5 (by omega))
  have e6 : fL 6 = true := hall 6 (by omega)
  have e7 : fL 7 = true := hall 7 (by omega)
  clear hall
  simp only [List.drop_succ_cons, List.drop_zero]
  have hO := hS.q30 e7
  rw [← Hres2.out] at hO
  obtain ⟨A', c', rfl, hc'⟩ := hO.form
  have hll : ((ms ++ [(⟨k, 0, d, t⟩ : Move)]).map Move.cells).length = (ms ++ [(⟨k, 0, d, t⟩ : Move)]).length := List.length_map _
  have hvb := hS.hb
  have E8 := D8.below hvb D8.lt
  have hW3 := hW2.trans (hvb.mono hW2.size)
  have hbase : w.heap.size ≤ w2.heap.size := hW2.size
  have l8 : w.heap.size + 3 < v.heap.size := E8.lt
  clear hS D4 D8 D9 D10 HSl2 HSl hD0 Hr hvb
  have hO := hO.mono hbase
  have hRes := Hres.out
  generalize ms ++ [(⟨k, 0, d, t⟩ : Move)] = mm at *
  have HO := Lib.hid hO
  have Hll := Lib.hid hll
  rw [hll] at HO
  have HRes := Lib.hid hRes
  generalize hnn : (mm.map Move.cells).length = nn at *
  have Hnn := Lib.hid hnn
  clear hO hll hRes hnn Hres Hres2
  have z0 : v.cell? ⟨w.heap.size + 1 + 1 + 1, 0, none⟩ = some (.int .i64 0) := E8.cell 0
  have z1 : v.cell? ⟨w.heap.size + 1 + 1 + 1, 1, none⟩ = some (.int .i64 0) := E8.cell 1
  have z2 : v.cell? ⟨w.heap.size + 1 + 1 + 1, 2, none⟩ = some (.slice none 0 0) := E8.cell 2
  have z3 : v.cell? ⟨w.heap.size + 1 + 1 + 1, 3, none⟩ = some (.bool false) := E8.cell 3
  have f0 : v.frozen? ⟨w.heap.size + 1 + 1 + 1, 0, none⟩ = false := E8.frozen 0
  have f1 : v.frozen? ⟨w.heap.size + 1 + 1 + 1, 1, none⟩ = false := E8.frozen 1
  have f2 : v.frozen? ⟨w.heap.size + 1 + 1 + 1, 2, none⟩ = false := E8.frozen 2
  have f3 : v.frozen? ⟨w.heap.size + 1 + 1 + 1, 3, none⟩ = false := E8.frozen 3
  have HE8 := Lib.hid E8
  clear E8
  go_wp2
  have hn2 : nn = mm.length := Hll.out
  subst hn2
  have hO4 := HO.out.kept (w' := (((v.setCell ⟨w.heap.size + 1 + 1 + 1, 0, none⟩ (.int .i64 a)).setCell ⟨w.heap.size + 1 + 1 + 1, 1, none⟩ (.int .i64 b)).setCell ⟨w.heap.size + 1 + 1 + 1, 2, none⟩ (.slice A' mm.length c')).setCell ⟨w.heap.size + 1 + 1 + 1, 3, none⟩ (.bool false)) (grownBy_stores [_, _, _, _] 0 (World.grownBy.refl _ _)) (.inr (Ne.symm (own_ne_blk HO.out HE8.out (by decide))))
  refine bodyPost_ret (v := .agg #[.int .i64 a, .int .i64 b, .slice A' mm.length c', .bool false]) (by simp [results, Tryz.results118, go_sem, z0, z1, z2, z3]) rfl ⟨⟨_, rfl, ?_⟩, (by repeat first | with_reducible (first | exact hW3 | apply below_drewN' | apply Below.drew | refine Below.alloc ?_ ?_ _ | refine Below.setCell ?_ ?_ _) | exact hW3 | omega | (simp <;> omega) | (have := (hW3).size; first | omega | (simp <;> omega)))⟩
  rw [HRes.out]
  exact ⟨A', c', rfl, hO4⟩
end Go.Proofs.YtednjmldjbndhaaGreat
