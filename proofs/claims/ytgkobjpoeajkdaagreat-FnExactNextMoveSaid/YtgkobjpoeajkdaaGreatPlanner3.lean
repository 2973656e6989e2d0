/- The planner's method term: the program's. Conditions: the rule has ScaleC on both parts; the term is valid; the plan so far is sound. -/
import Derived.Test.YtgkobjpoeajkdaaGreatPlanner2
namespace Go.Proofs.YtgkobjpoeajkdaaGreat
open Go.RowKit
theorem Spare.blk {w w' : World} {g b : Nat} {mv mv' : Value} {ty : TypeId} {cs : Array Value} (h : Spare w w' g mv mv') (hB : Blk w b ty cs) (h1 : b ≠ g) (h2 : some b ≠ mv.ownBlock) : Blk w' b ty cs ∧ some b ≠ mv'.ownBlock := by
  obtain ⟨k1, k2⟩ := h.keep b hB.lt h1 h2
  exact ⟨k1.trans hB, k2⟩
theorem own_lt {w : World} {base k : Nat} {e : TypeId} {v : Value} {xs : List (List Value)} {b : Nat} (h : Own w base e k v xs) (hb : w.heap.size ≤ b) : some b ≠ v.ownBlock := fun e => by
  have := (h.1.lt _ e.symm).2
  omega
theorem setB_fits {sh : Int} (d : Int) (h : -1048576 ≤ sh ∧ sh ≤ 1048576) : setB sh (pointC d + sh) = fitsB sh d := by
  unfold setB fitsB
  rw [inB_true.2 h, Int.add_comm]
  rfl
/-- a block that the region makes and nobody reads -/
def AlS (w1 : World) (b9 : Bool) (v9 : Value) (v : World) : Prop := Below w1.heap.size w1 v ∧ (b9 = true → ∃ gb x y, v9 = .pointer (some ⟨gb, 0, none⟩) ∧ Blk v gb 110 #[x, y] ∧ w1.heap.size ≤ gb)
theorem AlS.below {w1 v v' : World} {b9 : Bool} {v9 : Value} (h : AlS w1 b9 v9 v) (hb : Below v.heap.size v v') : AlS w1 b9 v9 v' :=
  ⟨h.1.trans (hb.mono h.1.size), fun e => by
    obtain ⟨gb, x, y, h1, h2, h3⟩ := h.2 e
    exact ⟨gb, x, y, h1, h2.below hb h2.lt, h3⟩⟩
theorem AlS.new {w1 v : World} {b9 : Bool} {v9 : Value} (h : AlS w1 b9 v9 v) : AlS w1 true (.pointer (some ⟨v.heap.size, 0, none⟩)) (v.alloc (.cells #[.int .i64 0, .int .i64 0] 110)) :=
  ⟨h.1.alloc h.1.size _, fun _ => ⟨_, _, _, rfl, Blk.new _ _ _, h.1.size⟩⟩
theorem AlS.set {w1 v : World} {b9 : Bool} {gb : Nat} {x y : Value} (h : AlS w1 b9 (.pointer (some ⟨gb, 0, none⟩)) v) (hB : Blk v gb 110 #[x, y]) (hg : w1.heap.size ≤ gb) (a b : Value) : AlS w1 b9 (.pointer (some ⟨gb, 0, none⟩)) ((v.setCell ⟨gb, 0, none⟩ a).setCell ⟨gb, 1, none⟩ b) :=
  ⟨(h.1.setCell hg _).setCell hg _, fun _ => ⟨gb, a, b, rfl, (hB.set_ 0 a).set_ 1 b, hg⟩⟩
set_option maxRecDepth 100000 in
set_option maxHeartbeats 1000000 in
theorem termDiv_c {w0 : World} {A1 : Option Addr} {l1 : List Int} {A2 : Option Addr} {l2 : List Int} (R : RuleIn w0 A1 l1 A2 l2) (L : Int) (c1 c2 : Nat) (g : Nat) (p : PS) (mv : Value) (d t : Int) (w : World)
    (P : PlAt w0 g L A1 l1.length c1 A2 l2.length c2 p mv w) (hg : w0.heap.size ≤ g) (hp : okP p) (ht : termOK ⟨d, t, true⟩ = true) (hr : p.ms.length ≤ 900) :
    Calls Tryz.prog 124 #[.pointer (some ⟨g, 0, none⟩), .agg #[.int .i64 d, .int .i64 t, .bool true]] w fun e w' => e = .returned (.tuple #[]) ∧ ∃ mv', PlAt w0 g L A1 l1.length c1 A2 l2.length c2 (termP p ⟨d, t, true⟩) mv' w' ∧ Spare w w' g mv mv' := by
  have hfb := (term_bd ht).1
  simp only at hfb
  have hu := okP_under hp
  have hul := under_len p
  have hT := fun W mv PW => Lib.hid (toCursor_c R L c1 c2 g p mv W PW hg hp.1 (by omega))
  have hD := fun W mv PW => Lib.hid (doP_c R L c1 c2 g (underP p) mv 2 d t W PW hg (by omega) hu.1 (fun _ => hfb) (by omega))
  rw [under_en] at hD
  have hW : Below w.heap.size w ((w.alloc (.cells #[.int .i64 d, .int .i64 t, .bool true] 118)).alloc (.cells #[.int .i64 1, .int .i64 0, .int .i64 d, .int .i64 t] 72)) := (by repeat (first | with_reducible exact Below.refl _ _ | with_reducible apply below_drewN' | with_reducible apply Below.drew | (with_reducible refine Below.alloc ?_ (by first | omega | (simp; omega) | simp) _) | (with_reducible refine Below.setCell ?_ (by first | omega | (simp; omega) | simp) _) | exact Below.refl _ _))
  have hB3 : Blk ((w.alloc (.cells #[.int .i64 d, .int .i64 t, .bool true] 118)).alloc (.cells #[.int .i64 1, .int .i64 0, .int .i64 d, .int .i64 t] 72)) w.heap.size 118 #[.int .i64 d, .int .i64 t, .bool true] := (Blk.new _ _ _).alloc _
  have hgl := P.bp.lt
  have hw3 := own_lt P.own (Nat.le_refl w.heap.size)
  have e : termP p ⟨d, t, true⟩ = mvP (underP p) 2 d t true := rfl
  rw [e]
  clear e ht hp hu hul hfb hr
  have P := Lib.hid P
  go_enter Tryz.func124, Tryz.ntmps124
  go_wp2_with fail
  generalize ((w.alloc (.cells #[.int .i64 d, .int .i64 t, .bool true] 118)).alloc (.cells #[.int .i64 1, .int .i64 0, .int .i64 d, .int .i64 t] 72)) = W at *
  refine Calls.mono (hT W mv (P.out.below hW)).out ?_; rintro e w1 ⟨rfl, mv1, P1, hS1⟩
  obtain ⟨B3, n3⟩ := hS1.blk hB3 (by omega) hw3
  have c0 : w1.cell? ⟨w.heap.size, 0, none⟩ = some (.int .i64 d) := B3.cell 0
  have c1 : w1.cell? ⟨w.heap.size, 1, none⟩ = some (.int .i64 t) := B3.cell 1
  go_wp2_with fail
  refine Calls.mono (hD w1 mv1 P1).out ?_; rintro e w2 ⟨rfl, mv2, P2, hS2⟩
  have z6 : w2.cell? ⟨g, 6, none⟩ = some (.bool false) := P2.bp.cell 6
  have zf := P2.bp.frozen 6
  have P3 := P2.setEn hg true
  go_wp2
  refine bodyPost_ret (v := .tuple #[]) (by simp [results, Tryz.results124, go_sem]) rfl ⟨rfl, mv2, P3, (((Spare.ofBelow hW).trans hS1).trans hS2).set⟩
set_option maxRecDepth 100000 in
set_option maxHeartbeats 1000000 in
theorem termFit_c {w0 : World} {A1 : Option Addr} {l1 : List Int} {A2 : Option Addr} {l2 : List Int} (R : RuleIn w0 A1 l1 A2 l2) (L : Int) (c1 c2 : Nat) (g : Nat) (sh cu : Int) (ms : List Move) (mv : Value) (d t : Int) (w : World)
    (P : PlAt w0 g L A1 l1.length c1 A2 l2.length c2 ⟨sh, cu, ms, true⟩ mv w) (hg : w0.heap.size ≤ g) (hp : okP ⟨sh, cu, ms, true⟩) (ht : termOK ⟨d, t, false⟩ = true) (hr : ms.length ≤ 900) (hfit : fitsB sh d = true) :
    Calls Tryz.prog 124 #[.pointer (some ⟨g, 0, none⟩), .agg #[.int .i64 d, .int .i64 t, .bool false]] w fun e w' => e = .returned (.tuple #[]) ∧ ∃ mv', PlAt w0 g L A1 l1.length c1 A2 l2.length c2 (termP ⟨sh, cu, ms, true⟩ ⟨d, t, false⟩) mv' w' ∧ Spare w w' g mv mv' := by
  have hfb := (term_bd ht).1
  simp only at hfb
  have hsB := setB_fits d hp.1.1
  rw [hfit] at hsB
  have hC := fun (W : World) mv (PW : PlAt w0 g L A1 l1.length c1 A2 l2.length c2 ⟨sh, cu, ms, true⟩ mv W) => can_c g L A1 l1.length c1 A2 l2.length c2 sh cu mv true 1 0 d t sh (pointC d + sh) true W PW.bp (fun W' hW' => by
    have := movedC_c R L c1 c2 sh cu 1 d t (by omega) hp.1 (fun _ => hfb) W' (PW.hb.trans (hW'.mono PW.hb.size))
    rw [show moveS sh cu 1 (pointC d) = (sh, pointC d + sh) from rfl] at this
    simp only at this hsB
    rw [hsB] at this
    exact this)
  have hC := fun W mv PW => Lib.hid (hC W mv PW)
  have hD := fun W mv PW => Lib.hid (doP_c R L c1 c2 g ⟨sh, cu, ms, true⟩ mv 1 d t W PW hg (by omega) hp.1 (fun _ => hfb) (by simp only; omega))
  have hW : Below w.heap.size w ((w.alloc (.cells #[.int .i64 d, .int .i64 t, .bool false] 118)).alloc (.cells #[.int .i64 1, .int .i64 0, .int .i64 d, .int .i64 t] 72)) := (by repeat (first | with_reducible exact Below.refl _ _ | with_reducible apply below_drewN' | with_reducible apply Below.drew | (with_reducible refine Below.alloc ?_ (by first | omega | (simp; omega) | simp) _) | (with_reducible refine Below.setCell ?_ (by first | omega | (simp; omega) | simp) _) | exact Below.refl _ _))
  have hB3 : Blk ((w.alloc (.cells #[.int .i64 d, .int .i64 t, .bool false] 118)).alloc (.cells #[.int .i64 1, .int .i64 0, .int .i64 d, .int .i64 t] 72)) w.heap.size 118 #[.int .i64 d, .int .i64 t, .bool false] := (Blk.new _ _ _).alloc _
  have hgl := P.bp.lt
  have e : termP ⟨sh, cu, ms, true⟩ ⟨d, t, false⟩ = mvP ⟨sh, cu, ms, true⟩ 1 d t false := by
    unfold termP
    simp only [hfit]
    rfl
  rw [e]
  clear e ht hp hfb hr hfit hsB
  have k6 : w.cell? ⟨g, 6, none⟩ = some (.bool true) := P.bp.cell 6
  have PW := P.below hW
  clear P
  go_enter Tryz.func124, Tryz.ntmps124
  go_wp2_with fail
  generalize ((w.alloc (.cells #[.int .i64 d, .int .i64 t, .bool false] 118)).alloc (.cells #[.int .i64 1, .int .i64 0, .int .i64 d, .int .i64 t] 72)) = W at *
  refine Calls.mono (hC W mv PW).out ?_; rintro e w1 ⟨rfl, hb1⟩
  have P1 := PW.below hb1
  have B3 := hB3.below hb1 hB3.lt
  have hW1 := hW.trans (hb1.mono hW.size)
  clear k6 PW
  have zz := B3.lt
  have c0 : w1.cell? ⟨w.heap.size, 0, none⟩ = some (.int .i64 d) := B3.cell 0
  have c1 : w1.cell? ⟨w.heap.size, 1, none⟩ = some (.int .i64 t) := B3.cell 1
  go_wp2_with fail
  have P2 := P1.below (v' := w1.alloc (.cells #[.int .i64 sh, .int .i64 (pointC d + sh)] 110)) ((Below.refl _ _).alloc (Nat.le_refl _) _)
  have hW2 : Below w.heap.size w (w1.alloc (.cells #[.int .i64 sh, .int .i64 (pointC d + sh)] 110)) := hW1.alloc hW1.size _
  clear c0 c1 B3 P1 hW1
  generalize w1.alloc (.cells #[.int .i64 sh, .int .i64 (pointC d + sh)] 110) = w3 at *
  refine Calls.mono (hD w3 mv P2).out ?_; rintro e w4 ⟨rfl, mv2, P4, hS4⟩
  have z6 : w4.cell? ⟨g, 6, none⟩ = some (.bool true) := P4.bp.cell 6
  have zf := P4.bp.frozen 6
  have P5 := P4.setEn hg false
  go_wp2
  refine bodyPost_ret (v := .tuple #[]) (by simp [results, Tryz.results124, go_sem]) rfl ⟨rfl, mv2, P5, ((Spare.ofBelow hW2).trans hS4).set⟩
end Go.Proofs.YtgkobjpoeajkdaaGreat
