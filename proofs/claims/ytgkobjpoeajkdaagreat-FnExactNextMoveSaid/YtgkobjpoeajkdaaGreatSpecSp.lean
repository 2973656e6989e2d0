/- The span of a plan's result: the reference's. Conditions: the chain and the rule are valid. -/
import Derived.Test.YtgkobjpoeajkdaaGreatCount
namespace Go.Proofs.YtgkobjpoeajkdaaGreat
open Go.RowKit
/-- a block of two cells that the region makes (b), and into which it stores x and y (bs) -/
structure AlT (T : TypeId) (w1 : World) (b bs : Bool) (v9 x y : Value) (v : World) : Prop where
  hb : Below w1.heap.size w1 v
  blk : b = true → ∃ gb c0 c1, v9 = .pointer (some ⟨gb, 0, none⟩) ∧ Blk v gb T #[c0, c1] ∧ w1.heap.size ≤ gb ∧ (bs = true → c0 = x ∧ c1 = y)
  dd : bs = true → b = true
section
variable {T : TypeId} {w1 v v' : World} {b bs : Bool} {v9 x y c0 c1 : Value} {gb : Nat}
theorem AlT.init {v9 : Value} : AlT T w1 false false v9 x y w1.drew := ⟨(Below.refl _ _).drew, nofun, nofun⟩
theorem AlT.below (h : AlT T w1 b bs v9 x y v) (hb : Below v.heap.size v v') : AlT T w1 b bs v9 x y v' :=
  ⟨h.hb.trans (hb.mono h.hb.size), fun e => by
    obtain ⟨gb, c0, c1, h1, h2, h3, h4⟩ := h.blk e
    exact ⟨gb, c0, c1, h1, h2.below hb h2.lt, h3, h4⟩, h.dd⟩
theorem AlT.new {z : Value} (h : AlT T w1 b bs v9 x y v) (hb : b = false) : AlT T w1 true bs (.pointer (some ⟨v.heap.size, 0, none⟩)) x y (v.alloc (.cells #[z, z] T)) :=
  ⟨h.hb.alloc h.hb.size _, fun _ => ⟨_, _, _, rfl, Blk.new _ _ _, h.hb.size, fun e => (by have := h.dd e; rw [hb] at this; cases this)⟩, fun _ => rfl⟩
theorem AlT.set (h : AlT T w1 b bs (.pointer (some ⟨gb, 0, none⟩)) x y v) (hb : b = true) (hB : Blk v gb T #[c0, c1]) (hg : w1.heap.size ≤ gb) : AlT T w1 b true (.pointer (some ⟨gb, 0, none⟩)) x y ((v.setCell ⟨gb, 0, none⟩ x).setCell ⟨gb, 1, none⟩ y) :=
  ⟨(h.hb.setCell hg _).setCell hg _, fun _ => ⟨gb, x, y, rfl, (hB.set_ 0 x).set_ 1 y, hg, fun _ => ⟨rfl, rfl⟩⟩, fun _ => hb⟩
end
set_option maxRecDepth 100000 in
set_option maxHeartbeats 1000000 in
theorem l15Span_c (L : Int) (A1 : Option Addr) (c1 : Nat) (l1 : List Int) (A2 : Option Addr) (c2 : Nat) (l2 : List Int) (A3 : Option Addr) (c3 : Nat) (l : List Term) (p q r : Int) (w : World) (R : RuleIn w A1 l1 A2 l2)
    (hl : chainB l = true) (_ : l.length ≤ c3) (hs : Sl w w.heap.size 3 A3 (l.map Term.cells)) (hL : 1 ≤ L ∧ L ≤ 100000) (he : errorsB p q r = true) :
    Calls Tryz.prog 113 #[.agg #[.int .i64 L, .slice A1 l1.length c1, .slice A2 l2.length c2], .slice A3 l.length c3, .agg #[.int .i64 p, .int .i64 q, .int .i64 r]] w fun e w' => e = .returned (spanR (spanLo L l p q r) (spanHi L l p q r)) ∧ Below w.heap.size w w' := by
  obtain ⟨k1, k2, k3, k4⟩ := chainB_parts hl
  obtain ⟨e1, e2, e3⟩ := errors_bd he
  have hUp := unitsPl_bd hl hL e1 e2 e3
  have hcb := chain_bd hl
  have HU := fun (W : World) (hW : Below w.heap.size w W) => Lib.hid (l15Units_c L A1 c1 l1 A2 c2 l2 A3 c3 l p q r W (R.later hW) hl ((hs.below hW).more hW.size) hL he)
  have HC := fun (W : World) (hW : Below w.heap.size w W) => Lib.hid (l13Log_c A3 c3 l W k1 k2 k3 k4 ((hs.below hW).more hW.size))
  unfold spanLo spanHi
  generalize (chainTo l l.length).1 = lo at *
  generalize (chainTo l l.length).2 = hi at *
  generalize unitsPl L l p q r = u at *
  have HSo := fun W => l04Span_c (lo - u) (hi + u) W
  rw [spanR_form] at HSo
  rw [spanR_form]
  generalize spLoF (lo - u) (hi + u) = F1 at *
  generalize spHiF (lo - u) (hi + u) = F2 at *
  generalize spanC (lo - u) (hi + u) = cc at *
  have HSo := fun W => Lib.hid (HSo W)
  obtain ⟨d1, t1⟩ := F1
  obtain ⟨d2, t2⟩ := F2
  simp only at HSo
  have hP0 : PsS w L A1 l1.length c1 A2 l2.length c2 p q r _ := PsS.init
  obtain ⟨hcb1, hcb2⟩ := hcb
  clear hl e1 e2 e3 k1 k2 k3 k4 R hs hL he
  go_enter Tryz.func113, Tryz.ntmps113
  go_wp2_with fail
  generalize ((((w.alloc (.cells #[.int .i64 L, .slice A1 l1.length c1, .slice A2 l2.length c2] 32)).alloc (.cells #[.int .i64 p, .int .i64 q, .int .i64 r] 34)).alloc (.cells #[.int .i64 0, .int .i64 0] 65)).alloc (.cells #[.int .i64 0, .int .i64 0] 65)) = W at *
  refine wp_region_all (fun a0 fL bA v => ∃ v11 v12 v13 v14 v15 v16 v9 v10 : Value, bA = (((((((a0.put (some 11) v11).put (some 12) v12).put (some 13) v13).put (some 14) v14).put (some 15) v15).put (some 16) v16).put (some 9) v9).put (some 10) v10 ∧ (AlT 201 W (fL 6) (fL 7) v9 (.int .i64 lo) (.int .i64 hi) v) ∧ (fL 0 = true → v11 = .slice A3 l.length c3) ∧ (fL 1 = true → v12 = .agg #[.int .i64 lo, .int .i64 hi]) ∧ (fL 2 = true → v13 = .agg #[.int .i64 L, .slice A1 l1.length c1, .slice A2 l2.length c2]) ∧ (fL 3 = true → v14 = .slice A3 l.length c3) ∧ (fL 4 = true → v15 = .agg #[.int .i64 p, .int .i64 q, .int .i64 r]) ∧ (fL 5 = true → v16 = .int .i64 u) ∧ (fL 6 = true → True) ∧ (fL 8 = true → v10 = .int .i64 u)) (by kernel_rfl) (by decide +kernel) ?_ ?_ ?_
  · exact ⟨undef, undef, undef, undef, undef, undef, undef, undef, by simp only [Act.put, List.setIfInBounds_toArray, List.set_cons_zero, List.set_cons_succ], AlT.init, nofun, nofun, nofun, nofun, nofun, nofun, nofun, nofun⟩
  · rintro fL bA v ⟨v11, v12, v13, v14, v15, v16, v9, v10, rfl, hS, q0, q1, q2, q3, q4, q5, q6, q8⟩ i hi hf o ho hall
    simp only [Act.put, List.setIfInBounds_toArray, List.set_cons_zero, List.set_cons_succ]
    simp only [List.length_cons, List.length_nil] at hi
    have hn : i = 0 ∨ i = 1 ∨ i = 2 ∨ i = 3 ∨ i = 4 ∨ i = 5 ∨ i = 6 ∨ i = 7 ∨ i = 8 := by omega
    clear hi
    rcases hn with rfl | rfl | rfl | rfl | rfl | rfl | rfl | rfl | rfl
    · obtain rfl := Option.some.inj ho
      clear hall ho
      refine wpOp_step rfl (fun K hK => ?_)
      go_simp
      exact hK _ _ ⟨_, _, _, _, _, _, _, _, rfl, hS, fun _ => rfl, q1, q2, q3, q4, q5, fun _ => trivial, q8⟩
    · obtain rfl := Option.some.inj ho
      obtain rfl := q0 (hall ⟨0, .data⟩ (by simp) rfl)
      clear hall ho
      refine wpOp_step rfl (fun K hK => ?_)
      go_simp
      refine Calls.mono ((HC _ (hP0.hb.trans (hS.hb.mono hP0.hb.size))).out) ?_; rintro e w1 ⟨rfl, hb1⟩
      go_simp
      exact hK _ _ ⟨_, _, _, _, _, _, _, _, rfl, hS.below hb1, fun _ => rfl, fun _ => rfl, q2, q3, q4, q5, fun _ => trivial, q8⟩
    · obtain rfl := Option.some.inj ho
      have E := hP0.b3.below hS.hb hP0.b3.lt
      have y0 : v.cell? ⟨w.heap.size, 0, none⟩ = some (.int .i64 L) := E.cell 0
      have y1 : v.cell? ⟨w.heap.size, 1, none⟩ = some (.slice A1 l1.length c1) := E.cell 1
      have y2 : v.cell? ⟨w.heap.size, 2, none⟩ = some (.slice A2 l2.length c2) := E.cell 2
      clear hall ho
      refine wpOp_step rfl (fun K hK => ?_)
      go_simp
      exact hK _ _ ⟨_, _, _, _, _, _, _, _, rfl, hS, q0, q1, fun _ => rfl, q3, q4, q5, fun _ => trivial, q8⟩
    · obtain rfl := Option.some.inj ho
      clear hall ho
      refine wpOp_step rfl (fun K hK => ?_)
      go_simp
      exact hK _ _ ⟨_, _, _, _, _, _, _, _, rfl, hS, q0, q1, q2, fun _ => rfl, q4, q5, fun _ => trivial, q8⟩
    · obtain rfl := Option.some.inj ho
      have E := hP0.b5.below hS.hb hP0.b5.lt
      have y0 : v.cell? ⟨w.heap.size + 1, 0, none⟩ = some (.int .i64 p) := E.cell 0
      have y1 : v.cell? ⟨w.heap.size + 1, 1, none⟩ = some (.int .i64 q) := E.cell 1
      have y2 : v.cell? ⟨w.heap.size + 1, 2, none⟩ = some (.int .i64 r) := E.cell 2
      clear hall ho
      refine wpOp_step rfl (fun K hK => ?_)
      go_simp
      exact hK _ _ ⟨_, _, _, _, _, _, _, _, rfl, hS, q0, q1, q2, q3, fun _ => rfl, q5, fun _ => trivial, q8⟩
    · obtain rfl := Option.some.inj ho
      obtain rfl := q2 (hall ⟨2, .data⟩ (by simp) rfl)
      obtain rfl := q3 (hall ⟨3, .data⟩ (by simp) rfl)
      obtain rfl := q4 (hall ⟨4, .data⟩ (by simp) rfl)
      clear hall ho
      refine wpOp_step rfl (fun K hK => ?_)
      go_simp
      refine Calls.mono ((HU _ (hP0.hb.trans (hS.hb.mono hP0.hb.size))).out) ?_; rintro e w1 ⟨rfl, hb1⟩
      go_simp
      exact hK _ _ ⟨_, _, _, _, _, _, _, _, rfl, hS.below hb1, q0, q1, fun _ => rfl, fun _ => rfl, fun _ => rfl, fun _ => rfl, fun _ => trivial, q8⟩
    · obtain rfl := Option.some.inj ho
      clear hall ho
      refine wpOp_step rfl (fun K hK => ?_)
      go_simp
      exact hK _ _ ⟨_, _, _, _, _, _, _, _, rfl, hS.new hf, q0, q1, q2, q3, q4, q5, fun _ => trivial, q8⟩
    · obtain rfl := Option.some.inj ho
      have e6 : fL 6 = true := hall ⟨6, .data⟩ (by simp) rfl
      obtain rfl := q1 (hall ⟨1, .data⟩ (by simp) rfl)
      obtain ⟨gb, x0, x1, rfl, Bb, hgb, _⟩ := hS.blk e6
      have y0 : v.cell? ⟨gb, 0, none⟩ = some x0 := Bb.cell 0
      have y1 : v.cell? ⟨gb, 1, none⟩ = some x1 := Bb.cell 1
      have yf0 := Bb.frozen 0
      have yf1 := Bb.frozen 1
      clear hall ho
      refine wpOp_step rfl (fun K hK => ?_)
      go_simp
      exact hK _ _ ⟨_, _, _, _, _, _, _, _, rfl, hS.set e6 Bb hgb, q0, fun _ => rfl, q2, q3, q4, q5, fun _ => trivial, q8⟩
    · obtain rfl := Option.some.inj ho
      obtain rfl := q5 (hall ⟨5, .data⟩ (by simp) rfl)
      clear hall ho
      refine wpOp_step rfl (fun K hK => ?_)
      go_simp
      exact hK _ _ ⟨_, _, _, _, _, _, _, _, rfl, hS, q0, q1, q2, q3, q4, fun _ => rfl, fun _ => trivial, fun _ => rfl⟩
  · rintro fL bA v ⟨v11, v12, v13, v14, v15, v16, v9, v10, rfl, hS, q0, q1, q2, q3, q4, q5, q6, q8⟩ hall
    simp only [Act.put, List.setIfInBounds_toArray, List.set_cons_zero, List.set_cons_succ]
    simp only [List.length_cons, List.length_nil] at hall
    obtain rfl := q0 (hall 0 (by omega))
    obtain rfl := q1 (hall 1 (by omega))
    obtain rfl := q2 (hall 2 (by omega))
    obtain rfl := q3 (hall 3 (by omega))
    obtain rfl := q4 (hall 4 (by omega))
    obtain rfl := q5 (hall 5 (by omega))
    have e6 : fL 6 = true := hall 6 (by omega)
    obtain rfl := q8 (hall 8 (by omega))
    have e7 : fL 7 = true := hall 7 (by omega)
    clear hall
    obtain ⟨gb, x0, x1, rfl, Bb, hgb, hxy⟩ := hS.blk e6
    obtain ⟨rfl, rfl⟩ := hxy e7
    have hP1 := hP0.below hS.hb
    have y0 : v.cell? ⟨gb, 0, none⟩ = some (.int .i64 lo) := Bb.cell 0
    have y1 : v.cell? ⟨gb, 1, none⟩ = some (.int .i64 hi) := Bb.cell 1
    clear hP0 hS Bb hgb HC HU
    go_wp2_with fail
    refine Calls.mono (HSo v).out ?_; rintro e v2 ⟨rfl, hb2⟩
    have hS := hP1.below hb2
    clear y0 y1 hP1 hb2
    have z0 : v2.cell? ⟨w.heap.size + 1 + 1, 0, none⟩ = some (.int .i64 0) := hS.b6.cell 0
    have z1 : v2.cell? ⟨w.heap.size + 1 + 1, 1, none⟩ = some (.int .i64 0) := hS.b6.cell 1
    have z2 : v2.cell? ⟨w.heap.size + 1 + 1 + 1, 0, none⟩ = some (.int .i64 0) := hS.b7.cell 0
    have z3 : v2.cell? ⟨w.heap.size + 1 + 1 + 1, 1, none⟩ = some (.int .i64 0) := hS.b7.cell 1
    have f0 : v2.frozen? ⟨w.heap.size + 1 + 1, 0, none⟩ = false := hS.b6.frozen 0
    have f1 : v2.frozen? ⟨w.heap.size + 1 + 1, 1, none⟩ = false := hS.b6.frozen 1
    have f2 : v2.frozen? ⟨w.heap.size + 1 + 1 + 1, 0, none⟩ = false := hS.b7.frozen 0
    have f3 : v2.frozen? ⟨w.heap.size + 1 + 1 + 1, 1, none⟩ = false := hS.b7.frozen 1
    have hbv := hS.hb
    go_wp2
    refine bodyPost_ret (v := .tuple #[.agg #[.int .i64 d1, .int .i64 t1], .agg #[.int .i64 d2, .int .i64 t2], .int .i64 cc]) (by simp [results, Tryz.results113, go_sem, z0, z1, z2, z3]) rfl ⟨rfl, (by repeat (first | with_reducible exact hbv | with_reducible apply below_drewN' | with_reducible apply Below.drew | (with_reducible refine Below.alloc ?_ (by first | omega | (simp; omega) | simp) _) | (with_reducible refine Below.setCell ?_ (by first | omega | (simp; omega) | simp) _) | exact hbv))⟩
end Go.Proofs.YtgkobjpoeajkdaaGreat
