/- The span of a plan's result, and whether an exercise is valid: the program's. Conditions: the lists' lengths. -/
import Derived.Test.YtgkobjpoeajkdaaGreatPlanSp
namespace Go.Proofs.YtgkobjpoeajkdaaGreat
open Go.RowKit
/-- what lies in memory while the span of a plan is computed -/
structure PsS (w0 : World) (L : Int) (A1 : Option Addr) (n1 c1 : Nat) (A2 : Option Addr) (n2 c2 : Nat) (p q r : Int) (v : World) : Prop where
  hb : Below w0.heap.size w0 v
  b3 : Blk v w0.heap.size 32 #[.int .i64 L, .slice A1 n1 c1, .slice A2 n2 c2]
  b5 : Blk v (w0.heap.size + 1) 34 #[.int .i64 p, .int .i64 q, .int .i64 r]
  b6 : Blk v (w0.heap.size + 2) 65 #[.int .i64 0, .int .i64 0]
  b7 : Blk v (w0.heap.size + 3) 65 #[.int .i64 0, .int .i64 0]
section
variable {w0 v v' : World} {L : Int} {A1 : Option Addr} {n1 c1 : Nat} {A2 : Option Addr} {n2 c2 : Nat} {p q r : Int}
theorem PsS.below (h : PsS w0 L A1 n1 c1 A2 n2 c2 p q r v) (hb : Below v.heap.size v v') : PsS w0 L A1 n1 c1 A2 n2 c2 p q r v' :=
  ⟨h.hb.trans (hb.mono h.hb.size), h.b3.below hb h.b3.lt, h.b5.below hb h.b5.lt, h.b6.below hb h.b6.lt, h.b7.below hb h.b7.lt⟩
theorem PsS.drew (h : PsS w0 L A1 n1 c1 A2 n2 c2 p q r v) : PsS w0 L A1 n1 c1 A2 n2 c2 p q r v.drew := ⟨h.hb.drew, h.b3, h.b5, h.b6, h.b7⟩
theorem PsS.init : PsS w0 L A1 n1 c1 A2 n2 c2 p q r ((((w0.alloc (.cells #[.int .i64 L, .slice A1 n1 c1, .slice A2 n2 c2] 32)).alloc (.cells #[.int .i64 p, .int .i64 q, .int .i64 r] 34)).alloc (.cells #[.int .i64 0, .int .i64 0] 65)).alloc (.cells #[.int .i64 0, .int .i64 0] 65)) :=
  ⟨(by repeat (first | with_reducible exact Below.refl _ _ | with_reducible apply below_drewN' | with_reducible apply Below.drew | (with_reducible refine Below.alloc ?_ (by first | omega | (simp; omega) | simp) _) | (with_reducible refine Below.setCell ?_ (by first | omega | (simp; omega) | simp) _) | exact Below.refl _ _)), (((Blk.new _ _ _).alloc _).alloc _).alloc _, ((Blk.new' _ _ _ (by simp)).alloc _).alloc _, (Blk.new' _ _ _ (by simp)).alloc _, Blk.new' _ _ _ (by simp)⟩
end
theorem RuleIn.later {w W : World} {A1 : Option Addr} {l1 : List Int} {A2 : Option Addr} {l2 : List Int} (R : RuleIn w A1 l1 A2 l2) (hW : Below w.heap.size w W) : RuleIn W A1 l1 A2 l2 :=
  ⟨R.h1, R.h2, (R.s1.below hW).more hW.size, (R.s2.below hW).more hW.size, R.m1, R.m2⟩
theorem chain_bd {l : List Term} (hl : chainB l = true) : (-268435456 ≤ (chainTo l l.length).1 ∧ (chainTo l l.length).1 ≤ 268435456) ∧ (-268435456 ≤ (chainTo l l.length).2 ∧ (chainTo l l.length).2 ≤ 268435456) := by
  obtain ⟨_, k2, k3, _⟩ := chainB_parts hl
  have := chainTo_bd k3 (Nat.le_refl l.length)
  omega
set_option maxRecDepth 100000 in
set_option maxHeartbeats 1000000 in
theorem planSpan_c (L : Int) (A1 : Option Addr) (c1 : Nat) (l1 : List Int) (A2 : Option Addr) (c2 : Nat) (l2 : List Int) (A3 : Option Addr) (c3 : Nat) (l : List Term) (p q r : Int) (w : World) (R : RuleIn w A1 l1 A2 l2)
    (hl : chainB l = true) (hc3 : l.length ≤ c3) (hs : Sl w w.heap.size 3 A3 (l.map Term.cells)) (hL : 1 ≤ L ∧ L ≤ 100000) (he : errorsB p q r = true) :
    Calls Tryz.prog 116 #[.agg #[.int .i64 L, .slice A1 l1.length c1, .slice A2 l2.length c2], .slice A3 l.length c3, .agg #[.int .i64 p, .int .i64 q, .int .i64 r]] w fun e w' => e = .returned (spanR (spanLo L l p q r) (spanHi L l p q r)) ∧ Below w.heap.size w w' := by
  obtain ⟨k1, k2, k3, _⟩ := chainB_parts hl
  obtain ⟨e1, e2, e3⟩ := errors_bd he
  have hUp := unitsPl_bd hl hL e1 e2 e3
  have hcb := chain_bd hl
  have HU := fun (W : World) (hW : Below w.heap.size w W) => Lib.hid (planUnits_c L A1 c1 l1 A2 c2 l2 A3 c3 l p q r W (R.later hW) hl hc3 ((hs.below hW).more hW.size) hL he)
  have HC := fun (W : World) (hW : Below w.heap.size w W) => Lib.hid (chainLog_c A3 c3 l W k2 k3 ((hs.below hW).more hW.size))
  unfold spanLo spanHi
  generalize (chainTo l l.length).1 = lo at *
  generalize (chainTo l l.length).2 = hi at *
  generalize unitsPl L l p q r = u at *
  have HSp := fun W => Lib.hid (spread_c lo hi u W (by omega) (by omega) (by omega))
  have HSo := fun W => spanOf_c (lo - u) (hi + u) W
  rw [spanR_form] at HSo
  rw [spanR_form]
  generalize spLoF (lo - u) (hi + u) = F1 at *
  generalize spHiF (lo - u) (hi + u) = F2 at *
  generalize spanC (lo - u) (hi + u) = cc at *
  have HSo := fun W => Lib.hid (HSo W)
  obtain ⟨d1, t1⟩ := F1
  obtain ⟨d2, t2⟩ := F2
  simp only at HSo
  have hP0 : PsS w L A1 l1.length c1 A2 l2.length c2 p q r _ := PsS.init
  clear hl hcb hUp e1 e2 e3 k1 k2 k3 R hs hL he hc3
  go_enter Tryz.func116, Tryz.ntmps116
  go_wp2_with fail
  generalize ((((w.alloc (.cells #[.int .i64 L, .slice A1 l1.length c1, .slice A2 l2.length c2] 32)).alloc (.cells #[.int .i64 p, .int .i64 q, .int .i64 r] 34)).alloc (.cells #[.int .i64 0, .int .i64 0] 65)).alloc (.cells #[.int .i64 0, .int .i64 0] 65)) = W at *
  refine wp_region_sink 11 (fun a0 fL bA v => ∃ v9 v10 v11 v12 v13 v14 v15 v16 v17 v18 v19 : Value, bA = ((((((((((a0.put (some 9) v9).put (some 10) v10).put (some 11) v11).put (some 12) v12).put (some 13) v13).put (some 14) v14).put (some 15) v15).put (some 16) v16).put (some 17) v17).put (some 18) v18).put (some 19) v19 ∧ PsS w L A1 l1.length c1 A2 l2.length c2 p q r v ∧ (fL 0 = true → v9 = .slice A3 l.length c3) ∧ (fL 1 = true → v10 = .agg #[.int .i64 lo, .int .i64 hi]) ∧ (fL 2 = true → v11 = .agg #[.int .i64 L, .slice A1 l1.length c1, .slice A2 l2.length c2]) ∧ (fL 3 = true → v12 = .slice A3 l.length c3) ∧ (fL 4 = true → v13 = .agg #[.int .i64 p, .int .i64 q, .int .i64 r]) ∧ (fL 5 = true → v14 = .int .i64 u) ∧ (fL 6 = true → v15 = .agg #[.int .i64 (lo - u), .int .i64 (hi + u)]) ∧ (fL 7 = true → v16 = .tuple #[.agg #[.int .i64 d1, .int .i64 t1], .agg #[.int .i64 d2, .int .i64 t2], .int .i64 cc]) ∧ (fL 8 = true → v17 = .agg #[.int .i64 d1, .int .i64 t1]) ∧ (fL 9 = true → v18 = .agg #[.int .i64 d2, .int .i64 t2]) ∧ (fL 10 = true → v19 = .int .i64 cc)) (by kernel_rfl) (by decide +kernel) ?_ ?_ ?_
  · exact ⟨undef, undef, undef, undef, undef, undef, undef, undef, undef, undef, undef, by simp only [Act.put, List.setIfInBounds_toArray, List.set_cons_zero, List.set_cons_succ], hP0.drew, nofun, nofun, nofun, nofun, nofun, nofun, nofun, nofun, nofun, nofun, nofun⟩
  · rintro fL bA v ⟨v9, v10, v11, v12, v13, v14, v15, v16, v17, v18, v19, rfl, hS, q0, q1, q2, q3, q4, q5, q6, q7, q8, q9, q10⟩ i hi hf o ho hall
    simp only [Act.put, List.setIfInBounds_toArray, List.set_cons_zero, List.set_cons_succ]
    have hn : i = 0 ∨ i = 1 ∨ i = 2 ∨ i = 3 ∨ i = 4 ∨ i = 5 ∨ i = 6 ∨ i = 7 ∨ i = 8 ∨ i = 9 ∨ i = 10 := by omega
    clear hi
    rcases hn with rfl | rfl | rfl | rfl | rfl | rfl | rfl | rfl | rfl | rfl | rfl
    · obtain rfl := Option.some.inj ho
      clear hall ho
      refine wpOp_step rfl (fun K hK => ?_)
      go_simp
      exact hK _ _ ⟨_, _, _, _, _, _, _, _, _, _, _, rfl, hS, fun _ => rfl, q1, q2, q3, q4, q5, q6, q7, q8, q9, q10⟩
    · obtain rfl := Option.some.inj ho
      obtain rfl := q0 (hall ⟨0, .data⟩ (by simp) rfl)
      clear hall ho
      refine wpOp_step rfl (fun K hK => ?_)
      go_simp
      refine Calls.mono ((HC _ hS.hb).out) ?_; rintro e w1 ⟨rfl, hb1⟩
      go_simp
      exact hK _ _ ⟨_, _, _, _, _, _, _, _, _, _, _, rfl, hS.below hb1, fun _ => rfl, fun _ => rfl, q2, q3, q4, q5, q6, q7, q8, q9, q10⟩
    · obtain rfl := Option.some.inj ho
      have y0 : v.cell? ⟨w.heap.size, 0, none⟩ = some (.int .i64 L) := hS.b3.cell 0
      have y1 : v.cell? ⟨w.heap.size, 1, none⟩ = some (.slice A1 l1.length c1) := hS.b3.cell 1
      have y2 : v.cell? ⟨w.heap.size, 2, none⟩ = some (.slice A2 l2.length c2) := hS.b3.cell 2
      clear hall ho
      refine wpOp_step rfl (fun K hK => ?_)
      go_simp
      exact hK _ _ ⟨_, _, _, _, _, _, _, _, _, _, _, rfl, hS, q0, q1, fun _ => rfl, q3, q4, q5, q6, q7, q8, q9, q10⟩
    · obtain rfl := Option.some.inj ho
      clear hall ho
      refine wpOp_step rfl (fun K hK => ?_)
      go_simp
      exact hK _ _ ⟨_, _, _, _, _, _, _, _, _, _, _, rfl, hS, q0, q1, q2, fun _ => rfl, q4, q5, q6, q7, q8, q9, q10⟩
    · obtain rfl := Option.some.inj ho
      have y0 : v.cell? ⟨w.heap.size + 1, 0, none⟩ = some (.int .i64 p) := hS.b5.cell 0
      have y1 : v.cell? ⟨w.heap.size + 1, 1, none⟩ = some (.int .i64 q) := hS.b5.cell 1
      have y2 : v.cell? ⟨w.heap.size + 1, 2, none⟩ = some (.int .i64 r) := hS.b5.cell 2
      clear hall ho
      refine wpOp_step rfl (fun K hK => ?_)
      go_simp
      exact hK _ _ ⟨_, _, _, _, _, _, _, _, _, _, _, rfl, hS, q0, q1, q2, q3, fun _ => rfl, q5, q6, q7, q8, q9, q10⟩
    · obtain rfl := Option.some.inj ho
      obtain rfl := q2 (hall ⟨2, .data⟩ (by simp) rfl)
      obtain rfl := q3 (hall ⟨3, .data⟩ (by simp) rfl)
      obtain rfl := q4 (hall ⟨4, .data⟩ (by simp) rfl)
      clear hall ho
      refine wpOp_step rfl (fun K hK => ?_)
      go_simp
      refine Calls.mono ((HU _ hS.hb).out) ?_; rintro e w1 ⟨rfl, hb1⟩
      go_simp
      exact hK _ _ ⟨_, _, _, _, _, _, _, _, _, _, _, rfl, hS.below hb1, q0, q1, fun _ => rfl, fun _ => rfl, fun _ => rfl, fun _ => rfl, q6, q7, q8, q9, q10⟩
    · obtain rfl := Option.some.inj ho
      obtain rfl := q1 (hall ⟨1, .data⟩ (by simp) rfl)
      obtain rfl := q5 (hall ⟨5, .data⟩ (by simp) rfl)
      clear hall ho
      refine wpOp_step rfl (fun K hK => ?_)
      go_simp
      refine Calls.mono ((HSp _).out) ?_; rintro e w1 ⟨rfl, hb1⟩
      go_simp
      exact hK _ _ ⟨_, _, _, _, _, _, _, _, _, _, _, rfl, hS.below hb1, q0, fun _ => rfl, q2, q3, q4, fun _ => rfl, fun _ => rfl, q7, q8, q9, q10⟩
    · obtain rfl := Option.some.inj ho
      obtain rfl := q6 (hall ⟨6, .data⟩ (by simp) rfl)
      clear hall ho
      refine wpOp_step rfl (fun K hK => ?_)
      go_simp
      refine Calls.mono ((HSo _).out) ?_; rintro e w1 ⟨rfl, hb1⟩
      go_simp
      exact hK _ _ ⟨_, _, _, _, _, _, _, _, _, _, _, rfl, hS.below hb1, q0, q1, q2, q3, q4, q5, fun _ => rfl, fun _ => rfl, q8, q9, q10⟩
    · obtain rfl := Option.some.inj ho
      obtain rfl := q7 (hall ⟨7, .data⟩ (by simp) rfl)
      clear hall ho
      refine wpOp_step rfl (fun K hK => ?_)
      go_simp
      exact hK _ _ ⟨_, _, _, _, _, _, _, _, _, _, _, rfl, hS, q0, q1, q2, q3, q4, q5, q6, fun _ => rfl, fun _ => rfl, q9, q10⟩
    · obtain rfl := Option.some.inj ho
      obtain rfl := q7 (hall ⟨7, .data⟩ (by simp) rfl)
      clear hall ho
      refine wpOp_step rfl (fun K hK => ?_)
      go_simp
      exact hK _ _ ⟨_, _, _, _, _, _, _, _, _, _, _, rfl, hS, q0, q1, q2, q3, q4, q5, q6, fun _ => rfl, q8, fun _ => rfl, q10⟩
    · obtain rfl := Option.some.inj ho
      obtain rfl := q7 (hall ⟨7, .data⟩ (by simp) rfl)
      clear hall ho
      refine wpOp_step rfl (fun K hK => ?_)
      go_simp
      exact hK _ _ ⟨_, _, _, _, _, _, _, _, _, _, _, rfl, hS, q0, q1, q2, q3, q4, q5, q6, fun _ => rfl, q8, q9, fun _ => rfl⟩
  · rintro fL bA v ⟨v9, v10, v11, v12, v13, v14, v15, v16, v17, v18, v19, rfl, hS, q0, q1, q2, q3, q4, q5, q6, q7, q8, q9, q10⟩ hall
    simp only [Act.put, List.setIfInBounds_toArray, List.set_cons_zero, List.set_cons_succ]
    obtain rfl := q0 (hall 0 (by omega))
    obtain rfl := q1 (hall 1 (by omega))
    obtain rfl := q2 (hall 2 (by omega))
    obtain rfl := q3 (hall 3 (by omega))
    obtain rfl := q4 (hall 4 (by omega))
    obtain rfl := q5 (hall 5 (by omega))
    obtain rfl := q6 (hall 6 (by omega))
    obtain rfl := q7 (hall 7 (by omega))
    obtain rfl := q8 (hall 8 (by omega))
    obtain rfl := q9 (hall 9 (by omega))
    obtain rfl := q10 (hall 10 (by omega))
    clear hall
    simp only [List.drop_succ_cons, List.drop_zero]
    have z0 : v.cell? ⟨w.heap.size + 1 + 1, 0, none⟩ = some (.int .i64 0) := hS.b6.cell 0
    have z1 : v.cell? ⟨w.heap.size + 1 + 1, 1, none⟩ = some (.int .i64 0) := hS.b6.cell 1
    have z2 : v.cell? ⟨w.heap.size + 1 + 1 + 1, 0, none⟩ = some (.int .i64 0) := hS.b7.cell 0
    have z3 : v.cell? ⟨w.heap.size + 1 + 1 + 1, 1, none⟩ = some (.int .i64 0) := hS.b7.cell 1
    have f0 : v.frozen? ⟨w.heap.size + 1 + 1, 0, none⟩ = false := hS.b6.frozen 0
    have f1 : v.frozen? ⟨w.heap.size + 1 + 1, 1, none⟩ = false := hS.b6.frozen 1
    have f2 : v.frozen? ⟨w.heap.size + 1 + 1 + 1, 0, none⟩ = false := hS.b7.frozen 0
    have f3 : v.frozen? ⟨w.heap.size + 1 + 1 + 1, 1, none⟩ = false := hS.b7.frozen 1
    have hbv := hS.hb
    go_wp2
    refine bodyPost_ret (v := .tuple #[.agg #[.int .i64 d1, .int .i64 t1], .agg #[.int .i64 d2, .int .i64 t2], .int .i64 cc]) (by simp [results, Tryz.results116, go_sem, z0, z1, z2, z3]) rfl ⟨rfl, (by repeat (first | with_reducible exact hbv | with_reducible apply below_drewN' | with_reducible apply Below.drew | (with_reducible refine Below.alloc ?_ (by first | omega | (simp; omega) | simp) _) | (with_reducible refine Below.setCell ?_ (by first | omega | (simp; omega) | simp) _) | exact hbv))⟩
end Go.Proofs.YtgkobjpoeajkdaaGreat
