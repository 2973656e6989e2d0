/- The law on scores: walked. Condition: none. -/
import Derived.Test.YtednjmldjbndhaaGreatKSc43
set_option linter.unusedSimpArgs false
set_option linter.unusedVariables false
namespace Go.Proofs.YtednjmldjbndhaaGreat
open Go.RowKit
set_option maxRecDepth 100000 in
set_option maxHeartbeats 8000000 in
theorem lawScores_c (A : Option Addr) (n c : Nat) (w : World) (hn : n ≤ 140737488351232) (hb : Bytes w A n w.heap.size) :
  Calls Tryz.prog 3 #[.slice A n c] w fun e w' => e = .returned (.bool true) ∧ Below w.heap.size w w' := by
 have hG := big_c A n c w hn
 by_cases hbig : 4096 < n
 ·rw [decide_eq_true hbig] at hG
  have HG := Lib.hid hG; clear hG hb
  go_enter Tryz.func3, Tryz.ntmps3
  go_wp2_with (go_at_call 6; refine HG.out.mono ?_; rintro e w1 ⟨rfl, rfl⟩)
  go_ret
  exact ⟨rfl, Below.refl _ _⟩
 ·rw [decide_eq_false hbig] at hG
  have HG := Lib.hid hG; clear hG
  have hn' : n ≤ 4096 := by omega
  have HB := Lib.hid hb; clear hb
  go_enter Tryz.func3, Tryz.ntmps3
  go_wp2_with (go_at_call 6; refine HG.out.mono ?_; rintro e w1 ⟨rfl, rfl⟩)
  clear HG
  refine (drawScoreOf_c A n c w hn' HB.out).mono ?_; rintro e w1 ⟨L, l1, l2, l3, A1, A2, A3, c1, c2, c3, p, q, r, es, Al, cl, rfl, hE, hA, ⟨hes, hecl⟩, hB⟩
  have HI := fun W (E : ExIn W A1 c1 l1 A2 c2 l2 A3 c3 l3) (F : AnsIn W Al es) => Lib.hid (implScoreOf_c L A1 c1 l1 A2 c2 l2 A3 c3 l3 p q r Al cl es W E F)
  have HS := fun W (E : ExIn W A1 c1 l1 A2 c2 l2 A3 c3 l3) (F : AnsIn W Al es) => Lib.hid (specScoreOf_c L A1 c1 l1 A2 c2 l2 A3 c3 l3 p q r Al cl es W E F)
  have HSF : Hid (_ → _) := Lib.hid (fun h => score_facts (G := gradeP L l1 l2 l3 p q r) (ok := exB L l1 l2 l3 p q r && es.all AnR.ok) (n := es.length) h)
  generalize hsv : scV (gradeP L l1 l2 l3 p q r) (exB L l1 l2 l3 p q r && es.all AnR.ok) (es.map AnR.fig) = sv at *
  generalize scC (exB L l1 l2 l3 p q r && es.all AnR.ok) es.length = sc at *
  have Hsv := Lib.hid hsv; clear hsv
  have hal0 : Below w1.heap.size w1 (w1.alloc (.cells #[.int .i64 L, .slice A1 l1.length c1, .slice A2 l2.length c2, .slice A3 l3.length c3, .int .i64 p, .int .i64 q, .int .i64 r] 31)) := (Below.refl _ _).alloc (Nat.le_refl _) _
  replace hB := hB.trans (hal0.mono hB.size)
  replace hE := hE.later hal0
  replace hA := hA.later hal0
  have X := Blk.new w1 31 #[.int .i64 L, .slice A1 l1.length c1, .slice A2 l2.length c2, .slice A3 l3.length c3, .int .i64 p, .int .i64 q, .int .i64 r]
  clear hal0
  go_wp2_with fail
  generalize w1.alloc (.cells #[.int .i64 L, .slice A1 l1.length c1, .slice A2 l2.length c2, .slice A3 l3.length c3, .int .i64 p, .int .i64 q, .int .i64 r] 31) = u1 at *
  refine Calls.mono ((HI _ hE hA).out) ?_; rintro e w2 ⟨rfl, hb⟩
  replace hB := hB.trans (hb.mono hB.size)
  replace hE := hE.later hb
  replace hA := hA.later hb
  replace X := X.below hb X.lt
  clear hb
  have x0 : w2.cell? ⟨w1.heap.size, 0, none⟩ = some (.int .i64 L) := X.cell 0
  have x1 : w2.cell? ⟨w1.heap.size, 1, none⟩ = some (.slice A1 l1.length c1) := X.cell 1
  have x2 : w2.cell? ⟨w1.heap.size, 2, none⟩ = some (.slice A2 l2.length c2) := X.cell 2
  have x3 : w2.cell? ⟨w1.heap.size, 3, none⟩ = some (.slice A3 l3.length c3) := X.cell 3
  have x4 : w2.cell? ⟨w1.heap.size, 4, none⟩ = some (.int .i64 p) := X.cell 4
  have x5 : w2.cell? ⟨w1.heap.size, 5, none⟩ = some (.int .i64 q) := X.cell 5
  have x6 : w2.cell? ⟨w1.heap.size, 6, none⟩ = some (.int .i64 r) := X.cell 6
  go_wp2_with fail
  clear x0 x1 x2 x3 x4 x5 x6
  refine Calls.mono ((HS _ hE hA).out) ?_; rintro e w3 ⟨rfl, hb⟩
  replace hB := hB.trans (hb.mono hB.size)
  replace hE := hE.later hb
  replace hA := hA.later hb
  replace X := X.below hb X.lt
  clear hb
  clear HI HS
  go_wp2_with fail
  refine (drawMakeExercise_c A n c _ hn' ((HB.out.keep fun p hp => hB.cell hp).more hB.size)).mono ?_; rintro e w4 ⟨sd, tm, L', m1, m2, D1, D2, f1, f2, p', q', r', rfl, ⟨hm1, hm2, hf1, hf2⟩, t1, t2, hb⟩
  replace hB := hB.trans (hb.mono hB.size)
  replace hE := hE.later hb
  replace hA := hA.later hb
  replace X := X.below hb X.lt
  clear hb
  have HI := fun W (s1 : Sl W W.heap.size 1 D1 (m1.map ic)) (s2 : Sl W W.heap.size 1 D2 (m2.map ic)) => Lib.hid ((implMakeExercise_c sd tm L' D1 f1 m1 D2 f2 m2 p' q' r' W (by omega) (by omega) hf1 hf2 s1 s2).mono fun _ _ h => h.u)
  have HS := fun W (s1 : Sl W W.heap.size 1 D1 (m1.map ic)) (s2 : Sl W W.heap.size 1 D2 (m2.map ic)) => Lib.hid ((specMakeExercise_c sd tm L' D1 f1 m1 D2 f2 m2 p' q' r' W (by omega) (by omega) hf1 hf2 s1 s2).mono fun _ _ h => h.u)
  have HMF := Lib.hid (fun h => mk_facts (seed := sd) (terms := tm) (L := L') (l1 := m1) (l2 := m2) (p := p') (q := q') (r := r') h)
  have hmb := mkRes_bd (seed := sd) (terms := tm) (L := L') (p := p') (q := q') (r := r') (l1 := m1) (l2 := m2) (by omega) (by omega)
  generalize mkRes sd tm L' m1 m2 p' q' r' = R at *
  obtain ⟨L3, k1, k2, k3, p3, q3, r3, co⟩ := R
  simp only at HMF hmb
  obtain ⟨hk1, hk2, hk3⟩ := hmb
  unfold RsU Res.tup Res.ex at HI HS
  simp only at HI HS
  have hal0 : Below w4.heap.size w4 (w4.alloc (.cells #[.int .i64 L', .slice D1 m1.length f1, .slice D2 m2.length f2] 26)) := (Below.refl _ _).alloc (Nat.le_refl _) _
  replace hB := hB.trans (hal0.mono hB.size)
  replace hE := hE.later hal0
  replace hA := hA.later hal0
  replace X := X.below hal0 X.lt
  replace t1 := (t1.below hal0).more hal0.size
  replace t2 := (t2.below hal0).more hal0.size
  have RB := Blk.new w4 26 #[.int .i64 L', .slice D1 m1.length f1, .slice D2 m2.length f2]
  have hal1 : Below (w4.alloc (.cells #[.int .i64 L', .slice D1 m1.length f1, .slice D2 m2.length f2] 26)).heap.size (w4.alloc (.cells #[.int .i64 L', .slice D1 m1.length f1, .slice D2 m2.length f2] 26)) ((w4.alloc (.cells #[.int .i64 L', .slice D1 m1.length f1, .slice D2 m2.length f2] 26)).alloc (.cells #[.int .i64 p', .int .i64 q', .int .i64 r'] 29)) := (Below.refl _ _).alloc (Nat.le_refl _) _
  replace hB := hB.trans (hal1.mono hB.size)
  replace hE := hE.later hal1
  replace hA := hA.later hal1
  replace X := X.below hal1 X.lt
  replace t1 := (t1.below hal1).more hal1.size
  replace t2 := (t2.below hal1).more hal1.size
  replace RB := RB.below hal1 RB.lt
  have EB := Blk.new' (w4.alloc (.cells #[.int .i64 L', .slice D1 m1.length f1, .slice D2 m2.length f2] 26)) 29 #[.int .i64 p', .int .i64 q', .int .i64 r'] (g := w4.heap.size + 1) (by simp)
  clear hal0 hal1
  go_wp2_with fail
  generalize (w4.alloc (.cells #[.int .i64 L', .slice D1 m1.length f1, .slice D2 m2.length f2] 26)).alloc (.cells #[.int .i64 p', .int .i64 q', .int .i64 r'] 29) = u4 at *
  refine Calls.mono ((HI _ t1 t2).out) ?_; rintro e w5 ⟨B1, d1, B2, d2, B3, d3, rfl, o1, _, hb⟩
  replace hB := hB.trans (hb.mono hB.size)
  replace hE := hE.later hb
  replace hA := hA.later hb
  replace X := X.below hb X.lt
  replace t1 := (t1.below hb).more hb.size
  replace t2 := (t2.below hb).more hb.size
  replace RB := RB.below hb RB.lt
  replace EB := EB.below hb EB.lt
  clear hb
  have hal : Below w5.heap.size w5 (w5.alloc (.cells #[.int .i64 L3, .slice B1 k1.length d1, .slice B2 k2.length d2, .slice B3 k3.length d3, .int .i64 p3, .int .i64 q3, .int .i64 r3] 31)) := (Below.refl _ _).alloc (Nat.le_refl _) _
  replace hB := hB.trans (hal.mono hB.size)
  replace hE := hE.later hal
  replace hA := hA.later hal
  replace X := X.below hal X.lt
  replace t1 := (t1.below hal).more hal.size
  replace t2 := (t2.below hal).more hal.size
  replace RB := RB.below hal RB.lt
  replace EB := EB.below hal EB.lt
  replace o1 := o1.below hal
  have Y := Blk.new w5 31 #[.int .i64 L3, .slice B1 k1.length d1, .slice B2 k2.length d2, .slice B3 k3.length d3, .int .i64 p3, .int .i64 q3, .int .i64 r3]
  have y0 : (w5.alloc (.cells #[.int .i64 L3, .slice B1 k1.length d1, .slice B2 k2.length d2, .slice B3 k3.length d3, .int .i64 p3, .int .i64 q3, .int .i64 r3] 31)).cell? ⟨w4.heap.size, 0, none⟩ = some (.int .i64 L') := RB.cell 0
  have y1 : (w5.alloc (.cells #[.int .i64 L3, .slice B1 k1.length d1, .slice B2 k2.length d2, .slice B3 k3.length d3, .int .i64 p3, .int .i64 q3, .int .i64 r3] 31)).cell? ⟨w4.heap.size, 1, none⟩ = some (.slice D1 m1.length f1) := RB.cell 1
  have y2 : (w5.alloc (.cells #[.int .i64 L3, .slice B1 k1.length d1, .slice B2 k2.length d2, .slice B3 k3.length d3, .int .i64 p3, .int .i64 q3, .int .i64 r3] 31)).cell? ⟨w4.heap.size, 2, none⟩ = some (.slice D2 m2.length f2) := RB.cell 2
  have z0 : (w5.alloc (.cells #[.int .i64 L3, .slice B1 k1.length d1, .slice B2 k2.length d2, .slice B3 k3.length d3, .int .i64 p3, .int .i64 q3, .int .i64 r3] 31)).cell? ⟨w4.heap.size + 1, 0, none⟩ = some (.int .i64 p') := EB.cell 0
  have z1 : (w5.alloc (.cells #[.int .i64 L3, .slice B1 k1.length d1, .slice B2 k2.length d2, .slice B3 k3.length d3, .int .i64 p3, .int .i64 q3, .int .i64 r3] 31)).cell? ⟨w4.heap.size + 1, 1, none⟩ = some (.int .i64 q') := EB.cell 1
  have z2 : (w5.alloc (.cells #[.int .i64 L3, .slice B1 k1.length d1, .slice B2 k2.length d2, .slice B3 k3.length d3, .int .i64 p3, .int .i64 q3, .int .i64 r3] 31)).cell? ⟨w4.heap.size + 1, 2, none⟩ = some (.int .i64 r') := EB.cell 2
  clear hal
  go_wp2_with fail
  generalize w5.alloc (.cells #[.int .i64 L3, .slice B1 k1.length d1, .slice B2 k2.length d2, .slice B3 k3.length d3, .int .i64 p3, .int .i64 q3, .int .i64 r3] 31) = u5 at *
  clear y0 y1 y2
  clear z0 z1 z2
  refine Calls.mono ((HS _ t1 t2).out) ?_; rintro e w6 ⟨C1, e1, C2, e2, C3, e3, rfl, o2, _, hb⟩
  replace hB := hB.trans (hb.mono hB.size)
  replace hE := hE.later hb
  replace hA := hA.later hb
  replace X := X.below hb X.lt
  replace t1 := (t1.below hb).more hb.size
  replace t2 := (t2.below hb).more hb.size
  replace RB := RB.below hb RB.lt
  replace EB := EB.below hb EB.lt
  replace o1 := o1.below hb
  replace Y := Y.below hb Y.lt
  clear hb
  clear HI HS t1 t2 RB EB
  have hal : Below w6.heap.size w6 (w6.alloc (.cells #[.int .i64 L3, .slice C1 k1.length e1, .slice C2 k2.length e2, .slice C3 k3.length e3, .int .i64 p3, .int .i64 q3, .int .i64 r3] 31)) := (Below.refl _ _).alloc (Nat.le_refl _) _
  replace hB := hB.trans (hal.mono hB.size)
  replace hE := hE.later hal
  replace hA := hA.later hal
  replace X := X.below hal X.lt
  replace o1 := o1.below hal
  replace Y := Y.below hal Y.lt
  replace o2 := o2.below hal
  have M := Blk.new w6 31 #[.int .i64 L3, .slice C1 k1.length e1, .slice C2 k2.length e2, .slice C3 k3.length e3, .int .i64 p3, .int .i64 q3, .int .i64 r3]
  clear hal
  go_wp2_with fail
  generalize w6.alloc (.cells #[.int .i64 L3, .slice C1 k1.length e1, .slice C2 k2.length e2, .slice C3 k3.length e3, .int .i64 p3, .int .i64 q3, .int .i64 r3] 31) = u6 at *
  refine (drawHardestOf_c A n c _ hn' ((HB.out.keep fun p hp => hB.cell hp).more hB.size)).mono ?_; rintro e w7 ⟨ys, Ay, cy, rfl, hL, ⟨hy1, hy2⟩, hb⟩
  replace hB := hB.trans (hb.mono hB.size)
  replace hE := hE.later hb
  replace hA := hA.later hb
  replace X := X.below hb X.lt
  replace o1 := o1.below hb
  replace Y := Y.below hb Y.lt
  replace o2 := o2.below hb
  replace M := M.below hb M.lt
  clear hb HB
  have HI := fun W (E : ExsIn W Ay ys) => Lib.hid (implHard_c Ay cy ys W E)
  have HS := fun W (E : ExsIn W Ay ys) => Lib.hid (specHard_c Ay cy ys W E)
  have HHF : Hid (_ → _) := Lib.hid (fun h => hard_facts (es := ys) h)
  generalize hardIx (ys.map ExR.key) = hx at *
  generalize hardCode (ys.map ExR.key) = hc at *
  go_wp2_with fail
  refine Calls.mono ((HI _ hL).out) ?_; rintro e w8 ⟨rfl, hb⟩
  replace hB := hB.trans (hb.mono hB.size)
  replace hE := hE.later hb
  replace hA := hA.later hb
  replace X := X.below hb X.lt
  replace o1 := o1.below hb
  replace Y := Y.below hb Y.lt
  replace o2 := o2.below hb
  replace M := M.below hb M.lt
  replace hL := hL.later hb
  clear hb
  go_wp2_with fail
  refine Calls.mono ((HS _ hL).out) ?_; rintro e w9 ⟨rfl, hb⟩
  replace hB := hB.trans (hb.mono hB.size)
  replace hE := hE.later hb
  replace hA := hA.later hb
  replace X := X.below hb X.lt
  replace o1 := o1.below hb
  replace Y := Y.below hb Y.lt
  replace o2 := o2.below hb
  replace M := M.below hb M.lt
  replace hL := hL.later hb
  clear hb
  clear HI HS
  have y0 : w9.cell? ⟨w5.heap.size, 0, none⟩ = some (.int .i64 L3) := Y.cell 0
  have y1 : w9.cell? ⟨w5.heap.size, 1, none⟩ = some (.slice B1 k1.length d1) := Y.cell 1
  have y2 : w9.cell? ⟨w5.heap.size, 2, none⟩ = some (.slice B2 k2.length d2) := Y.cell 2
  have z0 : w9.cell? ⟨w6.heap.size, 0, none⟩ = some (.int .i64 L3) := M.cell 0
  have z1 : w9.cell? ⟨w6.heap.size, 1, none⟩ = some (.slice C1 k1.length e1) := M.cell 1
  have z2 : w9.cell? ⟨w6.heap.size, 2, none⟩ = some (.slice C2 k2.length e2) := M.cell 2
  go_wp2_with fail
  clear y0 y1 y2 z0 z1 z2
  refine Calls.mono (likeRules_c L3 B1 B2 C1 C2 d1 d2 e1 e2 k1 k2 _ hk1 hk2 o1.o1.sl o1.o2.sl o2.o1.sl o2.o2.sl) ?_; rintro e w10 ⟨rfl, hb⟩
  replace hB := hB.trans (hb.mono hB.size)
  replace hE := hE.later hb
  replace hA := hA.later hb
  replace X := X.below hb X.lt
  replace o1 := o1.below hb
  replace Y := Y.below hb Y.lt
  replace o2 := o2.below hb
  replace M := M.below hb M.lt
  replace hL := hL.later hb
  clear hb
  have y3 : w10.cell? ⟨w5.heap.size, 3, none⟩ = some (.slice B3 k3.length d3) := Y.cell 3
  have z3 : w10.cell? ⟨w6.heap.size, 3, none⟩ = some (.slice C3 k3.length e3) := M.cell 3
  go_wp2_with fail
  clear y3 z3
  refine Calls.mono (likeTerms_c B3 C3 d3 e3 k3 _ (by omega) o1.o3.sl o2.o3.sl) ?_; rintro e w11 ⟨rfl, hb⟩
  replace hB := hB.trans (hb.mono hB.size)
  replace hE := hE.later hb
  replace hA := hA.later hb
  replace X := X.below hb X.lt
  replace o1 := o1.below hb
  replace Y := Y.below hb Y.lt
  replace o2 := o2.below hb
  replace M := M.below hb M.lt
  replace hL := hL.later hb
  clear hb
  have y0 : w11.cell? ⟨w5.heap.size, 0, none⟩ = some (.int .i64 L3) := Y.cell 0
  have y1 : w11.cell? ⟨w5.heap.size, 1, none⟩ = some (.slice B1 k1.length d1) := Y.cell 1
  have y2 : w11.cell? ⟨w5.heap.size, 2, none⟩ = some (.slice B2 k2.length d2) := Y.cell 2
  have y3 : w11.cell? ⟨w5.heap.size, 3, none⟩ = some (.slice B3 k3.length d3) := Y.cell 3
  have y4 : w11.cell? ⟨w5.heap.size, 4, none⟩ = some (.int .i64 p3) := Y.cell 4
  have y5 : w11.cell? ⟨w5.heap.size, 5, none⟩ = some (.int .i64 q3) := Y.cell 5
  have y6 : w11.cell? ⟨w5.heap.size, 6, none⟩ = some (.int .i64 r3) := Y.cell 6
  have z4 : w11.cell? ⟨w6.heap.size, 4, none⟩ = some (.int .i64 p3) := M.cell 4
  have z5 : w11.cell? ⟨w6.heap.size, 5, none⟩ = some (.int .i64 q3) := M.cell 5
  have z6 : w11.cell? ⟨w6.heap.size, 6, none⟩ = some (.int .i64 r3) := M.cell 6
  have HNE := fun a b d w => neErrSame a b d w
  by_cases hco : co = 0
  case' pos =>
   subst hco
   obtain ⟨hx1, hx2⟩ := HMF.out rfl
   have HX := implIsExercise_c L3 B1 d1 k1 B2 d2 k2 B3 d3 k3 p3 q3 r3 w11 (o1.in_ ⟨hk1, hk2, hk3⟩)
   rw [hx1] at HX
   replace HX := Lib.hid HX
   have hln : ((k3.length : Int) != tm) = false := by simp [hx2]
   clear HMF hx1 hx2
   go_wp2_with fail
   refine Calls.mono HX.out ?_; rintro e w12 ⟨rfl, hb⟩
   replace hB := hB.trans (hb.mono hB.size)
   replace hE := hE.later hb
   replace hA := hA.later hb
   replace hL := hL.later hb
   replace X := X.below hb X.lt
   replace Y := Y.below hb Y.lt
   clear hb HX o1 o2 M y0 y1 y2 y3 y4 y5 y6 z4 z5 z6
   have y3 : w12.cell? ⟨w5.heap.size, 3, none⟩ = some (.slice B3 k3.length d3) := Y.cell 3
   go_wp2_with fail
   clear y3 Y hln
   generalize w12 = wy at *
  case' neg =>
   have hcf : (co == 0) = false := by simp [hco]
   clear HMF hco
   go_wp2_with fail
   clear o1 o2 M Y y0 y1 y2 y3 y4 y5 y6 z4 z5 z6 hcf
   generalize w11 = wy at *
  all_goals
   go_loopw [22] (fun i wr => ∃ k : Nat, k ≤ ys.length ∧ i = .int .i64 k ∧ Below wy.heap.size wy wr) (fun i _ => ys.length - (intOf i).toNat)
   case atStart => exact ⟨0, Nat.zero_le _, rfl, Below.refl _ _⟩
   case round =>
    obtain ⟨k, hk, rfl, hb⟩ := hrel
    by_cases hgo : hc = 0 ∧ k < ys.length
    ·obtain ⟨rfl, hlt⟩ := hgo
     obtain ⟨j, hj, hxj, hall⟩ := HHF.out rfl
     subst hxj
     clear HHF
     obtain ⟨b, off, rfl, hbB, hcx⟩ := hL.s.at_ (i := k) (by simpa using hlt)
     obtain ⟨b2, off2, heq, hbB2, hcz⟩ := hL.s.at_ (i := j) (by simpa using hj)
     obtain ⟨rfl, rfl⟩ : b = b2 ∧ off = off2 := by simpa using heq
     clear heq hbB2
     simp only [List.getElem_map] at hcx hcz
     obtain ⟨hp1, hp2⟩ := hall k hlt
     obtain ⟨hp3, _⟩ := hall j hj
     have Cx := fun (v : World) (hS : Below wr.heap.size wr v) => Lib.hid (implCountPlan_c ys[k].L ys[k].A1 ys[k].c1 ys[k].l1 ys[k].A2 ys[k].c2 ys[k].l2 ys[k].A3 ys[k].c3 ys[k].l3 v (ExIn.later (ExIn.later (hL.i _ (List.getElem_mem hlt)) hb) hS))
     have Cz := fun (v : World) (hS : Below wr.heap.size wr v) => Lib.hid (implCountPlan_c ys[j].L ys[j].A1 ys[j].c1 ys[j].l1 ys[j].A2 ys[j].c2 ys[j].l2 ys[j].A3 ys[j].c3 ys[j].l3 v (ExIn.later (ExIn.later (hL.i _ (List.getElem_mem hj)) hb) hS))
     have Hx : Hid (∀ (v : World), Below wr.heap.size wr v → ∀ jj u, ys[k].cells[jj]? = some u → v.cell? ⟨b, off + k * 7 + jj, none⟩ = some u) := Lib.hid fun v hv jj u h => by rw [hv.cell (Nat.lt_of_lt_of_le hbB hb.size), hb.cell hbB]; exact hcx jj u h
     have Hz : Hid (∀ (v : World), Below wr.heap.size wr v → ∀ jj u, ys[j].cells[jj]? = some u → v.cell? ⟨b, off + j * 7 + jj, none⟩ = some u) := Lib.hid fun v hv jj u h => by rw [hv.cell (Nat.lt_of_lt_of_le hbB hb.size), hb.cell hbB]; exact hcz jj u h
     clear hcx hcz
     rw [hp1] at Cx
     rw [hp3] at Cz
     unfold ExR.pl at hp2
     generalize (planL ys[k].L ys[k].l1 ys[k].l2 ys[k].l3).length = nx at *
     generalize (planL ys[j].L ys[j].l1 ys[j].l2 ys[j].l3).length = nz at *
     generalize ys[k] = x at *
     generalize ys[j] = z at *
     have hgt : ¬ ((nz : Nat) : Int) < (nx : Nat) := by omega
     have hltI : (k : Int) < ys.length := by omega
     have hjI : (j : Int) < ys.length := by omega
     clear hp1 hp3 hall
     go_wp2_with fail
     refine wp_region_all (fun a0 fL bA v => ∃ v156 v157 v158 v159 v160 v161 v162 v163 v164 v165 v166 v155 v167 v168 v23 v24 : Value, bA = (((((((((((((((a0.put (some 156) v156).put (some 157) v157).put (some 158) v158).put (some 159) v159).put (some 160) v160).put (some 161) v161).put (some 162) v162).put (some 163) v163).put (some 164) v164).put (some 165) v165).put (some 166) v166).put (some 155) v155).put (some 167) v167).put (some 168) v168).put (some 23) v23).put (some 24) v24 ∧ (Below wr.heap.size wr v) ∧ (fL 0 = true → v156 = .slice (some ⟨b, off, none⟩) ys.length cy) ∧ (fL 1 = true → v157 = .int .i64 (k : Nat)) ∧ (fL 2 = true → v158 = .pointer (some ⟨b, off + k * 7, none⟩)) ∧ (fL 3 = true → v159 = .pointer (some ⟨b, off + k * 7, none⟩)) ∧ (fL 4 = true → v160 = .agg #[.int .i64 x.L, .slice x.A1 x.l1.length x.c1, .slice x.A2 x.l2.length x.c2]) ∧ (fL 5 = true → v161 = .slice (some ⟨b, off, none⟩) ys.length cy) ∧ (fL 6 = true → v162 = .int .i64 (k : Nat)) ∧ (fL 7 = true → v163 = .pointer (some ⟨b, off + k * 7, none⟩)) ∧ (fL 8 = true → v164 = .pointer (some ⟨b, off + k * 7 + 3, none⟩)) ∧ (fL 9 = true → v165 = .slice x.A3 x.l3.length x.c3) ∧ (fL 10 = true → v166 = .tuple #[.int .i64 (nx : Nat), .int .i64 0]) ∧ (fL 11 = true → v155 = .tuple #[.int .i64 (nx : Nat), .int .i64 0]) ∧ (fL 12 = true → v167 = .int .i64 (nx : Nat)) ∧ (fL 13 = true → v168 = .int .i64 0) ∧ (fL 14 = true → v23 = .int .i64 (nx : Nat)) ∧ (fL 15 = true → v24 = .int .i64 0)) (by kernel_rfl) (by decide +kernel) ?_ ?_ ?_
     ·exact ⟨_, _, _, _, _, _, _, _, _, _, _, _, _, _, _, _, put_more (put_more (put_more (put_more (put_more (put_more (put_more (put_more (put_more (put_more (put_more (put_more (put_more (put_more (put_more (put_more (rfl) 156) 157) 158) 159) 160) 161) 162) 163) 164) 165) 166) 155) 167) 168) 23) 24, (Below.refl _ _).drew, nofun, nofun, nofun, nofun, nofun, nofun, nofun, nofun, nofun, nofun, nofun, nofun, nofun, nofun, nofun, nofun⟩
     ·rintro fL bA v ⟨v156, v157, v158, v159, v160, v161, v162, v163, v164, v165, v166, v155, v167, v168, v23, v24, rfl, hS, q0, q1, q2, q3, q4, q5, q6, q7, q8, q9, q10, q11, q12, q13, q14, q15⟩ i hi hf o ho hall
      simp only [Act.put, List.setIfInBounds_toArray, List.set_cons_zero, List.set_cons_succ]
      simp only [List.length_cons, List.length_nil] at hi
      have hn : i = 0 ∨ i = 1 ∨ i = 2 ∨ i = 3 ∨ i = 4 ∨ i = 5 ∨ i = 6 ∨ i = 7 ∨ i = 8 ∨ i = 9 ∨ i = 10 ∨ i = 11 ∨ i = 12 ∨ i = 13 ∨ i = 14 ∨ i = 15 := by omega
      clear hi
      rcases hn with rfl | rfl | rfl | rfl | rfl | rfl | rfl | rfl | rfl | rfl | rfl | rfl | rfl | rfl | rfl | rfl
      ·obtain rfl := Option.some.inj ho
       clear hall ho
       refine wpOp_step rfl (fun K hK => ?_)
       go_simp
       exact hK _ _ ⟨_, _, _, _, _, _, _, _, _, _, _, _, _, _, _, _, rfl, hS, fun _ => rfl, q1, q2, q3, q4, q5, q6, q7, q8, q9, q10, q11, q12, q13, q14, q15⟩
      ·obtain rfl := Option.some.inj ho
       clear hall ho
       refine wpOp_step rfl (fun K hK => ?_)
       go_simp
       exact hK _ _ ⟨_, _, _, _, _, _, _, _, _, _, _, _, _, _, _, _, rfl, hS, q0, fun _ => rfl, q2, q3, q4, q5, q6, q7, q8, q9, q10, q11, q12, q13, q14, q15⟩
      ·obtain rfl := Option.some.inj ho
       obtain rfl := q0 (hall ⟨0, .data⟩ (by simp) rfl)
       obtain rfl := q1 (hall ⟨1, .data⟩ (by simp) rfl)
       clear hall ho
       refine wpOp_step rfl (fun K hK => ?_)
       go_simp
       exact hK _ _ ⟨_, _, _, _, _, _, _, _, _, _, _, _, _, _, _, _, rfl, hS, fun _ => rfl, fun _ => rfl, fun _ => rfl, q3, q4, q5, q6, q7, q8, q9, q10, q11, q12, q13, q14, q15⟩
      ·obtain rfl := Option.some.inj ho
       obtain rfl := q2 (hall ⟨2, .data⟩ (by simp) rfl)
       clear hall ho
       refine wpOp_step rfl (fun K hK => ?_)
       go_simp
       exact hK _ _ ⟨_, _, _, _, _, _, _, _, _, _, _, _, _, _, _, _, rfl, hS, q0, q1, fun _ => rfl, fun _ => rfl, q4, q5, q6, q7, q8, q9, q10, q11, q12, q13, q14, q15⟩
      ·obtain rfl := Option.some.inj ho
       obtain rfl := q3 (hall ⟨3, .data⟩ (by simp) rfl)
       have y0 : v.cell? ⟨b, off + k * 7, none⟩ = some (.int .i64 x.L) := Hx.out v hS 0 _ rfl
       have y1 : v.cell? ⟨b, off + k * 7 + 1, none⟩ = some (.slice x.A1 x.l1.length x.c1) := Hx.out v hS 1 _ rfl
       have y2 : v.cell? ⟨b, off + k * 7 + 2, none⟩ = some (.slice x.A2 x.l2.length x.c2) := Hx.out v hS 2 _ rfl
       clear hall ho
       refine wpOp_step rfl (fun K hK => ?_)
       go_simp
       exact hK _ _ ⟨_, _, _, _, _, _, _, _, _, _, _, _, _, _, _, _, rfl, hS, q0, q1, q2, fun _ => rfl, fun _ => rfl, q5, q6, q7, q8, q9, q10, q11, q12, q13, q14, q15⟩
      ·obtain rfl := Option.some.inj ho
       clear hall ho
       refine wpOp_step rfl (fun K hK => ?_)
       go_simp
       exact hK _ _ ⟨_, _, _, _, _, _, _, _, _, _, _, _, _, _, _, _, rfl, hS, q0, q1, q2, q3, q4, fun _ => rfl, q6, q7, q8, q9, q10, q11, q12, q13, q14, q15⟩
      ·obtain rfl := Option.some.inj ho
       clear hall ho
       refine wpOp_step rfl (fun K hK => ?_)
       go_simp
       exact hK _ _ ⟨_, _, _, _, _, _, _, _, _, _, _, _, _, _, _, _, rfl, hS, q0, q1, q2, q3, q4, q5, fun _ => rfl, q7, q8, q9, q10, q11, q12, q13, q14, q15⟩
      ·obtain rfl := Option.some.inj ho
       obtain rfl := q5 (hall ⟨5, .data⟩ (by simp) rfl)
       obtain rfl := q6 (hall ⟨6, .data⟩ (by simp) rfl)
       clear hall ho
       refine wpOp_step rfl (fun K hK => ?_)
       go_simp
       exact hK _ _ ⟨_, _, _, _, _, _, _, _, _, _, _, _, _, _, _, _, rfl, hS, q0, q1, q2, q3, q4, fun _ => rfl, fun _ => rfl, fun _ => rfl, q8, q9, q10, q11, q12, q13, q14, q15⟩
      ·obtain rfl := Option.some.inj ho
       obtain rfl := q7 (hall ⟨7, .data⟩ (by simp) rfl)
       clear hall ho
       refine wpOp_step rfl (fun K hK => ?_)
       go_simp
       exact hK _ _ ⟨_, _, _, _, _, _, _, _, _, _, _, _, _, _, _, _, rfl, hS, q0, q1, q2, q3, q4, q5, q6, fun _ => rfl, fun _ => rfl, q9, q10, q11, q12, q13, q14, q15⟩
      ·obtain rfl := Option.some.inj ho
       obtain rfl := q8 (hall ⟨8, .data⟩ (by simp) rfl)
       have y3 : v.cell? ⟨b, off + k * 7 + 3, none⟩ = some (.slice x.A3 x.l3.length x.c3) := Hx.out v hS 3 _ rfl
       clear hall ho
       refine wpOp_step rfl (fun K hK => ?_)
       go_simp
       exact hK _ _ ⟨_, _, _, _, _, _, _, _, _, _, _, _, _, _, _, _, rfl, hS, q0, q1, q2, q3, q4, q5, q6, q7, fun _ => rfl, fun _ => rfl, q10, q11, q12, q13, q14, q15⟩
      ·obtain rfl := Option.some.inj ho
       obtain rfl := q4 (hall ⟨4, .data⟩ (by simp) rfl)
       obtain rfl := q9 (hall ⟨9, .data⟩ (by simp) rfl)
       clear hall ho
       refine wpOp_step rfl (fun K hK => ?_)
       go_simp
       refine Calls.mono ((Cx v hS).out) ?_; rintro e w1 ⟨rfl, hb1⟩
       go_simp
       exact hK _ _ ⟨_, _, _, _, _, _, _, _, _, _, _, _, _, _, _, _, rfl, hS.trans (hb1.mono hS.size), q0, q1, q2, q3, fun _ => rfl, q5, q6, q7, q8, fun _ => rfl, fun _ => rfl, q11, q12, q13, q14, q15⟩
      ·obtain rfl := Option.some.inj ho
       obtain rfl := q10 (hall ⟨10, .data⟩ (by simp) rfl)
       clear hall ho
       refine wpOp_step rfl (fun K hK => ?_)
       go_simp
       exact hK _ _ ⟨_, _, _, _, _, _, _, _, _, _, _, _, _, _, _, _, rfl, hS, q0, q1, q2, q3, q4, q5, q6, q7, q8, q9, fun _ => rfl, fun _ => rfl, q12, q13, q14, q15⟩
      ·obtain rfl := Option.some.inj ho
       obtain rfl := q11 (hall ⟨11, .data⟩ (by simp) rfl)
       clear hall ho
       refine wpOp_step rfl (fun K hK => ?_)
       go_simp
       exact hK _ _ ⟨_, _, _, _, _, _, _, _, _, _, _, _, _, _, _, _, rfl, hS, q0, q1, q2, q3, q4, q5, q6, q7, q8, q9, q10, fun _ => rfl, fun _ => rfl, q13, q14, q15⟩
      ·obtain rfl := Option.some.inj ho
       obtain rfl := q11 (hall ⟨11, .data⟩ (by simp) rfl)
       clear hall ho
       refine wpOp_step rfl (fun K hK => ?_)
       go_simp
       exact hK _ _ ⟨_, _, _, _, _, _, _, _, _, _, _, _, _, _, _, _, rfl, hS, q0, q1, q2, q3, q4, q5, q6, q7, q8, q9, q10, fun _ => rfl, q12, fun _ => rfl, q14, q15⟩
      ·obtain rfl := Option.some.inj ho
       obtain rfl := q12 (hall ⟨12, .data⟩ (by simp) rfl)
       clear hall ho
       refine wpOp_step rfl (fun K hK => ?_)
       go_simp
       exact hK _ _ ⟨_, _, _, _, _, _, _, _, _, _, _, _, _, _, _, _, rfl, hS, q0, q1, q2, q3, q4, q5, q6, q7, q8, q9, q10, q11, fun _ => rfl, q13, fun _ => rfl, q15⟩
      ·obtain rfl := Option.some.inj ho
       obtain rfl := q13 (hall ⟨13, .data⟩ (by simp) rfl)
       clear hall ho
       refine wpOp_step rfl (fun K hK => ?_)
       go_simp
       exact hK _ _ ⟨_, _, _, _, _, _, _, _, _, _, _, _, _, _, _, _, rfl, hS, q0, q1, q2, q3, q4, q5, q6, q7, q8, q9, q10, q11, q12, fun _ => rfl, q14, fun _ => rfl⟩
     ·rintro fL bA v ⟨v156, v157, v158, v159, v160, v161, v162, v163, v164, v165, v166, v155, v167, v168, v23, v24, rfl, hS, q0, q1, q2, q3, q4, q5, q6, q7, q8, q9, q10, q11, q12, q13, q14, q15⟩ hall
      simp only [Act.put, List.setIfInBounds_toArray, List.set_cons_zero, List.set_cons_succ]
      simp only [List.length_cons, List.length_nil] at hall
      obtain rfl := q0 (hall 0 (by omega))
      obtain rfl := q1 (hall 1 (by omega))
      obtain rfl := q2 (hall 2 (by omega))
      obtain rfl := q3 (hall 3 (by omega))
      obtain rfl := q4 (hall 4 (by omega))
      obtain rfl := q5 (hall 5 (by omega))
      obtain rfl := q6 (hall 6 (by omega))
      obtain rfl := q7 (hall 7 (by omega))
      obtain rfl := q8 (hall 8 (by omega))
      obtain rfl := q9 (hall 9 (by omega))
      obtain rfl := q10 (hall 10 (by omega))
      obtain rfl := q11 (hall 11 (by omega))
      obtain rfl := q12 (hall 12 (by omega))
      obtain rfl := q13 (hall 13 (by omega))
      obtain rfl := q14 (hall 14 (by omega))
      obtain rfl := q15 (hall 15 (by omega))
      clear hall
      have hb2 := hb.trans (hS.mono hb.size)
      clear Cx Hx
      generalize v = v0 at *
      replace Cz := fun v' (h : Below v0.heap.size v0 v') => Cz v' (hS.trans (h.mono hS.size))
      replace Hz := Lib.hid (fun v' (h : Below v0.heap.size v0 v') => Hz.out v' (hS.trans (h.mono hS.size)))
      clear hS
      go_wp2_with fail
      refine wp_region_all (fun a0 fL bA v => ∃ v170 v171 v172 v173 v174 v175 v176 v177 v178 v179 v180 v169 v181 v182 v25 v26 : Value, bA = (((((((((((((((a0.put (some 170) v170).put (some 171) v171).put (some 172) v172).put (some 173) v173).put (some 174) v174).put (some 175) v175).put (some 176) v176).put (some 177) v177).put (some 178) v178).put (some 179) v179).put (some 180) v180).put (some 169) v169).put (some 181) v181).put (some 182) v182).put (some 25) v25).put (some 26) v26 ∧ (Below v0.heap.size v0 v) ∧ (fL 0 = true → v170 = .slice (some ⟨b, off, none⟩) ys.length cy) ∧ (fL 1 = true → v171 = .int .i64 (j : Nat)) ∧ (fL 2 = true → v172 = .pointer (some ⟨b, off + j * 7, none⟩)) ∧ (fL 3 = true → v173 = .pointer (some ⟨b, off + j * 7, none⟩)) ∧ (fL 4 = true → v174 = .agg #[.int .i64 z.L, .slice z.A1 z.l1.length z.c1, .slice z.A2 z.l2.length z.c2]) ∧ (fL 5 = true → v175 = .slice (some ⟨b, off, none⟩) ys.length cy) ∧ (fL 6 = true → v176 = .int .i64 (j : Nat)) ∧ (fL 7 = true → v177 = .pointer (some ⟨b, off + j * 7, none⟩)) ∧ (fL 8 = true → v178 = .pointer (some ⟨b, off + j * 7 + 3, none⟩)) ∧ (fL 9 = true → v179 = .slice z.A3 z.l3.length z.c3) ∧ (fL 10 = true → v180 = .tuple #[.int .i64 (nz : Nat), .int .i64 0]) ∧ (fL 11 = true → v169 = .tuple #[.int .i64 (nz : Nat), .int .i64 0]) ∧ (fL 12 = true → v181 = .int .i64 (nz : Nat)) ∧ (fL 13 = true → v182 = .int .i64 0) ∧ (fL 14 = true → v25 = .int .i64 (nz : Nat)) ∧ (fL 15 = true → v26 = .int .i64 0)) (by kernel_rfl) (by decide +kernel) ?_ ?_ ?_
      ·exact ⟨_, _, _, _, _, _, _, _, _, _, _, _, _, _, _, _, put_more (put_more (put_more (put_more (put_more (put_more (put_more (put_more (put_more (put_more (put_more (put_more (put_more (put_more (put_more (put_more (rfl) 170) 171) 172) 173) 174) 175) 176) 177) 178) 179) 180) 169) 181) 182) 25) 26, (Below.refl _ _).drew, nofun, nofun, nofun, nofun, nofun, nofun, nofun, nofun, nofun, nofun, nofun, nofun, nofun, nofun, nofun, nofun⟩
      ·rintro fL bA v ⟨v170, v171, v172, v173, v174, v175, v176, v177, v178, v179, v180, v169, v181, v182, v25, v26, rfl, hS, q0, q1, q2, q3, q4, q5, q6, q7, q8, q9, q10, q11, q12, q13, q14, q15⟩ i hi hf o ho hall
       simp only [Act.put, List.setIfInBounds_toArray, List.set_cons_zero, List.set_cons_succ]
       simp only [List.length_cons, List.length_nil] at hi
       have hn : i = 0 ∨ i = 1 ∨ i = 2 ∨ i = 3 ∨ i = 4 ∨ i = 5 ∨ i = 6 ∨ i = 7 ∨ i = 8 ∨ i = 9 ∨ i = 10 ∨ i = 11 ∨ i = 12 ∨ i = 13 ∨ i = 14 ∨ i = 15 := by omega
       clear hi
       rcases hn with rfl | rfl | rfl | rfl | rfl | rfl | rfl | rfl | rfl | rfl | rfl | rfl | rfl | rfl | rfl | rfl
       ·obtain rfl := Option.some.inj ho
        clear hall ho
        refine wpOp_step rfl (fun K hK => ?_)
        go_simp
        exact hK _ _ ⟨_, _, _, _, _, _, _, _, _, _, _, _, _, _, _, _, rfl, hS, fun _ => rfl, q1, q2, q3, q4, q5, q6, q7, q8, q9, q10, q11, q12, q13, q14, q15⟩
       ·obtain rfl := Option.some.inj ho
        clear hall ho
        refine wpOp_step rfl (fun K hK => ?_)
        go_simp
        exact hK _ _ ⟨_, _, _, _, _, _, _, _, _, _, _, _, _, _, _, _, rfl, hS, q0, fun _ => rfl, q2, q3, q4, q5, q6, q7, q8, q9, q10, q11, q12, q13, q14, q15⟩
       ·obtain rfl := Option.some.inj ho
        obtain rfl := q0 (hall ⟨0, .data⟩ (by simp) rfl)
        obtain rfl := q1 (hall ⟨1, .data⟩ (by simp) rfl)
        clear hall ho
        refine wpOp_step rfl (fun K hK => ?_)
        go_simp
        exact hK _ _ ⟨_, _, _, _, _, _, _, _, _, _, _, _, _, _, _, _, rfl, hS, fun _ => rfl, fun _ => rfl, fun _ => rfl, q3, q4, q5, q6, q7, q8, q9, q10, q11, q12, q13, q14, q15⟩
       ·obtain rfl := Option.some.inj ho
        obtain rfl := q2 (hall ⟨2, .data⟩ (by simp) rfl)
        clear hall ho
        refine wpOp_step rfl (fun K hK => ?_)
        go_simp
        exact hK _ _ ⟨_, _, _, _, _, _, _, _, _, _, _, _, _, _, _, _, rfl, hS, q0, q1, fun _ => rfl, fun _ => rfl, q4, q5, q6, q7, q8, q9, q10, q11, q12, q13, q14, q15⟩
       ·obtain rfl := Option.some.inj ho
        obtain rfl := q3 (hall ⟨3, .data⟩ (by simp) rfl)
        have y0 : v.cell? ⟨b, off + j * 7, none⟩ = some (.int .i64 z.L) := Hz.out v hS 0 _ rfl
        have y1 : v.cell? ⟨b, off + j * 7 + 1, none⟩ = some (.slice z.A1 z.l1.length z.c1) := Hz.out v hS 1 _ rfl
        have y2 : v.cell? ⟨b, off + j * 7 + 2, none⟩ = some (.slice z.A2 z.l2.length z.c2) := Hz.out v hS 2 _ rfl
        clear hall ho
        refine wpOp_step rfl (fun K hK => ?_)
        go_simp
        exact hK _ _ ⟨_, _, _, _, _, _, _, _, _, _, _, _, _, _, _, _, rfl, hS, q0, q1, q2, fun _ => rfl, fun _ => rfl, q5, q6, q7, q8, q9, q10, q11, q12, q13, q14, q15⟩
       ·obtain rfl := Option.some.inj ho
        clear hall ho
        refine wpOp_step rfl (fun K hK => ?_)
        go_simp
        exact hK _ _ ⟨_, _, _, _, _, _, _, _, _, _, _, _, _, _, _, _, rfl, hS, q0, q1, q2, q3, q4, fun _ => rfl, q6, q7, q8, q9, q10, q11, q12, q13, q14, q15⟩
       ·obtain rfl := Option.some.inj ho
        clear hall ho
        refine wpOp_step rfl (fun K hK => ?_)
        go_simp
        exact hK _ _ ⟨_, _, _, _, _, _, _, _, _, _, _, _, _, _, _, _, rfl, hS, q0, q1, q2, q3, q4, q5, fun _ => rfl, q7, q8, q9, q10, q11, q12, q13, q14, q15⟩
       ·obtain rfl := Option.some.inj ho
        obtain rfl := q5 (hall ⟨5, .data⟩ (by simp) rfl)
        obtain rfl := q6 (hall ⟨6, .data⟩ (by simp) rfl)
        clear hall ho
        refine wpOp_step rfl (fun K hK => ?_)
        go_simp
        exact hK _ _ ⟨_, _, _, _, _, _, _, _, _, _, _, _, _, _, _, _, rfl, hS, q0, q1, q2, q3, q4, fun _ => rfl, fun _ => rfl, fun _ => rfl, q8, q9, q10, q11, q12, q13, q14, q15⟩
       ·obtain rfl := Option.some.inj ho
        obtain rfl := q7 (hall ⟨7, .data⟩ (by simp) rfl)
        clear hall ho
        refine wpOp_step rfl (fun K hK => ?_)
        go_simp
        exact hK _ _ ⟨_, _, _, _, _, _, _, _, _, _, _, _, _, _, _, _, rfl, hS, q0, q1, q2, q3, q4, q5, q6, fun _ => rfl, fun _ => rfl, q9, q10, q11, q12, q13, q14, q15⟩
       ·obtain rfl := Option.some.inj ho
        obtain rfl := q8 (hall ⟨8, .data⟩ (by simp) rfl)
        have y3 : v.cell? ⟨b, off + j * 7 + 3, none⟩ = some (.slice z.A3 z.l3.length z.c3) := Hz.out v hS 3 _ rfl
        clear hall ho
        refine wpOp_step rfl (fun K hK => ?_)
        go_simp
        exact hK _ _ ⟨_, _, _, _, _, _, _, _, _, _, _, _, _, _, _, _, rfl, hS, q0, q1, q2, q3, q4, q5, q6, q7, fun _ => rfl, fun _ => rfl, q10, q11, q12, q13, q14, q15⟩
       ·obtain rfl := Option.some.inj ho
        obtain rfl := q4 (hall ⟨4, .data⟩ (by simp) rfl)
        obtain rfl := q9 (hall ⟨9, .data⟩ (by simp) rfl)
        clear hall ho
        refine wpOp_step rfl (fun K hK => ?_)
        go_simp
        refine Calls.mono ((Cz v hS).out) ?_; rintro e w1 ⟨rfl, hb1⟩
        go_simp
        exact hK _ _ ⟨_, _, _, _, _, _, _, _, _, _, _, _, _, _, _, _, rfl, hS.trans (hb1.mono hS.size), q0, q1, q2, q3, fun _ => rfl, q5, q6, q7, q8, fun _ => rfl, fun _ => rfl, q11, q12, q13, q14, q15⟩
       ·obtain rfl := Option.some.inj ho
        obtain rfl := q10 (hall ⟨10, .data⟩ (by simp) rfl)
        clear hall ho
        refine wpOp_step rfl (fun K hK => ?_)
        go_simp
        exact hK _ _ ⟨_, _, _, _, _, _, _, _, _, _, _, _, _, _, _, _, rfl, hS, q0, q1, q2, q3, q4, q5, q6, q7, q8, q9, fun _ => rfl, fun _ => rfl, q12, q13, q14, q15⟩
       ·obtain rfl := Option.some.inj ho
        obtain rfl := q11 (hall ⟨11, .data⟩ (by simp) rfl)
        clear hall ho
        refine wpOp_step rfl (fun K hK => ?_)
        go_simp
        exact hK _ _ ⟨_, _, _, _, _, _, _, _, _, _, _, _, _, _, _, _, rfl, hS, q0, q1, q2, q3, q4, q5, q6, q7, q8, q9, q10, fun _ => rfl, fun _ => rfl, q13, q14, q15⟩
       ·obtain rfl := Option.some.inj ho
        obtain rfl := q11 (hall ⟨11, .data⟩ (by simp) rfl)
        clear hall ho
        refine wpOp_step rfl (fun K hK => ?_)
        go_simp
        exact hK _ _ ⟨_, _, _, _, _, _, _, _, _, _, _, _, _, _, _, _, rfl, hS, q0, q1, q2, q3, q4, q5, q6, q7, q8, q9, q10, fun _ => rfl, q12, fun _ => rfl, q14, q15⟩
       ·obtain rfl := Option.some.inj ho
        obtain rfl := q12 (hall ⟨12, .data⟩ (by simp) rfl)
        clear hall ho
        refine wpOp_step rfl (fun K hK => ?_)
        go_simp
        exact hK _ _ ⟨_, _, _, _, _, _, _, _, _, _, _, _, _, _, _, _, rfl, hS, q0, q1, q2, q3, q4, q5, q6, q7, q8, q9, q10, q11, fun _ => rfl, q13, fun _ => rfl, q15⟩
       ·obtain rfl := Option.some.inj ho
        obtain rfl := q13 (hall ⟨13, .data⟩ (by simp) rfl)
        clear hall ho
        refine wpOp_step rfl (fun K hK => ?_)
        go_simp
        exact hK _ _ ⟨_, _, _, _, _, _, _, _, _, _, _, _, _, _, _, _, rfl, hS, q0, q1, q2, q3, q4, q5, q6, q7, q8, q9, q10, q11, q12, fun _ => rfl, q14, fun _ => rfl⟩
      ·rintro fL bA v ⟨v170, v171, v172, v173, v174, v175, v176, v177, v178, v179, v180, v169, v181, v182, v25, v26, rfl, hS, q0, q1, q2, q3, q4, q5, q6, q7, q8, q9, q10, q11, q12, q13, q14, q15⟩ hall
       simp only [Act.put, List.setIfInBounds_toArray, List.set_cons_zero, List.set_cons_succ]
       simp only [List.length_cons, List.length_nil] at hall
       obtain rfl := q0 (hall 0 (by omega))
       obtain rfl := q1 (hall 1 (by omega))
       obtain rfl := q2 (hall 2 (by omega))
       obtain rfl := q3 (hall 3 (by omega))
       obtain rfl := q4 (hall 4 (by omega))
       obtain rfl := q5 (hall 5 (by omega))
       obtain rfl := q6 (hall 6 (by omega))
       obtain rfl := q7 (hall 7 (by omega))
       obtain rfl := q8 (hall 8 (by omega))
       obtain rfl := q9 (hall 9 (by omega))
       obtain rfl := q10 (hall 10 (by omega))
       obtain rfl := q11 (hall 11 (by omega))
       obtain rfl := q12 (hall 12 (by omega))
       obtain rfl := q13 (hall 13 (by omega))
       obtain rfl := q14 (hall 14 (by omega))
       obtain rfl := q15 (hall 15 (by omega))
       clear hall
       have hb3 := hb2.trans (hS.mono hb2.size)
       go_wp2
       go_roundw
       case rel => exact ⟨k + 1, by omega, by go_num, (by repeat first | with_reducible (first | exact hb3 | apply below_drewN' | apply Below.drew | refine Below.alloc ?_ ?_ _ | refine Below.setCell ?_ ?_ _) | exact hb3 | omega | (simp <;> omega) | (have := (hb3).size; first | omega | (simp <;> omega)))⟩
       case measure => simp [intOf]; omega
    ·replace hE := hE.later hb
     replace hA := hA.later hb
     replace X := X.below hb X.lt
     replace hB := hB.trans (hb.mono hB.size)
     clear hb hL HHF
     generalize wr = wz at *
     have hgo2 : (hc == 0) = false ∨ (hc = 0 ∧ ¬ (k : Int) < ys.length) := by
      by_cases h : hc = 0
      ·exact .inr ⟨h, by omega⟩
      ·exact .inl (by simp [h])
     clear hgo
     rcases hgo2 with h | ⟨rfl, h⟩
     all_goals
      by_cases hsc : sc = 0
      ·subst hsc
       obtain ⟨hok, h20, hsum⟩ := HSF.out rfl
       have hsv := (hsum (es.map AnR.fig) (by simp)).symm.trans Hsv.out
       rw [Bool.and_eq_true] at hok
       have HK := Lib.hid hok
       have hG := Lib.hid (gradeP_bd L l1 l2 l3 p q r)
       have HGr : Hid (∀ e ∈ es, ∀ W, Below wz.heap.size wz W → Calls Tryz.prog 20 #[.agg #[.int .i64 L, .slice A1 l1.length c1, .slice A2 l2.length c2, .slice A3 l3.length c3, .int .i64 p, .int .i64 q, .int .i64 r], .agg #[.slice e.A e.l.length e.c, .int .i64 e.a, .int .i64 e.b]] W fun e' w' => e' = .returned (.tuple #[.int .i64 (gradeP L l1 l2 l3 p q r e.fig), .int .i64 0]) ∧ Below W.heap.size W w') := Lib.hid fun e he W hW => by
        have h := implGradeOf_c L A1 c1 l1 A2 c2 l2 A3 c3 l3 p q r e.A e.c e.l e.a e.b W (hE.later hW) (AnIn.later (hA.i e he) hW)
        have ho : ansB e.l e.a e.b = true := List.all_eq_true.1 hok.2 e he
        rw [hok.1, ho] at h
        exact h
       have hss := Lib.hid hA.s
       generalize gradeP L l1 l2 l3 p q r = G at *
       clear hok hsum HSF Hsv hE HK hA
       have hsv := Lib.hid hsv
       go_wp2_with fail
       go_loopw [27, 28] (fun t i wr => ∃ k : Nat, k ≤ es.length ∧ i = .int .i64 k ∧ t = .int .i64 (scTo G (es.map AnR.fig) k) ∧ Below wz.heap.size wz wr) (fun _ i _ => es.length - (intOf i).toNat)
       case atStart => exact ⟨0, Nat.zero_le _, rfl, by rw [scTo_zero], Below.refl _ _⟩
       case round =>
        obtain ⟨k, hk, rfl, rfl, hb⟩ := hrel
        have Xr := X.below hb X.lt
        have hbd := scTo_bd hG.out (es.map AnR.fig) (k := k) (by simpa using hk)
        by_cases hlt : k < es.length
        ·obtain ⟨b, off, rfl, hbB, hc⟩ := hss.out.at_ (i := k) (by simpa using hlt)
         simp only [List.getElem_map] at hc
         have HCE : Hid (∀ (v : World), Below wr.heap.size wr v → ∀ j u, es[k].cells[j]? = some u → v.cell? ⟨b, off + k * 3 + j, none⟩ = some u) := Lib.hid fun v hv j u h => by rw [hv.cell (Nat.lt_of_lt_of_le hbB hb.size), hb.cell hbB]; exact hc j u h
         clear hc
         have HG := fun (v : World) (hS : Below wr.heap.size wr v) => Lib.hid (HGr.out es[k] (List.getElem_mem hlt) v (hb.trans (hS.mono hb.size)))
         have hnx := Lib.hid (scTo_succ G (l := es.map AnR.fig) (k := k) (by simpa using hlt))
         have hg3 := hG.out es[k].fig
         have hek : (es.map AnR.fig)[k]'(by simpa using hlt) = es[k].fig := List.getElem_map ..
         rw [hek] at hnx
         clear hek HGr hss
         have hltI : (k : Int) < es.length := by omega
         generalize es[k] = ek at *
         generalize hgr : G ek.fig = gr at *
         clear hgr
         obtain ⟨Aa, da, la, fa, fb⟩ := ek
         simp only at HG HCE
         generalize scTo G (es.map AnR.fig) k = s at *
         go_wp2_with fail
         refine wp_region_all (fun a0 fL bA v => ∃ v203 v204 v205 v206 v207 v208 v202 v209 v210 v29 v30 : Value, bA = ((((((((((a0.put (some 203) v203).put (some 204) v204).put (some 205) v205).put (some 206) v206).put (some 207) v207).put (some 208) v208).put (some 202) v202).put (some 209) v209).put (some 210) v210).put (some 29) v29).put (some 30) v30 ∧ (Below wr.heap.size wr v) ∧ (fL 0 = true → v203 = .agg #[.int .i64 L, .slice A1 l1.length c1, .slice A2 l2.length c2, .slice A3 l3.length c3, .int .i64 p, .int .i64 q, .int .i64 r]) ∧ (fL 1 = true → v204 = .slice (some ⟨b, off, none⟩) es.length cl) ∧ (fL 2 = true → v205 = .int .i64 (k : Nat)) ∧ (fL 3 = true → v206 = .pointer (some ⟨b, off + k * 3, none⟩)) ∧ (fL 4 = true → v207 = .agg #[.slice Aa la.length da, .int .i64 fa, .int .i64 fb]) ∧ (fL 5 = true → v208 = .tuple #[.int .i64 gr, .int .i64 0]) ∧ (fL 6 = true → v202 = .tuple #[.int .i64 gr, .int .i64 0]) ∧ (fL 7 = true → v209 = .int .i64 gr) ∧ (fL 8 = true → v210 = .int .i64 0) ∧ (fL 9 = true → v29 = .int .i64 gr) ∧ (fL 10 = true → v30 = .int .i64 0)) (by kernel_rfl) (by decide +kernel) ?_ ?_ ?_
         ·exact ⟨_, _, _, _, _, _, _, _, _, _, _, put_more (put_more (put_more (put_more (put_more (put_more (put_more (put_more (put_more (put_more (put_more (rfl) 203) 204) 205) 206) 207) 208) 202) 209) 210) 29) 30, (Below.refl _ _).drew, nofun, nofun, nofun, nofun, nofun, nofun, nofun, nofun, nofun, nofun, nofun⟩
         ·rintro fL bA v ⟨v203, v204, v205, v206, v207, v208, v202, v209, v210, v29, v30, rfl, hS, q0, q1, q2, q3, q4, q5, q6, q7, q8, q9, q10⟩ i hi hf o ho hall
          simp only [Act.put, List.setIfInBounds_toArray, List.set_cons_zero, List.set_cons_succ]
          simp only [List.length_cons, List.length_nil] at hi
          have hn : i = 0 ∨ i = 1 ∨ i = 2 ∨ i = 3 ∨ i = 4 ∨ i = 5 ∨ i = 6 ∨ i = 7 ∨ i = 8 ∨ i = 9 ∨ i = 10 := by omega
          clear hi
          rcases hn with rfl | rfl | rfl | rfl | rfl | rfl | rfl | rfl | rfl | rfl | rfl
          ·obtain rfl := Option.some.inj ho
           have y0 : v.cell? ⟨w1.heap.size, 0, none⟩ = some (.int .i64 L) := (Xr.below hS Xr.lt).cell 0
           have y1 : v.cell? ⟨w1.heap.size, 1, none⟩ = some (.slice A1 l1.length c1) := (Xr.below hS Xr.lt).cell 1
           have y2 : v.cell? ⟨w1.heap.size, 2, none⟩ = some (.slice A2 l2.length c2) := (Xr.below hS Xr.lt).cell 2
           have y3 : v.cell? ⟨w1.heap.size, 3, none⟩ = some (.slice A3 l3.length c3) := (Xr.below hS Xr.lt).cell 3
           have y4 : v.cell? ⟨w1.heap.size, 4, none⟩ = some (.int .i64 p) := (Xr.below hS Xr.lt).cell 4
           have y5 : v.cell? ⟨w1.heap.size, 5, none⟩ = some (.int .i64 q) := (Xr.below hS Xr.lt).cell 5
           have y6 : v.cell? ⟨w1.heap.size, 6, none⟩ = some (.int .i64 r) := (Xr.below hS Xr.lt).cell 6
           clear hall ho
           refine wpOp_step rfl (fun K hK => ?_)
           go_simp
           exact hK _ _ ⟨_, _, _, _, _, _, _, _, _, _, _, rfl, hS, fun _ => rfl, q1, q2, q3, q4, q5, q6, q7, q8, q9, q10⟩
          ·obtain rfl := Option.some.inj ho
           clear hall ho
           refine wpOp_step rfl (fun K hK => ?_)
           go_simp
           exact hK _ _ ⟨_, _, _, _, _, _, _, _, _, _, _, rfl, hS, q0, fun _ => rfl, q2, q3, q4, q5, q6, q7, q8, q9, q10⟩
          ·obtain rfl := Option.some.inj ho
           clear hall ho
           refine wpOp_step rfl (fun K hK => ?_)
           go_simp
           exact hK _ _ ⟨_, _, _, _, _, _, _, _, _, _, _, rfl, hS, q0, q1, fun _ => rfl, q3, q4, q5, q6, q7, q8, q9, q10⟩
          ·obtain rfl := Option.some.inj ho
           obtain rfl := q1 (hall ⟨1, .data⟩ (by simp) rfl)
           obtain rfl := q2 (hall ⟨2, .data⟩ (by simp) rfl)
           clear hall ho
           refine wpOp_step rfl (fun K hK => ?_)
           go_simp
           exact hK _ _ ⟨_, _, _, _, _, _, _, _, _, _, _, rfl, hS, q0, fun _ => rfl, fun _ => rfl, fun _ => rfl, q4, q5, q6, q7, q8, q9, q10⟩
          ·obtain rfl := Option.some.inj ho
           obtain rfl := q3 (hall ⟨3, .data⟩ (by simp) rfl)
           have z0 : v.cell? ⟨b, off + k * 3, none⟩ = some (.slice Aa la.length da) := HCE.out v hS 0 _ rfl
           have z1 : v.cell? ⟨b, off + k * 3 + 1, none⟩ = some (.int .i64 fa) := HCE.out v hS 1 _ rfl
           have z2 : v.cell? ⟨b, off + k * 3 + 2, none⟩ = some (.int .i64 fb) := HCE.out v hS 2 _ rfl
           clear hall ho
           refine wpOp_step rfl (fun K hK => ?_)
           go_simp
           exact hK _ _ ⟨_, _, _, _, _, _, _, _, _, _, _, rfl, hS, q0, q1, q2, fun _ => rfl, fun _ => rfl, q5, q6, q7, q8, q9, q10⟩
          ·obtain rfl := Option.some.inj ho
           obtain rfl := q0 (hall ⟨0, .data⟩ (by simp) rfl)
           obtain rfl := q4 (hall ⟨4, .data⟩ (by simp) rfl)
           clear hall ho
           refine wpOp_step rfl (fun K hK => ?_)
           go_simp
           refine Calls.mono ((HG v hS).out) ?_; rintro e w1 ⟨rfl, hb1⟩
           go_simp
           exact hK _ _ ⟨_, _, _, _, _, _, _, _, _, _, _, rfl, hS.trans (hb1.mono hS.size), fun _ => rfl, q1, q2, q3, fun _ => rfl, fun _ => rfl, q6, q7, q8, q9, q10⟩
          ·obtain rfl := Option.some.inj ho
           obtain rfl := q5 (hall ⟨5, .data⟩ (by simp) rfl)
           clear hall ho
           refine wpOp_step rfl (fun K hK => ?_)
           go_simp
           exact hK _ _ ⟨_, _, _, _, _, _, _, _, _, _, _, rfl, hS, q0, q1, q2, q3, q4, fun _ => rfl, fun _ => rfl, q7, q8, q9, q10⟩
          ·obtain rfl := Option.some.inj ho
           obtain rfl := q6 (hall ⟨6, .data⟩ (by simp) rfl)
           clear hall ho
           refine wpOp_step rfl (fun K hK => ?_)
           go_simp
           exact hK _ _ ⟨_, _, _, _, _, _, _, _, _, _, _, rfl, hS, q0, q1, q2, q3, q4, q5, fun _ => rfl, fun _ => rfl, q8, q9, q10⟩
          ·obtain rfl := Option.some.inj ho
           obtain rfl := q6 (hall ⟨6, .data⟩ (by simp) rfl)
           clear hall ho
           refine wpOp_step rfl (fun K hK => ?_)
           go_simp
           exact hK _ _ ⟨_, _, _, _, _, _, _, _, _, _, _, rfl, hS, q0, q1, q2, q3, q4, q5, fun _ => rfl, q7, fun _ => rfl, q9, q10⟩
          ·obtain rfl := Option.some.inj ho
           obtain rfl := q7 (hall ⟨7, .data⟩ (by simp) rfl)
           clear hall ho
           refine wpOp_step rfl (fun K hK => ?_)
           go_simp
           exact hK _ _ ⟨_, _, _, _, _, _, _, _, _, _, _, rfl, hS, q0, q1, q2, q3, q4, q5, q6, fun _ => rfl, q8, fun _ => rfl, q10⟩
          ·obtain rfl := Option.some.inj ho
           obtain rfl := q8 (hall ⟨8, .data⟩ (by simp) rfl)
           clear hall ho
           refine wpOp_step rfl (fun K hK => ?_)
           go_simp
           exact hK _ _ ⟨_, _, _, _, _, _, _, _, _, _, _, rfl, hS, q0, q1, q2, q3, q4, q5, q6, q7, fun _ => rfl, q9, fun _ => rfl⟩
         ·rintro fL bA v ⟨v203, v204, v205, v206, v207, v208, v202, v209, v210, v29, v30, rfl, hS, q0, q1, q2, q3, q4, q5, q6, q7, q8, q9, q10⟩ hall
          simp only [Act.put, List.setIfInBounds_toArray, List.set_cons_zero, List.set_cons_succ]
          simp only [List.length_cons, List.length_nil] at hall
          obtain rfl := q0 (hall 0 (by omega))
          obtain rfl := q1 (hall 1 (by omega))
          obtain rfl := q2 (hall 2 (by omega))
          obtain rfl := q3 (hall 3 (by omega))
          obtain rfl := q4 (hall 4 (by omega))
          obtain rfl := q5 (hall 5 (by omega))
          obtain rfl := q6 (hall 6 (by omega))
          obtain rfl := q7 (hall 7 (by omega))
          obtain rfl := q8 (hall 8 (by omega))
          obtain rfl := q9 (hall 9 (by omega))
          obtain rfl := q10 (hall 10 (by omega))
          clear hall
          have hb9 := hb.trans (hS.mono hb.size)
          go_wp2
          go_roundw
          case rel => exact ⟨k + 1, by omega, by go_num, by rw [hnx.out]; congr 1; omega, (by repeat first | with_reducible (first | exact hb9 | apply below_drewN' | apply Below.drew | refine Below.alloc ?_ ?_ _ | refine Below.setCell ?_ ?_ _) | exact hb9 | omega | (simp <;> omega) | (have := (hb9).size; first | omega | (simp <;> omega)))⟩
          case measure => simp [intOf]; omega
        ·have hke : k = es.length := by omega
         subst hke
         have hB := hB.trans (hb.mono hB.size)
         have heq : (scTo G (es.map AnR.fig) es.length == sv) = true := by rw [hsv.out]; simp
         clear hsv HGr hss
         go_wp2
         go_ret
         exact ⟨rfl, hB⟩
      ·have hscf : (sc != 0) = true := by simp [hsc]
       clear HSF Hsv hsc
       go_wp2
       go_ret
       exact ⟨rfl, (by repeat first | with_reducible (first | exact hB | apply below_drewN' | apply Below.drew | refine Below.alloc ?_ ?_ _ | refine Below.setCell ?_ ?_ _) | exact hB | omega | (simp <;> omega) | (have := (hB).size; first | omega | (simp <;> omega)))⟩
end Go.Proofs.YtednjmldjbndhaaGreat
