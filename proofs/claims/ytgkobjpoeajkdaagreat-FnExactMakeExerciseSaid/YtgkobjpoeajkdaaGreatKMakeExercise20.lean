/- FnExactMakeExercise: the walk. Conditions: what an argument always is. -/
import Derived.Test.YtgkobjpoeajkdaaGreatKMakeExercise19
namespace Go.Proofs.YtgkobjpoeajkdaaGreat
open Go.RowKit
/-- a rule's copy, as it lies -/
def RuQ (L : Int) (l1 l2 : List Int) (v : Value) (w : World) : Prop := ∃ B1 d1 B2 d2, v = ruV L l1 l2 B1 d1 B2 d2 ∧ l1.length ≤ d1 ∧ l2.length ≤ d2 ∧ Sl w w.heap.size 1 B1 (l1.map ic) ∧ Sl w w.heap.size 1 B2 (l2.map ic)
theorem RuQ.below {L : Int} {l1 l2 : List Int} {v : Value} {w w' : World} (h : RuQ L l1 l2 v w) (hb : Below w.heap.size w w') : RuQ L l1 l2 v w' := by
  obtain ⟨B1, d1, B2, d2, h1, h2, h3, h4, h5⟩ := h
  exact ⟨B1, d1, B2, d2, h1, h2, h3, (h4.below hb).more hb.size, (h5.below hb).more hb.size⟩
theorem eqR_c (R : Res) (hR : R.l1.length ≤ 1048576 ∧ R.l2.length ≤ 1048576 ∧ R.l3.length ≤ 1048576) {B1 C1 B2 C2 B3 C3 : Option Addr} {d1 f1 d2 f2 d3 f3 N M : Nat} {w : World} (h : Own3 w N R B1 d1 B2 d2 B3 d3) (h' : Own3 w M R C1 f1 C2 f2 C3 f3) :
    Calls Tryz.prog 17 #[.agg #[.int .i64 R.L, .slice B1 R.l1.length d1, .slice B2 R.l2.length d2, .slice B3 R.l3.length d3, .int .i64 R.p, .int .i64 R.q, .int .i64 R.r], .agg #[.int .i64 R.L, .slice C1 R.l1.length f1, .slice C2 R.l2.length f2, .slice C3 R.l3.length f3, .int .i64 R.p, .int .i64 R.q, .int .i64 R.r]] w fun e w' => e = .returned (.bool true) ∧ Below w.heap.size w w' :=
  eqEx_c R.L B1 d1 C1 f1 R.l1 B2 d2 C2 f2 R.l2 B3 d3 C3 f3 R.l3 R.p R.q R.r w (h.in_ hR) (h'.in_ hR)
set_option maxRecDepth 100000 in
set_option maxHeartbeats 8000000 in
theorem lawMakeExercise_c (seed terms L : Int) (A1 : Option Addr) (c1 : Nat) (l1 : List Int) (A2 : Option Addr) (c2 : Nat) (l2 : List Int) (p q r : Int) (w : World) (z1 : l1.length ≤ 140737488351232) (z2 : l2.length ≤ 140737488351232) (s1 : Sl w w.heap.size 1 A1 (l1.map ic)) (s2 : Sl w w.heap.size 1 A2 (l2.map ic)) :
    Calls Tryz.prog 5 #[.int .i64 seed, .int .i64 terms, .agg #[.int .i64 L, .slice A1 l1.length c1, .slice A2 l2.length c2], .agg #[.int .i64 p, .int .i64 q, .int .i64 r]] w fun e w' => e = .returned (.bool true) ∧ Below w.heap.size w w' := by
  have HZ := fun W => Lib.hid (szRule_c L A1 l1.length c1 A2 l2.length c2 1048576 W z1 z2 (by omega))
  have hW : Below w.heap.size w ((w.alloc (.cells #[.int .i64 L, .slice A1 l1.length c1, .slice A2 l2.length c2] 24)).alloc (.cells #[.int .i64 p, .int .i64 q, .int .i64 r] 27)) := (by repeat (first | with_reducible exact Below.refl _ _ | with_reducible apply below_drewN' | with_reducible apply Below.drew | (with_reducible refine Below.alloc ?_ (by first | omega | (simp; omega) | simp) _) | (with_reducible refine Below.setCell ?_ (by first | omega | (simp; omega) | simp) _) | exact Below.refl _ _))
  have X0 := (Blk.new w 24 #[.int .i64 L, .slice A1 l1.length c1, .slice A2 l2.length c2]).alloc (.cells #[.int .i64 p, .int .i64 q, .int .i64 r] 27)
  have Y0 := Blk.new' (w.alloc (.cells #[.int .i64 L, .slice A1 l1.length c1, .slice A2 l2.length c2] 24)) 27 #[.int .i64 p, .int .i64 q, .int .i64 r] (g := w.heap.size + 1) (by simp)
  go_enter Tryz.func5, Tryz.ntmps5
  go_wp2_with fail
  generalize ((w.alloc (.cells #[.int .i64 L, .slice A1 l1.length c1, .slice A2 l2.length c2] 24)).alloc (.cells #[.int .i64 p, .int .i64 q, .int .i64 r] 27)) = W at *
  refine Calls.mono (HZ W).out ?_; rintro e w1 ⟨⟨v, rfl, hv⟩, hb1⟩
  have hW1 := hW.trans (hb1.mono hW.size)
  have X1' := X0.below hb1 X0.lt
  have Y1 := Y0.below hb1 Y0.lt
  clear hW X0 Y0 hb1 HZ
  rcases hv with hv | ⟨hv0, hv1, h1, h2⟩
  · go_wp2
    go_ret
    exact ⟨rfl, (by repeat (first | with_reducible exact hW1 | with_reducible apply below_drewN' | with_reducible apply Below.drew | (with_reducible refine Below.alloc ?_ (by first | omega | (simp; omega) | simp) _) | (with_reducible refine Below.setCell ?_ (by first | omega | (simp; omega) | simp) _) | exact hW1))⟩
  have hvn : ¬ v < 0 := by omega
  have HT := Lib.hid (fun W (hW : Below w.heap.size w W) => toRule_c L A1 c1 l1 A2 c2 l2 W h1 h2 ((s1.below hW).more hW.size) ((s2.below hW).more hW.size))
  have HE := Lib.hid (fun W => toErrors_c p q r W)
  have HSp := Lib.hid (fun (B1 : Option Addr) d1 (B2 : Option Addr) d2 W (m1 : l1.length ≤ d1) (m2 : l2.length ≤ d2) (t1 : Sl W W.heap.size 1 B1 (l1.map ic)) (t2 : Sl W W.heap.size 1 B2 (l2.map ic)) => (specMakeExercise_c seed terms L B1 d1 l1 B2 d2 l2 p q r W h1 h2 m1 m2 t1 t2).mono fun _ _ h => SpMk.u h)
  have HIm := Lib.hid (fun (B1 : Option Addr) d1 (B2 : Option Addr) d2 W (m1 : l1.length ≤ d1) (m2 : l2.length ≤ d2) (t1 : Sl W W.heap.size 1 B1 (l1.map ic)) (t2 : Sl W W.heap.size 1 B2 (l2.map ic)) => (implMakeExercise_c seed terms L B1 d1 l1 B2 d2 l2 p q r W h1 h2 m1 m2 t1 t2).mono fun _ _ h => MkPost.u h)
  have hR := mkRes_bd (seed := seed) (terms := terms) (L := L) (p := p) (q := q) (r := r) h1 h2
  generalize mkRes seed terms L l1 l2 p q r = R at *
  clear s1 s2 z1 z2
  go_wp2_with fail
  refine wp_region_all (fun a0 fL bA v => ∃ v26 v27 v28 v29 v30 v31 v32 v25 v33 v34 v10 v11 : Value, bA = (((((((((((a0.put (some 26) v26).put (some 27) v27).put (some 28) v28).put (some 29) v29).put (some 30) v30).put (some 31) v31).put (some 32) v32).put (some 25) v25).put (some 33) v33).put (some 34) v34).put (some 10) v10).put (some 11) v11 ∧ (RmS w1 R APn (RuQ L l1 l2) (fL 3) (fL 6) (fL 7) (fL 8) (fL 10) (fL 11) v29 v32 v25 v33 v10 v) ∧ (fL 0 = true → v26 = .int .i64 seed) ∧ (fL 1 = true → v27 = .int .i64 terms) ∧ (fL 2 = true → v28 = .agg #[.int .i64 L, .slice A1 l1.length c1, .slice A2 l2.length c2]) ∧ (fL 3 = true → True) ∧ (fL 4 = true → v30 = .agg #[.int .i64 p, .int .i64 q, .int .i64 r]) ∧ (fL 5 = true → v31 = .agg #[.int .i64 p, .int .i64 q, .int .i64 r]) ∧ (fL 6 = true → True) ∧ (fL 7 = true → True) ∧ (fL 8 = true → True) ∧ (fL 9 = true → v34 = .int .i64 R.code) ∧ (fL 10 = true → True) ∧ (fL 12 = true → v11 = .int .i64 R.code)) (by kernel_rfl) (by decide +kernel) ?_ ?_ ?_
  · exact ⟨undef, undef, undef, undef, undef, undef, undef, undef, undef, undef, undef, undef, by simp only [Act.put, List.setIfInBounds_toArray, List.set_cons_zero, List.set_cons_succ], RmS.init, nofun, nofun, nofun, nofun, nofun, nofun, nofun, nofun, nofun, nofun, nofun, nofun⟩
  · rintro fL bA v ⟨v26, v27, v28, v29, v30, v31, v32, v25, v33, v34, v10, v11, rfl, hS, q0, q1, q2, q3, q4, q5, q6, q7, q8, q9, q10, q12⟩ i hi hf o ho hall
    simp only [Act.put, List.setIfInBounds_toArray, List.set_cons_zero, List.set_cons_succ]
    simp only [List.length_cons, List.length_nil] at hi
    have hn : i = 0 ∨ i = 1 ∨ i = 2 ∨ i = 3 ∨ i = 4 ∨ i = 5 ∨ i = 6 ∨ i = 7 ∨ i = 8 ∨ i = 9 ∨ i = 10 ∨ i = 11 ∨ i = 12 := by omega
    clear hi
    rcases hn with rfl | rfl | rfl | rfl | rfl | rfl | rfl | rfl | rfl | rfl | rfl | rfl | rfl
    · obtain rfl := Option.some.inj ho
      clear hall ho
      refine wpOp_step rfl (fun K hK => ?_)
      go_simp
      exact hK _ _ ⟨_, _, _, _, _, _, _, _, _, _, _, _, rfl, hS, fun _ => rfl, q1, q2, fun _ => trivial, q4, q5, fun _ => trivial, fun _ => trivial, fun _ => trivial, q9, fun _ => trivial, q12⟩
    · obtain rfl := Option.some.inj ho
      clear hall ho
      refine wpOp_step rfl (fun K hK => ?_)
      go_simp
      exact hK _ _ ⟨_, _, _, _, _, _, _, _, _, _, _, _, rfl, hS, q0, fun _ => rfl, q2, fun _ => trivial, q4, q5, fun _ => trivial, fun _ => trivial, fun _ => trivial, q9, fun _ => trivial, q12⟩
    · obtain rfl := Option.some.inj ho
      have F := X1'.below hS.hb X1'.lt
      have y0 : v.cell? ⟨w.heap.size, 0, none⟩ = some (.int .i64 L) := F.cell 0
      have y1 : v.cell? ⟨w.heap.size, 1, none⟩ = some (.slice A1 l1.length c1) := F.cell 1
      have y2 : v.cell? ⟨w.heap.size, 2, none⟩ = some (.slice A2 l2.length c2) := F.cell 2
      clear hall ho
      refine wpOp_step rfl (fun K hK => ?_)
      go_simp
      exact hK _ _ ⟨_, _, _, _, _, _, _, _, _, _, _, _, rfl, hS, q0, q1, fun _ => rfl, fun _ => trivial, q4, q5, fun _ => trivial, fun _ => trivial, fun _ => trivial, q9, fun _ => trivial, q12⟩
    · obtain rfl := Option.some.inj ho
      obtain rfl := q2 (hall ⟨2, .data⟩ (by simp) rfl)
      clear hall ho
      refine wpOp_step rfl (fun K hK => ?_)
      go_simp
      refine Calls.mono (HT.out v (hW1.trans (hS.hb.mono hW1.size))) ?_; rintro e w77 ⟨D1, f1, D2, f2, rfl, o1, o2, _, hb77⟩
      go_simp
      exact hK _ _ ⟨_, _, _, _, _, _, _, _, _, _, _, _, rfl, hS.c3 ⟨D1, f1, D2, f2, rfl, o1.le_cap, o2.le_cap, o1.sl, o2.sl⟩ hb77, q0, q1, fun _ => rfl, fun _ => trivial, q4, q5, fun _ => trivial, fun _ => trivial, fun _ => trivial, q9, fun _ => trivial, q12⟩
    · obtain rfl := Option.some.inj ho
      have F := Y1.below hS.hb Y1.lt
      have y0 : v.cell? ⟨w.heap.size + 1, 0, none⟩ = some (.int .i64 p) := F.cell 0
      have y1 : v.cell? ⟨w.heap.size + 1, 1, none⟩ = some (.int .i64 q) := F.cell 1
      have y2 : v.cell? ⟨w.heap.size + 1, 2, none⟩ = some (.int .i64 r) := F.cell 2
      clear hall ho
      refine wpOp_step rfl (fun K hK => ?_)
      go_simp
      exact hK _ _ ⟨_, _, _, _, _, _, _, _, _, _, _, _, rfl, hS, q0, q1, q2, fun _ => trivial, fun _ => rfl, q5, fun _ => trivial, fun _ => trivial, fun _ => trivial, q9, fun _ => trivial, q12⟩
    · obtain rfl := Option.some.inj ho
      obtain rfl := q4 (hall ⟨4, .data⟩ (by simp) rfl)
      clear hall ho
      refine wpOp_step rfl (fun K hK => ?_)
      go_simp
      refine Calls.mono (HE.out v) ?_; rintro e w1 ⟨rfl, hb1⟩
      go_simp
      exact hK _ _ ⟨_, _, _, _, _, _, _, _, _, _, _, _, rfl, hS.below (fun h => h.below hb1) hb1, q0, q1, q2, fun _ => trivial, fun _ => rfl, fun _ => rfl, fun _ => trivial, fun _ => trivial, fun _ => trivial, q9, fun _ => trivial, q12⟩
    · obtain rfl := Option.some.inj ho
      obtain rfl := q0 (hall ⟨0, .data⟩ (by simp) rfl)
      obtain rfl := q1 (hall ⟨1, .data⟩ (by simp) rfl)
      have e3 : fL 3 = true := hall ⟨3, .data⟩ (by simp) rfl
      obtain rfl := q5 (hall ⟨5, .data⟩ (by simp) rfl)
      clear hall ho
      refine wpOp_step rfl (fun K hK => ?_)
      obtain ⟨D1, f1, D2, f2, rfl, m1, m2, t1, t2⟩ := hS.q3 e3 hf
      unfold ruV
      go_simp
      refine Calls.mono (HSp.out D1 f1 D2 f2 v m1 m2 t1 t2) ?_; rintro e w77 ⟨C1, h1, C2, h2, C3, h3, rfl, ho, ha, hb77⟩
      go_simp
      exact hK _ _ ⟨_, _, _, _, _, _, _, _, _, _, _, _, rfl, hS.c6 hf ho ha hb77, fun _ => rfl, fun _ => rfl, q2, fun _ => trivial, q4, fun _ => rfl, fun _ => trivial, fun _ => trivial, fun _ => trivial, q9, fun _ => trivial, q12⟩
    · obtain rfl := Option.some.inj ho
      have e6 : fL 6 = true := hall ⟨6, .data⟩ (by simp) rfl
      clear hall ho
      refine wpOp_step rfl (fun K hK => ?_)
      go_simp
      exact hK _ _ ⟨_, _, _, _, _, _, _, _, _, _, _, _, rfl, hS.s7 hf e6, q0, q1, q2, fun _ => trivial, q4, q5, fun _ => trivial, fun _ => trivial, fun _ => trivial, q9, fun _ => trivial, q12⟩
    · obtain rfl := Option.some.inj ho
      have e7 : fL 7 = true := hall ⟨7, .data⟩ (by simp) rfl
      obtain ⟨e66, rfl⟩ := hS.d7 e7
      obtain ⟨C1, h1, C2, h2, C3, h3, rfl, _⟩ := hS.d6 e66
      rw [show R.tup C1 h1 C2 h2 C3 h3 = .tuple #[.agg (R.ex C1 h1 C2 h2 C3 h3), .int .i64 R.code] from rfl]
      clear hall ho
      refine wpOp_step rfl (fun K hK => ?_)
      go_simp
      exact hK _ _ ⟨_, _, _, _, _, _, _, _, _, _, _, _, rfl, hS.s8 hf e7, q0, q1, q2, fun _ => trivial, q4, q5, fun _ => trivial, fun _ => trivial, fun _ => trivial, q9, fun _ => trivial, q12⟩
    · obtain rfl := Option.some.inj ho
      have e7 : fL 7 = true := hall ⟨7, .data⟩ (by simp) rfl
      obtain ⟨e66, rfl⟩ := hS.d7 e7
      obtain ⟨C1, h1, C2, h2, C3, h3, rfl, _⟩ := hS.d6 e66
      rw [show R.tup C1 h1 C2 h2 C3 h3 = .tuple #[.agg (R.ex C1 h1 C2 h2 C3 h3), .int .i64 R.code] from rfl]
      clear hall ho
      refine wpOp_step rfl (fun K hK => ?_)
      go_simp
      exact hK _ _ ⟨_, _, _, _, _, _, _, _, _, _, _, _, rfl, hS, q0, q1, q2, fun _ => trivial, q4, q5, fun _ => trivial, fun _ => trivial, fun _ => trivial, fun _ => rfl, fun _ => trivial, q12⟩
    · obtain rfl := Option.some.inj ho
      clear hall ho
      refine wpOp_step rfl (fun K hK => ?_)
      go_simp
      exact hK _ _ ⟨_, _, _, _, _, _, _, _, _, _, _, _, rfl, hS.a10 hf (fun h => h.below ((Below.refl _ _).alloc (Nat.le_refl _) _)), q0, q1, q2, fun _ => trivial, q4, q5, fun _ => trivial, fun _ => trivial, fun _ => trivial, q9, fun _ => trivial, q12⟩
    · obtain rfl := Option.some.inj ho
      have e10 : fL 10 = true := hall ⟨10, .data⟩ (by simp) rfl
      have e8 : fL 8 = true := hall ⟨8, .data⟩ (by simp) rfl
      obtain ⟨e77, rfl⟩ := hS.d8 e8
      obtain ⟨e66, rfl⟩ := hS.d7 e77
      obtain ⟨C1, h1, C2, h2, C3, h3, rfl, _⟩ := hS.d6 e66
      obtain ⟨gq, rfl, _, _, hZ, _⟩ := hS.blk e10
      have hZ := hZ hf
      have y0 : v.cell? ⟨gq, 0, none⟩ = some (.int .i64 0) := hZ.cell 0
      have y1 : v.cell? ⟨gq, 1, none⟩ = some (.slice none 0 0) := hZ.cell 1
      have y2 : v.cell? ⟨gq, 2, none⟩ = some (.slice none 0 0) := hZ.cell 2
      have y3 : v.cell? ⟨gq, 3, none⟩ = some (.slice none 0 0) := hZ.cell 3
      have y4 : v.cell? ⟨gq, 4, none⟩ = some (.int .i64 0) := hZ.cell 4
      have y5 : v.cell? ⟨gq, 5, none⟩ = some (.int .i64 0) := hZ.cell 5
      have y6 : v.cell? ⟨gq, 6, none⟩ = some (.int .i64 0) := hZ.cell 6
      have yf0 := hZ.frozen 0
      have yf1 := hZ.frozen 1
      have yf2 := hZ.frozen 2
      have yf3 := hZ.frozen 3
      have yf4 := hZ.frozen 4
      have yf5 := hZ.frozen 5
      have yf6 := hZ.frozen 6
      rw [show fstV (R.tup C1 h1 C2 h2 C3 h3) = .agg #[.int .i64 R.L, .slice C1 R.l1.length h1, .slice C2 R.l2.length h2, .slice C3 R.l3.length h3, .int .i64 R.p, .int .i64 R.q, .int .i64 R.r] from rfl]
      clear hall ho
      refine wpOp_step rfl (fun K hK => ?_)
      go_simp
      exact hK _ _ ⟨_, _, _, _, _, _, _, _, _, _, _, _, rfl, hS.st hf e8 e10, q0, q1, q2, fun _ => trivial, q4, q5, fun _ => trivial, fun _ => trivial, fun _ => trivial, q9, fun _ => trivial, q12⟩
    · obtain rfl := Option.some.inj ho
      obtain rfl := q9 (hall ⟨9, .data⟩ (by simp) rfl)
      clear hall ho
      refine wpOp_step rfl (fun K hK => ?_)
      go_simp
      exact hK _ _ ⟨_, _, _, _, _, _, _, _, _, _, _, _, rfl, hS, q0, q1, q2, fun _ => trivial, q4, q5, fun _ => trivial, fun _ => trivial, fun _ => trivial, fun _ => rfl, fun _ => trivial, fun _ => rfl⟩
  · rintro fL bA v ⟨v26, v27, v28, v29, v30, v31, v32, v25, v33, v34, v10, v11, rfl, hS, q0, q1, q2, q3, q4, q5, q6, q7, q8, q9, q10, q12⟩ hall
    simp only [Act.put, List.setIfInBounds_toArray, List.set_cons_zero, List.set_cons_succ]
    simp only [List.length_cons, List.length_nil] at hall
    obtain rfl := q0 (hall 0 (by omega))
    obtain rfl := q1 (hall 1 (by omega))
    obtain rfl := q2 (hall 2 (by omega))
    have e3 : fL 3 = true := hall 3 (by omega)
    obtain rfl := q4 (hall 4 (by omega))
    obtain rfl := q5 (hall 5 (by omega))
    have e6 : fL 6 = true := hall 6 (by omega)
    have e7 : fL 7 = true := hall 7 (by omega)
    have e8 : fL 8 = true := hall 8 (by omega)
    obtain rfl := q9 (hall 9 (by omega))
    have e10 : fL 10 = true := hall 10 (by omega)
    obtain rfl := q12 (hall 12 (by omega))
    have e11 : fL 11 = true := hall 11 (by omega)
    clear hall
    obtain ⟨gw, B1, d1, B2, d2, B3, d3, rfl, hgw, Bw, _, ow, _⟩ := hS.done e11
    have hW2 := hW1.trans (hS.hb.mono hW1.size)
    have Xr := X1'.below hS.hb X1'.lt
    have Xe := Y1.below hS.hb Y1.lt
    have hws := hW1.size
    clear hS HSp hW1 X1' Y1
    have hxe := Xe.lt
    have y0 : v.cell? ⟨w.heap.size, 0, none⟩ = some (.int .i64 L) := Xr.cell 0
    have y1 : v.cell? ⟨w.heap.size, 1, none⟩ = some (.slice A1 l1.length c1) := Xr.cell 1
    have y2 : v.cell? ⟨w.heap.size, 2, none⟩ = some (.slice A2 l2.length c2) := Xr.cell 2
    go_wp2_with fail
    refine Calls.mono (HT.out v hW2) ?_; rintro e w3 ⟨X1, x1, X2, x2, rfl, ox1, ox2, hax, hb3⟩
    have hN2 := Bw.lt
    replace Bw := Bw.below hb3 Bw.lt
    have ow' : Own3 w3 w1.heap.size R B1 d1 B2 d2 B3 d3 := ow.below hb3
    have owl : ∀ x, (∃ u, (u = Value.slice B1 R.l1.length d1 ∨ u = Value.slice B2 R.l2.length d2 ∨ u = Value.slice B3 R.l3.length d3) ∧ u.ownBlock = some x) → x < v.heap.size := fun x ⟨u, hu, hx⟩ => by
      rcases hu with rfl | rfl | rfl
      · exact own_ltS ow.o1 x hx
      · exact own_ltS ow.o2 x hx
      · exact own_ltS ow.o3 x hx
    replace owl := Lib.hid owl
    replace Xr := Xr.below hb3 Xr.lt
    replace Xe := Xe.below hb3 Xe.lt
    have hW3 := hW2.trans (hb3.mono hW2.size)
    have hv3 := hb3.size
    have hwv := hW2.size
    clear y0 y1 y2 hW2 ow hb3
    have hba : Below w3.heap.size w3 (w3.alloc (.cells #[.int .i64 L, .slice X1 l1.length x1, .slice X2 l2.length x2] 32)) := (Below.refl _ _).alloc (Nat.le_refl _) _
    replace Bw := Bw.below hba Bw.lt
    have ow := ow'.below hba
    replace Xr := Xr.below hba Xr.lt
    replace Xe := Xe.below hba Xe.lt
    have Bx := Blk.new w3 32 #[.int .i64 L, .slice X1 l1.length x1, .slice X2 l2.length x2]
    replace ox1 := ox1.below hba
    replace ox2 := ox2.below hba
    have hW4 := hW3.trans (hba.mono hW3.size)
    have hz4 : (w3.alloc (.cells #[.int .i64 L, .slice X1 l1.length x1, .slice X2 l2.length x2] 32)).heap.size = w3.heap.size + 1 := by simp
    clear ow' hW3 hba
    go_wp2_with fail
    generalize w3.alloc (.cells #[.int .i64 L, .slice X1 l1.length x1, .slice X2 l2.length x2] 32) = w4 at *
    generalize w3.heap.size = gx at *
    generalize v.heap.size = N2 at *
    generalize v = v00 at *
    refine wp_region_all (fun a0 fL bA v => ∃ v38 v39 v40 v41 v42 v43 v37 v44 v45 v13 v14 : Value, bA = ((((((((((a0.put (some 38) v38).put (some 39) v39).put (some 40) v40).put (some 41) v41).put (some 42) v42).put (some 43) v43).put (some 37) v37).put (some 44) v44).put (some 45) v45).put (some 13) v13).put (some 14) v14 ∧ (RmS w4 R AP3 (fun _ _ => True) false (fL 5) (fL 6) (fL 7) (fL 9) (fL 10) undef v43 v37 v44 v13 v) ∧ (fL 0 = true → v38 = .int .i64 seed) ∧ (fL 1 = true → v39 = .int .i64 terms) ∧ (fL 2 = true → v40 = .agg #[.int .i64 L, .slice X1 l1.length x1, .slice X2 l2.length x2]) ∧ (fL 3 = true → v41 = .agg #[.int .i64 p, .int .i64 q, .int .i64 r]) ∧ (fL 4 = true → v42 = .agg #[.int .i64 p, .int .i64 q, .int .i64 r]) ∧ (fL 5 = true → True) ∧ (fL 6 = true → True) ∧ (fL 7 = true → True) ∧ (fL 8 = true → v45 = .int .i64 R.code) ∧ (fL 9 = true → True) ∧ (fL 11 = true → v14 = .int .i64 R.code)) (by kernel_rfl) (by decide +kernel) ?_ ?_ ?_
    · exact ⟨undef, undef, undef, undef, undef, undef, undef, undef, undef, undef, undef, by simp only [Act.put, List.setIfInBounds_toArray, List.set_cons_zero, List.set_cons_succ], RmS.init, nofun, nofun, nofun, nofun, nofun, nofun, nofun, nofun, nofun, nofun, nofun⟩
    · rintro fL bA v ⟨v38, v39, v40, v41, v42, v43, v37, v44, v45, v13, v14, rfl, hS, q0, q1, q2, q3, q4, q5, q6, q7, q8, q9, q11⟩ i hi hf o ho hall
      simp only [Act.put, List.setIfInBounds_toArray, List.set_cons_zero, List.set_cons_succ]
      simp only [List.length_cons, List.length_nil] at hi
      have hn : i = 0 ∨ i = 1 ∨ i = 2 ∨ i = 3 ∨ i = 4 ∨ i = 5 ∨ i = 6 ∨ i = 7 ∨ i = 8 ∨ i = 9 ∨ i = 10 ∨ i = 11 := by omega
      clear hi
      rcases hn with rfl | rfl | rfl | rfl | rfl | rfl | rfl | rfl | rfl | rfl | rfl | rfl
      · obtain rfl := Option.some.inj ho
        clear hall ho
        refine wpOp_step rfl (fun K hK => ?_)
        go_simp
        exact hK _ _ ⟨_, _, _, _, _, _, _, _, _, _, _, rfl, hS, fun _ => rfl, q1, q2, q3, q4, fun _ => trivial, fun _ => trivial, fun _ => trivial, q8, fun _ => trivial, q11⟩
      · obtain rfl := Option.some.inj ho
        clear hall ho
        refine wpOp_step rfl (fun K hK => ?_)
        go_simp
        exact hK _ _ ⟨_, _, _, _, _, _, _, _, _, _, _, rfl, hS, q0, fun _ => rfl, q2, q3, q4, fun _ => trivial, fun _ => trivial, fun _ => trivial, q8, fun _ => trivial, q11⟩
      · obtain rfl := Option.some.inj ho
        have F := Bx.below hS.hb Bx.lt
        have y0 : v.cell? ⟨gx, 0, none⟩ = some (.int .i64 L) := F.cell 0
        have y1 : v.cell? ⟨gx, 1, none⟩ = some (.slice X1 l1.length x1) := F.cell 1
        have y2 : v.cell? ⟨gx, 2, none⟩ = some (.slice X2 l2.length x2) := F.cell 2
        clear hall ho
        refine wpOp_step rfl (fun K hK => ?_)
        go_simp
        exact hK _ _ ⟨_, _, _, _, _, _, _, _, _, _, _, rfl, hS, q0, q1, fun _ => rfl, q3, q4, fun _ => trivial, fun _ => trivial, fun _ => trivial, q8, fun _ => trivial, q11⟩
      · obtain rfl := Option.some.inj ho
        have F := Xe.below hS.hb Xe.lt
        have y0 : v.cell? ⟨w.heap.size + 1, 0, none⟩ = some (.int .i64 p) := F.cell 0
        have y1 : v.cell? ⟨w.heap.size + 1, 1, none⟩ = some (.int .i64 q) := F.cell 1
        have y2 : v.cell? ⟨w.heap.size + 1, 2, none⟩ = some (.int .i64 r) := F.cell 2
        clear hall ho
        refine wpOp_step rfl (fun K hK => ?_)
        go_simp
        exact hK _ _ ⟨_, _, _, _, _, _, _, _, _, _, _, rfl, hS, q0, q1, q2, fun _ => rfl, q4, fun _ => trivial, fun _ => trivial, fun _ => trivial, q8, fun _ => trivial, q11⟩
      · obtain rfl := Option.some.inj ho
        obtain rfl := q3 (hall ⟨3, .data⟩ (by simp) rfl)
        clear hall ho
        refine wpOp_step rfl (fun K hK => ?_)
        go_simp
        refine Calls.mono (HE.out v) ?_; rintro e w1 ⟨rfl, hb1⟩
        go_simp
        exact hK _ _ ⟨_, _, _, _, _, _, _, _, _, _, _, rfl, hS.below id hb1, q0, q1, q2, fun _ => rfl, fun _ => rfl, fun _ => trivial, fun _ => trivial, fun _ => trivial, q8, fun _ => trivial, q11⟩
      · obtain rfl := Option.some.inj ho
        obtain rfl := q0 (hall ⟨0, .data⟩ (by simp) rfl)
        obtain rfl := q1 (hall ⟨1, .data⟩ (by simp) rfl)
        obtain rfl := q2 (hall ⟨2, .data⟩ (by simp) rfl)
        obtain rfl := q4 (hall ⟨4, .data⟩ (by simp) rfl)
        clear hall ho
        refine wpOp_step rfl (fun K hK => ?_)
        go_simp
        refine Calls.mono (HIm.out X1 x1 X2 x2 v ox1.le_cap ox2.le_cap (ox1.below hS.hb).sl (ox2.below hS.hb).sl) ?_; rintro e w77 ⟨C1, h1, C2, h2, C3, h3, rfl, ho, ha, hb77⟩
        go_simp
        exact hK _ _ ⟨_, _, _, _, _, _, _, _, _, _, _, rfl, hS.c6 hf ho ha hb77, fun _ => rfl, fun _ => rfl, fun _ => rfl, q3, fun _ => rfl, fun _ => trivial, fun _ => trivial, fun _ => trivial, q8, fun _ => trivial, q11⟩
      · obtain rfl := Option.some.inj ho
        have e5 : fL 5 = true := hall ⟨5, .data⟩ (by simp) rfl
        clear hall ho
        refine wpOp_step rfl (fun K hK => ?_)
        go_simp
        exact hK _ _ ⟨_, _, _, _, _, _, _, _, _, _, _, rfl, hS.s7 hf e5, q0, q1, q2, q3, q4, fun _ => trivial, fun _ => trivial, fun _ => trivial, q8, fun _ => trivial, q11⟩
      · obtain rfl := Option.some.inj ho
        have e6 : fL 6 = true := hall ⟨6, .data⟩ (by simp) rfl
        obtain ⟨e66, rfl⟩ := hS.d7 e6
        obtain ⟨C1, h1, C2, h2, C3, h3, rfl, _⟩ := hS.d6 e66
        rw [show R.tup C1 h1 C2 h2 C3 h3 = .tuple #[.agg (R.ex C1 h1 C2 h2 C3 h3), .int .i64 R.code] from rfl]
        clear hall ho
        refine wpOp_step rfl (fun K hK => ?_)
        go_simp
        exact hK _ _ ⟨_, _, _, _, _, _, _, _, _, _, _, rfl, hS.s8 hf e6, q0, q1, q2, q3, q4, fun _ => trivial, fun _ => trivial, fun _ => trivial, q8, fun _ => trivial, q11⟩
      · obtain rfl := Option.some.inj ho
        have e6 : fL 6 = true := hall ⟨6, .data⟩ (by simp) rfl
        obtain ⟨e66, rfl⟩ := hS.d7 e6
        obtain ⟨C1, h1, C2, h2, C3, h3, rfl, _⟩ := hS.d6 e66
        rw [show R.tup C1 h1 C2 h2 C3 h3 = .tuple #[.agg (R.ex C1 h1 C2 h2 C3 h3), .int .i64 R.code] from rfl]
        clear hall ho
        refine wpOp_step rfl (fun K hK => ?_)
        go_simp
        exact hK _ _ ⟨_, _, _, _, _, _, _, _, _, _, _, rfl, hS, q0, q1, q2, q3, q4, fun _ => trivial, fun _ => trivial, fun _ => trivial, fun _ => rfl, fun _ => trivial, q11⟩
      · obtain rfl := Option.some.inj ho
        clear hall ho
        refine wpOp_step rfl (fun K hK => ?_)
        go_simp
        exact hK _ _ ⟨_, _, _, _, _, _, _, _, _, _, _, rfl, hS.a10 hf id, q0, q1, q2, q3, q4, fun _ => trivial, fun _ => trivial, fun _ => trivial, q8, fun _ => trivial, q11⟩
      · obtain rfl := Option.some.inj ho
        have e9 : fL 9 = true := hall ⟨9, .data⟩ (by simp) rfl
        have e7 : fL 7 = true := hall ⟨7, .data⟩ (by simp) rfl
        obtain ⟨e77, rfl⟩ := hS.d8 e7
        obtain ⟨e66, rfl⟩ := hS.d7 e77
        obtain ⟨C1, h1, C2, h2, C3, h3, rfl, _⟩ := hS.d6 e66
        obtain ⟨gq, rfl, _, _, hZ, _⟩ := hS.blk e9
        have hZ := hZ hf
        have y0 : v.cell? ⟨gq, 0, none⟩ = some (.int .i64 0) := hZ.cell 0
        have y1 : v.cell? ⟨gq, 1, none⟩ = some (.slice none 0 0) := hZ.cell 1
        have y2 : v.cell? ⟨gq, 2, none⟩ = some (.slice none 0 0) := hZ.cell 2
        have y3 : v.cell? ⟨gq, 3, none⟩ = some (.slice none 0 0) := hZ.cell 3
        have y4 : v.cell? ⟨gq, 4, none⟩ = some (.int .i64 0) := hZ.cell 4
        have y5 : v.cell? ⟨gq, 5, none⟩ = some (.int .i64 0) := hZ.cell 5
        have y6 : v.cell? ⟨gq, 6, none⟩ = some (.int .i64 0) := hZ.cell 6
        have yf0 := hZ.frozen 0
        have yf1 := hZ.frozen 1
        have yf2 := hZ.frozen 2
        have yf3 := hZ.frozen 3
        have yf4 := hZ.frozen 4
        have yf5 := hZ.frozen 5
        have yf6 := hZ.frozen 6
        rw [show fstV (R.tup C1 h1 C2 h2 C3 h3) = .agg #[.int .i64 R.L, .slice C1 R.l1.length h1, .slice C2 R.l2.length h2, .slice C3 R.l3.length h3, .int .i64 R.p, .int .i64 R.q, .int .i64 R.r] from rfl]
        clear hall ho
        refine wpOp_step rfl (fun K hK => ?_)
        go_simp
        exact hK _ _ ⟨_, _, _, _, _, _, _, _, _, _, _, rfl, hS.st hf e7 e9, q0, q1, q2, q3, q4, fun _ => trivial, fun _ => trivial, fun _ => trivial, q8, fun _ => trivial, q11⟩
      · obtain rfl := Option.some.inj ho
        obtain rfl := q8 (hall ⟨8, .data⟩ (by simp) rfl)
        clear hall ho
        refine wpOp_step rfl (fun K hK => ?_)
        go_simp
        exact hK _ _ ⟨_, _, _, _, _, _, _, _, _, _, _, rfl, hS, q0, q1, q2, q3, q4, fun _ => trivial, fun _ => trivial, fun _ => trivial, fun _ => rfl, fun _ => trivial, fun _ => rfl⟩
    · rintro fL bA v ⟨v38, v39, v40, v41, v42, v43, v37, v44, v45, v13, v14, rfl, hS, q0, q1, q2, q3, q4, q5, q6, q7, q8, q9, q11⟩ hall
      simp only [Act.put, List.setIfInBounds_toArray, List.set_cons_zero, List.set_cons_succ]
      simp only [List.length_cons, List.length_nil] at hall
      obtain rfl := q0 (hall 0 (by omega))
      obtain rfl := q1 (hall 1 (by omega))
      obtain rfl := q2 (hall 2 (by omega))
      obtain rfl := q3 (hall 3 (by omega))
      obtain rfl := q4 (hall 4 (by omega))
      have e5 : fL 5 = true := hall 5 (by omega)
      have e6 : fL 6 = true := hall 6 (by omega)
      have e7 : fL 7 = true := hall 7 (by omega)
      obtain rfl := q8 (hall 8 (by omega))
      have e9 : fL 9 = true := hall 9 (by omega)
      obtain rfl := q11 (hall 11 (by omega))
      have e10 : fL 10 = true := hall 10 (by omega)
      clear hall
      obtain ⟨gg, G1, g1, G2, g2, G3, g3, rfl, hgg, Bg, hag, og, hoff⟩ := hS.done e10
      have hW5 := hW4.trans (hS.hb.mono hW4.size)
      replace Xr := Xr.below hS.hb Xr.lt
      replace Xe := Xe.below hS.hb Xe.lt
      replace Bw := Bw.below hS.hb Bw.lt
      replace ow := ow.below hS.hb
      replace Bx := Bx.below hS.hb Bx.lt
      have ox1l := Lib.hid (own_ltS ox1)
      have ox2l := Lib.hid (own_ltS ox2)
      replace ox1 := ox1.below hS.hb
      replace ox2 := ox2.below hS.hb
      have hz5 := hS.hb.size
      replace hag := Lib.hid hag
      replace hoff := Lib.hid hoff
      clear hS hW4
      generalize w4.heap.size = N4 at *
      generalize v = w5 at *
      have heq := eqR_c R hR og ow
      replace heq := Lib.hid heq
      have gc0 : w5.cell? ⟨gg, 0, none⟩ = some (.int .i64 R.L) := Bg.cell 0
      have gc1 : w5.cell? ⟨gg, 1, none⟩ = some (.slice G1 R.l1.length g1) := Bg.cell 1
      have gc2 : w5.cell? ⟨gg, 2, none⟩ = some (.slice G2 R.l2.length g2) := Bg.cell 2
      have gc3 : w5.cell? ⟨gg, 3, none⟩ = some (.slice G3 R.l3.length g3) := Bg.cell 3
      have gc4 : w5.cell? ⟨gg, 4, none⟩ = some (.int .i64 R.p) := Bg.cell 4
      have gc5 : w5.cell? ⟨gg, 5, none⟩ = some (.int .i64 R.q) := Bg.cell 5
      have gc6 : w5.cell? ⟨gg, 6, none⟩ = some (.int .i64 R.r) := Bg.cell 6
      have wc0 : w5.cell? ⟨gw, 0, none⟩ = some (.int .i64 R.L) := Bw.cell 0
      have wc1 : w5.cell? ⟨gw, 1, none⟩ = some (.slice B1 R.l1.length d1) := Bw.cell 1
      have wc2 : w5.cell? ⟨gw, 2, none⟩ = some (.slice B2 R.l2.length d2) := Bw.cell 2
      have wc3 : w5.cell? ⟨gw, 3, none⟩ = some (.slice B3 R.l3.length d3) := Bw.cell 3
      have wc4 : w5.cell? ⟨gw, 4, none⟩ = some (.int .i64 R.p) := Bw.cell 4
      have wc5 : w5.cell? ⟨gw, 5, none⟩ = some (.int .i64 R.q) := Bw.cell 5
      have wc6 : w5.cell? ⟨gw, 6, none⟩ = some (.int .i64 R.r) := Bw.cell 6
      go_wp2_with fail
      refine Calls.mono heq.out ?_; rintro e w6 ⟨rfl, hb6⟩
      have hW6 := hW5.trans (hb6.mono hW5.size)
      replace Xr := Xr.below hb6 Xr.lt
      replace Xe := Xe.below hb6 Xe.lt
      replace Bw := Bw.below hb6 Bw.lt
      replace ow := ow.below hb6
      replace Bx := Bx.below hb6 Bx.lt
      replace ox1 := ox1.below hb6
      replace ox2 := ox2.below hb6
      replace Bg := Bg.below hb6 Bg.lt
      replace og := og.below hb6
      have hz6 := hb6.size
      clear heq gc0 gc1 gc2 gc3 gc4 gc5 gc6 wc0 wc1 wc2 wc3 wc4 wc5 wc6
      go_wp2_with fail
      refine wp_region_sink 4 (fun a0 fL bA v => ∃ v55 v56 v57 v58 : Value, bA = (((a0.put (some 55) v55).put (some 56) v56).put (some 57) v57).put (some 58) v58 ∧ (EqS w6 (fL 2) (RuQ L l1 l2) v57 v) ∧ (fL 0 = true → v55 = .agg #[.int .i64 L, .slice X1 l1.length x1, .slice X2 l2.length x2]) ∧ (fL 1 = true → v56 = .agg #[.int .i64 L, .slice A1 l1.length c1, .slice A2 l2.length c2]) ∧ (fL 2 = true → True) ∧ (fL 3 = true → v58 = .bool true)) (by kernel_rfl) (by decide +kernel) ?_ ?_ ?_
      · exact ⟨undef, undef, undef, undef, by simp only [Act.put, List.setIfInBounds_toArray, List.set_cons_zero, List.set_cons_succ], ⟨(Below.refl _ _).drew, nofun⟩, nofun, nofun, nofun, nofun⟩
      · rintro fL bA v ⟨v55, v56, v57, v58, rfl, hS, q0, q1, q2, q3⟩ i hi hf o ho hall
        simp only [Act.put, List.setIfInBounds_toArray, List.set_cons_zero, List.set_cons_succ]
        have hn : i = 0 ∨ i = 1 ∨ i = 2 ∨ i = 3 := by omega
        clear hi
        rcases hn with rfl | rfl | rfl | rfl
        · obtain rfl := Option.some.inj ho
          have F := Bx.below hS.hb Bx.lt
          have y0 : v.cell? ⟨gx, 0, none⟩ = some (.int .i64 L) := F.cell 0
          have y1 : v.cell? ⟨gx, 1, none⟩ = some (.slice X1 l1.length x1) := F.cell 1
          have y2 : v.cell? ⟨gx, 2, none⟩ = some (.slice X2 l2.length x2) := F.cell 2
          clear hall ho
          refine wpOp_step rfl (fun K hK => ?_)
          go_simp
          exact hK _ _ ⟨_, _, _, _, rfl, hS, fun _ => rfl, q1, fun _ => trivial, q3⟩
        · obtain rfl := Option.some.inj ho
          have F := Xr.below hS.hb Xr.lt
          have y0 : v.cell? ⟨w.heap.size, 0, none⟩ = some (.int .i64 L) := F.cell 0
          have y1 : v.cell? ⟨w.heap.size, 1, none⟩ = some (.slice A1 l1.length c1) := F.cell 1
          have y2 : v.cell? ⟨w.heap.size, 2, none⟩ = some (.slice A2 l2.length c2) := F.cell 2
          clear hall ho
          refine wpOp_step rfl (fun K hK => ?_)
          go_simp
          exact hK _ _ ⟨_, _, _, _, rfl, hS, q0, fun _ => rfl, fun _ => trivial, q3⟩
        · obtain rfl := Option.some.inj ho
          obtain rfl := q1 (hall ⟨1, .data⟩ (by simp) rfl)
          clear hall ho
          refine wpOp_step rfl (fun K hK => ?_)
          go_simp
          refine Calls.mono (HT.out v (hW6.trans (hS.hb.mono hW6.size))) ?_; rintro e w77 ⟨D1, f1, D2, f2, rfl, o1, o2, _, hb77⟩
          go_simp
          exact hK _ _ ⟨_, _, _, _, rfl, ⟨hS.hb.trans (hb77.mono hS.hb.size), fun _ => ⟨D1, f1, D2, f2, rfl, o1.le_cap, o2.le_cap, o1.sl, o2.sl⟩⟩, q0, fun _ => rfl, fun _ => trivial, q3⟩
        · obtain rfl := Option.some.inj ho
          obtain rfl := q0 (hall ⟨0, .data⟩ (by simp) rfl)
          have e2 : fL 2 = true := hall ⟨2, .data⟩ (by simp) rfl
          clear hall ho
          refine wpOp_step rfl (fun K hK => ?_)
          obtain ⟨D1, f1, D2, f2, rfl, m1, m2, t1, t2⟩ := hS.q e2
          unfold ruV
          go_simp
          refine Calls.mono (eqRule_c L X1 x1 D1 f1 l1 X2 x2 D2 f2 l2 v h1 h2 (ox1.below hS.hb).sl t1 (ox2.below hS.hb).sl t2) ?_; rintro e w77 ⟨rfl, hb77⟩
          go_simp
          exact hK _ _ ⟨_, _, _, _, rfl, ⟨hS.hb.trans (hb77.mono hS.hb.size), fun e => (hS.q e).below hb77⟩, fun _ => rfl, q1, fun _ => trivial, fun _ => rfl⟩
      · rintro fL bA v ⟨v55, v56, v57, v58, rfl, hS, q0, q1, q2, q3⟩ hall
        simp only [Act.put, List.setIfInBounds_toArray, List.set_cons_zero, List.set_cons_succ]
        obtain rfl := q0 (hall 0 (by omega))
        obtain rfl := q1 (hall 1 (by omega))
        have e2 : fL 2 = true := hall 2 (by omega)
        obtain rfl := q3 (hall 3 (by omega))
        clear hall
        simp only [List.drop_succ_cons, List.drop_zero]
        have hb7 := hS.hb
        clear hS
        generalize v = w7 at *
        have hW7 := hW6.trans (hb7.mono hW6.size)
        replace Xr := Xr.below hb7 Xr.lt
        replace Xe := Xe.below hb7 Xe.lt
        replace Bw := Bw.below hb7 Bw.lt
        replace ow := ow.below hb7
        replace Bx := Bx.below hb7 Bx.lt
        replace ox1 := ox1.below hb7
        replace ox2 := ox2.below hb7
        replace Bg := Bg.below hb7 Bg.lt
        replace og := og.below hb7
        have hM := markRule_c L X1 x1 (l1.map ic) X2 x2 (l2.map ic) N2 1 w7 (by omega) (by simp; omega) (by simp; omega) (by simpa using ox1) (by simpa using ox2) (by simpa using hax)
        simp only [List.length_map] at hM
        replace hM := Lib.hid hM
        have hbad : ∀ k, (some k = (Value.slice X1 l1.length x1).ownBlock ∨ some k = (Value.slice X2 l2.length x2).ownBlock) → N2 ≤ k ∧ k < N4 := fun k hk => by
          rcases hk with hk | hk
          · exact ⟨ox1.ownGe k hk.symm, ox1l.out k hk.symm⟩
          · exact ⟨ox2.ownGe k hk.symm, ox2l.out k hk.symm⟩
        replace hbad := Lib.hid hbad
        have y0 : w7.cell? ⟨gx, 0, none⟩ = some (.int .i64 L) := Bx.cell 0
        have y1 : w7.cell? ⟨gx, 1, none⟩ = some (.slice X1 l1.length x1) := Bx.cell 1
        have y2 : w7.cell? ⟨gx, 2, none⟩ = some (.slice X2 l2.length x2) := Bx.cell 2
        go_wp2_with fail
        refine Calls.mono hM.out ?_; rintro e w8 ⟨rfl, _, _, wb, hg1, hg2⟩
        have hk8 : Kb (fun k => some k = (Value.slice X1 l1.length x1).ownBlock ∨ some k = (Value.slice X2 l2.length x2).ownBlock) w7 w8 := (Kb.of_grown hg1 fun k e => .inl e).trans (Kb.of_grown hg2 fun k e => .inr e)
        have hbn : ∀ k, (k < N2 ∨ N4 ≤ k) → ¬ (some k = (Value.slice X1 l1.length x1).ownBlock ∨ some k = (Value.slice X2 l2.length x2).ownBlock) := fun k hk hb => by have := hbad.out k hb; omega
        have hsz8 := hk8.size
        have hW8 := below_kb hW7 hk8 hW7.size (fun k hk => hbn k (.inl (by omega)))
        replace Xr := Xr.kb hk8 (hbn _ (.inl (by omega)))
        replace Xe := Xe.kb hk8 (hbn _ (.inl (by omega)))
        replace Bw := Bw.kb hk8 (hbn _ (.inl (by omega)))
        replace ow : Own3 w8 w1.heap.size R B1 d1 B2 d2 B3 d3 := ⟨ow.o1.kb hk8 fun x hx => hbn x (.inl (owl.out x ⟨_, .inl rfl, hx⟩)), ow.o2.kb hk8 fun x hx => hbn x (.inl (owl.out x ⟨_, .inr (.inl rfl), hx⟩)), ow.o3.kb hk8 fun x hx => hbn x (.inl (owl.out x ⟨_, .inr (.inr rfl), hx⟩))⟩
        replace Bg := Bg.kb hk8 (hbn _ (.inr (by omega)))
        replace og := og.kb hk8 (fun x hx _ => hbn x (.inr (by omega)))
        have hkn : ¬ (1 : Int) + (l1.length : Int) + (l2.length : Int) < 0 := by omega
        clear y0 y1 y2 hM hbad hg1 hg2 hk8 hbn hW7 ox1 ox2 ox1l ox2l Bx hax
        have heq := Lib.hid (eqR_c R hR og ow)
        have gc0 : w8.cell? ⟨gg, 0, none⟩ = some (.int .i64 R.L) := Bg.cell 0
        have gc1 : w8.cell? ⟨gg, 1, none⟩ = some (.slice G1 R.l1.length g1) := Bg.cell 1
        have gc2 : w8.cell? ⟨gg, 2, none⟩ = some (.slice G2 R.l2.length g2) := Bg.cell 2
        have gc3 : w8.cell? ⟨gg, 3, none⟩ = some (.slice G3 R.l3.length g3) := Bg.cell 3
        have gc4 : w8.cell? ⟨gg, 4, none⟩ = some (.int .i64 R.p) := Bg.cell 4
        have gc5 : w8.cell? ⟨gg, 5, none⟩ = some (.int .i64 R.q) := Bg.cell 5
        have gc6 : w8.cell? ⟨gg, 6, none⟩ = some (.int .i64 R.r) := Bg.cell 6
        have wc0 : w8.cell? ⟨gw, 0, none⟩ = some (.int .i64 R.L) := Bw.cell 0
        have wc1 : w8.cell? ⟨gw, 1, none⟩ = some (.slice B1 R.l1.length d1) := Bw.cell 1
        have wc2 : w8.cell? ⟨gw, 2, none⟩ = some (.slice B2 R.l2.length d2) := Bw.cell 2
        have wc3 : w8.cell? ⟨gw, 3, none⟩ = some (.slice B3 R.l3.length d3) := Bw.cell 3
        have wc4 : w8.cell? ⟨gw, 4, none⟩ = some (.int .i64 R.p) := Bw.cell 4
        have wc5 : w8.cell? ⟨gw, 5, none⟩ = some (.int .i64 R.q) := Bw.cell 5
        have wc6 : w8.cell? ⟨gw, 6, none⟩ = some (.int .i64 R.r) := Bw.cell 6
        go_wp2_with fail
        refine Calls.mono heq.out ?_; rintro e w9 ⟨rfl, hb9⟩
        have hW9 := hW8.trans (hb9.mono hW8.size)
        replace Xr := Xr.below hb9 Xr.lt
        replace Xe := Xe.below hb9 Xe.lt
        replace Bw := Bw.below hb9 Bw.lt
        replace ow := ow.below hb9
        replace Bg := Bg.below hb9 Bg.lt
        replace og := og.below hb9
        clear heq hb9 gc0 gc1 gc2 gc3 gc4 gc5 gc6 wc0 wc1 wc2 wc3 wc4 wc5 wc6
        have gc0 : w9.cell? ⟨gg, 0, none⟩ = some (.int .i64 R.L) := Bg.cell 0
        have gc1 : w9.cell? ⟨gg, 1, none⟩ = some (.slice G1 R.l1.length g1) := Bg.cell 1
        have gc2 : w9.cell? ⟨gg, 2, none⟩ = some (.slice G2 R.l2.length g2) := Bg.cell 2
        have gc3 : w9.cell? ⟨gg, 3, none⟩ = some (.slice G3 R.l3.length g3) := Bg.cell 3
        have gc4 : w9.cell? ⟨gg, 4, none⟩ = some (.int .i64 R.p) := Bg.cell 4
        have gc5 : w9.cell? ⟨gg, 5, none⟩ = some (.int .i64 R.q) := Bg.cell 5
        have gc6 : w9.cell? ⟨gg, 6, none⟩ = some (.int .i64 R.r) := Bg.cell 6
        have hM := markExercise_c R.L G1 g1 (R.l1.map ic) G2 g2 (R.l2.map ic) G3 g3 (R.l3.map Term.cells) R.p R.q R.r N4 1 w9 (by omega) (by simp; omega) (by simp; omega) (by simp; omega) (by simpa using og.o1) (by simpa using og.o2) (by simpa using og.o3) (by simpa using hag.out.1) (by simpa using hag.out.2.1) (by simpa using hag.out.2.2)
        simp only [List.length_map] at hM
        replace hM := Lib.hid hM
        have hbad : ∀ k, (some k = (Value.slice G1 R.l1.length g1).ownBlock ∨ some k = (Value.slice G2 R.l2.length g2).ownBlock ∨ some k = (Value.slice G3 R.l3.length g3).ownBlock) → N4 ≤ k := fun k hk => by
          rcases hk with hk | hk | hk
          · exact og.o1.ownGe k hk.symm
          · exact og.o2.ownGe k hk.symm
          · exact og.o3.ownGe k hk.symm
        replace hbad := Lib.hid hbad
        go_wp2_with fail
        refine Calls.mono hM.out ?_; rintro e wa ⟨rfl, mq1, mq2, mq3, wb, wc, hg1, hg2, hg3⟩
        have hka : Kb (fun k => some k = (Value.slice G1 R.l1.length g1).ownBlock ∨ some k = (Value.slice G2 R.l2.length g2).ownBlock ∨ some k = (Value.slice G3 R.l3.length g3).ownBlock) w9 wa := ((Kb.of_grown hg1 fun k e => .inl e).trans (Kb.of_grown hg2 fun k e => .inr (.inl e))).trans (Kb.of_grown hg3 fun k e => .inr (.inr e))
        have hbn : ∀ k, k < N4 → ¬ (some k = (Value.slice G1 R.l1.length g1).ownBlock ∨ some k = (Value.slice G2 R.l2.length g2).ownBlock ∨ some k = (Value.slice G3 R.l3.length g3).ownBlock) := fun k hk hb => by have := hbad.out k hb; omega
        have hWa := below_kb hW9 hka hW9.size (fun k hk => hbn k (by omega))
        replace Xr := Xr.kb hka (hbn _ (by omega))
        replace Xe := Xe.kb hka (hbn _ (by omega))
        replace Bw := Bw.kb hka (hbn _ (by omega))
        replace ow : Own3 wa w1.heap.size R B1 d1 B2 d2 B3 d3 := ⟨ow.o1.kb hka fun x hx => hbn x (by have := owl.out x ⟨_, .inl rfl, hx⟩; omega), ow.o2.kb hka fun x hx => hbn x (by have := owl.out x ⟨_, .inr (.inl rfl), hx⟩; omega), ow.o3.kb hka fun x hx => hbn x (by have := owl.out x ⟨_, .inr (.inr rfl), hx⟩; omega)⟩
        replace Bg := Bg.kb hka (fun h => by rcases h with h | h | h <;> first | exact hoff.out.1 h.symm | exact hoff.out.2.1 h.symm | exact hoff.out.2.2 h.symm)
        clear gc0 gc1 gc2 gc3 gc4 gc5 gc6 hM hbad hg1 hg2 hg3 hka hbn hW9 og
        have hH := heldExercise_c R.L G1 R.l1.length g1 G2 R.l2.length g2 G3 R.l3.length g3 R.p R.q R.r 1 wa (by omega) (by omega) (by omega) (by omega) mq1.sl mq2.sl mq3.sl
        replace hH := Lib.hid hH
        have hx1 : ¬ (1 : Int) + (R.l1.length : Int) + (R.l2.length : Int) + 3 * (R.l3.length : Int) < 0 := by omega
        have gc0 : wa.cell? ⟨gg, 0, none⟩ = some (.int .i64 R.L) := Bg.cell 0
        have gc1 : wa.cell? ⟨gg, 1, none⟩ = some (.slice G1 R.l1.length g1) := Bg.cell 1
        have gc2 : wa.cell? ⟨gg, 2, none⟩ = some (.slice G2 R.l2.length g2) := Bg.cell 2
        have gc3 : wa.cell? ⟨gg, 3, none⟩ = some (.slice G3 R.l3.length g3) := Bg.cell 3
        have gc4 : wa.cell? ⟨gg, 4, none⟩ = some (.int .i64 R.p) := Bg.cell 4
        have gc5 : wa.cell? ⟨gg, 5, none⟩ = some (.int .i64 R.q) := Bg.cell 5
        have gc6 : wa.cell? ⟨gg, 6, none⟩ = some (.int .i64 R.r) := Bg.cell 6
        go_wp2_with fail
        refine Calls.mono hH.out ?_; rintro e wd ⟨rfl, hbd⟩
        have hWd := hWa.trans (hbd.mono hWa.size)
        replace Xr := Xr.below hbd Xr.lt
        replace Xe := Xe.below hbd Xe.lt
        replace Bw := Bw.below hbd Bw.lt
        replace ow := ow.below hbd
        replace Bg := Bg.below hbd Bg.lt
        replace mq1 := mq1.below hbd
        replace mq2 := mq2.below hbd
        replace mq3 := mq3.below hbd
        clear gc0 gc1 gc2 gc3 gc4 gc5 gc6 hH hbd hWa
        go_wp2_with fail
        refine wp_region_all (fun a0 fL bA v => ∃ v88 v89 v90 v91 v92 v93 v94 v87 v95 v96 v18 v19 : Value, bA = (((((((((((a0.put (some 88) v88).put (some 89) v89).put (some 90) v90).put (some 91) v91).put (some 92) v92).put (some 93) v93).put (some 94) v94).put (some 87) v87).put (some 95) v95).put (some 96) v96).put (some 18) v18).put (some 19) v19 ∧ (RmS wd R AP3 (RuQ L l1 l2) (fL 3) (fL 6) (fL 7) (fL 8) (fL 10) (fL 11) v91 v94 v87 v95 v18 v) ∧ (fL 0 = true → v88 = .int .i64 seed) ∧ (fL 1 = true → v89 = .int .i64 terms) ∧ (fL 2 = true → v90 = .agg #[.int .i64 L, .slice A1 l1.length c1, .slice A2 l2.length c2]) ∧ (fL 3 = true → True) ∧ (fL 4 = true → v92 = .agg #[.int .i64 p, .int .i64 q, .int .i64 r]) ∧ (fL 5 = true → v93 = .agg #[.int .i64 p, .int .i64 q, .int .i64 r]) ∧ (fL 6 = true → True) ∧ (fL 7 = true → True) ∧ (fL 8 = true → True) ∧ (fL 9 = true → v96 = .int .i64 R.code) ∧ (fL 10 = true → True) ∧ (fL 12 = true → v19 = .int .i64 R.code)) (by kernel_rfl) (by decide +kernel) ?_ ?_ ?_
        · exact ⟨undef, undef, undef, undef, undef, undef, undef, undef, undef, undef, undef, undef, by simp only [Act.put, List.setIfInBounds_toArray, List.set_cons_zero, List.set_cons_succ], RmS.init, nofun, nofun, nofun, nofun, nofun, nofun, nofun, nofun, nofun, nofun, nofun, nofun⟩
        · rintro fL bA v ⟨v88, v89, v90, v91, v92, v93, v94, v87, v95, v96, v18, v19, rfl, hS, q0, q1, q2, q3, q4, q5, q6, q7, q8, q9, q10, q12⟩ i hi hf o ho hall
          simp only [Act.put, List.setIfInBounds_toArray, List.set_cons_zero, List.set_cons_succ]
          simp only [List.length_cons, List.length_nil] at hi
          have hn : i = 0 ∨ i = 1 ∨ i = 2 ∨ i = 3 ∨ i = 4 ∨ i = 5 ∨ i = 6 ∨ i = 7 ∨ i = 8 ∨ i = 9 ∨ i = 10 ∨ i = 11 ∨ i = 12 := by omega
          clear hi
          rcases hn with rfl | rfl | rfl | rfl | rfl | rfl | rfl | rfl | rfl | rfl | rfl | rfl | rfl
          · obtain rfl := Option.some.inj ho
            clear hall ho
            refine wpOp_step rfl (fun K hK => ?_)
            go_simp
            exact hK _ _ ⟨_, _, _, _, _, _, _, _, _, _, _, _, rfl, hS, fun _ => rfl, q1, q2, fun _ => trivial, q4, q5, fun _ => trivial, fun _ => trivial, fun _ => trivial, q9, fun _ => trivial, q12⟩
          · obtain rfl := Option.some.inj ho
            clear hall ho
            refine wpOp_step rfl (fun K hK => ?_)
            go_simp
            exact hK _ _ ⟨_, _, _, _, _, _, _, _, _, _, _, _, rfl, hS, q0, fun _ => rfl, q2, fun _ => trivial, q4, q5, fun _ => trivial, fun _ => trivial, fun _ => trivial, q9, fun _ => trivial, q12⟩
          · obtain rfl := Option.some.inj ho
            have F := Xr.below hS.hb Xr.lt
            have y0 : v.cell? ⟨w.heap.size, 0, none⟩ = some (.int .i64 L) := F.cell 0
            have y1 : v.cell? ⟨w.heap.size, 1, none⟩ = some (.slice A1 l1.length c1) := F.cell 1
            have y2 : v.cell? ⟨w.heap.size, 2, none⟩ = some (.slice A2 l2.length c2) := F.cell 2
            clear hall ho
            refine wpOp_step rfl (fun K hK => ?_)
            go_simp
            exact hK _ _ ⟨_, _, _, _, _, _, _, _, _, _, _, _, rfl, hS, q0, q1, fun _ => rfl, fun _ => trivial, q4, q5, fun _ => trivial, fun _ => trivial, fun _ => trivial, q9, fun _ => trivial, q12⟩
          · obtain rfl := Option.some.inj ho
            obtain rfl := q2 (hall ⟨2, .data⟩ (by simp) rfl)
            clear hall ho
            refine wpOp_step rfl (fun K hK => ?_)
            go_simp
            refine Calls.mono (HT.out v (hWd.trans (hS.hb.mono hWd.size))) ?_; rintro e w77 ⟨D1, f1, D2, f2, rfl, o1, o2, _, hb77⟩
            go_simp
            exact hK _ _ ⟨_, _, _, _, _, _, _, _, _, _, _, _, rfl, hS.c3 ⟨D1, f1, D2, f2, rfl, o1.le_cap, o2.le_cap, o1.sl, o2.sl⟩ hb77, q0, q1, fun _ => rfl, fun _ => trivial, q4, q5, fun _ => trivial, fun _ => trivial, fun _ => trivial, q9, fun _ => trivial, q12⟩
          · obtain rfl := Option.some.inj ho
            have F := Xe.below hS.hb Xe.lt
            have y0 : v.cell? ⟨w.heap.size + 1, 0, none⟩ = some (.int .i64 p) := F.cell 0
            have y1 : v.cell? ⟨w.heap.size + 1, 1, none⟩ = some (.int .i64 q) := F.cell 1
            have y2 : v.cell? ⟨w.heap.size + 1, 2, none⟩ = some (.int .i64 r) := F.cell 2
            clear hall ho
            refine wpOp_step rfl (fun K hK => ?_)
            go_simp
            exact hK _ _ ⟨_, _, _, _, _, _, _, _, _, _, _, _, rfl, hS, q0, q1, q2, fun _ => trivial, fun _ => rfl, q5, fun _ => trivial, fun _ => trivial, fun _ => trivial, q9, fun _ => trivial, q12⟩
          · obtain rfl := Option.some.inj ho
            obtain rfl := q4 (hall ⟨4, .data⟩ (by simp) rfl)
            clear hall ho
            refine wpOp_step rfl (fun K hK => ?_)
            go_simp
            refine Calls.mono (HE.out v) ?_; rintro e w1 ⟨rfl, hb1⟩
            go_simp
            exact hK _ _ ⟨_, _, _, _, _, _, _, _, _, _, _, _, rfl, hS.below (fun h => h.below hb1) hb1, q0, q1, q2, fun _ => trivial, fun _ => rfl, fun _ => rfl, fun _ => trivial, fun _ => trivial, fun _ => trivial, q9, fun _ => trivial, q12⟩
          · obtain rfl := Option.some.inj ho
            obtain rfl := q0 (hall ⟨0, .data⟩ (by simp) rfl)
            obtain rfl := q1 (hall ⟨1, .data⟩ (by simp) rfl)
            have e3 : fL 3 = true := hall ⟨3, .data⟩ (by simp) rfl
            obtain rfl := q5 (hall ⟨5, .data⟩ (by simp) rfl)
            clear hall ho
            refine wpOp_step rfl (fun K hK => ?_)
            obtain ⟨D1, f1, D2, f2, rfl, m1, m2, t1, t2⟩ := hS.q3 e3 hf
            unfold ruV
            go_simp
            refine Calls.mono (HIm.out D1 f1 D2 f2 v m1 m2 t1 t2) ?_; rintro e w77 ⟨C1, h1, C2, h2, C3, h3, rfl, ho, ha, hb77⟩
            go_simp
            exact hK _ _ ⟨_, _, _, _, _, _, _, _, _, _, _, _, rfl, hS.c6 hf ho ha hb77, fun _ => rfl, fun _ => rfl, q2, fun _ => trivial, q4, fun _ => rfl, fun _ => trivial, fun _ => trivial, fun _ => trivial, q9, fun _ => trivial, q12⟩
          · obtain rfl := Option.some.inj ho
            have e6 : fL 6 = true := hall ⟨6, .data⟩ (by simp) rfl
            clear hall ho
            refine wpOp_step rfl (fun K hK => ?_)
            go_simp
            exact hK _ _ ⟨_, _, _, _, _, _, _, _, _, _, _, _, rfl, hS.s7 hf e6, q0, q1, q2, fun _ => trivial, q4, q5, fun _ => trivial, fun _ => trivial, fun _ => trivial, q9, fun _ => trivial, q12⟩
          · obtain rfl := Option.some.inj ho
            have e7 : fL 7 = true := hall ⟨7, .data⟩ (by simp) rfl
            obtain ⟨e66, rfl⟩ := hS.d7 e7
            obtain ⟨C1, h1, C2, h2, C3, h3, rfl, _⟩ := hS.d6 e66
            rw [show R.tup C1 h1 C2 h2 C3 h3 = .tuple #[.agg (R.ex C1 h1 C2 h2 C3 h3), .int .i64 R.code] from rfl]
            clear hall ho
            refine wpOp_step rfl (fun K hK => ?_)
            go_simp
            exact hK _ _ ⟨_, _, _, _, _, _, _, _, _, _, _, _, rfl, hS.s8 hf e7, q0, q1, q2, fun _ => trivial, q4, q5, fun _ => trivial, fun _ => trivial, fun _ => trivial, q9, fun _ => trivial, q12⟩
          · obtain rfl := Option.some.inj ho
            have e7 : fL 7 = true := hall ⟨7, .data⟩ (by simp) rfl
            obtain ⟨e66, rfl⟩ := hS.d7 e7
            obtain ⟨C1, h1, C2, h2, C3, h3, rfl, _⟩ := hS.d6 e66
            rw [show R.tup C1 h1 C2 h2 C3 h3 = .tuple #[.agg (R.ex C1 h1 C2 h2 C3 h3), .int .i64 R.code] from rfl]
            clear hall ho
            refine wpOp_step rfl (fun K hK => ?_)
            go_simp
            exact hK _ _ ⟨_, _, _, _, _, _, _, _, _, _, _, _, rfl, hS, q0, q1, q2, fun _ => trivial, q4, q5, fun _ => trivial, fun _ => trivial, fun _ => trivial, fun _ => rfl, fun _ => trivial, q12⟩
          · obtain rfl := Option.some.inj ho
            clear hall ho
            refine wpOp_step rfl (fun K hK => ?_)
            go_simp
            exact hK _ _ ⟨_, _, _, _, _, _, _, _, _, _, _, _, rfl, hS.a10 hf (fun h => h.below ((Below.refl _ _).alloc (Nat.le_refl _) _)), q0, q1, q2, fun _ => trivial, q4, q5, fun _ => trivial, fun _ => trivial, fun _ => trivial, q9, fun _ => trivial, q12⟩
          · obtain rfl := Option.some.inj ho
            have e10 : fL 10 = true := hall ⟨10, .data⟩ (by simp) rfl
            have e8 : fL 8 = true := hall ⟨8, .data⟩ (by simp) rfl
            obtain ⟨e77, rfl⟩ := hS.d8 e8
            obtain ⟨e66, rfl⟩ := hS.d7 e77
            obtain ⟨C1, h1, C2, h2, C3, h3, rfl, _⟩ := hS.d6 e66
            obtain ⟨gq, rfl, _, _, hZ, _⟩ := hS.blk e10
            have hZ := hZ hf
            have y0 : v.cell? ⟨gq, 0, none⟩ = some (.int .i64 0) := hZ.cell 0
            have y1 : v.cell? ⟨gq, 1, none⟩ = some (.slice none 0 0) := hZ.cell 1
            have y2 : v.cell? ⟨gq, 2, none⟩ = some (.slice none 0 0) := hZ.cell 2
            have y3 : v.cell? ⟨gq, 3, none⟩ = some (.slice none 0 0) := hZ.cell 3
            have y4 : v.cell? ⟨gq, 4, none⟩ = some (.int .i64 0) := hZ.cell 4
            have y5 : v.cell? ⟨gq, 5, none⟩ = some (.int .i64 0) := hZ.cell 5
            have y6 : v.cell? ⟨gq, 6, none⟩ = some (.int .i64 0) := hZ.cell 6
            have yf0 := hZ.frozen 0
            have yf1 := hZ.frozen 1
            have yf2 := hZ.frozen 2
            have yf3 := hZ.frozen 3
            have yf4 := hZ.frozen 4
            have yf5 := hZ.frozen 5
            have yf6 := hZ.frozen 6
            rw [show fstV (R.tup C1 h1 C2 h2 C3 h3) = .agg #[.int .i64 R.L, .slice C1 R.l1.length h1, .slice C2 R.l2.length h2, .slice C3 R.l3.length h3, .int .i64 R.p, .int .i64 R.q, .int .i64 R.r] from rfl]
            clear hall ho
            refine wpOp_step rfl (fun K hK => ?_)
            go_simp
            exact hK _ _ ⟨_, _, _, _, _, _, _, _, _, _, _, _, rfl, hS.st hf e8 e10, q0, q1, q2, fun _ => trivial, q4, q5, fun _ => trivial, fun _ => trivial, fun _ => trivial, q9, fun _ => trivial, q12⟩
          · obtain rfl := Option.some.inj ho
            obtain rfl := q9 (hall ⟨9, .data⟩ (by simp) rfl)
            clear hall ho
            refine wpOp_step rfl (fun K hK => ?_)
            go_simp
            exact hK _ _ ⟨_, _, _, _, _, _, _, _, _, _, _, _, rfl, hS, q0, q1, q2, fun _ => trivial, q4, q5, fun _ => trivial, fun _ => trivial, fun _ => trivial, fun _ => rfl, fun _ => trivial, fun _ => rfl⟩
        · rintro fL bA v ⟨v88, v89, v90, v91, v92, v93, v94, v87, v95, v96, v18, v19, rfl, hS, q0, q1, q2, q3, q4, q5, q6, q7, q8, q9, q10, q12⟩ hall
          simp only [Act.put, List.setIfInBounds_toArray, List.set_cons_zero, List.set_cons_succ]
          simp only [List.length_cons, List.length_nil] at hall
          obtain rfl := q0 (hall 0 (by omega))
          obtain rfl := q1 (hall 1 (by omega))
          obtain rfl := q2 (hall 2 (by omega))
          have e3 : fL 3 = true := hall 3 (by omega)
          obtain rfl := q4 (hall 4 (by omega))
          obtain rfl := q5 (hall 5 (by omega))
          have e6 : fL 6 = true := hall 6 (by omega)
          have e7 : fL 7 = true := hall 7 (by omega)
          have e8 : fL 8 = true := hall 8 (by omega)
          obtain rfl := q9 (hall 9 (by omega))
          have e10 : fL 10 = true := hall 10 (by omega)
          obtain rfl := q12 (hall 12 (by omega))
          have e11 : fL 11 = true := hall 11 (by omega)
          clear hall
          obtain ⟨gh, H1, h1', H2, h2', H3, h3', rfl, _, Bh, _, oh, _⟩ := hS.done e11
          have hbv := hS.hb
          clear hS
          generalize v = ve at *
          have hWe := hWd.trans (hbv.mono hWd.size)
          replace Bw := Bw.below hbv Bw.lt
          replace ow := ow.below hbv
          replace Bg := Bg.below hbv Bg.lt
          replace mq1 := mq1.below hbv
          replace mq2 := mq2.below hbv
          replace mq3 := mq3.below hbv
          have heq := Lib.hid (eqR_c R hR oh ow)
          have hc0 : ve.cell? ⟨gh, 0, none⟩ = some (.int .i64 R.L) := Bh.cell 0
          have hc1 : ve.cell? ⟨gh, 1, none⟩ = some (.slice H1 R.l1.length h1') := Bh.cell 1
          have hc2 : ve.cell? ⟨gh, 2, none⟩ = some (.slice H2 R.l2.length h2') := Bh.cell 2
          have hc3 : ve.cell? ⟨gh, 3, none⟩ = some (.slice H3 R.l3.length h3') := Bh.cell 3
          have hc4 : ve.cell? ⟨gh, 4, none⟩ = some (.int .i64 R.p) := Bh.cell 4
          have hc5 : ve.cell? ⟨gh, 5, none⟩ = some (.int .i64 R.q) := Bh.cell 5
          have hc6 : ve.cell? ⟨gh, 6, none⟩ = some (.int .i64 R.r) := Bh.cell 6
          have wc0 : ve.cell? ⟨gw, 0, none⟩ = some (.int .i64 R.L) := Bw.cell 0
          have wc1 : ve.cell? ⟨gw, 1, none⟩ = some (.slice B1 R.l1.length d1) := Bw.cell 1
          have wc2 : ve.cell? ⟨gw, 2, none⟩ = some (.slice B2 R.l2.length d2) := Bw.cell 2
          have wc3 : ve.cell? ⟨gw, 3, none⟩ = some (.slice B3 R.l3.length d3) := Bw.cell 3
          have wc4 : ve.cell? ⟨gw, 4, none⟩ = some (.int .i64 R.p) := Bw.cell 4
          have wc5 : ve.cell? ⟨gw, 5, none⟩ = some (.int .i64 R.q) := Bw.cell 5
          have wc6 : ve.cell? ⟨gw, 6, none⟩ = some (.int .i64 R.r) := Bw.cell 6
          go_wp2_with fail
          refine Calls.mono heq.out ?_; rintro e vf ⟨rfl, hbf⟩
          have hWf := hWe.trans (hbf.mono hWe.size)
          replace Bg := Bg.below hbf Bg.lt
          replace mq1 := mq1.below hbf
          replace mq2 := mq2.below hbf
          replace mq3 := mq3.below hbf
          clear heq hbf hc0 hc1 hc2 hc3 hc4 hc5 hc6 wc0 wc1 wc2 wc3 wc4 wc5 wc6
          have hH := heldExercise_c R.L G1 R.l1.length g1 G2 R.l2.length g2 G3 R.l3.length g3 R.p R.q R.r 1 vf (by omega) (by omega) (by omega) (by omega) mq1.sl mq2.sl mq3.sl
          replace hH := Lib.hid hH
          have gc0 : vf.cell? ⟨gg, 0, none⟩ = some (.int .i64 R.L) := Bg.cell 0
          have gc1 : vf.cell? ⟨gg, 1, none⟩ = some (.slice G1 R.l1.length g1) := Bg.cell 1
          have gc2 : vf.cell? ⟨gg, 2, none⟩ = some (.slice G2 R.l2.length g2) := Bg.cell 2
          have gc3 : vf.cell? ⟨gg, 3, none⟩ = some (.slice G3 R.l3.length g3) := Bg.cell 3
          have gc4 : vf.cell? ⟨gg, 4, none⟩ = some (.int .i64 R.p) := Bg.cell 4
          have gc5 : vf.cell? ⟨gg, 5, none⟩ = some (.int .i64 R.q) := Bg.cell 5
          have gc6 : vf.cell? ⟨gg, 6, none⟩ = some (.int .i64 R.r) := Bg.cell 6
          go_wp2_with fail
          refine Calls.mono hH.out ?_; rintro e vg ⟨rfl, hbg⟩
          have hWg := hWf.trans (hbg.mono hWf.size)
          go_wp2
          go_ret
          exact ⟨rfl, (by repeat (first | with_reducible exact hWg | with_reducible apply below_drewN' | with_reducible apply Below.drew | (with_reducible refine Below.alloc ?_ (by first | omega | (simp; omega) | simp) _) | (with_reducible refine Below.setCell ?_ (by first | omega | (simp; omega) | simp) _) | exact hWg))⟩
end Go.Proofs.YtgkobjpoeajkdaaGreat
