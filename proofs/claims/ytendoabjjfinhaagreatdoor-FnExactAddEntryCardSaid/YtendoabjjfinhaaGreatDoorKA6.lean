/- The points of a list of figures on a chart's scale: the reference's. Conditions: the chart and the figures are valid. Whether a release is valid: the program's and the reference's. Conditions: the lengths. slices.Clone and the reference's copy at []int64. Loads of whole structs by their range of cells: one step, where the walk's own load takes a step a cell. No condition. -/
import Derived.Lib.SliceRun
import Derived.Deep.MidRow
import Derived.Test.YtendoabjjfinhaaGreatDoorKA1
import Derived.Test.YtendoabjjfinhaaGreatDoorKA3
import Derived.Test.YtendoabjjfinhaaGreatDoorKA5
set_option linter.unusedSimpArgs false
namespace Go.Proofs.YtendoabjjfinhaaGreatDoor
open Go.RowKit
/-- while 'p, bad := ChartPoint(c, scale, list[i])' runs; the point's box is made at any time -/
structure ScS (V : World) (T : TypeId) (b10 b11 : Bool) (x y : Int) (v12 : Value) (v : World) : Prop where
  hb : Below V.heap.size V v
  k : b11 = true → b10 = true
  q0 : b10 = true → b11 = false → ∃ g, v12 = .pointer (some ⟨g, 0, none⟩) ∧ V.heap.size ≤ g ∧ Blk v g T #[.int .i64 0, .int .i64 0]
  q1 : b11 = true → ∃ g, v12 = .pointer (some ⟨g, 0, none⟩) ∧ V.heap.size ≤ g ∧ Blk v g T #[.int .i64 x, .int .i64 y]
section
variable {V v v' : World} {T : TypeId} {b10 b11 : Bool} {x y : Int} {v12 : Value}
theorem ScS.init : ScS V T false false x y v12 V.drew := ⟨(Below.refl _ _).drew, nofun, nofun, nofun⟩
theorem ScS.below (h : ScS V T b10 b11 x y v12 v) (hb : Below v.heap.size v v') : ScS V T b10 b11 x y v12 v' :=
  ⟨h.hb.trans (hb.mono h.hb.size), h.k, fun e f => let ⟨g, h1, h2, h3⟩ := h.q0 e f; ⟨g, h1, h2, h3.below hb h3.lt⟩, fun e => let ⟨g, h1, h2, h3⟩ := h.q1 e; ⟨g, h1, h2, h3.below hb h3.lt⟩⟩
theorem ScS.new (h : ScS V T b10 b11 x y v12 v) (h0 : b10 = false) : ScS V T true b11 x y (.pointer (some ⟨v.heap.size, 0, none⟩)) (v.alloc (.cells #[.int .i64 0, .int .i64 0] T)) :=
  ⟨h.hb.alloc h.hb.size _, fun _ => rfl, fun _ _ => ⟨_, rfl, h.hb.size, Blk.new _ _ _⟩, fun e => absurd (h.k e) (by rw [h0]; simp)⟩
theorem ScS.st {g : Nat} (h : ScS V T b10 b11 x y (.pointer (some ⟨g, 0, none⟩)) v) (h10 : b10 = true) (hg : V.heap.size ≤ g) (B : Blk v g T #[.int .i64 0, .int .i64 0]) :
    ScS V T b10 true x y (.pointer (some ⟨g, 0, none⟩)) ((v.setCell ⟨g, 0, none⟩ (.int .i64 x)).setCell ⟨g, 1, none⟩ (.int .i64 y)) :=
  ⟨(h.hb.setCell hg _).setCell hg _, fun _ => h10, fun _ f => absurd f (by simp), fun _ => ⟨g, rfl, hg, (B.set_ 0 _).set_ 1 _⟩⟩
end
set_option maxRecDepth 100000 in
set_option maxHeartbeats 4000000 in
theorem scalePoints_c (fd ft : Int) (s : ByteArray) (b off c : Nat) (p0 p1 wd lf rt k : Int) (A : Option Addr) (cc : Nat) (F : List Figure) (w : World) (hk01 : k = 0 ∨ k = 1) (hsz : s.size ≤ 1048576) (hF : F.length ≤ 100) (hb : b < w.heap.size) (c0 : w.cell? ⟨b, off, none⟩ = some (.int .i64 p0)) (c1 : w.cell? ⟨b, off + 1, none⟩ = some (.int .i64 p1))
    (hs0 : Sl w w.heap.size 1 (some ⟨b, off, none⟩) ([p0, p1].map ic)) (hc : chartB fd ft s [p0, p1] wd lf rt = true)
    (hp0 : -6 ≤ p0 ∧ p0 ≤ 6) (hp1 : -6 ≤ p1 ∧ p1 ≤ 6) (hlf : 100 ≤ lf ∧ lf ≤ 20000) (hrt : 100 ≤ rt ∧ rt ≤ 20000) (hok : F.all figOK = true) (hs : Sl w w.heap.size 2 A (F.map Figure.cells)) :
    Calls Tryz.prog 112 #[.agg #[.int .i64 fd, .int .i64 ft, .string s, .slice (some ⟨b, off, none⟩) 2 c, .int .i64 wd, .int .i64 lf, .int .i64 rt], .int .i64 k, .slice A F.length cc] w fun e w' => (∃ v, e = .returned (.tuple #[v, .int .i64 (ptsCode (if k = 0 then lf * p0 else rt * p1) F)])) ∧ Below w.heap.size w w' := by
  have HP := Lib.hid (fun f hf W (hW : Below w.heap.size w W) => specChartPoint_c fd ft s b off c p0 p1 wd lf rt k f W hk01 hsz (Nat.lt_of_lt_of_le hb hW.size) ((hW.cell hb).trans c0) ((hW.cell hb).trans c1) ((hs0.below hW).more hW.size) hc hf hp0 hp1 hlf hrt)
  have HL := Lib.hid (fun W (hW : Below w.heap.size w W) => l23Code_c fd ft s (some ⟨b, off, none⟩) c [p0, p1] wd lf rt k ⟨1000, 0⟩ W hk01 hsz (by simp) ((hs0.below hW).more hW.size) hc (by decide))
  have HI := Lib.hid (fun f W => specIsFigure_c f W)
  have hCA := @ptsCode_all (if k = 0 then lf * p0 else rt * p1) F
  have hCN := fun f hf => @ptsCode_no (if k = 0 then lf * p0 else rt * p1) F f hf
  generalize ptsCode (if k = 0 then lf * p0 else rt * p1) F = code at *
  generalize (if k = 0 then lf * p0 else rt * p1) = n at *
  unfold Figure.agg at HP HL HI
  simp only [List.length_cons, List.length_nil] at HL
  replace hCA := Lib.hid hCA
  replace hCN := Lib.hid hCN
  clear hp0 hp1 hlf hrt hc hs0 hk01 hsz c0 c1
  have hl0 : (100 : Int) < (F.length : Int) → False := fun h => by omega
  have hW : Below w.heap.size w (w.alloc (.cells #[.int .i64 fd, .int .i64 ft, .string s, .slice (some ⟨b, off, none⟩) 2 c, .int .i64 wd, .int .i64 lf, .int .i64 rt] 44)) := (by repeat (first | with_reducible exact Below.refl _ _ | with_reducible apply below_drewN' | with_reducible apply Below.drew | (with_reducible refine Below.alloc ?_ (by first | omega | (simp; omega) | simp | (have := (Below.refl _ _).size; omega) | (have := (Below.refl _ _).size; simp; omega)) _) | (with_reducible refine Below.setCell ?_ (by first | omega | (simp; omega) | simp | (have := (Below.refl _ _).size; omega) | (have := (Below.refl _ _).size; simp; omega)) _) | exact Below.refl _ _))
  have B0 := Blk.new w 44 #[.int .i64 fd, .int .i64 ft, .string s, .slice (some ⟨b, off, none⟩) 2 c, .int .i64 wd, .int .i64 lf, .int .i64 rt]
  obtain ⟨i0, hi, hz0, hz1, hzb⟩ := info_parts info_Point
  go_enter Tryz.func112, Tryz.ntmps112
  go_wp2_with fail
  refine Calls.mono (HL.out _ hW) ?_; rintro e w1 ⟨rfl, hb1⟩
  replace B0 := B0.below hb1 B0.lt
  replace hW := hW.trans (hb1.mono hW.size)
  clear hb1
  go_wp2_with fail
  go_loopw [8, 9] (fun cd i wr => ∃ j : Nat, j ≤ F.length ∧ i = .int .i64 j ∧ cd = .int .i64 0 ∧ Below w1.heap.size w1 wr) (fun _ i _ => F.length - (intOf i).toNat)
  case atStart => exact ⟨0, Nat.zero_le _, rfl, rfl, Below.refl _ _⟩
  case round =>
    obtain ⟨j, hj, rfl, rfl, hr⟩ := hrel
    have hWr := hW.trans (hr.mono hW.size)
    have hbs := hWr.size
    by_cases hlt : j < F.length
    · have hLb := hWr
      obtain ⟨fb, fo, rfl, fbB, xc⟩ := hs.at_ (i := j) (by simpa using hlt)
      simp only [List.getElem_map] at xc
      have x0 : wr.cell? ⟨fb, fo + j * 2, none⟩ = some (.int .i64 F[j].digits) := by rw [hLb.cell fbB]; exact xc 0 _ rfl
      have x1 : wr.cell? ⟨fb, fo + j * 2 + 1, none⟩ = some (.int .i64 F[j].tens) := by rw [hLb.cell fbB]; exact xc 1 _ rfl
      clear xc
      have hfo := List.all_eq_true.1 hok _ (List.getElem_mem hlt)
      have HC := HI.out F[j]
      rw [hfo] at HC
      replace HC := Lib.hid HC
      generalize F[j] = f at *
      clear hfo
      obtain ⟨d, t⟩ := f
      simp only at *
      go_wp2_with fail
      refine Calls.mono (HC.out _) ?_; rintro e w2 ⟨rfl, hb2⟩
      have hr2 := hr.trans (hb2.mono hr.size)
      go_wp2
      go_roundw
      case rel => exact ⟨j + 1, by omega, by go_num, rfl, hr2⟩
      case measure => simp [intOf]; omega
    · have : j = F.length := by omega
      subst this
      have C0 := B0.below hr B0.lt
      clear B0 hW hr
      have L0 : PtL w 154 44 #[.int .i64 fd, .int .i64 ft, .string s, .slice (some ⟨b, off, none⟩) 2 c, .int .i64 wd, .int .i64 lf, .int .i64 rt] 0 (.slice (some ⟨wr.heap.size, 0, none⟩) 0 0) (wr.alloc (.cells #[] 154)) :=
        ⟨(by repeat (first | with_reducible exact hWr | with_reducible apply below_drewN' | with_reducible apply Below.drew | (with_reducible refine Below.alloc ?_ (by first | omega | (simp; omega) | simp | (have := (hWr).size; omega) | (have := (hWr).size; simp; omega)) _) | (with_reducible refine Below.setCell ?_ (by first | omega | (simp; omega) | simp | (have := (hWr).size; omega) | (have := (hWr).size; simp; omega)) _) | exact hWr)), C0.alloc _, [], rfl, Own.empty (w := wr) (base := w.heap.size + 1) (e := 154) (k := 2) (by have := C0.lt; omega)⟩
      clear C0 hWr
      go_wp2_with fail
      go_loopw [10, 11] (fun o i wr => ∃ k : Nat, k ≤ F.length ∧ i = .int .i64 k ∧ PtL w 154 44 #[.int .i64 fd, .int .i64 ft, .string s, .slice (some ⟨b, off, none⟩) 2 c, .int .i64 wd, .int .i64 lf, .int .i64 rt] k o wr ∧ Hid ((F.take k).all (fun f => decide (plCode n f = 0)) = true)) (fun _ i _ => F.length - (intOf i).toNat)
      case atStart => exact ⟨0, Nat.zero_le _, rfl, L0, (show _ = true from by simp)⟩
      case round =>
        clear L0
        obtain ⟨k', hk, rfl, hL, hn⟩ := hrel
        have hbs := hL.hb.size
        by_cases hlt : k' < F.length
        · have hLb := hL.hb
          obtain ⟨fb, fo, rfl, fbB, xc⟩ := hs.at_ (i := k') (by simpa using hlt)
          simp only [List.getElem_map] at xc
          have x0 : wr.cell? ⟨fb, fo + k' * 2, none⟩ = some (.int .i64 F[k'].digits) := by rw [hLb.cell fbB]; exact xc 0 _ rfl
          have x1 : wr.cell? ⟨fb, fo + k' * 2 + 1, none⟩ = some (.int .i64 F[k'].tens) := by rw [hLb.cell fbB]; exact xc 1 _ rfl
          clear xc
          have hxB := Lib.hid (Nat.lt_of_lt_of_le fbB hbs)
          have hmem := List.getElem_mem hlt
          have hfo := List.all_eq_true.1 hok _ hmem
          have hnx := Lib.hid (@take_all_succ _ (fun f => decide (plCode n f = 0)) F k' hlt)
          have HC := HP.out F[k'] hfo
          obtain ⟨px, py, hpv⟩ := ptv_two (plCode n F[k']) (if k = 0 then 0 else wd) (pl2 n F[k']).1 (pl2 n F[k']).2
          rw [hpv] at HC
          clear hpv
          replace HC := Lib.hid HC
          have hcc := Lib.hid (plCode_two n F[k'])
          have hnx := Lib.hid (@take_all_succ _ (fun f => decide (plCode n f = 0)) F k' hlt)
          have hno := Lib.hid (hCN.out F[k'] hmem)
          have C0 := hL.bg
          generalize hfk : F[k'] = f at *
          clear hfk hfo hmem
          generalize hpc : plCode n f = pc at *
          replace hpc := Lib.hid hpc
          obtain ⟨d, t⟩ := f
          simp only at *
          have C0_0 := C0.c0
          have C0_1 := C0.c1
          have C0_2 := C0.c2
          have C0_3 := C0.c3
          have C0_4 := C0.c4
          have C0_5 := C0.c5
          have C0_6 := C0.c6
          go_wp2_with fail
          refine wp_region_all (fun a0 fL bA v => ∃ v48 v49 v50 v51 v52 v53 v54 v47 v55 v56 v12 v13 : Value, bA = (((((((((((a0.put (some 48) v48).put (some 49) v49).put (some 50) v50).put (some 51) v51).put (some 52) v52).put (some 53) v53).put (some 54) v54).put (some 47) v47).put (some 55) v55).put (some 56) v56).put (some 12) v12).put (some 13) v13 ∧ (ScS wr 154 (fL 10) (fL 11) px py v12 v) ∧ (fL 0 = true → v48 = .agg #[.int .i64 fd, .int .i64 ft, .string s, .slice (some ⟨b, off, none⟩) 2 c, .int .i64 wd, .int .i64 lf, .int .i64 rt]) ∧ (fL 1 = true → v49 = .int .i64 k) ∧ (fL 2 = true → v50 = .slice (some ⟨fb, fo, none⟩) F.length cc) ∧ (fL 3 = true → v51 = .int .i64 k') ∧ (fL 4 = true → v52 = .pointer (some ⟨fb, fo + k' * 2, none⟩)) ∧ (fL 5 = true → v53 = .agg #[.int .i64 d, .int .i64 t]) ∧ (fL 6 = true → v54 = .tuple #[.agg #[.int .i64 px, .int .i64 py], .int .i64 pc]) ∧ (fL 7 = true → v47 = .tuple #[.agg #[.int .i64 px, .int .i64 py], .int .i64 pc]) ∧ (fL 8 = true → v55 = .agg #[.int .i64 px, .int .i64 py]) ∧ (fL 9 = true → v56 = .int .i64 pc) ∧ (fL 10 = true → True) ∧ (fL 12 = true → v13 = .int .i64 pc)) (by kernel_rfl) (by decide +kernel) ?_ ?_ ?_
          · exact ⟨_, _, _, _, _, _, _, _, _, _, _, _, put_more (put_more (put_more (put_more (put_more (put_more (put_more (put_more (put_more (put_more (put_more (put_more (rfl) 48) 49) 50) 51) 52) 53) 54) 47) 55) 56) 12) 13, ScS.init, nofun, nofun, nofun, nofun, nofun, nofun, nofun, nofun, nofun, nofun, nofun, nofun⟩
          · rintro fL bA v ⟨v48, v49, v50, v51, v52, v53, v54, v47, v55, v56, v12, v13, rfl, hS, q0, q1, q2, q3, q4, q5, q6, q7, q8, q9, q10, q12⟩ i hi hf o ho hall
            simp only [Act.put, List.setIfInBounds_toArray, List.set_cons_zero, List.set_cons_succ]
            simp only [List.length_cons, List.length_nil] at hi
            have hn : i = 0 ∨ i = 1 ∨ i = 2 ∨ i = 3 ∨ i = 4 ∨ i = 5 ∨ i = 6 ∨ i = 7 ∨ i = 8 ∨ i = 9 ∨ i = 10 ∨ i = 11 ∨ i = 12 := by omega
            clear hi
            rcases hn with rfl | rfl | rfl | rfl | rfl | rfl | rfl | rfl | rfl | rfl | rfl | rfl | rfl
            · obtain rfl := Option.some.inj ho
              have FF := C0.below hS.hb C0.lt
              have y0 : v.cell? ⟨w.heap.size, 0, none⟩ = some (.int .i64 fd) := FF.cell 0
              have y1 : v.cell? ⟨w.heap.size, 1, none⟩ = some (.int .i64 ft) := FF.cell 1
              have y2 : v.cell? ⟨w.heap.size, 2, none⟩ = some (.string s) := FF.cell 2
              have y3 : v.cell? ⟨w.heap.size, 3, none⟩ = some (.slice (some ⟨b, off, none⟩) 2 c) := FF.cell 3
              have y4 : v.cell? ⟨w.heap.size, 4, none⟩ = some (.int .i64 wd) := FF.cell 4
              have y5 : v.cell? ⟨w.heap.size, 5, none⟩ = some (.int .i64 lf) := FF.cell 5
              have y6 : v.cell? ⟨w.heap.size, 6, none⟩ = some (.int .i64 rt) := FF.cell 6
              clear hall ho
              refine wpOp_step rfl (fun K hK => ?_)
              go_simp
              exact hK _ _ ⟨_, _, _, _, _, _, _, _, _, _, _, _, rfl, hS, fun _ => rfl, q1, q2, q3, q4, q5, q6, q7, q8, q9, fun _ => trivial, q12⟩
            · obtain rfl := Option.some.inj ho
              clear hall ho
              refine wpOp_step rfl (fun K hK => ?_)
              go_simp
              exact hK _ _ ⟨_, _, _, _, _, _, _, _, _, _, _, _, rfl, hS, q0, fun _ => rfl, q2, q3, q4, q5, q6, q7, q8, q9, fun _ => trivial, q12⟩
            · obtain rfl := Option.some.inj ho
              clear hall ho
              refine wpOp_step rfl (fun K hK => ?_)
              go_simp
              exact hK _ _ ⟨_, _, _, _, _, _, _, _, _, _, _, _, rfl, hS, q0, q1, fun _ => rfl, q3, q4, q5, q6, q7, q8, q9, fun _ => trivial, q12⟩
            · obtain rfl := Option.some.inj ho
              clear hall ho
              refine wpOp_step rfl (fun K hK => ?_)
              go_simp
              exact hK _ _ ⟨_, _, _, _, _, _, _, _, _, _, _, _, rfl, hS, q0, q1, q2, fun _ => rfl, q4, q5, q6, q7, q8, q9, fun _ => trivial, q12⟩
            · obtain rfl := Option.some.inj ho
              obtain rfl := q2 (hall ⟨2, .data⟩ (by simp) rfl)
              obtain rfl := q3 (hall ⟨3, .data⟩ (by simp) rfl)
              clear hall ho
              refine wpOp_step rfl (fun K hK => ?_)
              go_simp
              exact hK _ _ ⟨_, _, _, _, _, _, _, _, _, _, _, _, rfl, hS, q0, q1, fun _ => rfl, fun _ => rfl, fun _ => rfl, q5, q6, q7, q8, q9, fun _ => trivial, q12⟩
            · obtain rfl := Option.some.inj ho
              obtain rfl := q4 (hall ⟨4, .data⟩ (by simp) rfl)
              have z0 := (hS.hb.cell hxB.out).trans x0
              have z1 := (hS.hb.cell hxB.out).trans x1
              clear hall ho
              refine wpOp_step rfl (fun K hK => ?_)
              go_simp
              exact hK _ _ ⟨_, _, _, _, _, _, _, _, _, _, _, _, rfl, hS, q0, q1, q2, q3, fun _ => rfl, fun _ => rfl, q6, q7, q8, q9, fun _ => trivial, q12⟩
            · obtain rfl := Option.some.inj ho
              obtain rfl := q0 (hall ⟨0, .data⟩ (by simp) rfl)
              obtain rfl := q1 (hall ⟨1, .data⟩ (by simp) rfl)
              obtain rfl := q5 (hall ⟨5, .data⟩ (by simp) rfl)
              clear hall ho
              refine wpOp_step rfl (fun K hK => ?_)
              go_simp
              refine Calls.mono ((HC.out v (hLb.trans (hS.hb.mono hbs)))) ?_; rintro e w1 ⟨rfl, hb1⟩
              go_simp
              exact hK _ _ ⟨_, _, _, _, _, _, _, _, _, _, _, _, rfl, hS.below hb1, fun _ => rfl, fun _ => rfl, q2, q3, q4, fun _ => rfl, fun _ => rfl, q7, q8, q9, fun _ => trivial, q12⟩
            · obtain rfl := Option.some.inj ho
              obtain rfl := q6 (hall ⟨6, .data⟩ (by simp) rfl)
              clear hall ho
              refine wpOp_step rfl (fun K hK => ?_)
              go_simp
              exact hK _ _ ⟨_, _, _, _, _, _, _, _, _, _, _, _, rfl, hS, q0, q1, q2, q3, q4, q5, fun _ => rfl, fun _ => rfl, q8, q9, fun _ => trivial, q12⟩
            · obtain rfl := Option.some.inj ho
              obtain rfl := q7 (hall ⟨7, .data⟩ (by simp) rfl)
              clear hall ho
              refine wpOp_step rfl (fun K hK => ?_)
              go_simp
              exact hK _ _ ⟨_, _, _, _, _, _, _, _, _, _, _, _, rfl, hS, q0, q1, q2, q3, q4, q5, q6, fun _ => rfl, fun _ => rfl, q9, fun _ => trivial, q12⟩
            · obtain rfl := Option.some.inj ho
              obtain rfl := q7 (hall ⟨7, .data⟩ (by simp) rfl)
              clear hall ho
              refine wpOp_step rfl (fun K hK => ?_)
              go_simp
              exact hK _ _ ⟨_, _, _, _, _, _, _, _, _, _, _, _, rfl, hS, q0, q1, q2, q3, q4, q5, q6, fun _ => rfl, q8, fun _ => rfl, fun _ => trivial, q12⟩
            · obtain rfl := Option.some.inj ho
              clear hall ho
              refine wpOp_step rfl (fun K hK => ?_)
              go_simp
              exact hK _ _ ⟨_, _, _, _, _, _, _, _, _, _, _, _, rfl, hS.new hf, q0, q1, q2, q3, q4, q5, q6, q7, q8, q9, fun _ => trivial, q12⟩
            · obtain rfl := Option.some.inj ho
              have e10 : fL 10 = true := hall ⟨10, .data⟩ (by simp) rfl
              obtain rfl := q8 (hall ⟨8, .data⟩ (by simp) rfl)
              have e8 := hall ⟨8, .data⟩ (by simp) rfl
              obtain ⟨g, rfl, hg, BB⟩ := hS.q0 e10 hf
              have c0' : v.cell? ⟨g, 0, none⟩ = some (.int .i64 0) := BB.cell 0
              have c1' : v.cell? ⟨g, 1, none⟩ = some (.int .i64 0) := BB.cell 1
              have f0' : v.frozen? ⟨g, 0, none⟩ = false := BB.frozen 0
              have f1' : v.frozen? ⟨g, 1, none⟩ = false := BB.frozen 1
              clear hall ho
              refine wpOp_step rfl (fun K hK => ?_)
              go_simp
              exact hK _ _ ⟨_, _, _, _, _, _, _, _, _, _, _, _, rfl, hS.st e10 hg BB, q0, q1, q2, q3, q4, q5, q6, q7, fun _ => rfl, q9, fun _ => trivial, q12⟩
            · obtain rfl := Option.some.inj ho
              obtain rfl := q9 (hall ⟨9, .data⟩ (by simp) rfl)
              clear hall ho
              refine wpOp_step rfl (fun K hK => ?_)
              go_simp
              exact hK _ _ ⟨_, _, _, _, _, _, _, _, _, _, _, _, rfl, hS, q0, q1, q2, q3, q4, q5, q6, q7, q8, fun _ => rfl, fun _ => trivial, fun _ => rfl⟩
          · rintro fL bA v ⟨v48, v49, v50, v51, v52, v53, v54, v47, v55, v56, v12, v13, rfl, hS, q0, q1, q2, q3, q4, q5, q6, q7, q8, q9, q10, q12⟩ hall
            simp only [Act.put, List.setIfInBounds_toArray, List.set_cons_zero, List.set_cons_succ]
            simp only [List.length_cons, List.length_nil] at hall
            obtain rfl := q0 (hall 0 (by omega))
            obtain rfl := q1 (hall 1 (by omega))
            obtain rfl := q2 (hall 2 (by omega))
            obtain rfl := q3 (hall 3 (by omega))
            obtain rfl := q4 (hall 4 (by omega))
            obtain rfl := q5 (hall 5 (by omega))
            obtain rfl := q6 (hall 6 (by omega))
            obtain rfl := q7 (hall 7 (by omega))
            obtain rfl := q8 (hall 8 (by omega))
            obtain rfl := q9 (hall 9 (by omega))
            have e10 : fL 10 = true := hall 10 (by omega)
            obtain rfl := q12 (hall 12 (by omega))
            have e11 : fL 11 = true := hall 11 (by omega)
            clear hall
            obtain ⟨g, rfl, hg, BB⟩ := hS.q1 e11
            have hL1 := hL.below hS.hb
            have hbs1 := hL1.hb.size
            rcases hcc.out with rfl | rfl
            · have p0 : v.cell? ⟨g, 0, none⟩ = some (.int .i64 px) := BB.cell 0
              have p1 : v.cell? ⟨g, 1, none⟩ = some (.int .i64 py) := BB.cell 1
              obtain ⟨xs, hxl, hO⟩ := hL1.o
              go_wp2_with (at_builtin; refine wpList_append_rows _ rfl _ _ _ rfl (w.heap.size + 1) 154 i0 _ 2 16 Tryz.underlying128 hi hz0 hz1 hzb rfl (by omega) _ _ rfl (hO.alloc _) _ _ _ _ [[.int .i64 px, .int .i64 py]] rfl rfl (Sl.one2 _ _ _ _ (by simp)) (one2_cells _ _) (by rw [hxl]; unfold maxLen; omega) (by rw [hxl]; omega) (by have := hL1.bg.lt; first | omega | (simp only []; omega) | (simp; omega)) ?_; intro v1 w2 hO2 hg2 hat; have hL2 := (hL1.alloc _).app (hO.alloc _) hxl hg2 hO2)
              go_roundw
              case rel => exact ⟨k' + 1, by omega, by go_num, hL2, (show _ = true from by rw [hnx.out, hn.out]; rfl)⟩
              case measure => simp [intOf]; omega
            · have hcd := Lib.hid (hno.out rfl)
              have hW1 := hL1.hb
              go_wp2
              go_ret2
              exact ⟨⟨_, by rw [hcd.out]; rfl⟩, (by repeat (first | with_reducible exact hW1 | with_reducible apply below_drewN' | with_reducible apply Below.drew | (with_reducible refine Below.alloc ?_ (by first | omega | (simp; omega) | simp | (have := (hW1).size; omega) | (have := (hW1).size; simp; omega)) _) | (with_reducible refine Below.setCell ?_ (by first | omega | (simp; omega) | simp | (have := (hW1).size; omega) | (have := (hW1).size; simp; omega)) _) | exact hW1))⟩
        · have : k' = F.length := by omega
          subst this
          have hn' := hn.out
          rw [List.take_length] at hn'
          have hcc := Lib.hid (hCA.out hn')
          clear hn'
          have hLb := hL.hb
          go_wp2
          go_ret2
          exact ⟨⟨_, by rw [hcc.out]; rfl⟩, hLb⟩
end Go.Proofs.YtendoabjjfinhaaGreatDoor
namespace Go.Proofs.YtendoabjjfinhaaGreatDoor
open Go.RowKit
theorem relB_eq (fd ft : Int) (s : ByteArray) (p0 p1 wd lf rt : Int) (lu hu lv hv : Figure) (ey bo : Int) : relB fd ft s [p0, p1] wd lf rt lu hu lv hv ey bo =
    (chartB fd ft s [p0, p1] wd lf rt && (figOK lu && figOK hu && (figOK lv && figOK hv)) && (inB ey 0 200 && inB bo 0 1048576) && (decide (0 ≤ cmpF hu lu) && decide (0 ≤ cmpF hv lv)) && decide (ptsCode (lf * p0) [lu, hu] = 0) && decide (ptsCode (rt * p1) [lv, hv] = 0)) := by
  have h (n : Int) (a b : Figure) : decide (ptsCode n [a, b] = 0) = (decide (plCode n a = 0) && decide (plCode n b = 0)) := by
    unfold ptsCode
    cases h1 : decide (plCode n a = 0) <;> cases h2 : decide (plCode n b = 0) <;> simp [h1, h2]
  rw [h, h]
  unfold relB
  simp only [List.getD_cons_zero, List.getD_cons_succ, Bool.and_assoc]
theorem relB_no {fd ft : Int} {s : ByteArray} {l : List Int} {wd lf rt : Int} {lu hu lv hv : Figure} {ey bo : Int} (h : chartB fd ft s l wd lf rt = false) : relB fd ft s l wd lf rt lu hu lv hv ey bo = false := by
  unfold relB
  rw [h]
  rfl
theorem all4 (a b c d : Figure) : [a, b, c, d].all figOK = (figOK a && figOK b && (figOK c && figOK d)) := by
  simp [Bool.and_assoc]
theorem all2 (a b : Figure) : [a, b].all figOK = (figOK a && figOK b) := by
  simp
theorem Sl.fig2 (W : World) (t : TypeId) (a b : Figure) {g : Nat} (hg : W.heap.size = g) : Sl (W.alloc (.cells #[.int .i64 a.digits, .int .i64 a.tens, .int .i64 b.digits, .int .i64 b.tens] t)) (g + 1) 2 (some ⟨g, 0, none⟩) ([a, b].map Figure.cells) := by
  subst hg
  exact Sl.of_blk (Blk.new W t _) _ rfl (by intro x hx; simp only [List.map_cons, List.map_nil, List.mem_cons, List.not_mem_nil, or_false] at hx; rcases hx with rfl | rfl <;> rfl)
theorem Sl.fig4 (W : World) (t : TypeId) (a b c d : Figure) {g : Nat} (hg : W.heap.size = g) : Sl (W.alloc (.cells #[.int .i64 a.digits, .int .i64 a.tens, .int .i64 b.digits, .int .i64 b.tens, .int .i64 c.digits, .int .i64 c.tens, .int .i64 d.digits, .int .i64 d.tens] t)) (g + 1) 2 (some ⟨g, 0, none⟩) ([a, b, c, d].map Figure.cells) := by
  subst hg
  exact Sl.of_blk (Blk.new W t _) _ rfl (by intro x hx; simp only [List.map_cons, List.map_nil, List.mem_cons, List.not_mem_nil, or_false] at hx; rcases hx with rfl | rfl | rfl | rfl <;> rfl)
theorem plCode_pts {n : Int} {F : List Figure} : ptsCode n F = 0 ∨ ptsCode n F = 3 := by
  unfold ptsCode
  split
  · exact .inl rfl
  · exact .inr rfl
set_option maxRecDepth 100000 in
set_option maxHeartbeats 4000000 in
theorem implIsRelease1_c (fd ft : Int) (s : ByteArray) (b off c : Nat) (p0 p1 wd lf rt : Int) (lu hu lv hv : Figure) (ey bo : Int) (w : World) (hsz : s.size ≤ 1048576) (hs : Sl w w.heap.size 1 (some ⟨b, off, none⟩) ([p0, p1].map ic)) (hb : b < w.heap.size) (c0 : w.cell? ⟨b, off, none⟩ = some (.int .i64 p0)) (c1 : w.cell? ⟨b, off + 1, none⟩ = some (.int .i64 p1)) (hc : chartB fd ft s [p0, p1] wd lf rt = true) :
    Calls Tryz.prog 69 #[.agg #[.int .i64 fd, .int .i64 ft, .string s, .slice (some ⟨b, off, none⟩) 2 c, .int .i64 wd, .int .i64 lf, .int .i64 rt, .int .i64 lu.digits, .int .i64 lu.tens, .int .i64 hu.digits, .int .i64 hu.tens, .int .i64 lv.digits, .int .i64 lv.tens, .int .i64 hv.digits, .int .i64 hv.tens, .int .i64 ey, .int .i64 bo]] w fun e w' => e = .returned (.bool (relB fd ft s [p0, p1] wd lf rt lu hu lv hv ey bo)) ∧ Below w.heap.size w w' := by
  have hR := relB_eq fd ft s p0 p1 wd lf rt lu hu lv hv ey bo
  rw [hc, Bool.true_and] at hR
  obtain ⟨_, _, hwd, hlf, hrt, q0, q1, hq, hp0, hp1⟩ := chart_parts hc
  obtain ⟨rfl, rfl⟩ : p0 = q0 ∧ p1 = q1 := by simpa using hq
  clear hq
  have HC := fun W (hW : Below w.heap.size w W) => implIsChart_c fd ft s (some ⟨b, off, none⟩) c [p0, p1] wd lf rt W hsz (by simp) ((hs.below hW).more hW.size)
  rw [hc] at HC
  have HF := fun W A c hs => areFigures_c A c [lu, hu, lv, hv] W (by simp) hs
  simp only [all4] at HF
  have HE := fun W => within_c ey 0 200 W
  have HB := fun W => within_c bo 0 1048576 W
  have HX := fun W => compareFigures_c hu lu W
  have HY := fun W => compareFigures_c hv lv W
  have HU := fun W A cc (hW : Below w.heap.size w W) hok hs => chartPoints0_c fd ft s b off c p0 p1 wd lf rt A cc [lu, hu] W (by simp) (Nat.lt_of_lt_of_le hb hW.size) ((hW.cell hb).trans c0) ((hW.cell hb).trans c1) hp0 hp1 hwd hlf hrt hok hs
  have HV := fun W A cc (hW : Below w.heap.size w W) hok hs => chartPoints1_c fd ft s b off c p0 p1 wd lf rt A cc [lv, hv] W (by simp) (Nat.lt_of_lt_of_le hb hW.size) ((hW.cell hb).trans c0) ((hW.cell hb).trans c1) hp0 hp1 hwd hlf hrt hok hs
  simp only [all2] at HU HV
  have hcu := @plCode_pts (lf * p0) [lu, hu]
  have hcv := @plCode_pts (rt * p1) [lv, hv]
  generalize ptsCode (lf * p0) [lu, hu] = cu at *
  generalize ptsCode (rt * p1) [lv, hv] = cv at *
  clear hc hp0 hp1 hwd hlf hrt c0 c1 hs hsz
  generalize relB fd ft s [p0, p1] wd lf rt lu hu lv hv ey bo = res at *
  generalize hf0 : figOK lu = f0 at *
  generalize hf1 : figOK hu = f1 at *
  generalize hf2 : figOK lv = f2 at *
  generalize hf3 : figOK hv = f3 at *
  generalize inB ey 0 200 = be at *
  generalize inB bo 0 1048576 = bb at *
  generalize cmpF hu lu = cx at *
  generalize cmpF hv lv = cy at *
  replace hR := Lib.hid hR
  replace hcu := Lib.hid hcu
  replace hcv := Lib.hid hcv
  clear hf0 hf1 hf2 hf3
  obtain ⟨lud, lut⟩ := lu
  obtain ⟨hud, hut⟩ := hu
  obtain ⟨lvd, lvt⟩ := lv
  obtain ⟨hvd, hvt⟩ := hv
  unfold Figure.agg at HX HY
  simp only at *
  replace HF := Lib.hid HF
  replace HC := Lib.hid HC
  replace HE := Lib.hid HE
  replace HB := Lib.hid HB
  replace HX := Lib.hid HX
  replace HY := Lib.hid HY
  replace HU := Lib.hid HU
  replace HV := Lib.hid HV
  have hW : Below w.heap.size w (w.alloc (.cells #[.int .i64 fd, .int .i64 ft, .string s, .slice (some ⟨b, off, none⟩) 2 c, .int .i64 wd, .int .i64 lf, .int .i64 rt, .int .i64 lud, .int .i64 lut, .int .i64 hud, .int .i64 hut, .int .i64 lvd, .int .i64 lvt, .int .i64 hvd, .int .i64 hvt, .int .i64 ey, .int .i64 bo] 46)) := (by repeat (first | with_reducible exact Below.refl _ _ | with_reducible apply below_drewN' | with_reducible apply Below.drew | (with_reducible refine Below.alloc ?_ (by first | omega | (simp; omega) | simp | (have := (Below.refl _ _).size; omega) | (have := (Below.refl _ _).size; simp; omega)) _) | (with_reducible refine Below.setCell ?_ (by first | omega | (simp; omega) | simp | (have := (Below.refl _ _).size; omega) | (have := (Below.refl _ _).size; simp; omega)) _) | exact Below.refl _ _))
  have B0 := Blk.new w 46 #[.int .i64 fd, .int .i64 ft, .string s, .slice (some ⟨b, off, none⟩) 2 c, .int .i64 wd, .int .i64 lf, .int .i64 rt, .int .i64 lud, .int .i64 lut, .int .i64 hud, .int .i64 hut, .int .i64 lvd, .int .i64 lvt, .int .i64 hvd, .int .i64 hvt, .int .i64 ey, .int .i64 bo]
  go_enter Tryz.func69, Tryz.ntmps69
  go_wp2_with fail
  generalize w.alloc (.cells #[.int .i64 fd, .int .i64 ft, .string s, .slice (some ⟨b, off, none⟩) 2 c, .int .i64 wd, .int .i64 lf, .int .i64 rt, .int .i64 lud, .int .i64 lut, .int .i64 hud, .int .i64 hut, .int .i64 lvd, .int .i64 lvt, .int .i64 hvd, .int .i64 hvt, .int .i64 ey, .int .i64 bo] 46) = W at *
  refine Calls.mono (HC.out W hW) ?_; rintro e w1 ⟨rfl, hb1⟩
  replace B0 := B0.below hb1 B0.lt
  replace hW := hW.trans (hb1.mono hW.size)
  clear hb1
  clear HC
  have B0_0 := B0.c0
  have B0_1 := B0.c1
  have B0_2 := B0.c2
  have B0_3 := B0.c3
  have B0_4 := B0.c4
  have B0_5 := B0.c5
  have B0_6 := B0.c6
  have B0_7 := B0.c7
  have B0_8 := B0.c8
  have B0_9 := B0.c9
  have B0_10 := B0.c10
  have B0_11 := B0.c11
  have B0_12 := B0.c12
  have B0_13 := B0.c13
  have B0_14 := B0.c14
  have B0_15 := B0.c15
  have B0_16 := B0.c16
  go_wp2_with fail
  refine Calls.mono (HF.out _ _ _ (by simpa using Sl.fig4 w1 40 ⟨lud, lut⟩ ⟨hud, hut⟩ ⟨lvd, lvt⟩ ⟨hvd, hvt⟩ rfl)) ?_; rintro e w2 ⟨rfl, hb2⟩
  replace B0 := (B0.alloc _).below hb2 (by have := B0.lt; simp; omega)
  replace hW := (hW.alloc hW.size _).trans (hb2.mono (by have := hW.size; simp; omega))
  clear hb2 HF
  have B0_0 := B0.c0
  have B0_1 := B0.c1
  have B0_2 := B0.c2
  have B0_3 := B0.c3
  have B0_4 := B0.c4
  have B0_5 := B0.c5
  have B0_6 := B0.c6
  have B0_7 := B0.c7
  have B0_8 := B0.c8
  have B0_9 := B0.c9
  have B0_10 := B0.c10
  have B0_11 := B0.c11
  have B0_12 := B0.c12
  have B0_13 := B0.c13
  have B0_14 := B0.c14
  have B0_15 := B0.c15
  have B0_16 := B0.c16
  have ff : (f0 && f1 && (f2 && f3)) = true ∨ (f0 && f1 && (f2 && f3)) = false := by cases (f0 && f1 && (f2 && f3)) <;> simp
  rcases ff with ff | ff
  case inr =>
    have hq := Lib.hid ff
    generalize (f0 && f1 && (f2 && f3)) = g at *
    subst ff
    go_wp2
    go_ret
    exact ⟨by rw [hR.out]; simp, (by repeat (first | with_reducible exact hW | with_reducible apply below_drewN' | with_reducible apply Below.drew | (with_reducible refine Below.alloc ?_ (by first | omega | (simp; omega) | simp | (have := (hW).size; omega) | (have := (hW).size; simp; omega)) _) | (with_reducible refine Below.setCell ?_ (by first | omega | (simp; omega) | simp | (have := (hW).size; omega) | (have := (hW).size; simp; omega)) _) | exact hW))⟩
  obtain ⟨⟨rfl, rfl⟩, rfl, rfl⟩ : (f0 = true ∧ f1 = true) ∧ f2 = true ∧ f3 = true := by simpa using ff
  clear ff
  replace hR := Lib.hid hR.out
  rcases be with _ | _
  · go_wp2_with (go_at_call 88; refine Calls.mono (HE.out _) ?_; rintro e w3 ⟨rfl, rfl⟩)
    go_ret
    exact ⟨by rw [hR.out]; simp, (by repeat (first | with_reducible exact hW | with_reducible apply below_drewN' | with_reducible apply Below.drew | (with_reducible refine Below.alloc ?_ (by first | omega | (simp; omega) | simp | (have := (hW).size; omega) | (have := (hW).size; simp; omega)) _) | (with_reducible refine Below.setCell ?_ (by first | omega | (simp; omega) | simp | (have := (hW).size; omega) | (have := (hW).size; simp; omega)) _) | exact hW))⟩
  rcases bb with _ | _
  · go_wp2_with (first | (go_at_call 88; with_reducible refine Calls.mono (HE.out _) ?_; rintro e w3 ⟨rfl, rfl⟩) | (go_at_call 88; with_reducible refine Calls.mono (HB.out _) ?_; rintro e w3 ⟨rfl, rfl⟩))
    go_ret
    exact ⟨by rw [hR.out]; simp, (by repeat (first | with_reducible exact hW | with_reducible apply below_drewN' | with_reducible apply Below.drew | (with_reducible refine Below.alloc ?_ (by first | omega | (simp; omega) | simp | (have := (hW).size; omega) | (have := (hW).size; simp; omega)) _) | (with_reducible refine Below.setCell ?_ (by first | omega | (simp; omega) | simp | (have := (hW).size; omega) | (have := (hW).size; simp; omega)) _) | exact hW))⟩
  go_wp2_with (first | (go_at_call 88; with_reducible refine Calls.mono (HE.out _) ?_; rintro e w3 ⟨rfl, rfl⟩) | (go_at_call 88; with_reducible refine Calls.mono (HB.out _) ?_; rintro e w3 ⟨rfl, rfl⟩) | fail)
  refine Calls.mono (HX.out w2) ?_; rintro e w3 ⟨rfl, hb3⟩
  replace B0 := B0.below hb3 B0.lt
  replace hW := hW.trans (hb3.mono hW.size)
  clear hb3
  have B0_0 := B0.c0
  have B0_1 := B0.c1
  have B0_2 := B0.c2
  have B0_3 := B0.c3
  have B0_4 := B0.c4
  have B0_5 := B0.c5
  have B0_6 := B0.c6
  have B0_7 := B0.c7
  have B0_8 := B0.c8
  have B0_9 := B0.c9
  have B0_10 := B0.c10
  have B0_11 := B0.c11
  have B0_12 := B0.c12
  have B0_13 := B0.c13
  have B0_14 := B0.c14
  have B0_15 := B0.c15
  have B0_16 := B0.c16
  clear HX HE HB
  by_cases hx : cx < 0
  · have hx2 : decide (0 ≤ cx) = false := decide_eq_false (by omega)
    replace hR : Hid (res = false) := Lib.hid (by rw [hR.out, hx2]; simp)
    clear hx2
    go_wp2
    go_ret
    exact ⟨by rw [hR.out]; rfl, (by repeat (first | with_reducible exact hW | with_reducible apply below_drewN' | with_reducible apply Below.drew | (with_reducible refine Below.alloc ?_ (by first | omega | (simp; omega) | simp | (have := (hW).size; omega) | (have := (hW).size; simp; omega)) _) | (with_reducible refine Below.setCell ?_ (by first | omega | (simp; omega) | simp | (have := (hW).size; omega) | (have := (hW).size; simp; omega)) _) | exact hW))⟩
  go_wp2_with fail
  refine Calls.mono (HY.out w3) ?_; rintro e w4 ⟨rfl, hb4⟩
  replace B0 := B0.below hb4 B0.lt
  replace hW := hW.trans (hb4.mono hW.size)
  clear hb4
  have B0_0 := B0.c0
  have B0_1 := B0.c1
  have B0_2 := B0.c2
  have B0_3 := B0.c3
  have B0_4 := B0.c4
  have B0_5 := B0.c5
  have B0_6 := B0.c6
  have B0_7 := B0.c7
  have B0_8 := B0.c8
  have B0_9 := B0.c9
  have B0_10 := B0.c10
  have B0_11 := B0.c11
  have B0_12 := B0.c12
  have B0_13 := B0.c13
  have B0_14 := B0.c14
  have B0_15 := B0.c15
  have B0_16 := B0.c16
  clear HY
  by_cases hy : cy < 0
  · have hx2 : decide (0 ≤ cy) = false := decide_eq_false (by omega)
    replace hR : Hid (res = false) := Lib.hid (by rw [hR.out, hx2]; simp)
    clear hx2
    go_wp2
    go_ret
    exact ⟨by rw [hR.out]; rfl, (by repeat (first | with_reducible exact hW | with_reducible apply below_drewN' | with_reducible apply Below.drew | (with_reducible refine Below.alloc ?_ (by first | omega | (simp; omega) | simp | (have := (hW).size; omega) | (have := (hW).size; simp; omega)) _) | (with_reducible refine Below.setCell ?_ (by first | omega | (simp; omega) | simp | (have := (hW).size; omega) | (have := (hW).size; simp; omega)) _) | exact hW))⟩
  have hx2 : decide (0 ≤ cx) = true := decide_eq_true (by omega)
  have hy2 : decide (0 ≤ cy) = true := decide_eq_true (by omega)
  replace hR : Hid (res = (decide (cu = 0) && decide (cv = 0))) := Lib.hid (by rw [hR.out, hx2, hy2]; simp)
  clear hx2 hy2
  go_wp2_with fail
  have ha : Below w.heap.size w (w4.alloc (.cells #[.int .i64 lud, .int .i64 lut, .int .i64 hud, .int .i64 hut] 40)) := hW.alloc hW.size _
  refine Calls.mono (HU.out _ _ _ ha (by first | rfl | trivial) (by simpa using Sl.fig2 w4 40 ⟨lud, lut⟩ ⟨hud, hut⟩ rfl)) ?_; rintro e w5 ⟨⟨v0, rfl⟩, hb5⟩
  replace B0 := (B0.alloc _).below hb5 (by have := B0.lt; simp; omega)
  replace hW := ha.trans (hb5.mono ha.size)
  clear hb5 ha HU
  have B0_0 := B0.c0
  have B0_1 := B0.c1
  have B0_2 := B0.c2
  have B0_3 := B0.c3
  have B0_4 := B0.c4
  have B0_5 := B0.c5
  have B0_6 := B0.c6
  have B0_7 := B0.c7
  have B0_8 := B0.c8
  have B0_9 := B0.c9
  have B0_10 := B0.c10
  have B0_11 := B0.c11
  have B0_12 := B0.c12
  have B0_13 := B0.c13
  have B0_14 := B0.c14
  have B0_15 := B0.c15
  have B0_16 := B0.c16
  go_wp2_with fail
  have ha : Below w.heap.size w (w5.alloc (.cells #[.int .i64 lvd, .int .i64 lvt, .int .i64 hvd, .int .i64 hvt] 40)) := hW.alloc hW.size _
  refine Calls.mono (HV.out _ _ _ ha (by first | rfl | trivial) (by simpa using Sl.fig2 w5 40 ⟨lvd, lvt⟩ ⟨hvd, hvt⟩ rfl)) ?_; rintro e w6 ⟨⟨v1, rfl⟩, hb5⟩
  replace B0 := (B0.alloc _).below hb5 (by have := B0.lt; simp; omega)
  replace hW := ha.trans (hb5.mono ha.size)
  clear hb5 ha HV
  rcases hcu.out with rfl | rfl <;> rcases hcv.out with rfl | rfl
  all_goals
    go_wp2
    go_ret
    exact ⟨by rw [hR.out]; rfl, (by repeat (first | with_reducible exact hW | with_reducible apply below_drewN' | with_reducible apply Below.drew | (with_reducible refine Below.alloc ?_ (by first | omega | (simp; omega) | simp | (have := (hW).size; omega) | (have := (hW).size; simp; omega)) _) | (with_reducible refine Below.setCell ?_ (by first | omega | (simp; omega) | simp | (have := (hW).size; omega) | (have := (hW).size; simp; omega)) _) | exact hW))⟩
set_option maxRecDepth 100000 in
set_option maxHeartbeats 4000000 in
theorem implIsRelease_c (fd ft : Int) (s : ByteArray) (A : Option Addr) (c : Nat) (l : List Int) (wd lf rt : Int) (lu hu lv hv : Figure) (ey bo : Int) (w : World) (hsz : s.size ≤ 1048576) (hl : l.length ≤ 1048576) (hs : Sl w w.heap.size 1 A (l.map ic)) :
    Calls Tryz.prog 69 #[.agg #[.int .i64 fd, .int .i64 ft, .string s, .slice A l.length c, .int .i64 wd, .int .i64 lf, .int .i64 rt, .int .i64 lu.digits, .int .i64 lu.tens, .int .i64 hu.digits, .int .i64 hu.tens, .int .i64 lv.digits, .int .i64 lv.tens, .int .i64 hv.digits, .int .i64 hv.tens, .int .i64 ey, .int .i64 bo]] w fun e w' => e = .returned (.bool (relB fd ft s l wd lf rt lu hu lv hv ey bo)) ∧ Below w.heap.size w w' := by
  cases hc : chartB fd ft s l wd lf rt with
  | true =>
    obtain ⟨_, _, _, _, _, p0, p1, rfl, _, _⟩ := chart_parts hc
    obtain ⟨b, off, rfl, hb, hx⟩ := hs.at_ (i := 0) (by simp)
    obtain ⟨b1, off1, h1, _, hx1⟩ := hs.at_ (i := 1) (by simp)
    obtain ⟨rfl, rfl⟩ : b = b1 ∧ off = off1 := by simpa using h1
    exact implIsRelease1_c fd ft s b off c p0 p1 wd lf rt lu hu lv hv ey bo w hsz hs hb (by simpa using hx 0 _ rfl) (by simpa using hx1 0 _ rfl) hc
  | false =>
    rw [relB_no hc]
    have HC := fun W (hW : Below w.heap.size w W) => implIsChart_c fd ft s A c l wd lf rt W hsz hl ((hs.below hW).more hW.size)
    rw [hc] at HC
    replace HC := Lib.hid HC
    clear hc hs
    have hW : Below w.heap.size w (w.alloc (.cells #[.int .i64 fd, .int .i64 ft, .string s, .slice A l.length c, .int .i64 wd, .int .i64 lf, .int .i64 rt, .int .i64 lu.digits, .int .i64 lu.tens, .int .i64 hu.digits, .int .i64 hu.tens, .int .i64 lv.digits, .int .i64 lv.tens, .int .i64 hv.digits, .int .i64 hv.tens, .int .i64 ey, .int .i64 bo] 46)) := (by repeat (first | with_reducible exact Below.refl _ _ | with_reducible apply below_drewN' | with_reducible apply Below.drew | (with_reducible refine Below.alloc ?_ (by first | omega | (simp; omega) | simp | (have := (Below.refl _ _).size; omega) | (have := (Below.refl _ _).size; simp; omega)) _) | (with_reducible refine Below.setCell ?_ (by first | omega | (simp; omega) | simp | (have := (Below.refl _ _).size; omega) | (have := (Below.refl _ _).size; simp; omega)) _) | exact Below.refl _ _))
    have B0 := Blk.new w 46 #[.int .i64 fd, .int .i64 ft, .string s, .slice A l.length c, .int .i64 wd, .int .i64 lf, .int .i64 rt, .int .i64 lu.digits, .int .i64 lu.tens, .int .i64 hu.digits, .int .i64 hu.tens, .int .i64 lv.digits, .int .i64 lv.tens, .int .i64 hv.digits, .int .i64 hv.tens, .int .i64 ey, .int .i64 bo]
    go_enter Tryz.func69, Tryz.ntmps69
    go_wp2_with fail
    generalize w.alloc (.cells #[.int .i64 fd, .int .i64 ft, .string s, .slice A l.length c, .int .i64 wd, .int .i64 lf, .int .i64 rt, .int .i64 lu.digits, .int .i64 lu.tens, .int .i64 hu.digits, .int .i64 hu.tens, .int .i64 lv.digits, .int .i64 lv.tens, .int .i64 hv.digits, .int .i64 hv.tens, .int .i64 ey, .int .i64 bo] 46) = W at *
    refine Calls.mono (HC.out W hW) ?_; rintro e w1 ⟨rfl, hb1⟩
    replace B0 := B0.below hb1 B0.lt
    replace hW := hW.trans (hb1.mono hW.size)
    clear hb1
    go_wp2
    go_ret
    exact ⟨rfl, (by repeat (first | with_reducible exact hW | with_reducible apply below_drewN' | with_reducible apply Below.drew | (with_reducible refine Below.alloc ?_ (by first | omega | (simp; omega) | simp | (have := (hW).size; omega) | (have := (hW).size; simp; omega)) _) | (with_reducible refine Below.setCell ?_ (by first | omega | (simp; omega) | simp | (have := (hW).size; omega) | (have := (hW).size; simp; omega)) _) | exact hW))⟩
set_option maxRecDepth 100000 in
set_option maxHeartbeats 4000000 in
theorem specIsRelease1_c (fd ft : Int) (s : ByteArray) (b off c : Nat) (p0 p1 wd lf rt : Int) (lu hu lv hv : Figure) (ey bo : Int) (w : World) (hsz : s.size ≤ 1048576) (hs : Sl w w.heap.size 1 (some ⟨b, off, none⟩) ([p0, p1].map ic)) (hb : b < w.heap.size) (c0 : w.cell? ⟨b, off, none⟩ = some (.int .i64 p0)) (c1 : w.cell? ⟨b, off + 1, none⟩ = some (.int .i64 p1)) (hc : chartB fd ft s [p0, p1] wd lf rt = true) :
    Calls Tryz.prog 74 #[.agg #[.int .i64 fd, .int .i64 ft, .string s, .slice (some ⟨b, off, none⟩) 2 c, .int .i64 wd, .int .i64 lf, .int .i64 rt, .int .i64 lu.digits, .int .i64 lu.tens, .int .i64 hu.digits, .int .i64 hu.tens, .int .i64 lv.digits, .int .i64 lv.tens, .int .i64 hv.digits, .int .i64 hv.tens, .int .i64 ey, .int .i64 bo]] w fun e w' => e = .returned (.bool (relB fd ft s [p0, p1] wd lf rt lu hu lv hv ey bo)) ∧ Below w.heap.size w w' := by
  have hR := relB_eq fd ft s p0 p1 wd lf rt lu hu lv hv ey bo
  rw [hc, Bool.true_and] at hR
  obtain ⟨_, _, hwd, hlf, hrt, q0, q1, hq, hp0, hp1⟩ := chart_parts hc
  obtain ⟨rfl, rfl⟩ : p0 = q0 ∧ p1 = q1 := by simpa using hq
  clear hq
  have HC := fun W (hW : Below w.heap.size w W) => specIsChart_c fd ft s (some ⟨b, off, none⟩) c [p0, p1] wd lf rt W hsz (by simp) ((hs.below hW).more hW.size)
  rw [hc] at HC
  have HF1 := fun W => l02Two_c lu hu W
  have HF2 := fun W => l02Two_c lv hv W
  have HE := fun W => l01In_c ey 0 200 W
  have HB := fun W => l01In_c bo 0 1048576 W
  have HX := fun h1 h2 W => l02Compare_c hu lu W h1 h2
  have HY := fun h1 h2 W => l02Compare_c hv lv W h1 h2
  have HU := fun W A cc (hW : Below w.heap.size w W) hok hs' => scalePoints_c fd ft s b off c p0 p1 wd lf rt 0 A cc [lu, hu] W (.inl rfl) hsz (by simp) (Nat.lt_of_lt_of_le hb hW.size) ((hW.cell hb).trans c0) ((hW.cell hb).trans c1) ((hs.below hW).more hW.size) hc hp0 hp1 hlf hrt hok hs'
  have HV := fun W A cc (hW : Below w.heap.size w W) hok hs' => scalePoints_c fd ft s b off c p0 p1 wd lf rt 1 A cc [lv, hv] W (.inr rfl) hsz (by simp) (Nat.lt_of_lt_of_le hb hW.size) ((hW.cell hb).trans c0) ((hW.cell hb).trans c1) ((hs.below hW).more hW.size) hc hp0 hp1 hlf hrt hok hs'
  rw [if_pos rfl] at HU
  rw [if_neg (by decide : ¬ (1 : Int) = 0)] at HV
  simp only [all2] at HU HV
  have hcu := @plCode_pts (lf * p0) [lu, hu]
  have hcv := @plCode_pts (rt * p1) [lv, hv]
  generalize ptsCode (lf * p0) [lu, hu] = cu at *
  generalize ptsCode (rt * p1) [lv, hv] = cv at *
  clear hc hp0 hp1 hwd hlf hrt c0 c1 hs hsz
  generalize relB fd ft s [p0, p1] wd lf rt lu hu lv hv ey bo = res at *
  generalize hf0 : figOK lu = f0 at *
  generalize hf1 : figOK hu = f1 at *
  generalize hf2 : figOK lv = f2 at *
  generalize hf3 : figOK hv = f3 at *
  generalize inB ey 0 200 = be at *
  generalize inB bo 0 1048576 = bb at *
  generalize cmpF hu lu = cx at *
  generalize cmpF hv lv = cy at *
  replace hR := Lib.hid hR
  replace hcu := Lib.hid hcu
  replace hcv := Lib.hid hcv
  clear hf0 hf1 hf2 hf3
  obtain ⟨lud, lut⟩ := lu
  obtain ⟨hud, hut⟩ := hu
  obtain ⟨lvd, lvt⟩ := lv
  obtain ⟨hvd, hvt⟩ := hv
  unfold Figure.agg at HX HY HF1 HF2
  simp only at *
  replace HF1 := Lib.hid HF1
  replace HF2 := Lib.hid HF2
  replace HC := Lib.hid HC
  replace HE := Lib.hid HE
  replace HB := Lib.hid HB
  replace HX := Lib.hid HX
  replace HY := Lib.hid HY
  replace HU := Lib.hid HU
  replace HV := Lib.hid HV
  have hW : Below w.heap.size w (w.alloc (.cells #[.int .i64 fd, .int .i64 ft, .string s, .slice (some ⟨b, off, none⟩) 2 c, .int .i64 wd, .int .i64 lf, .int .i64 rt, .int .i64 lud, .int .i64 lut, .int .i64 hud, .int .i64 hut, .int .i64 lvd, .int .i64 lvt, .int .i64 hvd, .int .i64 hvt, .int .i64 ey, .int .i64 bo] 46)) := (by repeat (first | with_reducible exact Below.refl _ _ | with_reducible apply below_drewN' | with_reducible apply Below.drew | (with_reducible refine Below.alloc ?_ (by first | omega | (simp; omega) | simp | (have := (Below.refl _ _).size; omega) | (have := (Below.refl _ _).size; simp; omega)) _) | (with_reducible refine Below.setCell ?_ (by first | omega | (simp; omega) | simp | (have := (Below.refl _ _).size; omega) | (have := (Below.refl _ _).size; simp; omega)) _) | exact Below.refl _ _))
  have B0 := Blk.new w 46 #[.int .i64 fd, .int .i64 ft, .string s, .slice (some ⟨b, off, none⟩) 2 c, .int .i64 wd, .int .i64 lf, .int .i64 rt, .int .i64 lud, .int .i64 lut, .int .i64 hud, .int .i64 hut, .int .i64 lvd, .int .i64 lvt, .int .i64 hvd, .int .i64 hvt, .int .i64 ey, .int .i64 bo]
  go_enter Tryz.func74, Tryz.ntmps74
  go_wp2_with fail
  generalize w.alloc (.cells #[.int .i64 fd, .int .i64 ft, .string s, .slice (some ⟨b, off, none⟩) 2 c, .int .i64 wd, .int .i64 lf, .int .i64 rt, .int .i64 lud, .int .i64 lut, .int .i64 hud, .int .i64 hut, .int .i64 lvd, .int .i64 lvt, .int .i64 hvd, .int .i64 hvt, .int .i64 ey, .int .i64 bo] 46) = W at *
  refine Calls.mono (HC.out W hW) ?_; rintro e w1 ⟨rfl, hb1⟩
  replace B0 := B0.below hb1 B0.lt
  replace hW := hW.trans (hb1.mono hW.size)
  clear hb1
  clear HC
  have B0_0 := B0.c0
  have B0_1 := B0.c1
  have B0_2 := B0.c2
  have B0_3 := B0.c3
  have B0_4 := B0.c4
  have B0_5 := B0.c5
  have B0_6 := B0.c6
  have B0_7 := B0.c7
  have B0_8 := B0.c8
  have B0_9 := B0.c9
  have B0_10 := B0.c10
  have B0_11 := B0.c11
  have B0_12 := B0.c12
  have B0_13 := B0.c13
  have B0_14 := B0.c14
  have B0_15 := B0.c15
  have B0_16 := B0.c16
  go_wp2_with fail
  refine Calls.mono (HF1.out w1) ?_; rintro e w2 ⟨rfl, hb2⟩
  replace B0 := B0.below hb2 B0.lt
  replace hW := hW.trans (hb2.mono hW.size)
  clear hb2
  have B0_0 := B0.c0
  have B0_1 := B0.c1
  have B0_2 := B0.c2
  have B0_3 := B0.c3
  have B0_4 := B0.c4
  have B0_5 := B0.c5
  have B0_6 := B0.c6
  have B0_7 := B0.c7
  have B0_8 := B0.c8
  have B0_9 := B0.c9
  have B0_10 := B0.c10
  have B0_11 := B0.c11
  have B0_12 := B0.c12
  have B0_13 := B0.c13
  have B0_14 := B0.c14
  have B0_15 := B0.c15
  have B0_16 := B0.c16
  clear HF1
  have ff : (f0 && f1) = true ∨ (f0 && f1) = false := by cases (f0 && f1) <;> simp
  rcases ff with ff | ff
  case inr =>
    generalize (f0 && f1) = g at *
    subst ff
    go_wp2
    go_ret
    exact ⟨by rw [hR.out]; simp, (by repeat (first | with_reducible exact hW | with_reducible apply below_drewN' | with_reducible apply Below.drew | (with_reducible refine Below.alloc ?_ (by first | omega | (simp; omega) | simp | (have := (hW).size; omega) | (have := (hW).size; simp; omega)) _) | (with_reducible refine Below.setCell ?_ (by first | omega | (simp; omega) | simp | (have := (hW).size; omega) | (have := (hW).size; simp; omega)) _) | exact hW))⟩
  obtain ⟨rfl, rfl⟩ : f0 = true ∧ f1 = true := by simpa using ff
  clear ff
  simp only [Bool.true_and] at *
  go_wp2_with fail
  refine Calls.mono (HF2.out w2) ?_; rintro e w2b ⟨rfl, hb2⟩
  replace B0 := B0.below hb2 B0.lt
  replace hW := hW.trans (hb2.mono hW.size)
  clear hb2
  have B0_0 := B0.c0
  have B0_1 := B0.c1
  have B0_2 := B0.c2
  have B0_3 := B0.c3
  have B0_4 := B0.c4
  have B0_5 := B0.c5
  have B0_6 := B0.c6
  have B0_7 := B0.c7
  have B0_8 := B0.c8
  have B0_9 := B0.c9
  have B0_10 := B0.c10
  have B0_11 := B0.c11
  have B0_12 := B0.c12
  have B0_13 := B0.c13
  have B0_14 := B0.c14
  have B0_15 := B0.c15
  have B0_16 := B0.c16
  clear HF2
  have ff : (f2 && f3) = true ∨ (f2 && f3) = false := by cases (f2 && f3) <;> simp
  rcases ff with ff | ff
  case inr =>
    generalize (f2 && f3) = g at *
    subst ff
    go_wp2
    go_ret
    exact ⟨by rw [hR.out]; simp, (by repeat (first | with_reducible exact hW | with_reducible apply below_drewN' | with_reducible apply Below.drew | (with_reducible refine Below.alloc ?_ (by first | omega | (simp; omega) | simp | (have := (hW).size; omega) | (have := (hW).size; simp; omega)) _) | (with_reducible refine Below.setCell ?_ (by first | omega | (simp; omega) | simp | (have := (hW).size; omega) | (have := (hW).size; simp; omega)) _) | exact hW))⟩
  obtain ⟨rfl, rfl⟩ : f2 = true ∧ f3 = true := by simpa using ff
  clear ff
  replace hR := Lib.hid hR.out
  rcases be with _ | _
  · go_wp2_with (go_at_call 83; refine Calls.mono (HE.out _) ?_; rintro e w3 ⟨rfl, rfl⟩)
    go_ret
    exact ⟨by rw [hR.out]; simp, (by repeat (first | with_reducible exact hW | with_reducible apply below_drewN' | with_reducible apply Below.drew | (with_reducible refine Below.alloc ?_ (by first | omega | (simp; omega) | simp | (have := (hW).size; omega) | (have := (hW).size; simp; omega)) _) | (with_reducible refine Below.setCell ?_ (by first | omega | (simp; omega) | simp | (have := (hW).size; omega) | (have := (hW).size; simp; omega)) _) | exact hW))⟩
  rcases bb with _ | _
  · go_wp2_with (first | (go_at_call 83; with_reducible refine Calls.mono (HE.out _) ?_; rintro e w3 ⟨rfl, rfl⟩) | (go_at_call 83; with_reducible refine Calls.mono (HB.out _) ?_; rintro e w3 ⟨rfl, rfl⟩))
    go_ret
    exact ⟨by rw [hR.out]; simp, (by repeat (first | with_reducible exact hW | with_reducible apply below_drewN' | with_reducible apply Below.drew | (with_reducible refine Below.alloc ?_ (by first | omega | (simp; omega) | simp | (have := (hW).size; omega) | (have := (hW).size; simp; omega)) _) | (with_reducible refine Below.setCell ?_ (by first | omega | (simp; omega) | simp | (have := (hW).size; omega) | (have := (hW).size; simp; omega)) _) | exact hW))⟩
  go_wp2_with (first | (go_at_call 83; with_reducible refine Calls.mono (HE.out _) ?_; rintro e w3 ⟨rfl, rfl⟩) | (go_at_call 83; with_reducible refine Calls.mono (HB.out _) ?_; rintro e w3 ⟨rfl, rfl⟩) | fail)
  refine Calls.mono (HX.out (by first | rfl | trivial) (by first | rfl | trivial) w2b) ?_; rintro e w3 ⟨rfl, hb3⟩
  replace B0 := B0.below hb3 B0.lt
  replace hW := hW.trans (hb3.mono hW.size)
  clear hb3
  have B0_0 := B0.c0
  have B0_1 := B0.c1
  have B0_2 := B0.c2
  have B0_3 := B0.c3
  have B0_4 := B0.c4
  have B0_5 := B0.c5
  have B0_6 := B0.c6
  have B0_7 := B0.c7
  have B0_8 := B0.c8
  have B0_9 := B0.c9
  have B0_10 := B0.c10
  have B0_11 := B0.c11
  have B0_12 := B0.c12
  have B0_13 := B0.c13
  have B0_14 := B0.c14
  have B0_15 := B0.c15
  have B0_16 := B0.c16
  clear HX HE HB
  by_cases hx : cx < 0
  · have hx2 : decide (0 ≤ cx) = false := decide_eq_false (by omega)
    replace hR : Hid (res = false) := Lib.hid (by rw [hR.out, hx2]; simp)
    clear hx2
    go_wp2
    go_ret
    exact ⟨by rw [hR.out]; rfl, (by repeat (first | with_reducible exact hW | with_reducible apply below_drewN' | with_reducible apply Below.drew | (with_reducible refine Below.alloc ?_ (by first | omega | (simp; omega) | simp | (have := (hW).size; omega) | (have := (hW).size; simp; omega)) _) | (with_reducible refine Below.setCell ?_ (by first | omega | (simp; omega) | simp | (have := (hW).size; omega) | (have := (hW).size; simp; omega)) _) | exact hW))⟩
  go_wp2_with fail
  refine Calls.mono (HY.out (by first | rfl | trivial) (by first | rfl | trivial) w3) ?_; rintro e w4 ⟨rfl, hb4⟩
  replace B0 := B0.below hb4 B0.lt
  replace hW := hW.trans (hb4.mono hW.size)
  clear hb4
  have B0_0 := B0.c0
  have B0_1 := B0.c1
  have B0_2 := B0.c2
  have B0_3 := B0.c3
  have B0_4 := B0.c4
  have B0_5 := B0.c5
  have B0_6 := B0.c6
  have B0_7 := B0.c7
  have B0_8 := B0.c8
  have B0_9 := B0.c9
  have B0_10 := B0.c10
  have B0_11 := B0.c11
  have B0_12 := B0.c12
  have B0_13 := B0.c13
  have B0_14 := B0.c14
  have B0_15 := B0.c15
  have B0_16 := B0.c16
  clear HY
  by_cases hy : cy < 0
  · have hx2 : decide (0 ≤ cy) = false := decide_eq_false (by omega)
    replace hR : Hid (res = false) := Lib.hid (by rw [hR.out, hx2]; simp)
    clear hx2
    go_wp2
    go_ret
    exact ⟨by rw [hR.out]; rfl, (by repeat (first | with_reducible exact hW | with_reducible apply below_drewN' | with_reducible apply Below.drew | (with_reducible refine Below.alloc ?_ (by first | omega | (simp; omega) | simp | (have := (hW).size; omega) | (have := (hW).size; simp; omega)) _) | (with_reducible refine Below.setCell ?_ (by first | omega | (simp; omega) | simp | (have := (hW).size; omega) | (have := (hW).size; simp; omega)) _) | exact hW))⟩
  have hx2 : decide (0 ≤ cx) = true := decide_eq_true (by omega)
  have hy2 : decide (0 ≤ cy) = true := decide_eq_true (by omega)
  replace hR : Hid (res = (decide (cu = 0) && decide (cv = 0))) := Lib.hid (by rw [hR.out, hx2, hy2]; simp)
  clear hx2 hy2
  go_wp2_with fail
  have ha : Below w.heap.size w (w4.alloc (.cells #[.int .i64 lud, .int .i64 lut, .int .i64 hud, .int .i64 hut] 40)) := hW.alloc hW.size _
  refine Calls.mono (HU.out _ _ _ ha (by first | rfl | trivial) (by simpa using Sl.fig2 w4 40 ⟨lud, lut⟩ ⟨hud, hut⟩ rfl)) ?_; rintro e w5 ⟨⟨v0, rfl⟩, hb5⟩
  replace B0 := (B0.alloc _).below hb5 (by have := B0.lt; simp; omega)
  replace hW := ha.trans (hb5.mono ha.size)
  clear hb5 ha HU
  have B0_0 := B0.c0
  have B0_1 := B0.c1
  have B0_2 := B0.c2
  have B0_3 := B0.c3
  have B0_4 := B0.c4
  have B0_5 := B0.c5
  have B0_6 := B0.c6
  have B0_7 := B0.c7
  have B0_8 := B0.c8
  have B0_9 := B0.c9
  have B0_10 := B0.c10
  have B0_11 := B0.c11
  have B0_12 := B0.c12
  have B0_13 := B0.c13
  have B0_14 := B0.c14
  have B0_15 := B0.c15
  have B0_16 := B0.c16
  go_wp2_with fail
  have ha : Below w.heap.size w (w5.alloc (.cells #[.int .i64 lvd, .int .i64 lvt, .int .i64 hvd, .int .i64 hvt] 40)) := hW.alloc hW.size _
  refine Calls.mono (HV.out _ _ _ ha (by first | rfl | trivial) (by simpa using Sl.fig2 w5 40 ⟨lvd, lvt⟩ ⟨hvd, hvt⟩ rfl)) ?_; rintro e w6 ⟨⟨v1, rfl⟩, hb5⟩
  replace B0 := (B0.alloc _).below hb5 (by have := B0.lt; simp; omega)
  replace hW := ha.trans (hb5.mono ha.size)
  clear hb5 ha HV
  rcases hcu.out with rfl | rfl <;> rcases hcv.out with rfl | rfl
  all_goals
    go_wp2
    go_ret
    exact ⟨by rw [hR.out]; rfl, (by repeat (first | with_reducible exact hW | with_reducible apply below_drewN' | with_reducible apply Below.drew | (with_reducible refine Below.alloc ?_ (by first | omega | (simp; omega) | simp | (have := (hW).size; omega) | (have := (hW).size; simp; omega)) _) | (with_reducible refine Below.setCell ?_ (by first | omega | (simp; omega) | simp | (have := (hW).size; omega) | (have := (hW).size; simp; omega)) _) | exact hW))⟩
set_option maxRecDepth 100000 in
set_option maxHeartbeats 4000000 in
theorem specIsRelease_c (fd ft : Int) (s : ByteArray) (A : Option Addr) (c : Nat) (l : List Int) (wd lf rt : Int) (lu hu lv hv : Figure) (ey bo : Int) (w : World) (hsz : s.size ≤ 1048576) (hl : l.length ≤ 1048576) (hs : Sl w w.heap.size 1 A (l.map ic)) :
    Calls Tryz.prog 74 #[.agg #[.int .i64 fd, .int .i64 ft, .string s, .slice A l.length c, .int .i64 wd, .int .i64 lf, .int .i64 rt, .int .i64 lu.digits, .int .i64 lu.tens, .int .i64 hu.digits, .int .i64 hu.tens, .int .i64 lv.digits, .int .i64 lv.tens, .int .i64 hv.digits, .int .i64 hv.tens, .int .i64 ey, .int .i64 bo]] w fun e w' => e = .returned (.bool (relB fd ft s l wd lf rt lu hu lv hv ey bo)) ∧ Below w.heap.size w w' := by
  cases hc : chartB fd ft s l wd lf rt with
  | true =>
    obtain ⟨_, _, _, _, _, p0, p1, rfl, _, _⟩ := chart_parts hc
    obtain ⟨b, off, rfl, hb, hx⟩ := hs.at_ (i := 0) (by simp)
    obtain ⟨b1, off1, h1, _, hx1⟩ := hs.at_ (i := 1) (by simp)
    obtain ⟨rfl, rfl⟩ : b = b1 ∧ off = off1 := by simpa using h1
    exact specIsRelease1_c fd ft s b off c p0 p1 wd lf rt lu hu lv hv ey bo w hsz hs hb (by simpa using hx 0 _ rfl) (by simpa using hx1 0 _ rfl) hc
  | false =>
    rw [relB_no hc]
    have HC := fun W (hW : Below w.heap.size w W) => specIsChart_c fd ft s A c l wd lf rt W hsz hl ((hs.below hW).more hW.size)
    rw [hc] at HC
    replace HC := Lib.hid HC
    clear hc hs
    have hW : Below w.heap.size w (w.alloc (.cells #[.int .i64 fd, .int .i64 ft, .string s, .slice A l.length c, .int .i64 wd, .int .i64 lf, .int .i64 rt, .int .i64 lu.digits, .int .i64 lu.tens, .int .i64 hu.digits, .int .i64 hu.tens, .int .i64 lv.digits, .int .i64 lv.tens, .int .i64 hv.digits, .int .i64 hv.tens, .int .i64 ey, .int .i64 bo] 46)) := (by repeat (first | with_reducible exact Below.refl _ _ | with_reducible apply below_drewN' | with_reducible apply Below.drew | (with_reducible refine Below.alloc ?_ (by first | omega | (simp; omega) | simp | (have := (Below.refl _ _).size; omega) | (have := (Below.refl _ _).size; simp; omega)) _) | (with_reducible refine Below.setCell ?_ (by first | omega | (simp; omega) | simp | (have := (Below.refl _ _).size; omega) | (have := (Below.refl _ _).size; simp; omega)) _) | exact Below.refl _ _))
    have B0 := Blk.new w 46 #[.int .i64 fd, .int .i64 ft, .string s, .slice A l.length c, .int .i64 wd, .int .i64 lf, .int .i64 rt, .int .i64 lu.digits, .int .i64 lu.tens, .int .i64 hu.digits, .int .i64 hu.tens, .int .i64 lv.digits, .int .i64 lv.tens, .int .i64 hv.digits, .int .i64 hv.tens, .int .i64 ey, .int .i64 bo]
    go_enter Tryz.func74, Tryz.ntmps74
    go_wp2_with fail
    generalize w.alloc (.cells #[.int .i64 fd, .int .i64 ft, .string s, .slice A l.length c, .int .i64 wd, .int .i64 lf, .int .i64 rt, .int .i64 lu.digits, .int .i64 lu.tens, .int .i64 hu.digits, .int .i64 hu.tens, .int .i64 lv.digits, .int .i64 lv.tens, .int .i64 hv.digits, .int .i64 hv.tens, .int .i64 ey, .int .i64 bo] 46) = W at *
    refine Calls.mono (HC.out W hW) ?_; rintro e w1 ⟨rfl, hb1⟩
    replace B0 := B0.below hb1 B0.lt
    replace hW := hW.trans (hb1.mono hW.size)
    clear hb1
    go_wp2
    go_ret
    exact ⟨rfl, (by repeat (first | with_reducible exact hW | with_reducible apply below_drewN' | with_reducible apply Below.drew | (with_reducible refine Below.alloc ?_ (by first | omega | (simp; omega) | simp | (have := (hW).size; omega) | (have := (hW).size; simp; omega)) _) | (with_reducible refine Below.setCell ?_ (by first | omega | (simp; omega) | simp | (have := (hW).size; omega) | (have := (hW).size; simp; omega)) _) | exact hW))⟩
end Go.Proofs.YtendoabjjfinhaaGreatDoor
namespace Go.Proofs.YtendoabjjfinhaaGreatDoor
open Go.RowKit
set_option maxRecDepth 100000 in
theorem cloneInt_c (A : Option Addr) (c : Nat) (l : List Int) (w : World) (hl : l.length ≤ 4000000000) (hs : Sl w w.heap.size 1 A (l.map ic)) :
    Calls Tryz.prog 160 #[.slice A l.length c] w fun e w' => ∃ A' c', e = .returned (.slice A' l.length c') ∧ Own w' w.heap.size 2 1 (.slice A' l.length c') (l.map ic) ∧ Below w.heap.size w w' := by
  obtain ⟨i0, hi, hz0, hz1, hz2⟩ := info_parts info_Int64
  have qT : ∀ (w : World) (a : Option Addr) (n c n' c' : Nat), (binOp .eql 25 (.slice a n c) (.slice none n' c')).run Tryz.prog w = .ok (.bool a.isNone) w := fun w a n c n' c' => Lib.run_eql_slice_nil w _ _ a n c n' c' Tryz.underlying25
  cases A with
  | none =>
    have hl0 : l = [] := by
      cases l with
      | nil => rfl
      | cons y r => obtain ⟨_, b, off, h, _⟩ := hs 0 _ rfl; cases h
    subst hl0
    go_enter Tryz.func160, Tryz.ntmps160
    go_wp2
    go_ret
    exact ⟨none, 0, rfl, Own.nil_, Below.refl _ _⟩
  | some a =>
    go_enter Tryz.func160, Tryz.ntmps160
    go_wp2_with (at_builtin; refine wpList_append_rows _ rfl (.tmp 5) (.tmp 6) _ rfl w.heap.size 2 i0 _ 1 8 Tryz.underlying25 hi hz0 hz1 hz2 rfl (by omega) _ [] rfl (Own.empty (Nat.le_refl _)) w.heap.size (some a) l.length c (l.map ic) rfl (by simp) (hs.alloc (Nat.le_refl _) _) ic_one (by simp [maxLen]; omega) (by simp; omega) (by simp) ?_; intro v1 w1 hO hg hat)
    go_ret
    obtain ⟨A', c', rfl, _⟩ := hO.form
    refine ⟨A', c', by simp, by simpa using hO, ?_⟩
    exact below_app (((Below.refl _ _).alloc (Nat.le_refl _) _)) hg (by simp) (fun g hg' => Nat.le_of_eq (Option.some.inj hg'))
set_option maxRecDepth 100000 in
theorem l01Own_c (A : Option Addr) (c : Nat) (l : List Int) (w : World) (hl : l.length ≤ 4000000000) (hs : Sl w w.heap.size 1 A (l.map ic)) :
    Calls Tryz.prog 84 #[.slice A l.length c] w fun e w' => ∃ A' c', e = .returned (.slice A' l.length c') ∧ Own w' w.heap.size 2 1 (.slice A' l.length c') (l.map ic) ∧ Below w.heap.size w w' := by
  obtain ⟨i0, hi, hz0, hz1, hz2⟩ := info_parts info_Int64
  go_enter Tryz.func84, Tryz.ntmps84
  go_wp2_with (at_builtin; refine wpList_append_rows _ rfl (.tmp 3) (.tmp 4) _ rfl w.heap.size 2 i0 _ 1 8 Tryz.underlying25 hi hz0 hz1 hz2 rfl (by omega) _ [] rfl (Own.empty (Nat.le_refl _)) w.heap.size A l.length c (l.map ic) rfl (by simp) (hs.alloc (Nat.le_refl _) _) ic_one (by simp [maxLen]; omega) (by simp; omega) (by simp) ?_; intro v1 w1 hO hg hat)
  go_ret
  obtain ⟨A', c', rfl, _⟩ := hO.form
  refine ⟨A', c', by simp, by simpa using hO, ?_⟩
  exact below_app (((Below.refl _ _).alloc (Nat.le_refl _) _)) hg (by simp) (fun g hg' => Nat.le_of_eq (Option.some.inj hg'))
end Go.Proofs.YtendoabjjfinhaaGreatDoor
namespace Go.Proofs.YtendoabjjfinhaaGreatDoor
open Go.RowKit
theorem Blk.range {w : World} {g : Nat} {t : TypeId} {cs : List Value} (h : Blk w g t cs.toArray) : w.rangeAt g 0 cs := fun j v hv => by
  rw [Nat.zero_add, h.cell]
  simpa using hv
/-- a part of a block -/
theorem Blk.part {w : World} {g : Nat} {t : TypeId} {xs cs ys : List Value} (h : Blk w g t (xs ++ cs ++ ys).toArray) {n : Nat} (hn : xs.length = n) : w.rangeAt g n cs := fun j v hv => by
  subst hn
  have hj : j < cs.length := (List.getElem?_eq_some_iff.1 hv).1
  rw [h.cell]
  simp only [List.getElem?_toArray]
  rw [List.append_assoc, List.getElem?_append_right (by omega), Nat.add_sub_cancel_left, List.getElem?_append_left hj]
  exact hv
end Go.Proofs.YtendoabjjfinhaaGreatDoor
