/- IsOrdered: the program's and the reference's. No condition beyond the list's length. -/
import Derived.Test.YtkjommcmeinkaaaGreatKRw16
set_option linter.unusedSimpArgs false
namespace Go.Proofs.YtkjommcmeinkaaaGreat
open Go.RowKit
def adjOK (scale : Int) (a b : Tick) : Bool := decide (a.mark < b.mark) && (if scale = 3 then decide (b.place ≤ a.place) else decide (a.place ≤ b.place))
/-- the first k+1 ticks are in order -/
def ordTo (scale : Int) (l : List Tick) (k : Nat) : Bool := (List.range k).all fun i => match l[i]?, l[i+1]? with | some a, some b => adjOK scale a b | _, _ => true
theorem ordTo_zero (scale : Int) (l : List Tick) : ordTo scale l 0 = true := rfl
theorem ordTo_succ (scale : Int) (l : List Tick) (k : Nat) (h : k + 1 < l.length) : ordTo scale l (k + 1) = (ordTo scale l k && adjOK scale l[k] l[k+1]) := by
  unfold ordTo
  rw [List.range_succ, List.all_append, List.all_cons, List.all_nil, List.getElem?_eq_getElem (show k < l.length by omega), List.getElem?_eq_getElem h, Bool.and_true]
theorem ordTo_false (scale : Int) (l : List Tick) (k : Nat) (h : k + 1 < l.length) (ha : adjOK scale l[k] l[k+1] = false) : ordTo scale l (l.length - 1) = false := by
  rw [Bool.eq_false_iff]
  intro hall
  unfold ordTo at hall
  have := List.all_eq_true.1 hall k (List.mem_range.2 (by omega))
  rw [List.getElem?_eq_getElem (show k < l.length by omega), List.getElem?_eq_getElem h] at this
  have this : adjOK scale l[k] l[k + 1] = true := this
  rw [ha] at this
  cases this
def ordRes (scale : Int) (l : List Tick) : Bool × Int := if rowCode l = 0 then (if inB scale 0 5 then (ordTo scale l (l.length - 1), 0) else (false, 2)) else (false, rowCode l)
set_option maxRecDepth 100000 in
set_option maxHeartbeats 1000000 in
theorem specIsOrdered_c (scale : Int) (A : Option Addr) (c : Nat) (l : List Tick) (w : World) (hl : l.length ≤ 140737488351232) (hs : Sl w w.heap.size 3 A (l.map Tick.cells)) :
    Calls Tryz.prog 10 #[.int .i64 scale, .slice A l.length c] w fun e w' => e = .returned (.tuple #[.bool (ordRes scale l).1, .int .i64 (ordRes scale l).2]) ∧ Below w.heap.size w w' := by
  have H := Lib.hid (l29Code_c scale 1 A c l 0 w hl hs)
  by_cases h0 : rowCode l = 0 ∧ inB scale 0 5 = true
  · obtain ⟨h0, h1⟩ := h0
    have hp0 : printCode scale 1 l 0 = 0 := by unfold printCode; rw [if_pos h0, h1]; rfl
    rw [hp0] at H
    have H0 : Hid (ordRes scale l = (ordTo scale l (l.length - 1), 0)) := by unfold Hid ordRes; rw [if_pos h0, h1]; rfl
    have hok' := Lib.hid (List.all_eq_true.1 (rowCode_ok h0).2)
    have hlen := (rowCode_ok h0).1
    clear h0 h1 hp0
    have hsc : ((scale == 3) = true ∧ scale = 3) ∨ ((scale == 3) = false ∧ ¬ scale = 3) := by
      by_cases h : scale = 3
      · exact .inl ⟨by simp [h], h⟩
      · exact .inr ⟨by simp [h], h⟩
    go_enter Tryz.func10, Tryz.ntmps10
    go_wp2_with (go_at_call 25; refine H.out.mono ?_; rintro e w1 ⟨rfl, hb1⟩)
    go_loopw [7] (fun i wr => ∃ k : Nat, (k + 1 ≤ l.length ∨ k = 0) ∧ i = .int .i64 (k + 1 : Nat) ∧ Below w.heap.size w wr ∧ Hid (ordTo scale l k = true)) (fun i _ => l.length - (intOf i).toNat)
    case atStart => exact ⟨0, .inr rfl, rfl, hb1, rfl⟩
    case round =>
      obtain ⟨k, hk, rfl, hb, hn⟩ := hrel
      have hbs := hb.size
      by_cases hlt : k + 1 < l.length
      · have hlt' : (k : Int) + 1 < l.length := by omega
        have hkw : IntKind.i64.wrap (k : Int) = k := IntWalk.i64_in _ (by omega)
        have Hsu := Lib.hid (ordTo_succ scale l k hlt)
        have hf := ordTo_false scale l k hlt
        have bt1 := tick_bd (hok'.out l[k] (List.getElem_mem (by omega)))
        have bt2 := tick_bd (hok'.out l[k+1] (List.getElem_mem _))
        obtain ⟨b, off, rfl, bB, hc⟩ := hs.at_ (i := k) (by simp; omega)
        have bW : b < wr.heap.size := by omega
        obtain ⟨b', off', he, _, hc'⟩ := hs.at_ (i := k + 1) (by simpa using hlt)
        simp only [Option.some.injEq, Addr.mk.injEq, and_true] at he
        obtain ⟨rfl, rfl⟩ := he
        simp only [List.getElem_map] at hc hc'
        have c0 : wr.cell? ⟨b, off + k * 3, none⟩ = some (.int .i64 l[k].mark) := by rw [hb.cell bB]; exact hc 0 _ rfl
        have c1 : wr.cell? ⟨b, off + k * 3 + 1, none⟩ = some (.int .i64 l[k].place) := by rw [hb.cell bB]; exact hc 1 _ rfl
        have c2 : wr.cell? ⟨b, off + k * 3 + 2, none⟩ = some (.int .i64 l[k].height) := by rw [hb.cell bB]; exact hc 2 _ rfl
        have d0 : wr.cell? ⟨b, off + (k + 1) * 3, none⟩ = some (.int .i64 l[k+1].mark) := by rw [hb.cell bB]; exact hc' 0 _ rfl
        have d1 : wr.cell? ⟨b, off + (k + 1) * 3 + 1, none⟩ = some (.int .i64 l[k+1].place) := by rw [hb.cell bB]; exact hc' 1 _ rfl
        have d2 : wr.cell? ⟨b, off + (k + 1) * 3 + 2, none⟩ = some (.int .i64 l[k+1].height) := by rw [hb.cell bB]; exact hc' 2 _ rfl
        clear hc hc' hs
        have hadj : adjOK scale l[k] l[k+1] = (decide (l[k].mark < l[k+1].mark) && (if scale = 3 then decide (l[k+1].place ≤ l[k].place) else decide (l[k].place ≤ l[k+1].place))) := rfl
        generalize l[k] = t0 at *
        generalize l[k+1] = t1 at *
        have Hadj := Lib.hid hadj; clear hadj
        have Hf : adjOK scale t0 t1 = false → Hid (ordTo scale l (l.length - 1) = false) := hf
        clear hf
        obtain ⟨⟨bm1, bm2⟩, bp1, bp2⟩ := bt1
        obtain ⟨⟨bn1, bn2⟩, bq1, bq2⟩ := bt2
        go_wp2_with fail
        go_region
        all_goals
          rcases hsc with ⟨e3, hs3⟩ | ⟨e3, hs3⟩
          · have HS := Lib.hid hs3; clear hs3
            by_cases hm : t0.mark < t1.mark
            · have hd : decide (t1.mark ≤ t0.mark) = false := by simp; omega
              by_cases hp : t1.place ≤ t0.place
              · have Ha : Hid (adjOK scale t0 t1 = true) := by unfold Hid; rw [Hadj.out]; simp [HS.out, hm, hp]
                clear Hf
                go_wp2
                go_roundw
                case rel => exact ⟨k + 1, .inl (by omega), by go_num, (by repeat (first | with_reducible exact hb | with_reducible apply below_drewN' | with_reducible apply Below.drew | (with_reducible refine Below.alloc ?_ (by first | omega | (simp; omega) | simp | (have := (hb).size; omega) | (have := (hb).size; simp; omega)) _) | (with_reducible refine Below.setCell ?_ (by first | omega | (simp; omega) | simp | (have := (hb).size; omega) | (have := (hb).size; simp; omega)) _) | exact hb)), (show _ = true from by rw [Hsu.out, hn.out, Ha.out]; rfl)⟩
                case measure => simp [intOf]; omega
              · have Ha := Hf (by rw [Hadj.out]; simp [HS.out, hm, hp])
                clear Hf
                go_wp2
                go_ret2
                exact ⟨by rw [H0.out, Ha.out]; rfl, (by repeat (first | with_reducible exact hb | with_reducible apply below_drewN' | with_reducible apply Below.drew | (with_reducible refine Below.alloc ?_ (by first | omega | (simp; omega) | simp | (have := (hb).size; omega) | (have := (hb).size; simp; omega)) _) | (with_reducible refine Below.setCell ?_ (by first | omega | (simp; omega) | simp | (have := (hb).size; omega) | (have := (hb).size; simp; omega)) _) | exact hb))⟩
            · have hd : decide (t1.mark ≤ t0.mark) = true := by simp; omega
              have Ha := Hf (by rw [Hadj.out]; simp [hm])
              clear Hf
              go_wp2
              go_ret2
              exact ⟨by rw [H0.out, Ha.out]; rfl, (by repeat (first | with_reducible exact hb | with_reducible apply below_drewN' | with_reducible apply Below.drew | (with_reducible refine Below.alloc ?_ (by first | omega | (simp; omega) | simp | (have := (hb).size; omega) | (have := (hb).size; simp; omega)) _) | (with_reducible refine Below.setCell ?_ (by first | omega | (simp; omega) | simp | (have := (hb).size; omega) | (have := (hb).size; simp; omega)) _) | exact hb))⟩
          · have HS := Lib.hid hs3; clear hs3
            by_cases hm : t0.mark < t1.mark
            · have hd : decide (t1.mark ≤ t0.mark) = false := by simp; omega
              by_cases hp : t0.place ≤ t1.place
              · have Ha : Hid (adjOK scale t0 t1 = true) := by unfold Hid; rw [Hadj.out]; simp [HS.out, hm, hp]
                clear Hf
                go_wp2
                go_roundw
                case rel => exact ⟨k + 1, .inl (by omega), by go_num, (by repeat (first | with_reducible exact hb | with_reducible apply below_drewN' | with_reducible apply Below.drew | (with_reducible refine Below.alloc ?_ (by first | omega | (simp; omega) | simp | (have := (hb).size; omega) | (have := (hb).size; simp; omega)) _) | (with_reducible refine Below.setCell ?_ (by first | omega | (simp; omega) | simp | (have := (hb).size; omega) | (have := (hb).size; simp; omega)) _) | exact hb)), (show _ = true from by rw [Hsu.out, hn.out, Ha.out]; rfl)⟩
                case measure => simp [intOf]; omega
              · have Ha := Hf (by rw [Hadj.out]; simp [HS.out, hm, hp])
                clear Hf
                go_wp2
                go_ret2
                exact ⟨by rw [H0.out, Ha.out]; rfl, (by repeat (first | with_reducible exact hb | with_reducible apply below_drewN' | with_reducible apply Below.drew | (with_reducible refine Below.alloc ?_ (by first | omega | (simp; omega) | simp | (have := (hb).size; omega) | (have := (hb).size; simp; omega)) _) | (with_reducible refine Below.setCell ?_ (by first | omega | (simp; omega) | simp | (have := (hb).size; omega) | (have := (hb).size; simp; omega)) _) | exact hb))⟩
            · have hd : decide (t1.mark ≤ t0.mark) = true := by simp; omega
              have Ha := Hf (by rw [Hadj.out]; simp [hm])
              clear Hf
              go_wp2
              go_ret2
              exact ⟨by rw [H0.out, Ha.out]; rfl, (by repeat (first | with_reducible exact hb | with_reducible apply below_drewN' | with_reducible apply Below.drew | (with_reducible refine Below.alloc ?_ (by first | omega | (simp; omega) | simp | (have := (hb).size; omega) | (have := (hb).size; simp; omega)) _) | (with_reducible refine Below.setCell ?_ (by first | omega | (simp; omega) | simp | (have := (hb).size; omega) | (have := (hb).size; simp; omega)) _) | exact hb))⟩
      · go_wp2
        go_ret2
        refine ⟨?_, hb⟩
        rw [H0.out, show l.length - 1 = k from by omega, hn.out]
        rfl
  · have H0 : Hid (ordRes scale l = (false, printCode scale 1 l 0) ∧ (printCode scale 1 l 0 != 0) = true) := by
      unfold Hid ordRes printCode
      by_cases h1 : rowCode l = 0
      · cases h2 : inB scale 0 5
        · simp [h1]
        · exact absurd ⟨h1, h2⟩ h0
      · simp [h1]
    have hne := H0.out.2
    clear h0
    generalize printCode scale 1 l 0 = pc at *
    go_enter Tryz.func10, Tryz.ntmps10
    go_wp2_with (go_at_call 25; refine H.out.mono ?_; rintro e w1 ⟨rfl, hb1⟩)
    go_ret2
    exact ⟨by rw [H0.out.1]; rfl, hb1⟩
set_option maxRecDepth 100000 in
set_option maxHeartbeats 1000000 in
theorem implIsOrdered_c (scale : Int) (A : Option Addr) (c : Nat) (l : List Tick) (w : World) (hl : l.length ≤ 140737488351232) (hs : Sl w w.heap.size 3 A (l.map Tick.cells)) :
    Calls Tryz.prog 9 #[.int .i64 scale, .slice A l.length c] w fun e w' => e = .returned (.tuple #[.bool (ordRes scale l).1, .int .i64 (ordRes scale l).2]) ∧ Below w.heap.size w w' := by
  have H := Lib.hid (checkRow_c A c l w hl hs)
  by_cases h0 : rowCode l = 0
  · rw [h0] at H
    have hok' := Lib.hid (List.all_eq_true.1 (rowCode_ok h0).2)
    have hlen := (rowCode_ok h0).1
    cases h1 : inB scale 0 5
    · have H0 : Hid (ordRes scale l = (false, 2)) := by unfold Hid ordRes; rw [if_pos h0, h1]; rfl
      clear h0
      go_enter Tryz.func9, Tryz.ntmps9
      go_wp2_with (first | (go_at_call 28; refine H.out.mono ?_; rintro e w1 ⟨rfl, hb1⟩) | (go_at_call 29; refine (implIsScale_c _ _).mono ?_; rintro e w' ⟨rfl, rfl⟩))
      go_ret2
      exact ⟨by rw [H0.out]; rfl, hb1⟩
    have H0 : Hid (ordRes scale l = (ordTo scale l (l.length - 1), 0)) := by unfold Hid ordRes; rw [if_pos h0, h1]; rfl
    clear h0
    have hsc : ((scale == 3) = true ∧ scale = 3) ∨ ((scale == 3) = false ∧ ¬ scale = 3) := by
      by_cases h : scale = 3
      · exact .inl ⟨by simp [h], h⟩
      · exact .inr ⟨by simp [h], h⟩
    go_enter Tryz.func9, Tryz.ntmps9
    go_wp2_with (first | (go_at_call 28; refine H.out.mono ?_; rintro e w1 ⟨rfl, hb1⟩) | (go_at_call 29; refine (implIsScale_c _ _).mono ?_; rintro e w' ⟨rfl, rfl⟩))
    go_loopw [7] (fun i wr => ∃ k : Nat, (k + 1 ≤ l.length ∨ k = 0) ∧ i = .int .i64 (k + 1 : Nat) ∧ Below w.heap.size w wr ∧ Hid (ordTo scale l k = true)) (fun i _ => l.length - (intOf i).toNat)
    case atStart => exact ⟨0, .inr rfl, rfl, hb1, rfl⟩
    case round =>
      obtain ⟨k, hk, rfl, hb, hn⟩ := hrel
      have hbs := hb.size
      by_cases hlt : k + 1 < l.length
      · have hlt' : (k : Int) + 1 < l.length := by omega
        have hkw : IntKind.i64.wrap (k : Int) = k := IntWalk.i64_in _ (by omega)
        have Hsu := Lib.hid (ordTo_succ scale l k hlt)
        have hf := ordTo_false scale l k hlt
        have bt1 := tick_bd (hok'.out l[k] (List.getElem_mem (by omega)))
        have bt2 := tick_bd (hok'.out l[k+1] (List.getElem_mem _))
        obtain ⟨b, off, rfl, bB, hc⟩ := hs.at_ (i := k) (by simp; omega)
        have bW : b < wr.heap.size := by omega
        obtain ⟨b', off', he, _, hc'⟩ := hs.at_ (i := k + 1) (by simpa using hlt)
        simp only [Option.some.injEq, Addr.mk.injEq, and_true] at he
        obtain ⟨rfl, rfl⟩ := he
        simp only [List.getElem_map] at hc hc'
        have c0 : wr.cell? ⟨b, off + k * 3, none⟩ = some (.int .i64 l[k].mark) := by rw [hb.cell bB]; exact hc 0 _ rfl
        have c1 : wr.cell? ⟨b, off + k * 3 + 1, none⟩ = some (.int .i64 l[k].place) := by rw [hb.cell bB]; exact hc 1 _ rfl
        have c2 : wr.cell? ⟨b, off + k * 3 + 2, none⟩ = some (.int .i64 l[k].height) := by rw [hb.cell bB]; exact hc 2 _ rfl
        have d0 : wr.cell? ⟨b, off + (k + 1) * 3, none⟩ = some (.int .i64 l[k+1].mark) := by rw [hb.cell bB]; exact hc' 0 _ rfl
        have d1 : wr.cell? ⟨b, off + (k + 1) * 3 + 1, none⟩ = some (.int .i64 l[k+1].place) := by rw [hb.cell bB]; exact hc' 1 _ rfl
        have d2 : wr.cell? ⟨b, off + (k + 1) * 3 + 2, none⟩ = some (.int .i64 l[k+1].height) := by rw [hb.cell bB]; exact hc' 2 _ rfl
        clear hc hc' hs
        have hadj : adjOK scale l[k] l[k+1] = (decide (l[k].mark < l[k+1].mark) && (if scale = 3 then decide (l[k+1].place ≤ l[k].place) else decide (l[k].place ≤ l[k+1].place))) := rfl
        generalize l[k] = t0 at *
        generalize l[k+1] = t1 at *
        have Hadj := Lib.hid hadj; clear hadj
        have Hf : adjOK scale t0 t1 = false → Hid (ordTo scale l (l.length - 1) = false) := hf
        clear hf
        obtain ⟨⟨bm1, bm2⟩, bp1, bp2⟩ := bt1
        obtain ⟨⟨bn1, bn2⟩, bq1, bq2⟩ := bt2
        go_wp2_with fail
        go_quiet (fail)
        rcases hsc with ⟨e3, hs3⟩ | ⟨e3, hs3⟩
        · have HS := Lib.hid hs3; clear hs3
          by_cases hm : t0.mark < t1.mark
          · have hd : decide (t1.mark ≤ t0.mark) = false := by simp; omega
            by_cases hp : t1.place ≤ t0.place
            · have Ha : Hid (adjOK scale t0 t1 = true) := by unfold Hid; rw [Hadj.out]; simp [HS.out, hm, hp]
              clear Hf
              go_wp2_with fail
              go_quiet (fail)
              go_wp2
              go_roundw
              case rel => exact ⟨k + 1, .inl (by omega), by go_num, (by repeat (first | with_reducible exact hb | with_reducible apply below_drewN' | with_reducible apply Below.drew | (with_reducible refine Below.alloc ?_ (by first | omega | (simp; omega) | simp | (have := (hb).size; omega) | (have := (hb).size; simp; omega)) _) | (with_reducible refine Below.setCell ?_ (by first | omega | (simp; omega) | simp | (have := (hb).size; omega) | (have := (hb).size; simp; omega)) _) | exact hb)), (show _ = true from by rw [Hsu.out, hn.out, Ha.out]; rfl)⟩
              case measure => simp [intOf]; omega
            · have Ha := Hf (by rw [Hadj.out]; simp [HS.out, hm, hp])
              clear Hf
              go_wp2_with fail
              go_quiet (fail)
              go_wp2
              go_ret2
              exact ⟨by rw [H0.out, Ha.out]; rfl, (by repeat (first | with_reducible exact hb | with_reducible apply below_drewN' | with_reducible apply Below.drew | (with_reducible refine Below.alloc ?_ (by first | omega | (simp; omega) | simp | (have := (hb).size; omega) | (have := (hb).size; simp; omega)) _) | (with_reducible refine Below.setCell ?_ (by first | omega | (simp; omega) | simp | (have := (hb).size; omega) | (have := (hb).size; simp; omega)) _) | exact hb))⟩
          · have hd : decide (t1.mark ≤ t0.mark) = true := by simp; omega
            have Ha := Hf (by rw [Hadj.out]; simp [hm])
            clear Hf
            go_wp2_with fail
            go_quiet (fail)
            go_wp2
            go_ret2
            exact ⟨by rw [H0.out, Ha.out]; rfl, (by repeat (first | with_reducible exact hb | with_reducible apply below_drewN' | with_reducible apply Below.drew | (with_reducible refine Below.alloc ?_ (by first | omega | (simp; omega) | simp | (have := (hb).size; omega) | (have := (hb).size; simp; omega)) _) | (with_reducible refine Below.setCell ?_ (by first | omega | (simp; omega) | simp | (have := (hb).size; omega) | (have := (hb).size; simp; omega)) _) | exact hb))⟩
        · have HS := Lib.hid hs3; clear hs3
          by_cases hm : t0.mark < t1.mark
          · have hd : decide (t1.mark ≤ t0.mark) = false := by simp; omega
            by_cases hp : t0.place ≤ t1.place
            · have Ha : Hid (adjOK scale t0 t1 = true) := by unfold Hid; rw [Hadj.out]; simp [HS.out, hm, hp]
              clear Hf
              go_wp2_with fail
              go_quiet (fail)
              go_wp2
              go_roundw
              case rel => exact ⟨k + 1, .inl (by omega), by go_num, (by repeat (first | with_reducible exact hb | with_reducible apply below_drewN' | with_reducible apply Below.drew | (with_reducible refine Below.alloc ?_ (by first | omega | (simp; omega) | simp | (have := (hb).size; omega) | (have := (hb).size; simp; omega)) _) | (with_reducible refine Below.setCell ?_ (by first | omega | (simp; omega) | simp | (have := (hb).size; omega) | (have := (hb).size; simp; omega)) _) | exact hb)), (show _ = true from by rw [Hsu.out, hn.out, Ha.out]; rfl)⟩
              case measure => simp [intOf]; omega
            · have Ha := Hf (by rw [Hadj.out]; simp [HS.out, hm, hp])
              clear Hf
              go_wp2_with fail
              go_quiet (fail)
              go_wp2
              go_ret2
              exact ⟨by rw [H0.out, Ha.out]; rfl, (by repeat (first | with_reducible exact hb | with_reducible apply below_drewN' | with_reducible apply Below.drew | (with_reducible refine Below.alloc ?_ (by first | omega | (simp; omega) | simp | (have := (hb).size; omega) | (have := (hb).size; simp; omega)) _) | (with_reducible refine Below.setCell ?_ (by first | omega | (simp; omega) | simp | (have := (hb).size; omega) | (have := (hb).size; simp; omega)) _) | exact hb))⟩
          · have hd : decide (t1.mark ≤ t0.mark) = true := by simp; omega
            have Ha := Hf (by rw [Hadj.out]; simp [hm])
            clear Hf
            go_wp2_with fail
            go_quiet (fail)
            go_wp2
            go_ret2
            exact ⟨by rw [H0.out, Ha.out]; rfl, (by repeat (first | with_reducible exact hb | with_reducible apply below_drewN' | with_reducible apply Below.drew | (with_reducible refine Below.alloc ?_ (by first | omega | (simp; omega) | simp | (have := (hb).size; omega) | (have := (hb).size; simp; omega)) _) | (with_reducible refine Below.setCell ?_ (by first | omega | (simp; omega) | simp | (have := (hb).size; omega) | (have := (hb).size; simp; omega)) _) | exact hb))⟩
      · go_wp2
        go_ret2
        refine ⟨?_, hb⟩
        rw [H0.out, show l.length - 1 = k from by omega, hn.out]
        rfl
  · have H0 : Hid (ordRes scale l = (false, rowCode l)) := by unfold Hid ordRes; rw [if_neg h0]
    have hne : (rowCode l != 0) = true := by simp [h0]
    clear h0
    go_enter Tryz.func9, Tryz.ntmps9
    go_wp2_with (go_at_call 28; refine H.out.mono ?_; rintro e w1 ⟨rfl, hb1⟩)
    go_ret2
    exact ⟨by rw [H0.out]; rfl, hb1⟩
end Go.Proofs.YtkjommcmeinkaaaGreat
