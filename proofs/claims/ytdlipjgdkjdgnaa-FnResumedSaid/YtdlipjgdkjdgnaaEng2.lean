/- IsEngraved: both sides' results. No condition beyond the lists' lengths. -/
import Derived.Test.YtdlipjgdkjdgnaaEng
namespace Go.Proofs.Ytdlipjgdkjdgnaa
open Go.Shelf Go.RowKit Go.Lib Go.Sort
def engB (ticks : List Tick) (list : List Stroke) : Bool := if engCode ticks = 0 ∧ strokesCode list = 0 then decide (sortSt (ticks.map tickStroke) = sortSt list) else false
def engC (ticks : List Tick) (list : List Stroke) : Int := if engCode ticks = 1 ∨ strokesCode list = 1 then 1 else if engCode ticks ≠ 0 ∨ strokesCode list ≠ 0 then 3 else 0
theorem engCode_v (l : List Tick) : engCode l = 0 ∨ engCode l = 1 ∨ engCode l = 3 := by unfold engCode; split <;> (try split) <;> simp
theorem strokesCode_v (l : List Stroke) : strokesCode l = 0 ∨ strokesCode l = 1 ∨ strokesCode l = 3 := by unfold strokesCode; split <;> (try split) <;> simp
theorem stroke_tool {l : List Stroke} (hok : l.all strokeOK = true) : ∀ x ∈ l, x.tool = 1 ∨ x.tool = 2 := fun x hx => by
  have := List.all_eq_true.1 hok x hx
  simp only [strokeOK, Bool.and_eq_true] at this
  have := inB_true.1 this.1.1
  omega
theorem tick_tool (l : List Tick) : ∀ x ∈ l.map tickStroke, x.tool = 1 ∨ x.tool = 2 := fun x hx => by
  obtain ⟨y, _, rfl⟩ := List.mem_map.1 hx
  unfold tickStroke
  simp only
  split <;> simp
set_option maxRecDepth 100000 in
set_option maxHeartbeats 400000 in
theorem implIsEngraved_c (A : Option Addr) (c : Nat) (l : List Tick) (A' : Option Addr) (c' : Nat) (m : List Stroke) (w : World) (hl : l.length ≤ 140737488351232) (hs : Sl w w.heap.size 3 A (l.map Tick.cells)) (hm : m.length ≤ 140737488351232) (hs' : Sl w w.heap.size 3 A' (m.map Stroke.cells)) :
    Calls Try.prog 31 #[.slice A l.length c, .slice A' m.length c'] w fun e w' => e = .returned (.tuple #[.bool (engB l m), .int .i64 (engC l m)]) ∧ RowKit.Below w.heap.size w w' := by
  have h1 : Calls Try.prog 78 #[.slice A l.length c] w fun e w' => e = .returned (.int .i64 (engCode l)) ∧ RowKit.Below w.heap.size w w' := checkEngraved_c A c l w hl hs
  have h2 := fun W h => checkStrokes_c A' c' m W hm h
  by_cases h0 : engCode l = 0 ∧ strokesCode m = 0
  · obtain ⟨e1, e2⟩ := h0
    have HC : Hid (engC l m = 0) := by unfold Hid engC; rw [if_neg (by rw [e1, e2]; decide), if_neg (by rw [e1, e2]; decide)]
    have HB : Hid (engB l m = decide (sortSt (l.map tickStroke) = sortSt m)) := by unfold Hid engB; rw [if_pos ⟨e1, e2⟩]
    obtain ⟨k1, k2⟩ := engCode_ok e1
    obtain ⟨k3, k4⟩ := strokesCode_ok e2
    rw [e1] at h1
    rw [e2] at h2
    have H1 := Lib.hid h1
    have H2 := Lib.hid h2
    have K1 := Lib.hid k1
    have K3 := Lib.hid (stroke_tool k3)
    clear h1 h2 e1 e2 k1 k3
    go_enter Try.func31, Try.ntmps31
    go_wp2_with (first
      | (go_at_call 78; refine H1.out.mono ?_; rintro e w1 ⟨rfl, hb1⟩)
      | (go_at_call 69; refine (H2.out _ ((hs'.below hb1).more hb1.size)).mono ?_; rintro e w2 ⟨rfl, hb2⟩; have hB2 := hb1.trans (hb2.mono hb1.size))
      | (go_at_call 81; refine (strokesOf_c A c l _ k2 K1.out ((hs.below hB2).more hB2.size)).mono ?_; rintro e w3 ⟨A3, c3, rfl, hO3, hb3⟩; have hB3 := hB2.trans (hb3.mono hB2.size); have t1 := Lib.hid trivial)
      | (go_at_call 80; have _t := t1; refine (by have h := inOrder_c A3 c3 (l.map tickStroke) w3 (by simp; omega) hO3.sl; rw [List.length_map] at h; exact h : Calls Try.prog 80 #[.slice A3 l.length c3] w3 _).mono ?_; rintro e w4 ⟨A4, c4, rfl, hO4, hb4⟩; have hB4 := hB3.trans (hb4.mono hB3.size); clear t1)
      | (go_at_call 80; refine (inOrder_c A' c' m w4 (by omega) ((hs'.below hB4).more hB4.size)).mono ?_; rintro e w5 ⟨A5, c5, rfl, hO5, hb5⟩; have hB5 := hB4.trans (hb5.mono hB4.size); have hO45 := hO4.below hb5)
      | (go_at_call 79; have hE := equalSt_c A4 A5 c4 c5 (sortOrd (l.map tickStroke)) (sortOrd m) w5 (by rw [sortOrd_len, List.length_map]; omega) hO45.sl hO5.sl; with_reducible refine hE.mono ?_; rintro e w6 ⟨rfl, hb6⟩))
    go_ret2
    rw [HC.out, HB.out, decide_eq_decide.2 (sorts_iff (l.map tickStroke) m)]
    exact ⟨rfl, hB5.trans (hb6.mono hB5.size)⟩
  · have HB : Hid (engB l m = false) := by unfold Hid engB; rw [if_neg h0]
    rcases engCode_v l with v1 | v1 | v1 <;> rcases strokesCode_v m with v2 | v2 | v2
    all_goals
      first
        | (exfalso; apply h0; constructor <;> assumption)
        | (have hq : engC l m = 1 := by unfold engC; rw [v1, v2]; decide
           rw [hq])
        | (have hq : engC l m = 3 := by unfold engC; rw [v1, v2]; decide
           rw [hq])
    all_goals
      rw [v1] at h1
      rw [v2] at h2
      have H1 := Lib.hid h1
      have H2 := Lib.hid h2
      clear h1 h2 h0 v1 v2 hq
      go_enter Try.func31, Try.ntmps31
      go_wp2_with (first
        | (go_at_call 78; refine H1.out.mono ?_; rintro e w1 ⟨rfl, hb1⟩)
        | (go_at_call 69; refine (H2.out _ ((hs'.below hb1).more hb1.size)).mono ?_; rintro e w2 ⟨rfl, hb2⟩))
      go_ret2
      rw [HB.out]
      exact ⟨rfl, hb1.trans (hb2.mono hb1.size)⟩
set_option maxRecDepth 100000 in
set_option maxHeartbeats 400000 in
theorem specIsEngraved_c (A : Option Addr) (c : Nat) (l : List Tick) (A' : Option Addr) (c' : Nat) (m : List Stroke) (w : World) (hl : l.length ≤ 140737488351232) (hs : Sl w w.heap.size 3 A (l.map Tick.cells)) (hm : m.length ≤ 140737488351232) (hs' : Sl w w.heap.size 3 A' (m.map Stroke.cells)) :
    Calls Try.prog 30 #[.slice A l.length c, .slice A' m.length c'] w fun e w' => e = .returned (.tuple #[.bool (engB l m), .int .i64 (engC l m)]) ∧ RowKit.Below w.heap.size w w' := by
  have h1 : Calls Try.prog 76 #[.slice A l.length c] w fun e w' => e = .returned (.int .i64 (engCode l)) ∧ RowKit.Below w.heap.size w w' := (l32Ticks_c A c l w hl hs).mono fun _ _ ⟨he, hw⟩ => ⟨he, hw ▸ RowKit.Below.refl _ _⟩
  have h2 := fun W h => l32Code_c A' c' m W hm h
  by_cases h0 : engCode l = 0 ∧ strokesCode m = 0
  · obtain ⟨e1, e2⟩ := h0
    have HC : Hid (engC l m = 0) := by unfold Hid engC; rw [if_neg (by rw [e1, e2]; decide), if_neg (by rw [e1, e2]; decide)]
    have HB : Hid (engB l m = decide (sortSt (l.map tickStroke) = sortSt m)) := by unfold Hid engB; rw [if_pos ⟨e1, e2⟩]
    obtain ⟨k1, k2⟩ := engCode_ok e1
    obtain ⟨k3, k4⟩ := strokesCode_ok e2
    rw [e1] at h1
    rw [e2] at h2
    have H1 := Lib.hid h1
    have H2 := Lib.hid h2
    have K1 := Lib.hid k1
    have K3 := Lib.hid (stroke_tool k3)
    clear h1 h2 e1 e2 k1 k3
    have HS1 : ∀ (A3 : Option Addr) (c3 : Nat) (w3 : World), Sl w3 w3.heap.size 3 A3 ((l.map tickStroke).map Stroke.cells) → Calls Try.prog 67 #[.slice A3 l.length c3] w3 fun e w' => ∃ A' c', e = .returned (.slice A' (sortSt (l.map tickStroke)).length c') ∧ Own w' w3.heap.size 91 3 (.slice A' (sortSt (l.map tickStroke)).length c') ((sortSt (l.map tickStroke)).map Stroke.cells) ∧ RowKit.Below w3.heap.size w3 w' := fun A3 c3 w3 h3 => by
      have h := l32Sorted_c A3 c3 (l.map tickStroke) w3 (by simp; omega) (tick_tool l) h3
      rw [List.length_map] at h
      exact h
    have HS2 := fun W h => l32Sorted_c A' c' m W (by omega) K3.out h
    have hx : (sortSt (l.map tickStroke)).length ≤ 1000000 := by rw [sortSt_len, List.length_map]; omega
    have HS1 := Lib.hid HS1
    have HS2 := Lib.hid HS2
    generalize sortSt (l.map tickStroke) = X at *
    generalize sortSt m = Y at *
    have hGt : Try.prog.eqGuardType Try.prog.depth 91 = false := by kernel_rfl
    by_cases hlen : X.length = Y.length
    · have Hn := Lib.hid hlen
      have hnb : ((X.length : Int) != (Y.length : Int)) = false := by simp [hlen]
      clear hlen
      go_enter Try.func30, Try.ntmps30
      go_wp2_with (first
        | (go_at_call 76; refine H1.out.mono ?_; rintro e w1 ⟨rfl, hb1⟩)
        | (go_at_call 66; refine (H2.out _ ((hs'.below hb1).more hb1.size)).mono ?_; rintro e w2 ⟨rfl, hb2⟩; have hB2 := hb1.trans (hb2.mono hb1.size))
        | (go_at_call 77; refine (l32Strokes_c A c l _ k2 K1.out ((hs.below hB2).more hB2.size)).mono ?_; rintro e w3 ⟨A3, c3, rfl, hO3, hb3⟩; have hB3 := hB2.trans (hb3.mono hB2.size); have t1 := Lib.hid trivial)
        | (go_at_call 67; have _t := t1; refine (HS1.out A3 c3 w3 hO3.sl).mono ?_; rintro e w4 ⟨A4, c4, rfl, hO4, hb4⟩; have hB4 := hB3.trans (hb4.mono hB3.size); clear t1)
        | (go_at_call 67; refine (HS2.out w4 ((hs'.below hB4).more hB4.size)).mono ?_; rintro e w5 ⟨A5, c5, rfl, hO5, hb5⟩; have hB5 := hB4.trans (hb5.mono hB4.size); have hO45 := hO4.below hb5))
      have hsx := hO45.sl
      have hsy := hO5.sl
      clear hO4 hO5 hO45 hb5 hB4 hb4 hB3 hb3 hO3 hB2 hb1 hb2
      have h5s := hB5.size
      go_loopw [10] (fun i wr => ∃ k : Nat, k ≤ X.length ∧ i = .int .i64 k ∧ Hid (X.take k = Y.take k) ∧ RowKit.Below w5.heap.size w5 wr) (fun i _ => X.length - (intOf i).toNat)
      case atStart => exact ⟨0, Nat.zero_le _, rfl, (show X.take 0 = Y.take 0 by simp), RowKit.Below.refl _ _⟩
      case round =>
        obtain ⟨k, hk, rfl, hT, hb⟩ := hrel
        by_cases hlt : k < X.length
        · have hltm : k < Y.length := by rw [← Hn.out]; exact hlt
          obtain ⟨b, off, rfl, hbB, hc⟩ := hsx.at_ (i := k) (by simpa using hlt)
          obtain ⟨b', off', rfl, hbB', hc'⟩ := hsy.at_ (i := k) (by simpa using hltm)
          simp only [List.getElem_map] at hc hc'
          have c0 : wr.cell? ⟨b, off + k * 3, none⟩ = some (.int .i64 X[k].tool) := by rw [hb.cell hbB]; exact hc 0 _ rfl
          have c1 : wr.cell? ⟨b, off + k * 3 + 1, none⟩ = some (.int .i64 X[k].place) := by rw [hb.cell hbB]; exact hc 1 _ rfl
          have c2 : wr.cell? ⟨b, off + k * 3 + 2, none⟩ = some (.int .i64 X[k].long) := by rw [hb.cell hbB]; exact hc 2 _ rfl
          have d0 : wr.cell? ⟨b', off' + k * 3, none⟩ = some (.int .i64 Y[k].tool) := by rw [hb.cell hbB']; exact hc' 0 _ rfl
          have d1 : wr.cell? ⟨b', off' + k * 3 + 1, none⟩ = some (.int .i64 Y[k].place) := by rw [hb.cell hbB']; exact hc' 1 _ rfl
          have d2 : wr.cell? ⟨b', off' + k * 3 + 2, none⟩ = some (.int .i64 Y[k].long) := by rw [hb.cell hbB']; exact hc' 2 _ rfl
          clear hc hc'
          have hne := neStroke X[k] Y[k]
          have k0 : (0 : Int) ≤ (k : Int) := by omega
          have k1 : (k : Int) < (X.length : Int) := by omega
          have k3 : (k : Int) < (Y.length : Int) := by omega
          by_cases he : X[k] = Y[k]
          · have hd : decide (X[k] ≠ Y[k]) = false := decide_eq_false (by simp [he])
            rw [hd] at hne
            have hT2 := Lib.hid (take_eq hlt hltm he hT.out)
            clear hd he
            unfold Stroke.agg at hne
            generalize X[k] = x at *
            generalize Y[k] = y at *
            go_wp2_with fail
            go_quiet (fail)
            go_wp2
            go_roundw
            case rel => exact ⟨k + 1, by omega, by go_num, hT2, by first | exact below_drewN' hb _ | exact hb.drew⟩
            case measure => simp [intOf]; omega
          · have hd : decide (X[k] ≠ Y[k]) = true := decide_eq_true he
            rw [hd] at hne
            have hT2 := Lib.hid (take_ne hlt hltm he)
            clear hd he
            unfold Stroke.agg at hne
            generalize X[k] = x at *
            generalize Y[k] = y at *
            go_wp2_with fail
            go_quiet (fail)
            go_wp2
            go_ret2
            rw [HC.out, HB.out, decide_eq_false hT2.out]
            exact ⟨rfl, hB5.trans (RowKit.Below.mono (by first | exact below_drewN' hb _ | exact hb.drew) h5s)⟩
        · have hkl : k = X.length := by omega
          subst hkl
          have he : X = Y := by
            have := hT.out
            rw [List.take_length, Hn.out, List.take_length] at this
            exact this
          have He := Lib.hid he
          clear he
          go_wp2
          go_ret2
          rw [HC.out, HB.out, decide_eq_true He.out]
          exact ⟨rfl, hB5.trans (hb.mono h5s)⟩
    · have Hn := Lib.hid (show X ≠ Y from fun e => hlen (by rw [e]))
      have hnb : ((X.length : Int) != (Y.length : Int)) = true := by simp; omega
      clear hlen
      go_enter Try.func30, Try.ntmps30
      go_wp2_with (first
        | (go_at_call 76; refine H1.out.mono ?_; rintro e w1 ⟨rfl, hb1⟩)
        | (go_at_call 66; refine (H2.out _ ((hs'.below hb1).more hb1.size)).mono ?_; rintro e w2 ⟨rfl, hb2⟩; have hB2 := hb1.trans (hb2.mono hb1.size))
        | (go_at_call 77; refine (l32Strokes_c A c l _ k2 K1.out ((hs.below hB2).more hB2.size)).mono ?_; rintro e w3 ⟨A3, c3, rfl, hO3, hb3⟩; have hB3 := hB2.trans (hb3.mono hB2.size); have t1 := Lib.hid trivial)
        | (go_at_call 67; have _t := t1; refine (HS1.out A3 c3 w3 hO3.sl).mono ?_; rintro e w4 ⟨A4, c4, rfl, hO4, hb4⟩; have hB4 := hB3.trans (hb4.mono hB3.size); clear t1)
        | (go_at_call 67; refine (HS2.out w4 ((hs'.below hB4).more hB4.size)).mono ?_; rintro e w5 ⟨A5, c5, rfl, hO5, hb5⟩; have hB5 := hB4.trans (hb5.mono hB4.size)))
      go_ret2
      rw [HC.out, HB.out, decide_eq_false Hn.out]
      exact ⟨rfl, hB5⟩
  · have HB : Hid (engB l m = false) := by unfold Hid engB; rw [if_neg h0]
    rcases engCode_v l with v1 | v1 | v1 <;> rcases strokesCode_v m with v2 | v2 | v2
    all_goals
      first
        | (exfalso; apply h0; constructor <;> assumption)
        | (have hq : engC l m = 1 := by unfold engC; rw [v1, v2]; decide
           rw [hq])
        | (have hq : engC l m = 3 := by unfold engC; rw [v1, v2]; decide
           rw [hq])
    all_goals
      rw [v1] at h1
      rw [v2] at h2
      have H1 := Lib.hid h1
      have H2 := Lib.hid h2
      clear h1 h2 h0 v1 v2 hq
      go_enter Try.func30, Try.ntmps30
      go_wp2_with (first
        | (go_at_call 76; refine H1.out.mono ?_; rintro e w1 ⟨rfl, hb1⟩)
        | (go_at_call 66; refine (H2.out _ ((hs'.below hb1).more hb1.size)).mono ?_; rintro e w2 ⟨rfl, hb2⟩))
      go_ret2
      rw [HB.out]
      exact ⟨rfl, hb1.trans (hb2.mono hb1.size)⟩
end Go.Proofs.Ytdlipjgdkjdgnaa
