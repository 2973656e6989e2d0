/- RestOf and ResumeTime. No condition beyond the list's length. -/
import Derived.Test.YtdlipjgdkjdgnaaCloneStroke
import Derived.Test.YtdlipjgdkjdgnaaTimeWear
namespace Go.Proofs.Ytdlipjgdkjdgnaa
open Go.RowKit
def restCode (l : List Stroke) (d : Int) : Int := if strokesCode l = 0 then (if inB d 0 l.length then 0 else 2) else strokesCode l
def restL (l : List Stroke) (d : Int) : List Stroke := if restCode l d = 0 then l.drop d.toNat else []
theorem rest_ok {l : List Stroke} {d : Int} (h : restCode l d = 0) : strokesCode l = 0 ∧ inB d 0 l.length = true := by
  unfold restCode at h
  split at h
  · rename_i h1
    split at h
    · rename_i h2; exact ⟨h1, h2⟩
    · cases h
  · rename_i h1; exact absurd h h1
theorem restL_len (l : List Stroke) (d : Int) : (restL l d).length ≤ l.length := by
  unfold restL; split
  · rw [List.length_drop]; omega
  · simp
def RestPost (l : List Stroke) (d : Int) (w : World) (e : Ending) (w' : World) : Prop :=
  ∃ A' c', e = .returned (.tuple #[.slice A' (restL l d).length c', .int .i64 (restCode l d)]) ∧ Own w' w.heap.size 91 3 (.slice A' (restL l d).length c') ((restL l d).map Stroke.cells) ∧ Below w.heap.size w w'
set_option maxRecDepth 100000 in
theorem specRestOf_c (A : Option Addr) (c : Nat) (l : List Stroke) (d : Int) (w : World) (hl : l.length ≤ 1048576) (hc : l.length ≤ c) (hs : Sl w w.heap.size 3 A (l.map Stroke.cells)) :
    Calls Try.prog 38 #[.slice A l.length c, .int .i64 d] w (RestPost l d w) := by
  obtain ⟨i0, hi, hz0, hz1, hz2⟩ := info_parts info_Stroke
  have H := Lib.hid (l32Code_c A c l w (by omega) hs)
  by_cases h0 : restCode l d = 0
  · obtain ⟨h1, h2⟩ := rest_ok h0
    have hb2 := inB_true.1 h2
    have HL : Hid (restL l d = l.drop d.toNat) := by unfold Hid restL; rw [if_pos h0]
    have HC := Lib.hid h0; clear h0
    rw [h1] at H
    clear h1
    obtain ⟨m, rfl⟩ := Int.eq_ofNat_of_zero_le hb2.1
    have hm : m ≤ l.length := by omega
    have hmc : m ≤ c := by omega
    go_enter Try.func38, Try.ntmps38
    go_wp2_with (first | (go_at_call 66; refine H.out.mono ?_; rintro e w1 ⟨rfl, hb1⟩) | (go_at_call 51; refine (l01In_c _ _ _ _).mono ?_; rintro e w' ⟨rfl, rfl⟩) | (at_builtin; refine wpList_append_rows _ rfl (.tmp 21) (.tmp 24) _ rfl w1.heap.size 91 i0 _ 3 24 Try.underlying44 hi hz0 hz1 hz2 rfl (by omega) _ [] rfl (Own.empty (Nat.le_refl _)) w.heap.size _ _ _ ((l.map Stroke.cells).drop m) rfl (by simp) (((hs.below hb1).alloc hb1.size _).drop (by simp; omega) (by simp; exact hc)) (by rw [← List.map_drop]; exact Stroke.one) (by simp [maxLen]; omega) (by simp; omega) (by simp) ?_; intro v1 w2 hO hg hat))
    all_goals
      go_ret2
      obtain ⟨A', c', rfl, _⟩ := hO.form
      unfold RestPost
      rw [HL.out, HC.out]
      refine ⟨A', c', by simp, by simpa using hO.mono hb1.size, ?_⟩
      exact below_app (hb1.alloc hb1.size _) hg (by simp; have := hb1.size; omega) (fun g hg' => Nat.le_trans hb1.size (Nat.le_of_eq (Option.some.inj hg')))
  · have HL : Hid (restL l d = []) := by unfold Hid restL; rw [if_neg h0]
    have hne : (restCode l d != 0) = true := by simp [h0]
    by_cases h1 : strokesCode l = 0
    · have h2 : inB d 0 l.length = false := by
        cases h : inB d 0 l.length
        · rfl
        · exact absurd (by unfold restCode; rw [if_pos h1, h]; rfl) h0
      have HC : Hid (restCode l d = 2) := by unfold Hid restCode; rw [if_pos h1, h2]; rfl
      rw [h1] at H
      clear h1 h0 hne
      go_enter Try.func38, Try.ntmps38
      go_wp2_with (first | (go_at_call 66; refine H.out.mono ?_; rintro e w1 ⟨rfl, hb1⟩) | (go_at_call 51; refine (l01In_c _ _ _ _).mono ?_; rintro e w' ⟨rfl, rfl⟩))
      go_ret2
      unfold RestPost
      rw [HL.out, HC.out]
      exact ⟨none, 0, rfl, Own.nil_, hb1⟩
    · have HC : Hid (restCode l d = strokesCode l) := by unfold Hid restCode; rw [if_neg h1]
      have hne1 : (strokesCode l == 0) = false := by simp [h1]
      have hne2 : (strokesCode l != 0) = true := by simp [h1]
      clear h1 h0 hne
      go_enter Try.func38, Try.ntmps38
      go_wp2_with (first | (go_at_call 66; refine H.out.mono ?_; rintro e w1 ⟨rfl, hb1⟩) | (go_at_call 51; refine (l01In_c _ _ _ _).mono ?_; rintro e w' ⟨rfl, rfl⟩))
      go_ret2
      unfold RestPost
      rw [HL.out, HC.out]
      exact ⟨none, 0, rfl, Own.nil_, hb1⟩
set_option maxRecDepth 100000 in
theorem implRestOf_c (A : Option Addr) (c : Nat) (l : List Stroke) (d : Int) (w : World) (hl : l.length ≤ 1048576) (hc : l.length ≤ c) (hs : Sl w w.heap.size 3 A (l.map Stroke.cells)) :
    Calls Try.prog 37 #[.slice A l.length c, .int .i64 d] w (RestPost l d w) := by
  have H := Lib.hid (checkStrokes_c A c l w (by omega) hs)
  by_cases h0 : restCode l d = 0
  · obtain ⟨h1, h2⟩ := rest_ok h0
    have hb2 := inB_true.1 h2
    have HL : Hid (restL l d = l.drop d.toNat) := by unfold Hid restL; rw [if_pos h0]
    have HC := Lib.hid h0; clear h0
    rw [h1] at H
    clear h1
    obtain ⟨m, rfl⟩ := Int.eq_ofNat_of_zero_le hb2.1
    have hm : m ≤ l.length := by omega
    have hmc : m ≤ c := by omega
    by_cases hcm : c = m
    · subst hcm
      go_enter Try.func37, Try.ntmps37
      go_wp2_with (first | (go_at_call 69; refine H.out.mono ?_; rintro e w1 ⟨rfl, hb1⟩) | (go_at_call 86; refine (within_c _ _ _ _).mono ?_; rintro e w' ⟨rfl, rfl⟩))
      have hd : Sl w1 w1.heap.size 3 (if c = c then A else A.map (·.add (c * 3))) ((l.drop c).map Stroke.cells) := by
        rw [List.map_drop]
        exact ((hs.below hb1).more hb1.size).drop (by simp; omega) (by simp; exact hc)
      rw [if_pos rfl] at hd
      have hcl := cloneStroke_c _ (0) (l.drop c) w1 (by simp; omega) hd
      have hl0 : l.length - c = 0 := by omega
      rw [List.length_drop, hl0] at hcl
      refine (hcl).mono ?_
      rintro e w2 ⟨A', c', rfl, hO, hb2⟩
      go_wp2
      go_ret2
      unfold RestPost
      rw [HL.out, HC.out]
      refine ⟨A', c', by simp [hl0], ?_, hb1.trans (hb2.mono hb1.size)⟩
      rw [Int.toNat_natCast, List.length_drop, hl0]
      exact hO.mono hb1.size
    · go_enter Try.func37, Try.ntmps37
      go_wp2_with (first | (go_at_call 69; refine H.out.mono ?_; rintro e w1 ⟨rfl, hb1⟩) | (go_at_call 86; refine (within_c _ _ _ _).mono ?_; rintro e w' ⟨rfl, rfl⟩))
      have hd : Sl w1 w1.heap.size 3 (if c = m then A else A.map (·.add (m * 3))) ((l.drop m).map Stroke.cells) := by
        rw [List.map_drop]
        exact ((hs.below hb1).more hb1.size).drop (by simp; omega) (by simp; exact hc)
      rw [if_neg hcm] at hd
      have hcl := cloneStroke_c _ (c - m) (l.drop m) w1 (by simp; omega) hd
      rw [List.length_drop] at hcl
      refine (hcl).mono ?_
      rintro e w2 ⟨A', c', rfl, hO, hb2⟩
      go_wp2
      go_ret2
      unfold RestPost
      rw [HL.out, HC.out]
      refine ⟨A', c', by simp, ?_, hb1.trans (hb2.mono hb1.size)⟩
      rw [Int.toNat_natCast, List.length_drop]
      exact hO.mono hb1.size
  · have HL : Hid (restL l d = []) := by unfold Hid restL; rw [if_neg h0]
    by_cases h1 : strokesCode l = 0
    · have h2 : inB d 0 l.length = false := by
        cases h : inB d 0 l.length
        · rfl
        · exact absurd (by unfold restCode; rw [if_pos h1, h]; rfl) h0
      have HC : Hid (restCode l d = 2) := by unfold Hid restCode; rw [if_pos h1, h2]; rfl
      rw [h1] at H
      clear h1 h0
      go_enter Try.func37, Try.ntmps37
      go_wp2_with (first | (go_at_call 69; refine H.out.mono ?_; rintro e w1 ⟨rfl, hb1⟩) | (go_at_call 86; refine (within_c _ _ _ _).mono ?_; rintro e w' ⟨rfl, rfl⟩))
      go_ret2
      unfold RestPost
      rw [HL.out, HC.out]
      exact ⟨none, 0, rfl, Own.nil_, hb1⟩
    · have HC : Hid (restCode l d = strokesCode l) := by unfold Hid restCode; rw [if_neg h1]
      have hne2 : (strokesCode l != 0) = true := by simp [h1]
      clear h1 h0
      go_enter Try.func37, Try.ntmps37
      go_wp2_with (first | (go_at_call 69; refine H.out.mono ?_; rintro e w1 ⟨rfl, hb1⟩) | (go_at_call 86; refine (within_c _ _ _ _).mono ?_; rintro e w' ⟨rfl, rfl⟩))
      go_ret2
      unfold RestPost
      rw [HL.out, HC.out]
      exact ⟨none, 0, rfl, Own.nil_, hb1⟩
def resumeRes (l : List Stroke) (d : Int) : Int × Int := if restCode l d = 0 then (timeOf (restL l d), 0) else (0, restCode l d)
theorem restL_ok {l : List Stroke} {d : Int} (h : restCode l d = 0) : (restL l d).length ≤ 150 ∧ (restL l d).all strokeOK = true := by
  have h1 := strokesCode_ok (rest_ok h).1
  unfold restL
  rw [if_pos h, List.length_drop]
  refine ⟨by omega, List.all_eq_true.2 fun x hx => List.all_eq_true.1 h1.1 x (List.mem_of_mem_drop hx)⟩
theorem specResumeTime_c (A : Option Addr) (c : Nat) (l : List Stroke) (d : Int) (w : World) (hl : l.length ≤ 1048576) (hc : l.length ≤ c) (hs : Sl w w.heap.size 3 A (l.map Stroke.cells)) :
    Calls Try.prog 40 #[.slice A l.length c, .int .i64 d] w fun e w' => e = .returned (.tuple #[.int .i64 (resumeRes l d).1, .int .i64 (resumeRes l d).2]) ∧ Below w.heap.size w w' := by
  by_cases h0 : restCode l d = 0
  · have HR : Hid (resumeRes l d = (timeOf (restL l d), 0)) := by unfold Hid resumeRes; rw [if_pos h0]
    have hok := restL_ok h0
    have H := specRestOf_c A c l d w hl hc hs
    unfold RestPost at H
    rw [h0] at H
    clear h0 hs
    have H' := Lib.hid H; clear H
    have hok' := Lib.hid hok; clear hok
    go_enter Try.func40, Try.ntmps40
    go_wp2_with (go_at_call 38; refine H'.out.mono ?_; rintro e w1 ⟨A', c', rfl, hO, hb1⟩)
    refine (l32Time_c A' c' (restL l d) w1 hok'.out.1 hok'.out.2 hO.sl).mono ?_; rintro e w2 ⟨rfl, hb2⟩
    go_wp2
    go_ret2
    exact ⟨by rw [HR.out]; rfl, hb1.trans (hb2.mono hb1.size)⟩
  · have HR : Hid (resumeRes l d = (0, restCode l d)) := by unfold Hid resumeRes; rw [if_neg h0]
    have hne : (restCode l d != 0) = true := by simp [h0]
    have H := specRestOf_c A c l d w hl hc hs
    unfold RestPost at H
    clear h0 hs
    have H' := Lib.hid H; clear H
    go_enter Try.func40, Try.ntmps40
    go_wp2_with (go_at_call 38; refine H'.out.mono ?_; rintro e w1 ⟨A', c', rfl, hO, hb1⟩)
    go_ret2
    exact ⟨by rw [HR.out]; rfl, hb1⟩
theorem implResumeTime_c (A : Option Addr) (c : Nat) (l : List Stroke) (d : Int) (w : World) (hl : l.length ≤ 1048576) (hc : l.length ≤ c) (hs : Sl w w.heap.size 3 A (l.map Stroke.cells)) :
    Calls Try.prog 39 #[.slice A l.length c, .int .i64 d] w fun e w' => e = .returned (.tuple #[.int .i64 (resumeRes l d).1, .int .i64 (resumeRes l d).2]) ∧ Below w.heap.size w w' := by
  by_cases h0 : restCode l d = 0
  · have HR : Hid (resumeRes l d = (timeOf (restL l d), 0)) := by unfold Hid resumeRes; rw [if_pos h0]
    have hok := restL_ok h0
    have H := implRestOf_c A c l d w hl hc hs
    unfold RestPost at H
    rw [h0] at H
    clear h0 hs
    have H' := Lib.hid H; clear H
    have hok' := Lib.hid hok; clear hok
    go_enter Try.func39, Try.ntmps39
    go_wp2_with (go_at_call 37; refine H'.out.mono ?_; rintro e w1 ⟨A', c', rfl, hO, hb1⟩)
    refine (timeOf_c A' c' (restL l d) w1 hok'.out.1 hok'.out.2 hO.sl).mono ?_; rintro e w2 ⟨rfl, hb2⟩
    go_wp2
    go_ret2
    exact ⟨by rw [HR.out]; rfl, hb1.trans (hb2.mono hb1.size)⟩
  · have HR : Hid (resumeRes l d = (0, restCode l d)) := by unfold Hid resumeRes; rw [if_neg h0]
    have hne : (restCode l d != 0) = true := by simp [h0]
    have H := implRestOf_c A c l d w hl hc hs
    unfold RestPost at H
    clear h0 hs
    have H' := Lib.hid H; clear H
    go_enter Try.func39, Try.ntmps39
    go_wp2_with (go_at_call 37; refine H'.out.mono ?_; rintro e w1 ⟨A', c', rfl, hO, hb1⟩)
    go_ret2
    exact ⟨by rw [HR.out]; rfl, hb1⟩
end Go.Proofs.Ytdlipjgdkjdgnaa
