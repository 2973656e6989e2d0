/- Chains: whether they are valid, the program's and the reference's. No condition beyond the length. -/
import Derived.Test.YtmdliicdlehibaaCfTerm
import Derived.Test.YtmdliicdlehibaaAngle
import Derived.Test.YtmdliicdlehibaaSmall
namespace Go.Proofs.Ytmdliicdlehibaa
open Go.RowKit
def Term.fig (t : Term) : Figure := ⟨t.digits, t.tens⟩
def termOK (t : Term) : Bool := figOK t.fig
def firstDiv : List Term → Bool
  | [] => false
  | t :: _ => t.div
def chainB (c : List Term) : Bool := c.all termOK && (inB c.length 1 6 && !firstDiv c)
theorem firstDiv_eq {l : List Term} (h : 0 < l.length) : firstDiv l = (l[0]).div := by
  match l, h with
  | _ :: _, _ => rfl
theorem chainPred (w : World) : PredTerm 76 #[] (fun t => !termOK t) w := by
  intro t W _
  have H := fun W => implIsFigure_c t.fig W
  obtain ⟨a, b, d⟩ := t
  unfold Figure.agg Term.fig at H
  unfold Term.agg termOK
  simp only [Term.fig] at H ⊢
  cases h1 : figOK ⟨a, b⟩
  all_goals
    rw [h1] at H
    have H := fun W => Lib.hid (H W)
    go_enter Try.func76, Try.ntmps76
    go_wp2_with (go_at_call 77; refine (H _).out.mono ?_; rintro e w1 ⟨rfl, hb1⟩)
    go_ret
    exact ⟨rfl, ((Below.refl _ _).alloc (Nat.le_refl _) _).trans (hb1.mono (by simp))⟩
set_option maxRecDepth 100000 in
theorem implIsChain_c (A : Option Addr) (c : Nat) (l : List Term) (w : World) (hl : l.length ≤ 140737488351232) (hs : Sl w w.heap.size 3 A (l.map Term.cells)) :
    Calls Try.prog 45 #[.slice A l.length c] w fun e w' => e = .returned (.bool (chainB l)) ∧ Below w.heap.size w w' := by
  have hcall := containsFuncTerm_c A c l 76 #[] (fun t => !termOK t) w (enters_of Try.func76 (by kernel_rfl) rfl) (chainPred w) hl hs
  have hall : l.any (fun t => !termOK t) = !(l.all termOK) := by rw [List.any_eq_not_all_not]; simp
  rw [hall] at hcall
  have HC := Lib.hid hcall
  clear hcall hall
  have hin : Hid (inB l.length 1 6 = (decide (1 ≤ (l.length : Int)) && decide ((l.length : Int) ≤ 6))) := rfl
  by_cases h1 : (l.length : Int) < 1
  · have HR : Hid (chainB l = false) := by unfold Hid chainB; rw [hin.out, show decide ((1 : Int) ≤ (l.length : Int)) = false from decide_eq_false (by omega)]; simp
    go_enter Try.func45, Try.ntmps45
    go_wp2
    go_ret
    exact ⟨by rw [HR.out]; rfl, Below.refl _ _⟩
  by_cases h6 : (6 : Int) < (l.length : Int)
  · have HR : Hid (chainB l = false) := by unfold Hid chainB; rw [hin.out, show decide ((l.length : Int) ≤ 6) = false from decide_eq_false (by omega)]; simp
    go_enter Try.func45, Try.ntmps45
    go_wp2
    go_ret
    exact ⟨by rw [HR.out]; rfl, Below.refl _ _⟩
  have hlt : 0 < l.length := by omega
  have HR : Hid (chainB l = (l.all termOK && !firstDiv l)) := by unfold Hid chainB; rw [hin.out, show decide ((1 : Int) ≤ (l.length : Int)) = true from decide_eq_true (by omega), show decide ((l.length : Int) ≤ 6) = true from decide_eq_true (by omega)]; rfl
  have hf := firstDiv_eq hlt
  obtain ⟨b, off, rfl, hbB, hc⟩ := hs.at_ (i := 0) (by simpa using hlt)
  simp only [List.getElem_map] at hc
  have c2 : w.cell? ⟨b, off + 2, none⟩ = some (.bool (firstDiv l)) := by rw [hf]; have := hc 2 _ rfl; simpa using this
  clear hc hf hs
  generalize firstDiv l = d at *
  cases d with
  | true =>
    go_enter Try.func45, Try.ntmps45
    go_wp2
    go_ret
    exact ⟨by rw [HR.out]; simp, Below.refl _ _⟩
  | false =>
    generalize l.all termOK = t at *
    cases t
    all_goals
      go_enter Try.func45, Try.ntmps45
      go_wp2_with (go_at_call 75; refine HC.out.mono ?_; rintro e w1 ⟨rfl, hb1⟩)
      go_ret
      exact ⟨by rw [HR.out]; rfl, hb1⟩
set_option maxRecDepth 100000 in
set_option maxHeartbeats 400000 in
theorem specIsChain_c (A : Option Addr) (c : Nat) (l : List Term) (w : World) (hl : l.length ≤ 140737488351232) (hs : Sl w w.heap.size 3 A (l.map Term.cells)) :
    Calls Try.prog 38 #[.slice A l.length c] w fun e w' => e = .returned (.bool (chainB l)) ∧ Below w.heap.size w w' := by
  go_enter Try.func38, Try.ntmps38
  go_wp2_with fail
  go_loopw [3] (fun i wr => ∃ k : Nat, k ≤ l.length ∧ i = .int .i64 k ∧ Hid ((l.take k).all termOK = true) ∧ Below w.heap.size w wr) (fun i _ => l.length - (intOf i).toNat)
  case atStart => exact ⟨0, Nat.zero_le _, rfl, (show (l.take 0).all termOK = true by simp), Below.refl _ _⟩
  case round =>
    obtain ⟨k, hk, rfl, hok, hb⟩ := hrel
    by_cases hlt : k < l.length
    · obtain ⟨b, off, rfl, hbB, hc⟩ := hs.at_ (i := k) (by simpa using hlt)
      simp only [List.getElem_map] at hc
      have c0 : wr.cell? ⟨b, off + k * 3, none⟩ = some (.int .i64 l[k].digits) := by rw [hb.cell hbB]; exact hc 0 _ rfl
      have c1 : wr.cell? ⟨b, off + k * 3 + 1, none⟩ = some (.int .i64 l[k].tens) := by rw [hb.cell hbB]; exact hc 1 _ rfl
      clear hc
      have H := fun W => specIsFigure_c l[k].fig W
      have hnx : (l.take (k + 1)).all termOK = ((l.take k).all termOK && termOK l[k]) := by rw [List.take_succ_eq_append_getElem hlt, List.all_append]; simp
      have hbad : termOK l[k] = false → Hid (chainB l = false) := fun h => by
        unfold Hid chainB
        rw [show l.all termOK = false from by rw [List.all_eq_false]; exact ⟨l[k], List.getElem_mem hlt, by simp [h]⟩]
        rfl
      unfold Figure.agg at H
      have he : Hid (termOK l[k] = figOK l[k].fig) := rfl
      rw [show figOK l[k].fig = termOK l[k] from rfl] at H
      simp only [Term.fig] at H
      clear he
      cases hq : termOK l[k] with
      | false =>
        have hF := hbad hq
        rw [hq] at H
        have H := fun W => Lib.hid (H W)
        clear hnx hbad hq
        go_wp2_with (go_at_call 69; refine (H _).out.mono ?_; rintro e w1 ⟨rfl, hb1⟩)
        go_ret
        exact ⟨by rw [hF.out]; rfl, hb.trans (hb1.mono hb.size)⟩
      | true =>
        have hok2 : Hid ((l.take (k + 1)).all termOK = true) := by unfold Hid; rw [hnx, hok.out, hq]; rfl
        rw [hq] at H
        have H := fun W => Lib.hid (H W)
        clear hnx hbad hq
        go_wp2_with (go_at_call 69; refine (H _).out.mono ?_; rintro e w1 ⟨rfl, hb1⟩)
        go_roundw
        case rel => exact ⟨k + 1, by omega, by go_num, hok2, hb.trans (hb1.mono hb.size)⟩
        case measure => simp [intOf]; omega
    · have : k = l.length := by omega
      subst this
      have hall : Hid (l.all termOK = true) := by unfold Hid; have := hok.out; rwa [List.take_length] at this
      have HI := fun W => Lib.hid (l01In_c l.length 1 6 W)
      have HR : Hid (chainB l = (inB l.length 1 6 && !firstDiv l)) := by unfold Hid chainB; rw [hall.out]; rfl
      by_cases hin : inB l.length 1 6 = true
      · have hlt0 : 0 < l.length := by have := (inB_true.1 hin).1; omega
        have hf := firstDiv_eq hlt0
        obtain ⟨b, off, rfl, hbB, hc⟩ := hs.at_ (i := 0) (by simpa using hlt0)
        simp only [List.getElem_map] at hc
        have c2 : wr.cell? ⟨b, off + 2, none⟩ = some (.bool (firstDiv l)) := by rw [hf, hb.cell hbB]; have := hc 2 _ rfl; simpa using this
        have h0I : (0 : Int) < (l.length : Int) := by omega
        rw [hin] at HI HR
        clear hc hf hin
        generalize firstDiv l = d at *
        cases d
        all_goals
          go_wp2_with (go_at_call 52; refine (HI _).out.mono ?_; rintro e w1 ⟨rfl, rfl⟩)
          go_ret
          exact ⟨by rw [HR.out]; rfl, hb⟩
      · rw [Bool.not_eq_true] at hin
        rw [hin] at HI HR
        clear hin
        go_wp2_with (go_at_call 52; refine (HI _).out.mono ?_; rintro e w1 ⟨rfl, rfl⟩)
        go_ret
        exact ⟨by rw [HR.out]; rfl, hb⟩
end Go.Proofs.Ytmdliicdlehibaa
