/- Term: the structure, the laws' copies and comparisons of it. No condition beyond the length. slices.ContainsFunc at []impl.Term, at a predicate that only computes. Chains: whether they are valid, the program's and the reference's. No condition beyond the length. The logarithm of a chain, the program's and the reference's. Condition: the chain is valid. -/
import Derived.StillTailTactics
import Derived.Shelf.Abstract
import Derived.Test.YtednjmldjbndhaaGreatKEy1
import Derived.Test.YtednjmldjbndhaaGreatKEy2
import Derived.Test.YtednjmldjbndhaaGreatKEy3
set_option linter.unusedSimpArgs false
set_option linter.unusedVariables false
namespace Go.Proofs.YtednjmldjbndhaaGreat
open Go.RowKit
@[ext] structure Term where
  digits : Int
  tens : Int
  div : Bool
deriving DecidableEq
def Term.cells (s : Term) : List Value := [.int .i64 s.digits, .int .i64 s.tens, .bool s.div]
def Term.agg (s : Term) : Value := .agg #[.int .i64 s.digits, .int .i64 s.tens, .bool s.div]

theorem szTermS_c (A : Option Addr) (n c : Nat) (left : Int) (w : World) (hn : n ≤ 140737488351232) (hl : 0 ≤ left ∧ left ≤ 1048576) :
   Calls Tryz.prog 65 #[.slice A n c, .int .i64 left] w fun e w' => e = .returned (.int .i64 (if left < n then -1 else left - n)) ∧ w = w' := by
  obtain ⟨h1, h2⟩ := hl
  by_cases h : left < n
  · have h' : left - n < 0 := by omega
    rw [if_pos h]
    go_enter Tryz.func65, Tryz.ntmps65
    go_wp2
    go_ret
    exact ⟨rfl, rfl⟩
  · have h' : ¬ left - n < 0 := by omega
    rw [if_neg h]
    go_enter Tryz.func65, Tryz.ntmps65
    go_wp2
    go_ret
    exact ⟨rfl, rfl⟩

set_option maxRecDepth 100000 in
theorem eqTermS_c (A A' : Option Addr) (c c' : Nat) (l : List Term) (w : World) (hl : l.length ≤ 140737488351232) (hs : Sl w w.heap.size 3 A (l.map Term.cells)) (hs' : Sl w w.heap.size 3 A' (l.map Term.cells)) :
   Calls Tryz.prog 76 #[.slice A l.length c, .slice A' l.length c'] w fun e w' => e = .returned (.bool true) ∧ Below w.heap.size w w' := by
  go_enter Tryz.func76, Tryz.ntmps76
  go_wp2_with fail
  go_loopw [5] (fun i wr => ∃ k : Nat, k ≤ l.length ∧ i = .int .i64 k ∧ Below w.heap.size w wr) (fun i _ => l.length - (intOf i).toNat)
  case atStart => exact ⟨0, Nat.zero_le _, rfl, Below.refl _ _⟩
  case round =>
    obtain ⟨k, hk, rfl, hb⟩ := hrel
    by_cases hlt : k < l.length
    · obtain ⟨b, off, rfl, hbB, hc⟩ := hs.at_ (i := k) (by simpa using hlt)
      obtain ⟨b', off', rfl, hbB', hc'⟩ := hs'.at_ (i := k) (by simpa using hlt)
      simp only [List.getElem_map] at hc hc'
      have c0 : wr.cell? ⟨b, off + k * 3, none⟩ = some (.int .i64 l[k].digits) := by rw [hb.cell hbB]; exact hc 0 _ rfl
      have c1 : wr.cell? ⟨b, off + k * 3 + 1, none⟩ = some (.int .i64 l[k].tens) := by rw [hb.cell hbB]; exact hc 1 _ rfl
      have c2 : wr.cell? ⟨b, off + k * 3 + 2, none⟩ = some (.bool l[k].div) := by rw [hb.cell hbB]; exact hc 2 _ rfl
      have d0 : wr.cell? ⟨b', off' + k * 3, none⟩ = some (.int .i64 l[k].digits) := by rw [hb.cell hbB']; exact hc' 0 _ rfl
      have d1 : wr.cell? ⟨b', off' + k * 3 + 1, none⟩ = some (.int .i64 l[k].tens) := by rw [hb.cell hbB']; exact hc' 1 _ rfl
      have d2 : wr.cell? ⟨b', off' + k * 3 + 2, none⟩ = some (.bool l[k].div) := by rw [hb.cell hbB']; exact hc' 2 _ rfl
      clear hc hc'
      go_wp2_with fail
      go_still_tail 8, (by kernel_rfl)
      change wpList _ _ _ _ _ wr.drew
      have hb : Below w.heap.size w wr.drew := hb.drew
      generalize wr.drew = w2 at hb ⊢
      clear c0 c1 c2 d0 d1 d2
      go_wp2_with (go_at_call 134; refine (eqTerm_c _ _ _ _).mono ?_; rintro e w1 ⟨rfl, hb1⟩)
      go_roundw
      case rel => exact ⟨k + 1, by omega, by go_num, hb.trans (hb1.mono hb.size)⟩
      case measure => simp [intOf]; omega
    · have : k = l.length := by omega
      subst this
      go_wp2
      go_ret
      exact ⟨rfl, hb⟩

theorem info_Term : (Tryz.prog.info? 100).map (fun i => (i.zero, i.size, i.bytes)) = some (some (.agg #[.int .i64 0, .int .i64 0, .bool false]), 3, 24) := by kernel_rfl

set_option maxRecDepth 100000 in
theorem toTermS_c (A : Option Addr) (c : Nat) (l : List Term) (w : World) (hl : l.length ≤ 1048576) (hs : Sl w w.heap.size 3 A (l.map Term.cells)) :
    Calls Tryz.prog 70 #[.slice A l.length c] w fun e w' => ∃ A' c', e = .returned (.slice A' l.length c') ∧ Own w' w.heap.size 100 3 (.slice A' l.length c') (l.map Term.cells) ∧ Below w.heap.size w w' := by
  obtain ⟨i0, hi, hz0, hz1, hz2⟩ := info_parts info_Term
  go_enter Tryz.func70, Tryz.ntmps70
  go_wp2_with (refine wpList_make_full _ rfl (.tmp 6) (.tmp 6) 27 rfl w.heap.size 100 i0 _ 3 Tryz.underlying27 hi hz0 hz1 .i64 .i64 _ _ l.length rfl rfl rfl rfl (by rw [hz2]; omega) (by unfold maxLen; omega) (Nat.le_refl _) ?_; intro w1 hown hg)
  have hb1 : Below w.heap.size w w1 := (Below.refl _ _).grown hg (Nat.le_refl _) (fun k h => by cases h)
  have hO : Own w1 w.heap.size 100 3 (.slice (some ⟨w.heap.size, 0, none⟩) l.length l.length) ((l.map Term.cells).take 0 ++ List.replicate (l.length - 0) [Value.int .i64 0, .int .i64 0, .bool false]) := by
    refine ⟨?_, by simp⟩
    rw [made_rows _ 3 _ rfl (by omega)] at hown
    simpa [Value.cells] using hown
  clear hown hg
  generalize hgs : w.heap.size = g at hO ⊢
  go_loopw [4] (fun i wr => ∃ k : Nat, k ≤ l.length ∧ i = .int .i64 k ∧ Below w.heap.size w wr ∧
      Own wr w.heap.size 100 3 (.slice (some ⟨g, 0, none⟩) l.length l.length) ((l.map Term.cells).take k ++ List.replicate (l.length - k) [Value.int .i64 0, .int .i64 0, .bool false])) (fun i _ => l.length - (intOf i).toNat)
  case atStart => exact ⟨0, Nat.zero_le _, rfl, hb1, by rw [hgs]; exact hO⟩
  case round =>
    obtain ⟨k, hk, rfl, hb, hO⟩ := hrel
    by_cases hlt : k < l.length
    · obtain ⟨b, off, rfl, hbB, hc⟩ := hs.at_ (i := k) (by simpa using hlt)
      simp only [List.getElem_map] at hc
      have c0 : wr.cell? ⟨b, off + k * 3, none⟩ = some (.int .i64 l[k].digits) := by rw [hb.cell hbB]; exact hc 0 _ rfl
      have c1 : wr.cell? ⟨b, off + k * 3 + 1, none⟩ = some (.int .i64 l[k].tens) := by rw [hb.cell hbB]; exact hc 1 _ rfl
      have c2 : wr.cell? ⟨b, off + k * 3 + 2, none⟩ = some (.bool l[k].div) := by rw [hb.cell hbB]; exact hc 2 _ rfl
      clear hc
      go_wp2_with (go_at_call 129; refine (toTerm_c _ _ _ _).mono ?_; rintro e w2 ⟨rfl, hb2⟩; have hO2 := hO.below hb2; have hkl : k < ((l.map Term.cells).take k ++ List.replicate (l.length - k) [Value.int .i64 0, .int .i64 0, .bool false]).length := (by simp; omega); obtain ⟨v0, e0⟩ : ∃ v, w2.cell? ⟨g, k * 3, none⟩ = some v := hO2.cell (i := k) (j := 0) hkl (by omega); obtain ⟨v1, e1⟩ : ∃ v, w2.cell? ⟨g, k * 3 + 1, none⟩ = some v := hO2.cell (i := k) (j := 1) hkl (by omega); obtain ⟨v2, e2⟩ : ∃ v, w2.cell? ⟨g, k * 3 + 2, none⟩ = some v := hO2.cell (i := k) (j := 2) hkl (by omega); have f0 : w2.frozen? ⟨g, k * 3, none⟩ = false := hO2.frozen _; have f1 : w2.frozen? ⟨g, k * 3 + 1, none⟩ = false := hO2.frozen _; have f2 : w2.frozen? ⟨g, k * 3 + 2, none⟩ = false := hO2.frozen _)
      go_roundw
      case rel =>
        refine ⟨k + 1, by omega, by go_num, ?_, ?_⟩
        · exact stores_below (by omega) l[k].cells (k * 3) (hb.trans (hb2.mono hb.size))
        · have h := hO2.store (i := k) hkl l[k].cells rfl
          rw [show ((l.map Term.cells).take k ++ List.replicate (l.length - k) [Value.int .i64 0, .int .i64 0, .bool false]).set k l[k].cells = (l.map Term.cells).take (k + 1) ++ List.replicate (l.length - (k + 1)) [Value.int .i64 0, .int .i64 0, .bool false] from rows_next (by simpa using hlt) (by simp [List.getElem?_eq_getElem hlt])] at h
          exact h
      case measure => simp [intOf]; omega
    · have : k = l.length := by omega
      subst this
      go_wp2
      go_ret
      rw [List.take_of_length_le (by simp), Nat.sub_self, List.replicate_zero, List.append_nil] at hO
      exact ⟨_, _, rfl, hO, hb⟩

end Go.Proofs.YtednjmldjbndhaaGreat
namespace Go.Proofs.YtednjmldjbndhaaGreat
open Go.RowKit
/-- the function value computes p in every world that keeps all that lies in w -/
def PredTerm (g : FuncId) (lb : Array Value) (p : Term → Bool) (w : World) : Prop :=
  ∀ (x : Term) (W : World), Below w.heap.size w W → Calls Tryz.prog g (#[x.agg] ++ lb) W fun e w' => e = .returned (.bool (p x)) ∧ Below W.heap.size W w'
def IdxPostTerm (p : Term → Bool) (l : List Term) (w : World) (e : Ending) (w' : World) : Prop :=
  ∃ r : Int, e = .returned (.int .i64 r) ∧ decide (0 ≤ r) = l.any p ∧ Below w.heap.size w w'
set_option maxRecDepth 100000 in
theorem indexFuncTerm_c (A : Option Addr) (c : Nat) (l : List Term) (g : FuncId) (lb : Array Value) (p : Term → Bool) (w : World)
    (eg : ∀ args w, (callFunc g args).run Tryz.prog w = .ok (.enter g args) w) (hp : PredTerm g lb p w) (hl : l.length ≤ 140737488351232) (hs : Sl w w.heap.size 3 A (l.map Term.cells)) :
    Calls Tryz.prog 219 #[.slice A l.length c, .func (.func g) #[] lb] w (IdxPostTerm p l w) := by
  go_enter Tryz.func219, Tryz.ntmps219
  go_wp2_with fail
  go_loopw [8] (fun i wr => ∃ k : Nat, k ≤ l.length ∧ i = .int .i64 k ∧ Below w.heap.size w wr ∧ Hid ((l.take k).any p = false)) (fun i _ => l.length - (intOf i).toNat)
  case atStart => exact ⟨0, Nat.zero_le _, rfl, Below.refl _ _, (show (l.take 0).any p = false from by simp)⟩
  case round =>
    obtain ⟨k, hk, rfl, hb, hn⟩ := hrel
    by_cases hlt : k < l.length
    · obtain ⟨b, off, rfl, hbB, hc⟩ := hs.at_ (i := k) (by simpa using hlt)
      simp only [List.getElem_map] at hc
      have c0 : wr.cell? ⟨b, off + k * 3, none⟩ = some (.int .i64 l[k].digits) := by rw [hb.cell hbB]; exact hc 0 _ rfl
      have c1 : wr.cell? ⟨b, off + k * 3 + 1, none⟩ = some (.int .i64 l[k].tens) := by rw [hb.cell hbB]; exact hc 1 _ rfl
      have c2 : wr.cell? ⟨b, off + k * 3 + 2, none⟩ = some (.bool l[k].div) := by rw [hb.cell hbB]; exact hc 2 _ rfl
      clear hc
      have hcall := hp l[k] wr hb
      have hnx : (l.take (k + 1)).any p = ((l.take k).any p || p l[k]) := by rw [List.take_succ_eq_append_getElem hlt, List.any_append]; simp
      have hnx := Lib.hid hnx
      clear hp
      cases hq : p l[k] with
      | true =>
        have hq' := Lib.hid hq
        rw [hq] at hcall
        have hcall := Lib.hid hcall
        clear hq
        go_wp2_with (go_at_fn g; refine hcall.out.mono ?_; rintro e w1 ⟨rfl, hb1⟩)
        go_ret
        refine ⟨k, rfl, ?_, hb.trans (hb1.mono hb.size)⟩
        rw [show l.any p = true from List.any_eq_true.2 ⟨l[k], List.getElem_mem hlt, hq'.out⟩]
        simp
      | false =>
        have hq' := Lib.hid hq
        rw [hq] at hcall
        have hcall := Lib.hid hcall
        clear hq
        go_wp2_with (go_at_fn g; refine hcall.out.mono ?_; rintro e w1 ⟨rfl, hb1⟩)
        go_roundw
        case rel => exact ⟨k + 1, by omega, by go_num, hb.trans (hb1.mono hb.size), (show _ = false from by rw [hnx.out, hn.out, hq'.out]; rfl)⟩
        case measure => simp [intOf]; omega
    · have : k = l.length := by omega
      subst this
      go_wp2
      go_ret
      refine ⟨-1, rfl, ?_, hb⟩
      have := hn.out
      rw [List.take_length] at this
      rw [this]
      rfl
theorem containsFuncTerm_c (A : Option Addr) (c : Nat) (l : List Term) (g : FuncId) (lb : Array Value) (p : Term → Bool) (w : World)
    (eg : ∀ args w, (callFunc g args).run Tryz.prog w = .ok (.enter g args) w) (hp : PredTerm g lb p w) (hl : l.length ≤ 140737488351232) (hs : Sl w w.heap.size 3 A (l.map Term.cells)) :
    Calls Tryz.prog 181 #[.slice A l.length c, .func (.func g) #[] lb] w fun e w' => e = .returned (.bool (l.any p)) ∧ Below w.heap.size w w' := by
  have H := Lib.hid (indexFuncTerm_c A c l g lb p w eg hp hl hs)
  clear hp hs eg
  go_enter Tryz.func181, Tryz.ntmps181
  go_wp2_with fail
  refine H.out.mono ?_
  rintro e w1 ⟨r, rfl, hr, hb⟩
  go_wp2
  go_ret
  exact ⟨rfl, hb⟩
end Go.Proofs.YtednjmldjbndhaaGreat
namespace Go.Proofs.YtednjmldjbndhaaGreat
open Go.RowKit
def Term.fig (t : Term) : Figure := ⟨t.digits, t.tens⟩
def termOK (t : Term) : Bool := figOK t.fig
def firstDiv : List Term → Bool
  | [] => false
  | t :: _ => t.div
def chainB (c : List Term) : Bool := c.all termOK && (inB c.length 1 6 && !firstDiv c)
theorem firstDiv_eq {l : List Term} (h : 0 < l.length) : firstDiv l = (l[0]).div := by
  match l, h with
  | _ :: _, _ => rfl
theorem chainPred (w : World) : PredTerm 182 #[] (fun t => !termOK t) w := by
  intro t W _
  have H := fun W => implIsFigure_c t.fig W
  obtain ⟨a, b, d⟩ := t
  unfold Figure.agg Term.fig at H
  unfold Term.agg termOK
  simp only [Term.fig] at H ⊢
  cases h1 : figOK ⟨a, b⟩
  all_goals
    rw [h1] at H
    have H := fun W => Lib.hid (H W)
    go_enter Tryz.func182, Tryz.ntmps182
    go_wp2_with (go_at_call 158; refine (H _).out.mono ?_; rintro e w1 ⟨rfl, hb1⟩)
    go_ret
    exact ⟨rfl, ((Below.refl _ _).alloc (Nat.le_refl _) _).trans (hb1.mono (by simp))⟩
set_option maxRecDepth 100000 in
theorem implIsChain_c (A : Option Addr) (c : Nat) (l : List Term) (w : World) (hl : l.length ≤ 140737488351232) (hs : Sl w w.heap.size 3 A (l.map Term.cells)) :
    Calls Tryz.prog 138 #[.slice A l.length c] w fun e w' => e = .returned (.bool (chainB l)) ∧ Below w.heap.size w w' := by
  have hcall := containsFuncTerm_c A c l 182 #[] (fun t => !termOK t) w (enters_of Tryz.func182 (by kernel_rfl) rfl) (chainPred w) hl hs
  have hall : l.any (fun t => !termOK t) = !(l.all termOK) := by rw [List.any_eq_not_all_not]; simp
  rw [hall] at hcall
  have HC := Lib.hid hcall
  clear hcall hall
  have hin : Hid (inB l.length 1 6 = (decide (1 ≤ (l.length : Int)) && decide ((l.length : Int) ≤ 6))) := rfl
  by_cases h1 : (l.length : Int) < 1
  · have HR : Hid (chainB l = false) := by unfold Hid chainB; rw [hin.out, show decide ((1 : Int) ≤ (l.length : Int)) = false from decide_eq_false (by omega)]; simp
    go_enter Tryz.func138, Tryz.ntmps138
    go_wp2
    go_ret
    exact ⟨by rw [HR.out]; rfl, Below.refl _ _⟩
  by_cases h6 : (6 : Int) < (l.length : Int)
  · have HR : Hid (chainB l = false) := by unfold Hid chainB; rw [hin.out, show decide ((l.length : Int) ≤ 6) = false from decide_eq_false (by omega)]; simp
    go_enter Tryz.func138, Tryz.ntmps138
    go_wp2
    go_ret
    exact ⟨by rw [HR.out]; rfl, Below.refl _ _⟩
  have hlt : 0 < l.length := by omega
  have HR : Hid (chainB l = (l.all termOK && !firstDiv l)) := by unfold Hid chainB; rw [hin.out, show decide ((1 : Int) ≤ (l.length : Int)) = true from decide_eq_true (by omega), show decide ((l.length : Int) ≤ 6) = true from decide_eq_true (by omega)]; rfl
  have hf := firstDiv_eq hlt
  obtain ⟨b, off, rfl, hbB, hc⟩ := hs.at_ (i := 0) (by simpa using hlt)
  simp only [List.getElem_map] at hc
  have c2 : w.cell? ⟨b, off + 2, none⟩ = some (.bool (firstDiv l)) := by rw [hf]; have := hc 2 _ rfl; simpa using this
  clear hc hf hs
  generalize firstDiv l = d at *
  cases d with
  | true =>
    go_enter Tryz.func138, Tryz.ntmps138
    go_wp2
    go_ret
    exact ⟨by rw [HR.out]; simp, Below.refl _ _⟩
  | false =>
    generalize l.all termOK = t at *
    cases t
    all_goals
      go_enter Tryz.func138, Tryz.ntmps138
      go_wp2_with (go_at_call 181; refine HC.out.mono ?_; rintro e w1 ⟨rfl, hb1⟩)
      go_ret
      exact ⟨by rw [HR.out]; rfl, hb1⟩
set_option maxRecDepth 100000 in
set_option maxHeartbeats 400000 in
theorem specIsChain_c (A : Option Addr) (c : Nat) (l : List Term) (w : World) (hl : l.length ≤ 140737488351232) (hs : Sl w w.heap.size 3 A (l.map Term.cells)) :
    Calls Tryz.prog 152 #[.slice A l.length c] w fun e w' => e = .returned (.bool (chainB l)) ∧ Below w.heap.size w w' := by
  go_enter Tryz.func152, Tryz.ntmps152
  go_wp2_with fail
  go_loopw [3] (fun i wr => ∃ k : Nat, k ≤ l.length ∧ i = .int .i64 k ∧ Hid ((l.take k).all termOK = true) ∧ Below w.heap.size w wr) (fun i _ => l.length - (intOf i).toNat)
  case atStart => exact ⟨0, Nat.zero_le _, rfl, (show (l.take 0).all termOK = true by simp), Below.refl _ _⟩
  case round =>
    obtain ⟨k, hk, rfl, hok, hb⟩ := hrel
    by_cases hlt : k < l.length
    · obtain ⟨b, off, rfl, hbB, hc⟩ := hs.at_ (i := k) (by simpa using hlt)
      simp only [List.getElem_map] at hc
      have c0 : wr.cell? ⟨b, off + k * 3, none⟩ = some (.int .i64 l[k].digits) := by rw [hb.cell hbB]; exact hc 0 _ rfl
      have c1 : wr.cell? ⟨b, off + k * 3 + 1, none⟩ = some (.int .i64 l[k].tens) := by rw [hb.cell hbB]; exact hc 1 _ rfl
      clear hc
      have H := fun W => specIsFigure_c l[k].fig W
      have hnx : (l.take (k + 1)).all termOK = ((l.take k).all termOK && termOK l[k]) := by rw [List.take_succ_eq_append_getElem hlt, List.all_append]; simp
      have hbad : termOK l[k] = false → Hid (chainB l = false) := fun h => by
        unfold Hid chainB
        rw [show l.all termOK = false from by rw [List.all_eq_false]; exact ⟨l[k], List.getElem_mem hlt, by simp [h]⟩]
        rfl
      unfold Figure.agg at H
      have he : Hid (termOK l[k] = figOK l[k].fig) := rfl
      rw [show figOK l[k].fig = termOK l[k] from rfl] at H
      simp only [Term.fig] at H
      clear he
      cases hq : termOK l[k] with
      | false =>
        have hF := hbad hq
        rw [hq] at H
        have H := fun W => Lib.hid (H W)
        clear hnx hbad hq
        go_wp2_with (go_at_call 102; refine (H _).out.mono ?_; rintro e w1 ⟨rfl, hb1⟩)
        go_ret
        exact ⟨by rw [hF.out]; rfl, hb.trans (hb1.mono hb.size)⟩
      | true =>
        have hok2 : Hid ((l.take (k + 1)).all termOK = true) := by unfold Hid; rw [hnx, hok.out, hq]; rfl
        rw [hq] at H
        have H := fun W => Lib.hid (H W)
        clear hnx hbad hq
        go_wp2_with (go_at_call 102; refine (H _).out.mono ?_; rintro e w1 ⟨rfl, hb1⟩)
        go_roundw
        case rel => exact ⟨k + 1, by omega, by go_num, hok2, hb.trans (hb1.mono hb.size)⟩
        case measure => simp [intOf]; omega
    · have : k = l.length := by omega
      subst this
      have hall : Hid (l.all termOK = true) := by unfold Hid; have := hok.out; rwa [List.take_length] at this
      have HI := fun W => Lib.hid (l01In_c l.length 1 6 W)
      have HR : Hid (chainB l = (inB l.length 1 6 && !firstDiv l)) := by unfold Hid chainB; rw [hall.out]; rfl
      by_cases hin : inB l.length 1 6 = true
      · have hlt0 : 0 < l.length := by have := (inB_true.1 hin).1; omega
        have hf := firstDiv_eq hlt0
        obtain ⟨b, off, rfl, hbB, hc⟩ := hs.at_ (i := 0) (by simpa using hlt0)
        simp only [List.getElem_map] at hc
        have c2 : wr.cell? ⟨b, off + 2, none⟩ = some (.bool (firstDiv l)) := by rw [hf, hb.cell hbB]; have := hc 2 _ rfl; simpa using this
        have h0I : (0 : Int) < (l.length : Int) := by omega
        rw [hin] at HI HR
        clear hc hf hin
        generalize firstDiv l = d at *
        cases d
        all_goals
          go_wp2_with (go_at_call 56; refine (HI _).out.mono ?_; rintro e w1 ⟨rfl, rfl⟩)
          go_ret
          exact ⟨by rw [HR.out]; rfl, hb⟩
      · rw [Bool.not_eq_true] at hin
        rw [hin] at HI HR
        clear hin
        go_wp2_with (go_at_call 56; refine (HI _).out.mono ?_; rintro e w1 ⟨rfl, rfl⟩)
        go_ret
        exact ⟨by rw [HR.out]; rfl, hb⟩
end Go.Proofs.YtednjmldjbndhaaGreat
namespace Go.Proofs.YtednjmldjbndhaaGreat
open Go.RowKit
def chainStep (s : Int × Int) (t : Term) : Int × Int := if t.div then (s.1 - figHi t.digits t.tens, s.2 - figLo t.digits t.tens) else (s.1 + figLo t.digits t.tens, s.2 + figHi t.digits t.tens)
def chainTo (l : List Term) (k : Nat) : Int × Int := (l.take k).foldl chainStep (0, 0)
theorem chainTo_succ (l : List Term) {k : Nat} (hk : k < l.length) : chainTo l (k + 1) = chainStep (chainTo l k) l[k] := by
  unfold chainTo
  rw [List.take_succ_eq_append_getElem hk, List.foldl_append]
  rfl
theorem term_bd {t : Term} (h : termOK t = true) : (1000 ≤ t.digits ∧ t.digits ≤ 9999) ∧ (-30 ≤ t.tens ∧ t.tens ≤ 30) := fig_bd (f := t.fig) h
theorem chainTo_bd {l : List Term} (h : l.all termOK = true) {k : Nat} (hk : k ≤ l.length) : (-(33554432 * (k : Int)) ≤ (chainTo l k).1 ∧ (chainTo l k).1 ≤ 33554432 * (k : Int)) ∧ (-(33554432 * (k : Int)) ≤ (chainTo l k).2 ∧ (chainTo l k).2 ≤ 33554432 * (k : Int)) := by
  induction k with
  | zero => simp [chainTo]
  | succ k ih =>
    have ih := ih (by omega)
    rw [chainTo_succ l (by omega)]
    have hb := term_bd (List.all_eq_true.1 h l[k] (List.getElem_mem _))
    have := figLo_bd hb.1 hb.2
    unfold chainStep
    split
    · simp only; omega
    · simp only; omega
theorem chainTo_one {l : List Term} (h : 0 < l.length) (hd : firstDiv l = false) : chainTo l 1 = (figLo l[0].digits l[0].tens, figHi l[0].digits l[0].tens) := by
  rw [chainTo_succ l h]
  rw [firstDiv_eq h] at hd
  unfold chainStep chainTo
  rw [hd]
  simp
set_option maxRecDepth 100000 in
set_option maxHeartbeats 1000000 in
theorem l13Log_c (A : Option Addr) (c : Nat) (l : List Term) (w : World) (h1 : 0 < l.length) (h6 : l.length ≤ 6) (hok : l.all termOK = true) (hd : firstDiv l = false) (hs : Sl w w.heap.size 3 A (l.map Term.cells)) :
    Calls Tryz.prog 178 #[.slice A l.length c] w fun e w' => e = .returned (.agg #[.int .i64 (chainTo l l.length).1, .int .i64 (chainTo l l.length).2]) ∧ Below w.heap.size w w' := by
  have hs0 := hs
  have Hone := Lib.hid (chainTo_one h1 hd)
  have hb0 := term_bd (List.all_eq_true.1 hok l[0] (List.getElem_mem _))
  have HF := fun W => l03Figure_c ⟨l[0].digits, l[0].tens⟩ W hb0.1 hb0.2
  unfold Figure.agg at HF
  have HF := fun W => Lib.hid (HF W)
  have Hok := Lib.hid hok; clear hok hd
  obtain ⟨b, off, rfl, hbB, hc⟩ := hs.at_ (i := 0) (by simpa using h1)
  simp only [List.getElem_map] at hc
  have c0 : w.cell? ⟨b, off, none⟩ = some (.int .i64 l[0].digits) := by have := hc 0 _ rfl; simpa using this
  have c1 : w.cell? ⟨b, off + 1, none⟩ = some (.int .i64 l[0].tens) := by have := hc 1 _ rfl; simpa using this
  have h1I : (0 : Int) < (l.length : Int) := by omega
  clear hc hs
  simp only [figLo, figHi] at Hone
  generalize l[0] = t0 at *
  go_enter Tryz.func178, Tryz.ntmps178
  go_wp2_with fail
  refine (HF _).out.mono ?_; rintro e w1 ⟨rfl, hb1⟩
  have hB1 : Below w.heap.size w w1 := ((Below.refl _ _).alloc (Nat.le_refl _) _).trans (hb1.mono (by simp))
  have Br := (Blk.new w 186 #[.int .i64 0, .int .i64 0]).below hb1 (by simp)
  have hz1 := hB1.size
  have hz1' := Br.lt
  clear c0 c1 HF
  go_wp2_with fail
  go_loopw [4] (fun i wr => ∃ k : Nat, 1 ≤ k ∧ k ≤ l.length ∧ i = .int .i64 k ∧ Below w.heap.size w wr ∧ Blk wr w.heap.size 186 #[.int .i64 0, .int .i64 0] ∧ Blk wr w1.heap.size 186 #[.int .i64 (chainTo l k).1, .int .i64 (chainTo l k).2]) (fun i _ => l.length - (intOf i).toNat)
  case atStart => exact ⟨1, Nat.le_refl _, h1, rfl, (by repeat (first | with_reducible exact hB1 | with_reducible apply below_drewN' | with_reducible apply Below.drew | (with_reducible refine Below.alloc ?_ (by first | omega | (simp; omega) | simp | (have := (hB1).size; omega) | (have := (hB1).size; simp; omega)) _) | (with_reducible refine Below.setCell ?_ (by first | omega | (simp; omega) | simp | (have := (hB1).size; omega) | (have := (hB1).size; simp; omega)) _) | exact hB1)), Br.alloc _, by rw [Hone.out]; exact Blk.new _ _ _⟩
  case round =>
    obtain ⟨k, hk1, hk, rfl, hb, Brr, Bg⟩ := hrel
    by_cases hlt : k < l.length
    · obtain ⟨b', off', hA, hbB', hc⟩ := hs0.at_ (i := k) (by simpa using hlt)
      obtain ⟨rfl, rfl⟩ : b = b' ∧ off = off' := by simpa using hA
      clear hA
      simp only [List.getElem_map] at hc
      have c0 : wr.cell? ⟨b, off + k * 3, none⟩ = some (.int .i64 l[k].digits) := by rw [hb.cell hbB]; exact hc 0 _ rfl
      have c1 : wr.cell? ⟨b, off + k * 3 + 1, none⟩ = some (.int .i64 l[k].tens) := by rw [hb.cell hbB]; exact hc 1 _ rfl
      have c2 : wr.cell? ⟨b, off + k * 3 + 2, none⟩ = some (.bool l[k].div) := by rw [hb.cell hbB]; exact hc 2 _ rfl
      clear hc
      have hbk := term_bd (List.all_eq_true.1 Hok.out l[k] (List.getElem_mem _))
      have hfb := figLo_bd hbk.1 hbk.2
      have hcb := chainTo_bd Hok.out hk
      have Hnx := Lib.hid (chainTo_succ l hlt)
      have HF := fun W => l03Figure_c ⟨l[k].digits, l[k].tens⟩ W hbk.1 hbk.2
      unfold Figure.agg at HF
      have HF : ∀ W, Calls Tryz.prog 211 #[.agg #[.int .i64 l[k].digits, .int .i64 l[k].tens]] W fun e w' => e = .returned (.agg #[.int .i64 (figLo l[k].digits l[k].tens), .int .i64 (figHi l[k].digits l[k].tens)]) ∧ Below W.heap.size W w' := HF
      unfold chainStep at Hnx
      generalize figLo l[k].digits l[k].tens = fl at *
      generalize figHi l[k].digits l[k].tens = fh at *
      generalize chainTo l k = s at *
      obtain ⟨s1, s2⟩ := s
      simp only at Hnx hcb Bg
      have HF := fun W => Lib.hid (HF W)
      generalize l[k] = t at *
      obtain ⟨td, tt, tv⟩ := t
      simp only at Hnx c0 c1 c2 HF
      have hzr := hb.size
      have hbw : b < wr.heap.size := by omega
      have hzg := Bg.lt
      go_wp2_with fail
      refine (HF _).out.mono ?_; rintro e w2 ⟨rfl, hb2⟩
      have hB2 := hb.trans (hb2.mono hzr)
      have Br2 := Brr.below hb2 Brr.lt
      have Bg2 := Bg.below hb2 Bg.lt
      have d2 : w2.cell? ⟨b, off + k * 3 + 2, none⟩ = some (.bool tv) := (hb2.cell (p := ⟨b, off + k * 3 + 2, none⟩) hbw).trans c2
      have y0 : w2.cell? ⟨w1.heap.size, 0, none⟩ = some (.int .i64 s1) := Bg2.cell 0
      have y1 : w2.cell? ⟨w1.heap.size, 1, none⟩ = some (.int .i64 s2) := Bg2.cell 1
      have hz2 := hB2.size
      have hzg2 := Bg2.lt
      have hz2' := hb2.size
      have hbw2 : b < w2.heap.size := by omega
      have hne2 : b ≠ w2.heap.size := by omega
      have hneg : w1.heap.size ≠ w2.heap.size := by omega
      have e2 : (w2.alloc (.cells #[.int .i64 fl, .int .i64 fh] 186)).cell? ⟨b, off + k * 3 + 2, none⟩ = some (.bool tv) := (World.cell?_alloc_lt w2 _ _ hbw2).trans d2
      clear c0 c1 c2
      cases tv with
      | true =>
        simp only [if_true] at Hnx
        go_wp2_with fail
        refine (l03Sub_c s1 s2 fl fh _ (by omega) (by omega) (by omega) (by omega)).mono ?_; rintro e w3 ⟨rfl, hb3⟩
        have hB3 : Below w.heap.size w w3 := Below.trans ((by repeat (first | with_reducible exact hB2 | with_reducible apply below_drewN' | with_reducible apply Below.drew | (with_reducible refine Below.alloc ?_ (by first | omega | (simp; omega) | simp | (have := (hB2).size; omega) | (have := (hB2).size; simp; omega)) _) | (with_reducible refine Below.setCell ?_ (by first | omega | (simp; omega) | simp | (have := (hB2).size; omega) | (have := (hB2).size; simp; omega)) _) | exact hB2))) (hb3.mono (by simp; omega))
        have Br3 := (Br2.alloc (.cells #[.int .i64 fl, .int .i64 fh] 186)).below hb3 (by simp; omega)
        have Bg3 := (Bg2.alloc (.cells #[.int .i64 fl, .int .i64 fh] 186)).below hb3 (by simp; omega)
        have z0 : w3.cell? ⟨w1.heap.size, 0, none⟩ = some (.int .i64 s1) := Bg3.cell 0
        have z1 : w3.cell? ⟨w1.heap.size, 1, none⟩ = some (.int .i64 s2) := Bg3.cell 1
        have zf0 : w3.frozen? ⟨w1.heap.size, 0, none⟩ = false := Bg3.frozen 0
        have zf1 : w3.frozen? ⟨w1.heap.size, 1, none⟩ = false := Bg3.frozen 1
        go_wp2
        go_roundw
        case rel => exact ⟨k + 1, by omega, by omega, by go_num, (hB3.setCell (p := ⟨w1.heap.size, 0, none⟩) hz1 _).setCell (p := ⟨w1.heap.size, 1, none⟩) hz1 _, (Br3.far (p := ⟨w1.heap.size, 0, none⟩) (by simp; omega) _).far (p := ⟨w1.heap.size, 1, none⟩) (by simp; omega) _, by rw [Hnx.out]; exact (Bg3.two0 (u := .int .i64 (s1 - fh))).two1 (u := .int .i64 (s2 - fl))⟩
        case measure => simp [intOf]; omega
      | false =>
        simp only [Bool.false_eq_true, if_false] at Hnx
        go_wp2_with fail
        refine (l03Add_c s1 s2 fl fh _ (by omega) (by omega) (by omega) (by omega)).mono ?_; rintro e w3 ⟨rfl, hb3⟩
        have hB3 : Below w.heap.size w w3 := Below.trans ((by repeat (first | with_reducible exact hB2 | with_reducible apply below_drewN' | with_reducible apply Below.drew | (with_reducible refine Below.alloc ?_ (by first | omega | (simp; omega) | simp | (have := (hB2).size; omega) | (have := (hB2).size; simp; omega)) _) | (with_reducible refine Below.setCell ?_ (by first | omega | (simp; omega) | simp | (have := (hB2).size; omega) | (have := (hB2).size; simp; omega)) _) | exact hB2))) (hb3.mono (by simp; omega))
        have Br3 := (Br2.alloc (.cells #[.int .i64 fl, .int .i64 fh] 186)).below hb3 (by simp; omega)
        have Bg3 := (Bg2.alloc (.cells #[.int .i64 fl, .int .i64 fh] 186)).below hb3 (by simp; omega)
        have z0 : w3.cell? ⟨w1.heap.size, 0, none⟩ = some (.int .i64 s1) := Bg3.cell 0
        have z1 : w3.cell? ⟨w1.heap.size, 1, none⟩ = some (.int .i64 s2) := Bg3.cell 1
        have zf0 : w3.frozen? ⟨w1.heap.size, 0, none⟩ = false := Bg3.frozen 0
        have zf1 : w3.frozen? ⟨w1.heap.size, 1, none⟩ = false := Bg3.frozen 1
        go_wp2
        go_roundw
        case rel => exact ⟨k + 1, by omega, by omega, by go_num, (hB3.setCell (p := ⟨w1.heap.size, 0, none⟩) hz1 _).setCell (p := ⟨w1.heap.size, 1, none⟩) hz1 _, (Br3.far (p := ⟨w1.heap.size, 0, none⟩) (by simp; omega) _).far (p := ⟨w1.heap.size, 1, none⟩) (by simp; omega) _, by rw [Hnx.out]; exact (Bg3.two0 (u := .int .i64 (s1 + fl))).two1 (u := .int .i64 (s2 + fh))⟩
        case measure => simp [intOf]; omega
    · have : k = l.length := by omega
      subst this
      have z0 : wr.cell? ⟨w1.heap.size, 0, none⟩ = some (.int .i64 (chainTo l l.length).1) := Bg.cell 0
      have z1 : wr.cell? ⟨w1.heap.size, 1, none⟩ = some (.int .i64 (chainTo l l.length).2) := Bg.cell 1
      have r0 : wr.cell? ⟨w.heap.size, 0, none⟩ = some (.int .i64 0) := Brr.cell 0
      have r1 : wr.cell? ⟨w.heap.size, 1, none⟩ = some (.int .i64 0) := Brr.cell 1
      have rf0 : wr.frozen? ⟨w.heap.size, 0, none⟩ = false := Brr.frozen 0
      have rf1 : wr.frozen? ⟨w.heap.size, 1, none⟩ = false := Brr.frozen 1
      have _rz := Brr.lt
      clear hs0
      go_wp2
      refine bodyPost_ret (v := .agg #[.int .i64 (chainTo l l.length).1, .int .i64 (chainTo l l.length).2]) (by simp [results, Tryz.results178, go_sem, r0, r1]) rfl ⟨rfl, (by repeat (first | with_reducible exact hb | with_reducible apply below_drewN' | with_reducible apply Below.drew | (with_reducible refine Below.alloc ?_ (by first | omega | (simp; omega) | simp | (have := (hb).size; omega) | (have := (hb).size; simp; omega)) _) | (with_reducible refine Below.setCell ?_ (by first | omega | (simp; omega) | simp | (have := (hb).size; omega) | (have := (hb).size; simp; omega)) _) | exact hb))⟩
end Go.Proofs.YtednjmldjbndhaaGreat
