/- MissingMarks: the program's and the reference's. No condition beyond the lists' lengths. -/
import Derived.Test.YtkjommcmeinkaaaGreatKRw16
import Derived.Test.YtkjommcmeinkaaaGreatKRw37
import Derived.Test.YtkjommcmeinkaaaGreatKRw38
set_option linter.unusedSimpArgs false
namespace Go.Proofs.YtkjommcmeinkaaaGreat
open Go.RowKit
/-- how many ticks of a row have a mark -/
def cntMark (l : List Tick) (n : Int) : Nat := l.countP (fun t => t.mark == n)
def inR (a b n : Int) : Bool := decide (a ≤ n) && decide (n ≤ b)
def missL (g : List Part) (l : List Tick) (a b : Int) : List Int := ((marksL g).filter (fun n => inR a b n)).filter (fun n => !decide (0 < cntMark l n))
def missCode (g : List Part) (l : List Tick) (a b : Int) : Int :=
  if gradOK g = false then 1 else if rowCode l ≠ 0 then rowCode l else if inB a 1000 9999 = false ∨ inB b 1000 9999 = false then 2 else if 100 < (missL g l a b).length then 3 else 0
def missR (g : List Part) (l : List Tick) (a b : Int) : List Int := if missCode g l a b = 0 then missL g l a b else []
theorem cnt_next (l : List Tick) (n : Int) {k : Nat} (hk : k < l.length) : cntMark (l.take (k + 1)) n = cntMark (l.take k) n + (if l[k].mark = n then 1 else 0) := by
  unfold cntMark
  rw [List.take_succ_eq_append_getElem hk, List.countP_append]
  by_cases h : l[k].mark = n <;> simp [h]
theorem cnt_le (l : List Tick) (n : Int) : cntMark l n ≤ l.length := List.countP_le_length
set_option maxRecDepth 100000 in
theorem hasMark_c (A : Option Addr) (c : Nat) (l : List Tick) (n : Int) (w : World) (hl : l.length ≤ 140737488351232) (hs : Sl w w.heap.size 3 A (l.map Tick.cells)) :
    Calls Tryz.prog 38 #[.slice A l.length c, .int .i64 n] w fun e w' => e = .returned (.int .i64 (cntMark l n)) ∧ Below w.heap.size w w' := by
  go_enter Tryz.func38, Tryz.ntmps38
  go_wp2_with fail
  go_loopw [5, 10] (fun v i wr => ∃ k : Nat, k ≤ l.length ∧ i = .int .i64 k ∧ v = .int .i64 (cntMark (l.take k) n) ∧ Below w.heap.size w wr) (fun _ i _ => l.length - (intOf i).toNat)
  case atStart => exact ⟨0, Nat.zero_le _, rfl, by simp [cntMark], Below.refl _ _⟩
  case round =>
    obtain ⟨k, hk, rfl, rfl, hb⟩ := hrel
    have hbs := hb.size
    by_cases hlt : k < l.length
    · obtain ⟨b, off, rfl, bB, cc⟩ := hs.at_ (i := k) (by simpa using hlt)
      simp only [List.getElem_map] at cc
      have c0 : wr.cell? ⟨b, off + k * 3, none⟩ = some (.int .i64 l[k].mark) := by rw [hb.cell bB]; exact cc 0 _ rfl
      have c1 : wr.cell? ⟨b, off + k * 3 + 1, none⟩ = some (.int .i64 l[k].place) := by rw [hb.cell bB]; exact cc 1 _ rfl
      have c2 : wr.cell? ⟨b, off + k * 3 + 2, none⟩ = some (.int .i64 l[k].height) := by rw [hb.cell bB]; exact cc 2 _ rfl
      clear cc
      have hnx := Lib.hid (cnt_next l n hlt)
      have hle := cnt_le (l.take k) n
      rw [List.length_take] at hle
      generalize cntMark (l.take k) n = q at *
      by_cases hm : l[k].mark = n
      · have Hm := Lib.hid hm
        have hm' : (l[k].mark == n) = true := by simp [hm]
        clear hm
        go_wp2
        go_roundw
        case rel => exact ⟨k + 1, by omega, by go_num, by rw [hnx.out, if_pos Hm.out]; go_num, (by repeat (first | with_reducible exact hb | with_reducible apply below_drewN' | with_reducible apply Below.drew | (with_reducible refine Below.alloc ?_ (by first | omega | (simp; omega) | simp | (have := (hb).size; omega) | (have := (hb).size; simp; omega)) _) | (with_reducible refine Below.setCell ?_ (by first | omega | (simp; omega) | simp | (have := (hb).size; omega) | (have := (hb).size; simp; omega)) _) | exact hb))⟩
        case measure => simp [intOf]; omega
      · have Hm := Lib.hid hm
        have hm' : (l[k].mark == n) = false := by simp [hm]
        clear hm
        go_wp2
        go_roundw
        case rel => exact ⟨k + 1, by omega, by go_num, by rw [hnx.out, if_neg Hm.out]; go_num, (by repeat (first | with_reducible exact hb | with_reducible apply below_drewN' | with_reducible apply Below.drew | (with_reducible refine Below.alloc ?_ (by first | omega | (simp; omega) | simp | (have := (hb).size; omega) | (have := (hb).size; simp; omega)) _) | (with_reducible refine Below.setCell ?_ (by first | omega | (simp; omega) | simp | (have := (hb).size; omega) | (have := (hb).size; simp; omega)) _) | exact hb))⟩
        case measure => simp [intOf]; omega
    · have : k = l.length := by omega
      subst this
      rw [List.take_length] at *
      go_wp2
      go_ret
      exact ⟨rfl, hb⟩
theorem missClo_c (A : Option Addr) (c bx : Nat) (l : List Tick) (n : Int) (w : World) (hl : l.length ≤ 140737488351232) (hs : Sl w w.heap.size 3 A (l.map Tick.cells)) (hx : w.cell? ⟨bx, 0, none⟩ = some (.slice A l.length c)) :
    Calls Tryz.prog 37 #[.int .i64 n, .pointer (some ⟨bx, 0, none⟩)] w fun e w' => e = .returned (.bool (decide (0 < cntMark l n))) ∧ Below w.heap.size w w' := by
  have hm := hasMark_c A c l n w hl hs
  have hle := cnt_le l n
  generalize cntMark l n = q at *
  have hm := Lib.hid hm
  by_cases hq : 0 < q
  · have hd : decide (0 < q) = true := decide_eq_true hq
    rw [hd]
    go_enter Tryz.func37, Tryz.ntmps37
    go_wp2_with (go_at_call 38; refine hm.out.mono ?_; rintro e w1 ⟨rfl, hb1⟩)
    go_ret
    exact ⟨rfl, hb1⟩
  · have hd : decide (0 < q) = false := decide_eq_false hq
    rw [hd]
    go_enter Tryz.func37, Tryz.ntmps37
    go_wp2_with (go_at_call 38; refine hm.out.mono ?_; rintro e w1 ⟨rfl, hb1⟩)
    go_ret
    exact ⟨rfl, hb1⟩
theorem marksInClo_c (a b n : Int) (p q : Nat) (w : World) (hp : w.cell? ⟨p, 0, none⟩ = some (.int .i64 a)) (hq : w.cell? ⟨q, 0, none⟩ = some (.int .i64 b)) :
    Calls Tryz.prog 63 #[.int .i64 n, .pointer (some ⟨p, 0, none⟩), .pointer (some ⟨q, 0, none⟩)] w fun e w' => e = .returned (.bool (!inR a b n)) ∧ Below w.heap.size w w' := by
  by_cases h1 : n < a
  · have e1 : inR a b n = false := by simp [inR]; omega
    rw [e1]
    go_enter Tryz.func63, Tryz.ntmps63
    go_wp2
    go_ret
    exact ⟨rfl, Below.refl _ _⟩
  · by_cases h2 : b < n
    · have e1 : inR a b n = false := by simp [inR]; omega
      rw [e1]
      go_enter Tryz.func63, Tryz.ntmps63
      go_wp2
      go_ret
      exact ⟨rfl, Below.refl _ _⟩
    · have e1 : inR a b n = true := by simp [inR]; omega
      rw [e1]
      go_enter Tryz.func63, Tryz.ntmps63
      go_wp2
      go_ret
      exact ⟨rfl, Below.refl _ _⟩
set_option maxRecDepth 100000 in
theorem marksIn_c (A : Option Addr) (c : Nat) (l : List Part) (a b : Int) (w : World) (hl : l.length ≤ 12) (hv : gradAt l = some 10000) (hs : Sl w w.heap.size 3 A (l.map Part.cells)) :
    Calls Tryz.prog 36 #[.slice A l.length c, .int .i64 a, .int .i64 b] w fun e w' => ∃ A' c', e = .returned (.slice A' ((marksL l).filter (fun n => inR a b n)).length c') ∧ ((marksL l).filter (fun n => inR a b n)).length ≤ 9000 ∧ Own w' w.heap.size 2 1 (.slice A' ((marksL l).filter (fun n => inR a b n)).length c') (((marksL l).filter (fun n => inR a b n)).map ic) ∧ Below w.heap.size w w' := by
  have hv := Lib.hid hv
  have eg : ∀ args w, (callFunc 63 args).run Tryz.prog w = .ok (.enter 63 args) w := enters_of Tryz.func63 (by kernel_rfl) rfl
  have eg := Lib.hid eg
  go_enter Tryz.func36, Tryz.ntmps36
  go_wp2_with (first
    | (go_at_call 62; refine (marksOf_c A c l _ hl hv.out (((hs.alloc (Nat.le_refl _) _).alloc (by simp) _).more (by simp; omega))).mono ?_; rintro e w1 ⟨A1, c1, rfl, hl1, hO1, hb1⟩)
    | (go_at_call 35; have hpred : PredI (w.heap.size + 2) 63 #[.pointer (some ⟨w.heap.size, 0, none⟩), .pointer (some ⟨w.heap.size + 1, 0, none⟩)] (fun n => !inR a b n) w1 := (fun x W hW => marksInClo_c a b x _ _ W (by rw [hW.cell (show w.heap.size < w.heap.size + 2 by omega), hb1.cell (show w.heap.size < _ by simp; omega)]; simp) (by rw [hW.cell (show w.heap.size + 1 < w.heap.size + 2 by omega), hb1.cell (show w.heap.size + 1 < _ by simp <;> omega)]; simp)); refine (deleteFuncI_c (w.heap.size + 2) _ A1 c1 (marksL l) 63 _ (fun n => !inR a b n) w1 eg.out hpred (by simp) hb1.size (by omega) hO1).mono ?_; rintro e w2 ⟨A2, rfl, hO2, hb2⟩))
  go_ret
  simp only [Bool.not_not] at hO2 ⊢
  have hf : ((marksL l).filter (fun n => inR a b n)).length ≤ 9000 := Nat.le_trans (List.length_filter_le _ _) hl1
  refine ⟨A2, c1, rfl, hf, hO2.mono (by simp; omega), ?_⟩
  have h0 : Below w.heap.size w ((w.alloc (.cells #[.int .i64 a] 2)).alloc (.cells #[.int .i64 b] 2)) := (by repeat (first | with_reducible exact Below.refl _ _ | with_reducible apply below_drewN' | with_reducible apply Below.drew | (with_reducible refine Below.alloc ?_ (by first | omega | (simp; omega) | simp | (have := (Below.refl _ _).size; omega) | (have := (Below.refl _ _).size; simp; omega)) _) | (with_reducible refine Below.setCell ?_ (by first | omega | (simp; omega) | simp | (have := (Below.refl _ _).size; omega) | (have := (Below.refl _ _).size; simp; omega)) _) | exact Below.refl _ _))
  exact (h0.trans (hb1.mono (by simp; omega))).trans (hb2.mono (by omega))
end Go.Proofs.YtkjommcmeinkaaaGreat
