/- Graduations: both sides. No condition beyond the list's length. -/
import Derived.Test.YtkjommcmeinkaaaGreatKRw28
import Derived.Test.YtkjommcmeinkaaaGreatKRw5
set_option linter.unusedSimpArgs false
namespace Go.Proofs.YtkjommcmeinkaaaGreat
open Go.RowKit
def gradStep (a : Int) (p : Part) : Bool := decide (p.fr = a ∧ a < p.to ∧ p.to ≤ 10000 ∧ 1 ≤ p.st ∧ (p.to - a) % p.st = 0)
def gradF (o : Option Int) (p : Part) : Option Int := o.bind fun a => if gradStep a p then some p.to else none
def gradAt (l : List Part) : Option Int := l.foldl gradF (some 1000)
def gradOK (l : List Part) : Bool := decide (1 ≤ l.length ∧ l.length ≤ 12) && (gradAt l == some 10000)
theorem grad_next {l : List Part} {k : Nat} {a : Int} (hk : k < l.length) (h : gradAt (l.take k) = some a) : gradAt (l.take (k + 1)) = if gradStep a l[k] then some l[k].to else none := by
  unfold gradAt at *
  rw [List.take_succ_eq_append_getElem hk, List.foldl_append, h]
  rfl
theorem fold_none : ∀ l : List Part, l.foldl gradF none = none
  | [] => rfl
  | _ :: l => fold_none l
theorem grad_none {l : List Part} {k : Nat} (h : gradAt (l.take k) = none) : gradAt l = none := by
  unfold gradAt at *
  rw [← List.take_append_drop k l, List.foldl_append, h, fold_none]
set_option maxRecDepth 100000 in
set_option maxHeartbeats 800000 in
theorem implIsGraduation_c (A : Option Addr) (c : Nat) (l : List Part) (w : World) (hl : l.length ≤ 140737488351232) (hs : Sl w w.heap.size 3 A (l.map Part.cells)) :
    Calls Tryz.prog 33 #[.slice A l.length c] w fun e w' => e = .returned (.bool (gradOK l)) ∧ Below w.heap.size w w' := by
  by_cases hlen : 1 ≤ l.length ∧ l.length ≤ 12
  · have hG : Hid (gradOK l = (gradAt l == some 10000)) := by unfold Hid gradOK; rw [decide_eq_true hlen]; rfl
    obtain ⟨hl1, hl2⟩ := hlen
    go_enter Tryz.func33, Tryz.ntmps33
    go_wp2_with fail
    go_loopw [3, 16] (fun a i wr => ∃ (k : Nat) (av : Int), k ≤ l.length ∧ i = .int .i64 k ∧ a = .int .i64 av ∧ (1000 ≤ av ∧ av ≤ 10000) ∧ Hid (gradAt (l.take k) = some av) ∧ Below w.heap.size w wr) (fun _ i _ => l.length - (intOf i).toNat)
    case atStart => exact ⟨0, 1000, Nat.zero_le _, rfl, rfl, by omega, (show gradAt (l.take 0) = some 1000 by simp [gradAt]), Below.refl _ _⟩
    case round =>
      obtain ⟨k, av, hk, rfl, rfl, ⟨a1, a2⟩, hg, hb⟩ := hrel
      have hbs := hb.size
      by_cases hlt : k < l.length
      · obtain ⟨b, off, rfl, bB, cc⟩ := hs.at_ (i := k) (by simpa using hlt)
        simp only [List.getElem_map] at cc
        have c0 : wr.cell? ⟨b, off + k * 3, none⟩ = some (.int .i64 l[k].fr) := by rw [hb.cell bB]; exact cc 0 _ rfl
        have c1 : wr.cell? ⟨b, off + k * 3 + 1, none⟩ = some (.int .i64 l[k].to) := by rw [hb.cell bB]; exact cc 1 _ rfl
        have c2 : wr.cell? ⟨b, off + k * 3 + 2, none⟩ = some (.int .i64 l[k].st) := by rw [hb.cell bB]; exact cc 2 _ rfl
        clear cc
        have hn := Lib.hid (grad_next hlt hg.out)
        have hno := fun h => Lib.hid (grad_none (l := l) (k := k + 1) h)
        generalize l[k] = p at *
        obtain ⟨pf, pt, ps⟩ := p
        simp only at c0 c1 c2
        have hst : gradStep av ⟨pf, pt, ps⟩ = decide (pf = av ∧ av < pt ∧ pt ≤ 10000 ∧ 1 ≤ ps ∧ (pt - av) % ps = 0) := rfl
        by_cases h1 : pf = av
        · subst h1
          by_cases h2 : pf < pt
          · by_cases h3 : pt ≤ 10000
            · by_cases h4 : 1 ≤ ps
              · have h4' : ¬ ps = 0 := by omega
                by_cases h5 : (pt - pf) % ps = 0
                · rw [decide_eq_true ⟨rfl, h2, h3, h4, h5⟩] at hst
                  have hn2 : Hid (gradAt (l.take (k + 1)) = some pt) := by unfold Hid; rw [hn.out, hst]; rfl
                  clear hn hno hst
                  go_wp2
                  go_roundw
                  case rel => exact ⟨k + 1, pt, by omega, by go_num, rfl, by omega, hn2, (by repeat (first | with_reducible exact hb | with_reducible apply below_drewN' | with_reducible apply Below.drew | (with_reducible refine Below.alloc ?_ (by first | omega | (simp; omega) | simp | (have := (hb).size; omega) | (have := (hb).size; simp; omega)) _) | (with_reducible refine Below.setCell ?_ (by first | omega | (simp; omega) | simp | (have := (hb).size; omega) | (have := (hb).size; simp; omega)) _) | exact hb))⟩
                  case measure => simp [intOf] <;> omega
                · rw [decide_eq_false (fun h => by omega)] at hst
                  have hN := hno (by rw [hn.out, hst]; rfl)
                  have h5' : ((pt - pf) % ps != 0) = true := by simp [h5]
                  clear hn hno hst
                  go_wp2
                  go_ret
                  exact ⟨ret_bool (by rw [hG.out, hN.out]; rfl), (by repeat (first | with_reducible exact hb | with_reducible apply below_drewN' | with_reducible apply Below.drew | (with_reducible refine Below.alloc ?_ (by first | omega | (simp; omega) | simp | (have := (hb).size; omega) | (have := (hb).size; simp; omega)) _) | (with_reducible refine Below.setCell ?_ (by first | omega | (simp; omega) | simp | (have := (hb).size; omega) | (have := (hb).size; simp; omega)) _) | exact hb))⟩
              · rw [decide_eq_false (fun h => by omega)] at hst
                have hN := hno (by rw [hn.out, hst]; rfl)
                clear hn hno hst
                go_wp2
                go_ret
                exact ⟨ret_bool (by rw [hG.out, hN.out]; rfl), (by repeat (first | with_reducible exact hb | with_reducible apply below_drewN' | with_reducible apply Below.drew | (with_reducible refine Below.alloc ?_ (by first | omega | (simp; omega) | simp | (have := (hb).size; omega) | (have := (hb).size; simp; omega)) _) | (with_reducible refine Below.setCell ?_ (by first | omega | (simp; omega) | simp | (have := (hb).size; omega) | (have := (hb).size; simp; omega)) _) | exact hb))⟩
            · rw [decide_eq_false (fun h => by omega)] at hst
              have hN := hno (by rw [hn.out, hst]; rfl)
              clear hn hno hst
              go_wp2
              go_ret
              exact ⟨ret_bool (by rw [hG.out, hN.out]; rfl), (by repeat (first | with_reducible exact hb | with_reducible apply below_drewN' | with_reducible apply Below.drew | (with_reducible refine Below.alloc ?_ (by first | omega | (simp; omega) | simp | (have := (hb).size; omega) | (have := (hb).size; simp; omega)) _) | (with_reducible refine Below.setCell ?_ (by first | omega | (simp; omega) | simp | (have := (hb).size; omega) | (have := (hb).size; simp; omega)) _) | exact hb))⟩
          · rw [decide_eq_false (fun h => by omega)] at hst
            have hN := hno (by rw [hn.out, hst]; rfl)
            clear hn hno hst
            go_wp2
            go_ret
            exact ⟨ret_bool (by rw [hG.out, hN.out]; rfl), (by repeat (first | with_reducible exact hb | with_reducible apply below_drewN' | with_reducible apply Below.drew | (with_reducible refine Below.alloc ?_ (by first | omega | (simp; omega) | simp | (have := (hb).size; omega) | (have := (hb).size; simp; omega)) _) | (with_reducible refine Below.setCell ?_ (by first | omega | (simp; omega) | simp | (have := (hb).size; omega) | (have := (hb).size; simp; omega)) _) | exact hb))⟩
        · rw [decide_eq_false (fun h => by omega)] at hst
          have hN := hno (by rw [hn.out, hst]; rfl)
          clear hn hno hst
          go_wp2
          go_ret
          exact ⟨ret_bool (by rw [hG.out, hN.out]; rfl), (by repeat (first | with_reducible exact hb | with_reducible apply below_drewN' | with_reducible apply Below.drew | (with_reducible refine Below.alloc ?_ (by first | omega | (simp; omega) | simp | (have := (hb).size; omega) | (have := (hb).size; simp; omega)) _) | (with_reducible refine Below.setCell ?_ (by first | omega | (simp; omega) | simp | (have := (hb).size; omega) | (have := (hb).size; simp; omega)) _) | exact hb))⟩
      · have hkl : k = l.length := by omega
        subst hkl
        rw [List.take_length] at hg
        go_wp2
        go_ret
        exact ⟨ret_bool (by rw [hG.out, hg.out]; by_cases h : av = 10000 <;> simp [h]), (by repeat (first | with_reducible exact hb | with_reducible apply below_drewN' | with_reducible apply Below.drew | (with_reducible refine Below.alloc ?_ (by first | omega | (simp; omega) | simp | (have := (hb).size; omega) | (have := (hb).size; simp; omega)) _) | (with_reducible refine Below.setCell ?_ (by first | omega | (simp; omega) | simp | (have := (hb).size; omega) | (have := (hb).size; simp; omega)) _) | exact hb))⟩
  · have hG : Hid (gradOK l = false) := by unfold Hid gradOK; rw [decide_eq_false hlen]; rfl
    by_cases h1 : l.length < 1
    · go_enter Tryz.func33, Tryz.ntmps33
      go_wp2
      go_ret
      exact ⟨ret_bool (by rw [hG.out]), Below.refl _ _⟩
    · have h2 : 12 < l.length := by omega
      go_enter Tryz.func33, Tryz.ntmps33
      go_wp2
      go_ret
      exact ⟨ret_bool (by rw [hG.out]), Below.refl _ _⟩
set_option maxRecDepth 100000 in
set_option maxHeartbeats 800000 in
theorem specIsGraduation_c (A : Option Addr) (c : Nat) (l : List Part) (w : World) (hl : l.length ≤ 140737488351232) (hs : Sl w w.heap.size 3 A (l.map Part.cells)) :
    Calls Tryz.prog 39 #[.slice A l.length c] w fun e w' => e = .returned (.bool (gradOK l)) ∧ Below w.heap.size w w' := by
  have hIl := fun W => l01In_c (l.length : Int) 1 12 W
  cases hlen : inB (l.length : Int) 1 12
  · have hG : Hid (gradOK l = false) := by
      unfold Hid gradOK
      rw [decide_eq_false (by have := inB_false.1 hlen; omega)]; rfl
    rw [hlen] at hIl
    have hI := fun W => Lib.hid (hIl W); clear hIl
    go_enter Tryz.func39, Tryz.ntmps39
    go_wp2_with (go_at_call 41; refine (hI _).out.mono ?_; rintro e w1 ⟨rfl, rfl⟩)
    go_ret
    exact ⟨ret_bool (by rw [hG.out]), Below.refl _ _⟩
  · have hl1 := inB_true.1 hlen
    have hG : Hid (gradOK l = (gradAt l == some 10000)) := by
      unfold Hid gradOK
      rw [decide_eq_true (by omega)]; rfl
    rw [hlen] at hIl
    have hI := fun W => Lib.hid (hIl W); clear hIl
    go_enter Tryz.func39, Tryz.ntmps39
    go_wp2_with (go_at_call 41; refine (hI _).out.mono ?_; rintro e w1 ⟨rfl, rfl⟩)
    clear hI
    go_loopw [3, 4] (fun a i wr => ∃ (k : Nat) (av : Int), k ≤ l.length ∧ i = .int .i64 k ∧ a = .int .i64 av ∧ (1000 ≤ av ∧ av ≤ 10000) ∧ Hid (gradAt (l.take k) = some av) ∧ Below w.heap.size w wr) (fun _ i _ => l.length - (intOf i).toNat)
    case atStart => exact ⟨0, 1000, Nat.zero_le _, rfl, rfl, by omega, (show gradAt (l.take 0) = some 1000 by simp [gradAt]), Below.refl _ _⟩
    case round =>
      obtain ⟨k, av, hk, rfl, rfl, ⟨a1, a2⟩, hg, hb⟩ := hrel
      have hbs := hb.size
      by_cases hlt : k < l.length
      · obtain ⟨b, off, rfl, bB, cc⟩ := hs.at_ (i := k) (by simpa using hlt)
        simp only [List.getElem_map] at cc
        have c0 : wr.cell? ⟨b, off + k * 3, none⟩ = some (.int .i64 l[k].fr) := by rw [hb.cell bB]; exact cc 0 _ rfl
        have c1 : wr.cell? ⟨b, off + k * 3 + 1, none⟩ = some (.int .i64 l[k].to) := by rw [hb.cell bB]; exact cc 1 _ rfl
        have c2 : wr.cell? ⟨b, off + k * 3 + 2, none⟩ = some (.int .i64 l[k].st) := by rw [hb.cell bB]; exact cc 2 _ rfl
        clear cc
        have hn := Lib.hid (grad_next hlt hg.out)
        have hno := fun h => Lib.hid (grad_none (l := l) (k := k + 1) h)
        generalize l[k] = p at *
        obtain ⟨pf, pt, ps⟩ := p
        simp only at c0 c1 c2
        have hst : gradStep av ⟨pf, pt, ps⟩ = decide (pf = av ∧ av < pt ∧ pt ≤ 10000 ∧ 1 ≤ ps ∧ (pt - av) % ps = 0) := rfl
        by_cases h1 : pf = av
        · subst h1
          have hIp := fun W => l01In_c pt (pf + 1) 10000 W
          cases hin : inB pt (pf + 1) 10000
          all_goals
            rw [hin] at hIp
            have hI := fun W => Lib.hid (hIp W); clear hIp
          · have hf := inB_false.1 hin
            rw [decide_eq_false (fun h => by omega)] at hst
            have hN := hno (by rw [hn.out, hst]; rfl)
            clear hn hno hst hin hf
            go_wp2_with (go_at_call 41; refine (hI _).out.mono ?_; rintro e w1 ⟨rfl, rfl⟩)
            go_ret
            exact ⟨ret_bool (by rw [hG.out, hN.out]; rfl), (by repeat (first | with_reducible exact hb | with_reducible apply below_drewN' | with_reducible apply Below.drew | (with_reducible refine Below.alloc ?_ (by first | omega | (simp; omega) | simp | (have := (hb).size; omega) | (have := (hb).size; simp; omega)) _) | (with_reducible refine Below.setCell ?_ (by first | omega | (simp; omega) | simp | (have := (hb).size; omega) | (have := (hb).size; simp; omega)) _) | exact hb))⟩
          · obtain ⟨h2, h3⟩ := inB_true.1 hin
            by_cases h4 : 1 ≤ ps
            · have h4' : ¬ ps = 0 := by omega
              by_cases h5 : (pt - pf) % ps = 0
              · rw [decide_eq_true ⟨rfl, by omega, h3, h4, h5⟩] at hst
                have hn2 : Hid (gradAt (l.take (k + 1)) = some pt) := by unfold Hid; rw [hn.out, hst]; rfl
                clear hn hno hst hin
                go_wp2_with (go_at_call 41; refine (hI _).out.mono ?_; rintro e w1 ⟨rfl, rfl⟩)
                go_roundw
                case rel => exact ⟨k + 1, pt, by omega, by go_num, rfl, by omega, hn2, (by repeat (first | with_reducible exact hb | with_reducible apply below_drewN' | with_reducible apply Below.drew | (with_reducible refine Below.alloc ?_ (by first | omega | (simp; omega) | simp | (have := (hb).size; omega) | (have := (hb).size; simp; omega)) _) | (with_reducible refine Below.setCell ?_ (by first | omega | (simp; omega) | simp | (have := (hb).size; omega) | (have := (hb).size; simp; omega)) _) | exact hb))⟩
                case measure => simp [intOf] <;> omega
              · rw [decide_eq_false (fun h => h5 h.2.2.2.2)] at hst
                have hN := hno (by rw [hn.out, hst]; rfl)
                have h5' : ((pt - pf) % ps != 0) = true := by simp [h5]
                clear hn hno hst hin
                go_wp2_with (go_at_call 41; refine (hI _).out.mono ?_; rintro e w1 ⟨rfl, rfl⟩)
                go_ret
                exact ⟨ret_bool (by rw [hG.out, hN.out]; rfl), (by repeat (first | with_reducible exact hb | with_reducible apply below_drewN' | with_reducible apply Below.drew | (with_reducible refine Below.alloc ?_ (by first | omega | (simp; omega) | simp | (have := (hb).size; omega) | (have := (hb).size; simp; omega)) _) | (with_reducible refine Below.setCell ?_ (by first | omega | (simp; omega) | simp | (have := (hb).size; omega) | (have := (hb).size; simp; omega)) _) | exact hb))⟩
            · rw [decide_eq_false (fun h => by omega)] at hst
              have hN := hno (by rw [hn.out, hst]; rfl)
              clear hn hno hst hin
              go_wp2_with (go_at_call 41; refine (hI _).out.mono ?_; rintro e w1 ⟨rfl, rfl⟩)
              go_ret
              exact ⟨ret_bool (by rw [hG.out, hN.out]; rfl), (by repeat (first | with_reducible exact hb | with_reducible apply below_drewN' | with_reducible apply Below.drew | (with_reducible refine Below.alloc ?_ (by first | omega | (simp; omega) | simp | (have := (hb).size; omega) | (have := (hb).size; simp; omega)) _) | (with_reducible refine Below.setCell ?_ (by first | omega | (simp; omega) | simp | (have := (hb).size; omega) | (have := (hb).size; simp; omega)) _) | exact hb))⟩
        · rw [decide_eq_false (fun h => by omega)] at hst
          have hN := hno (by rw [hn.out, hst]; rfl)
          clear hn hno hst
          go_wp2
          go_ret
          exact ⟨ret_bool (by rw [hG.out, hN.out]; rfl), (by repeat (first | with_reducible exact hb | with_reducible apply below_drewN' | with_reducible apply Below.drew | (with_reducible refine Below.alloc ?_ (by first | omega | (simp; omega) | simp | (have := (hb).size; omega) | (have := (hb).size; simp; omega)) _) | (with_reducible refine Below.setCell ?_ (by first | omega | (simp; omega) | simp | (have := (hb).size; omega) | (have := (hb).size; simp; omega)) _) | exact hb))⟩
      · have hkl : k = l.length := by omega
        subst hkl
        rw [List.take_length] at hg
        go_wp2
        go_ret
        exact ⟨ret_bool (by rw [hG.out, hg.out]; by_cases h : av = 10000 <;> simp [h]), (by repeat (first | with_reducible exact hb | with_reducible apply below_drewN' | with_reducible apply Below.drew | (with_reducible refine Below.alloc ?_ (by first | omega | (simp; omega) | simp | (have := (hb).size; omega) | (have := (hb).size; simp; omega)) _) | (with_reducible refine Below.setCell ?_ (by first | omega | (simp; omega) | simp | (have := (hb).size; omega) | (have := (hb).size; simp; omega)) _) | exact hb))⟩
end Go.Proofs.YtkjommcmeinkaaaGreat
