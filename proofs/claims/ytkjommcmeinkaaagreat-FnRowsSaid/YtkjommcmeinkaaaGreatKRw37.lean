/- The marks of a graduation: both sides. Condition: a valid graduation. -/
import Derived.Test.YtkjommcmeinkaaaGreatKRw20
import Derived.Test.YtkjommcmeinkaaaGreatKRw36
set_option linter.unusedSimpArgs false
namespace Go.Proofs.YtkjommcmeinkaaaGreat
open Go.RowKit
def partM (p : Part) (j : Nat) : List Int := (List.range j).map fun i : Nat => p.fr + (i : Int) * p.st
def cntM (p : Part) : Nat := ((p.to - p.fr) / p.st).toNat
def marksL (l : List Part) : List Int := l.flatMap fun p => partM p (cntM p)
theorem partM_next (p : Part) (j : Nat) : (partM p j).map ic ++ [ic (p.fr + (j : Int) * p.st)] = (partM p (j + 1)).map ic := by
  unfold partM
  rw [List.range_succ]
  simp
theorem marksL_next (l : List Part) {k : Nat} (hk : k < l.length) : marksL (l.take k) ++ partM l[k] (cntM l[k]) = marksL (l.take (k + 1)) := by
  unfold marksL
  rw [List.take_succ_eq_append_getElem hk, List.flatMap_append]
  simp
theorem step_ok {l : List Part} {k : Nat} {a x : Int} (h : gradAt l = some x) (hk : k < l.length) (hg : gradAt (l.take k) = some a) : gradStep a l[k] = true ∧ gradAt (l.take (k + 1)) = some l[k].to := by
  have hn := grad_next hk hg
  cases hs : gradStep a l[k]
  · rw [hs] at hn
    have := grad_none (l := l) (k := k + 1) (by rw [hn]; rfl)
    rw [this] at h; cases h
  · rw [hs] at hn
    exact ⟨rfl, hn⟩
theorem cnt_mul {p : Part} {a : Int} (h : gradStep a p = true) : p.fr = a ∧ a < p.to ∧ p.to ≤ 10000 ∧ 1 ≤ p.st ∧ (cntM p : Int) * p.st = p.to - p.fr ∧ (cntM p : Int) ≤ p.to - p.fr := by
  unfold gradStep at h
  obtain ⟨h1, h2, h3, h4, h5⟩ := of_decide_eq_true h
  have e := Int.emod_add_mul_ediv (p.to - a) p.st
  rw [h5] at e
  have hq : 0 ≤ (p.to - a) / p.st := Int.ediv_nonneg (by omega) (by omega)
  have hc : (cntM p : Int) = (p.to - a) / p.st := by unfold cntM; rw [h1]; exact Int.toNat_of_nonneg hq
  have hm : (cntM p : Int) * p.st = p.to - a := by rw [hc, Int.mul_comm]; omega
  refine ⟨h1, h2, h3, h4, by rw [h1]; exact hm, ?_⟩
  have := Int.mul_le_mul_of_nonneg_left h4 (show 0 ≤ (cntM p : Int) by omega)
  rw [h1]; omega
theorem at_lt {p : Part} {a : Int} (h : gradStep a p = true) (j : Nat) (hj : j ≤ cntM p) : (p.fr + (j : Int) * p.st < p.to ↔ j < cntM p) ∧ (p.fr ≤ p.fr + (j : Int) * p.st ∧ p.fr + (j : Int) * p.st ≤ p.to) := by
  obtain ⟨h1, h2, h3, h4, h5, h6⟩ := cnt_mul h
  have hb : (j : Int) * p.st ≤ (cntM p : Int) * p.st := Int.mul_le_mul_of_nonneg_right (by omega) (by omega)
  have h0 : 0 ≤ (j : Int) * p.st := Int.mul_nonneg (by omega) (by omega)
  refine ⟨⟨fun h => ?_, fun h => ?_⟩, by omega, by omega⟩
  · rcases Nat.lt_or_ge j (cntM p) with hl | hl
    · exact hl
    · have : j = cntM p := by omega
      rw [this] at h; omega
  · have : ((j : Int) + 1) * p.st ≤ (cntM p : Int) * p.st := Int.mul_le_mul_of_nonneg_right (by omega) (by omega)
    rw [Int.add_mul] at this
    omega
theorem ne_new' {w : World} {base : Nat} {e : TypeId} {k : Nat} {v : Value} {xs : List (List Value)} (h : Own w base e k v xs) : v.ownBlock = none ∨ v.ownBlock ≠ some w.heap.size := by
  cases hv : v.ownBlock with
  | none => exact .inl rfl
  | some g => exact .inr fun e => by have := (h.1.lt g hv).2; have := Option.some.inj e; omega
set_option maxRecDepth 100000 in
set_option maxHeartbeats 800000 in
theorem marksOf_c (A : Option Addr) (c : Nat) (l : List Part) (w : World) (hl : l.length ≤ 12) (hv : gradAt l = some 10000) (hs : Sl w w.heap.size 3 A (l.map Part.cells)) :
    Calls Tryz.prog 62 #[.slice A l.length c] w fun e w' => ∃ A' c', e = .returned (.slice A' (marksL l).length c') ∧ (marksL l).length ≤ 9000 ∧ Own w' w.heap.size 2 1 (.slice A' (marksL l).length c') ((marksL l).map ic) ∧ Below w.heap.size w w' := by
  obtain ⟨i0, hi, hz0, hz1, hz2⟩ := info_parts info_Int64
  have Hv := Lib.hid hv; clear hv
  go_enter Tryz.func62, Tryz.ntmps62
  go_wp2_with fail
  go_loopw [3, 10] (fun v i wr => ∃ (k : Nat) (av : Int), k ≤ l.length ∧ i = .int .i64 k ∧ (1000 ≤ av ∧ av ≤ 10000) ∧ Hid (gradAt (l.take k) = some av) ∧ ((marksL (l.take k)).length : Int) ≤ av - 1000 ∧ Own wr w.heap.size 2 1 v ((marksL (l.take k)).map ic) ∧ Below w.heap.size w wr) (fun _ i _ => l.length - (intOf i).toNat)
  case atStart => exact ⟨0, 1000, Nat.zero_le _, rfl, by omega, (show gradAt (l.take 0) = some 1000 by simp [gradAt]), by simp [marksL], by simpa [marksL] using Own.empty (e := 2) (k := 1) (w := w) (Nat.le_refl _), (by repeat (first | with_reducible exact Below.refl _ _ | with_reducible apply below_drewN' | with_reducible apply Below.drew | (with_reducible refine Below.alloc ?_ (by first | omega | (simp; omega) | simp | (have := (Below.refl _ _).size; omega) | (have := (Below.refl _ _).size; simp; omega)) _) | (with_reducible refine Below.setCell ?_ (by first | omega | (simp; omega) | simp | (have := (Below.refl _ _).size; omega) | (have := (Below.refl _ _).size; simp; omega)) _) | exact Below.refl _ _))⟩
  case round =>
    obtain ⟨k, av, hk, rfl, ⟨a1, a2⟩, hg, hlen, hO, hb⟩ := hrel
    have hbs := hb.size
    by_cases hlt : k < l.length
    · obtain ⟨b, off, rfl, bB, cc⟩ := hs.at_ (i := k) (by simpa using hlt)
      simp only [List.getElem_map] at cc
      have c0 : wr.cell? ⟨b, off + k * 3, none⟩ = some (.int .i64 l[k].fr) := by rw [hb.cell bB]; exact cc 0 _ rfl
      have c1 : wr.cell? ⟨b, off + k * 3 + 1, none⟩ = some (.int .i64 l[k].to) := by rw [hb.cell bB]; exact cc 1 _ rfl
      have c2 : wr.cell? ⟨b, off + k * 3 + 2, none⟩ = some (.int .i64 l[k].st) := by rw [hb.cell bB]; exact cc 2 _ rfl
      clear cc
      obtain ⟨hst, hg2⟩ := step_ok Hv.out hlt hg.out
      have hnx := Lib.hid (marksL_next l hlt)
      have hcm := cnt_mul hst
      have hat := fun j hj => Lib.hid (at_lt hst j hj)
      have hpn := fun j => Lib.hid (partM_next l[k] j)
      have Hg2 := Lib.hid hg2; clear hg2 hst
      generalize l[k] = p at *
      obtain ⟨h1, h2, h3, h4, h5, h6⟩ := hcm
      subst h1
      have neO := ne_new' hO
      have Bt := Blk.new wr 78 #[.int .i64 p.fr, .int .i64 p.to, .int .i64 p.st]
      have hO1 := hO.alloc (.cells #[.int .i64 p.fr, .int .i64 p.to, .int .i64 p.st] 78)
      have hB1 := hb.alloc hbs (.cells #[.int .i64 p.fr, .int .i64 p.to, .int .i64 p.st] 78)
      clear hO
      go_wp2_with fail
      generalize hbt : wr.heap.size = bt at *
      generalize wr.alloc (.cells #[.int .i64 p.fr, .int .i64 p.to, .int .i64 p.st] 78) = w1 at *
      have x0 : w1.cell? ⟨bt, 0, none⟩ = some (.int .i64 p.fr) := Bt.cell 0
      obtain ⟨N, hN⟩ : ∃ N, N = cntM p := ⟨_, rfl⟩
      rw [← hN] at hat hnx h5 h6
      go_wp2_with fail
      clear x0 c0 c1 c2
      go_loopw [3, 6] (fun v nn wr => ∃ j : Nat, j ≤ N ∧ nn = .int .i64 (p.fr + (j : Int) * p.st) ∧ Own wr w.heap.size 2 1 v ((marksL (l.take k)).map ic ++ (partM p j).map ic) ∧ Blk wr bt 78 #[.int .i64 p.fr, .int .i64 p.to, .int .i64 p.st] ∧ (v.ownBlock = none ∨ v.ownBlock ≠ some bt) ∧ Below w.heap.size w wr) (fun _ nn _ => (p.to - intOf nn).toNat)
      case atStart => exact ⟨0, Nat.zero_le _, by simp, by simpa [partM] using hO1, Bt, neO, hB1⟩
      case round =>
        obtain ⟨j, hj, rfl, hO2, Bt2, ne2, hb2⟩ := hrel
        have hb2s := hb2.size
        have haj := (hat j hj).out
        have y1 : wr.cell? ⟨bt, 1, none⟩ = some (.int .i64 p.to) := Bt2.cell 1
        have bz := Bt2.lt
        by_cases hjl : j < N
        · have hl2 := haj.1.2 hjl
          have hpj := hpn j
          have hnj : p.fr + ((j + 1 : Nat) : Int) * p.st = p.fr + (j : Int) * p.st + p.st := by rw [Int.natCast_add, Int.add_mul]; omega
          have hb9 := (hat (j + 1) (by omega)).out.2.2
          rw [hnj] at hb9
          have Hnj := Lib.hid hnj; clear hnj
          have hpl : (partM p j).length = j := by simp [partM]
          have Hpl := Lib.hid hpl; clear hpl
          obtain ⟨_, hj1, hj2⟩ := haj
          generalize p.fr + (j : Int) * p.st = m at *
          go_wp2_with (at_builtin; refine wpList_append_rows _ rfl _ _ _ rfl w.heap.size 2 i0 _ 1 8 Tryz.underlying37 hi hz0 hz1 hz2 rfl (by omega) _ _ rfl (hO2.alloc _) _ _ _ _ [ic m] rfl rfl (Sl.of_blk (Blk.new' _ _ _ rfl) _ rfl (by simp [ic])) (ic_one (x := [m])) (by simp; have := Hpl.out; unfold maxLen; omega) (by simp; have := Hpl.out; omega) (by simp; omega) ?_; intro v1 w3 hO3 hg3 hat3; have Bt3 : Blk w3 bt 78 #[.int .i64 p.fr, .int .i64 p.to, .int .i64 p.st] := (hg3.block bt (by simp; omega) (fun e => ne2.elim (fun h => absurd (h.symm.trans e.symm) (by simp)) (fun h => h e.symm))).trans (Bt2.alloc (.cells #[.int .i64 m] 2)); have z2 : w3.cell? ⟨bt, 2, none⟩ = some (.int .i64 p.st) := Bt3.cell 2)
          go_roundw
          case rel =>
            refine ⟨j + 1, by omega, by rw [Hnj.out], ?_, Bt3, ?_, below_app (hb2.alloc hb2s _) hg3 (by simp; omega) hO2.ownGe⟩
            · rw [← hpj.out, ← List.append_assoc]; exact hO3
            · rcases hat3 with h | h
              · rw [h]; exact ne2
              · rw [h]; exact .inr (fun e => by have := Option.some.inj e; simp at this; omega)
          case measure => simp [intOf]; omega
        · have hjN : j = N := by omega
          have hl2 : ¬ p.fr + (j : Int) * p.st < p.to := fun h => hjl (haj.1.1 h)
          have hpl : (partM p N).length = N := by simp [partM]
          have hll : ((marksL (l.take (k + 1))).length : Int) ≤ p.to - 1000 := by
            rw [← hnx.out, List.length_append, hpl]; omega
          rw [hjN, ← List.map_append, hnx.out] at hO2
          generalize p.fr + (j : Int) * p.st = m at *
          go_wp2
          go_roundw
          case rel => exact ⟨k + 1, p.to, by omega, by go_num, by omega, Hg2, hll, hO2, hb2⟩
          case measure => simp [intOf]; omega
    · have hkl : k = l.length := by omega
      subst hkl
      rw [List.take_length] at hO hlen
      obtain ⟨A', c', rfl, _⟩ := hO.form
      go_wp2
      go_ret
      exact ⟨A', c', by simp, by omega, by simpa using hO, hb⟩
set_option maxRecDepth 100000 in
set_option maxHeartbeats 800000 in
theorem l07Marks_c (A : Option Addr) (c : Nat) (l : List Part) (w : World) (hl : l.length ≤ 12) (hv : gradAt l = some 10000) (hs : Sl w w.heap.size 3 A (l.map Part.cells)) :
    Calls Tryz.prog 42 #[.slice A l.length c] w fun e w' => ∃ A' c', e = .returned (.slice A' (marksL l).length c') ∧ (marksL l).length ≤ 9000 ∧ Own w' w.heap.size 2 1 (.slice A' (marksL l).length c') ((marksL l).map ic) ∧ Below w.heap.size w w' := by
  obtain ⟨i0, hi, hz0, hz1, hz2⟩ := info_parts info_Int64
  have Hv := Lib.hid hv; clear hv
  go_enter Tryz.func42, Tryz.ntmps42
  go_wp2_with fail
  go_loopw [3, 4] (fun v i wr => ∃ (k : Nat) (av : Int), k ≤ l.length ∧ i = .int .i64 k ∧ (1000 ≤ av ∧ av ≤ 10000) ∧ Hid (gradAt (l.take k) = some av) ∧ ((marksL (l.take k)).length : Int) ≤ av - 1000 ∧ Own wr w.heap.size 2 1 v ((marksL (l.take k)).map ic) ∧ Below w.heap.size w wr) (fun _ i _ => l.length - (intOf i).toNat)
  case atStart => exact ⟨0, 1000, Nat.zero_le _, rfl, by omega, (show gradAt (l.take 0) = some 1000 by simp [gradAt]), by simp [marksL], by simpa [marksL] using Own.empty (e := 2) (k := 1) (w := w) (Nat.le_refl _), (by repeat (first | with_reducible exact Below.refl _ _ | with_reducible apply below_drewN' | with_reducible apply Below.drew | (with_reducible refine Below.alloc ?_ (by first | omega | (simp; omega) | simp | (have := (Below.refl _ _).size; omega) | (have := (Below.refl _ _).size; simp; omega)) _) | (with_reducible refine Below.setCell ?_ (by first | omega | (simp; omega) | simp | (have := (Below.refl _ _).size; omega) | (have := (Below.refl _ _).size; simp; omega)) _) | exact Below.refl _ _))⟩
  case round =>
    obtain ⟨k, av, hk, rfl, ⟨a1, a2⟩, hg, hlen, hO, hb⟩ := hrel
    have hbs := hb.size
    by_cases hlt : k < l.length
    · obtain ⟨b, off, rfl, bB, cc⟩ := hs.at_ (i := k) (by simpa using hlt)
      simp only [List.getElem_map] at cc
      have q0 : ∀ wq : World, Below w.heap.size w wq → wq.cell? ⟨b, off + k * 3, none⟩ = some (.int .i64 l[k].fr) ∧ wq.cell? ⟨b, off + k * 3 + 1, none⟩ = some (.int .i64 l[k].to) ∧ wq.cell? ⟨b, off + k * 3 + 2, none⟩ = some (.int .i64 l[k].st) := fun wq hq =>
        ⟨by rw [hq.cell bB]; exact cc 0 _ rfl, by rw [hq.cell bB]; exact cc 1 _ rfl, by rw [hq.cell bB]; exact cc 2 _ rfl⟩
      clear cc
      obtain ⟨hst, hg2⟩ := step_ok Hv.out hlt hg.out
      have hnx := Lib.hid (marksL_next l hlt)
      have hcm := cnt_mul hst
      have hat := fun j hj => Lib.hid (at_lt hst j hj)
      have hpn := fun j => Lib.hid (partM_next l[k] j)
      have Hg2 := Lib.hid hg2; clear hg2 hst
      have hq0 := q0 wr hb
      generalize l[k] = p at *
      obtain ⟨h1, h2, h3, h4, h5, h6⟩ := hcm
      subst h1
      obtain ⟨N, hN⟩ : ∃ N, N = cntM p := ⟨_, rfl⟩
      rw [← hN] at hat hnx h5 h6
      obtain ⟨x0, x1, _⟩ := hq0
      have Q0 := Lib.hid q0
      clear q0
      go_wp2_with fail
      clear x0 x1
      go_loopw [3, 5] (fun v nn wr => ∃ j : Nat, j ≤ N ∧ nn = .int .i64 (p.fr + (j : Int) * p.st) ∧ Own wr w.heap.size 2 1 v ((marksL (l.take k)).map ic ++ (partM p j).map ic) ∧ Below w.heap.size w wr) (fun _ nn _ => (p.to - intOf nn).toNat)
      case atStart => exact ⟨0, Nat.zero_le _, by simp, by simpa [partM] using hO, hb⟩
      case round =>
        clear hO hb
        obtain ⟨j, hj, rfl, hO2, hb2⟩ := hrel
        have hb2s := hb2.size
        have haj := (hat j hj).out
        obtain ⟨_, y1, y2⟩ := Q0.out _ hb2
        clear y2
        by_cases hjl : j < N
        · have hl2 := haj.1.2 hjl
          have hpj := hpn j
          have hnj : p.fr + ((j + 1 : Nat) : Int) * p.st = p.fr + (j : Int) * p.st + p.st := by rw [Int.natCast_add, Int.add_mul]; omega
          have hb9 := (hat (j + 1) (by omega)).out.2.2
          rw [hnj] at hb9
          have Hnj := Lib.hid hnj; clear hnj
          have hpl : (partM p j).length = j := by simp [partM]
          have Hpl := Lib.hid hpl; clear hpl
          obtain ⟨_, hj1, hj2⟩ := haj
          generalize p.fr + (j : Int) * p.st = m at *
          go_wp2_with (at_builtin; refine wpList_append_rows _ rfl _ _ _ rfl w.heap.size 2 i0 _ 1 8 Tryz.underlying37 hi hz0 hz1 hz2 rfl (by omega) _ _ rfl (hO2.alloc _) _ _ _ _ [ic m] rfl rfl (Sl.of_blk (Blk.new' _ _ _ rfl) _ rfl (by simp [ic])) (ic_one (x := [m])) (by simp; have := Hpl.out; unfold maxLen; omega) (by simp; have := Hpl.out; omega) (by simp; omega) ?_; intro v1 w3 hO3 hg3 hat3; have hb3 := below_app (hb2.alloc hb2s _) hg3 (by simp; omega) hO2.ownGe; have z2 := (Q0.out _ hb3).2.2)
          go_roundw
          case rel =>
            refine ⟨j + 1, by omega, by rw [Hnj.out], ?_, hb3⟩
            rw [← hpj.out, ← List.append_assoc]; exact hO3
          case measure => simp [intOf]; omega
        · have hjN : j = N := by omega
          have hl2 : ¬ p.fr + (j : Int) * p.st < p.to := fun h => hjl (haj.1.1 h)
          have hpl : (partM p N).length = N := by simp [partM]
          have hll : ((marksL (l.take (k + 1))).length : Int) ≤ p.to - 1000 := by
            rw [← hnx.out, List.length_append, hpl]; omega
          rw [hjN, ← List.map_append, hnx.out] at hO2
          generalize p.fr + (j : Int) * p.st = m at *
          go_wp2
          go_roundw
          case rel => exact ⟨k + 1, p.to, by omega, by go_num, by omega, Hg2, hll, hO2, hb2⟩
          case measure => simp [intOf]; omega
    · have hkl : k = l.length := by omega
      subst hkl
      rw [List.take_length] at hO hlen
      obtain ⟨A', c', rfl, _⟩ := hO.form
      go_wp2
      go_ret
      exact ⟨A', c', by simp, by omega, by simpa using hO, hb⟩
end Go.Proofs.YtkjommcmeinkaaaGreat
