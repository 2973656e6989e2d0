/- RepairRow, the program's: walked. Condition: the row has at most 4000000000 ticks. -/
import Derived.Test.YtcpnmeebbbeakaaRep1
import Derived.Deep.RegionHeld3
namespace Go.Proofs.Ytcpnmeebbbeakaa
open Go.RowKit
/-- the rows after the first j misprints have been looked at -/
def stg (f : Tick → Tick) (l : List Tick) (M : List Int) (j : Nat) : List Tick := l.mapIdx fun i t => if (i : Int) ∈ M.take j then f t else t
theorem stg_len (f : Tick → Tick) (l : List Tick) (M : List Int) (j : Nat) : (stg f l M j).length = l.length := by simp [stg]
theorem stg_zero (f : Tick → Tick) (l : List Tick) (M : List Int) : stg f l M 0 = l := by
  apply List.ext_getElem
  · simp [stg]
  · intro i h1 h2
    simp [stg]
theorem stg_next (f : Tick → Tick) (l : List Tick) (M : List Int) {j i0 : Nat} (hj : j < M.length) (hM : M[j] = (i0 : Int)) (hi : i0 < l.length) : stg f l M (j + 1) = (stg f l M j).set i0 (f l[i0]) := by
  apply List.ext_getElem
  · simp [stg]
  · intro i h1 h2
    rw [List.getElem_set]
    simp only [stg, List.getElem_mapIdx, List.take_succ_eq_append_getElem hj, List.mem_append, List.mem_singleton, hM]
    by_cases e : i0 = i
    · subst e; simp
    · rw [if_neg e]
      have : ¬ (i : Int) = i0 := by omega
      simp [this]
theorem stg_end (f : Tick → Tick) (l : List Tick) (M : List Int) (h : ∀ i (hi : i < l.length), (i : Int) ∉ M → f l[i] = l[i]) : stg f l M M.length = l.map f := by
  apply List.ext_getElem
  · simp [stg]
  · intro i h1 h2
    simp only [stg, List.getElem_mapIdx, List.take_length, List.getElem_map]
    by_cases e : (i : Int) ∈ M
    · rw [if_pos e]
    · rw [if_neg e, h i (by simpa using h2) e]
theorem flat_set1 {xs : List (List Value)} {k i j : Nat} {u : Value} (h : ∀ x ∈ xs, x.length = k) (hi : i < xs.length) (hj : j < k) : xs.flatten.set (i * k + j) u = (xs.set i (xs[i].set j u)).flatten := by
  rw [flat_set hi]
  conv => lhs; rw [flat_split hi]
  have hA : (xs.take i).flatten.length = i * k := by
    rw [flat_length fun z hz => h z (List.mem_of_mem_take hz), List.length_take, Nat.min_eq_left (by omega)]
  have hx : xs[i].length = k := h _ (List.getElem_mem hi)
  rw [List.append_assoc, List.set_append_right _ _ (by omega), hA, show i * k + j - i * k = j from by omega, List.set_append_left _ _ (by omega)]
  rw [List.append_assoc]
theorem Own.set1 {w : World} {base : Nat} {e : TypeId} {k g n cap : Nat} {xs : List (List Value)} (h : Own w base e k (.slice (some ⟨g, 0, none⟩) n cap) xs) {i j : Nat} (hi : i < xs.length) (hj : j < k) (u : Value) :
    Own (w.setCell ⟨g, i * k + j, none⟩ u) base e k (.slice (some ⟨g, 0, none⟩) n cap) (xs.set i (xs[i].set j u)) := by
  obtain ⟨h1, h2⟩ := h
  have hn : n = xs.length := by
    rcases h1.2 with ⟨h', _⟩ | ⟨g', cap', cur, h', _⟩
    · simp at h'
    · simp only [Value.slice.injEq] at h'; exact h'.2.1
  subst hn
  refine ⟨?_, fun y hy => ?_⟩
  · have := (h1.stored (i * k + j) u).1
    rw [flat_set1 h2 hi hj] at this
    rw [List.length_set]
    exact this
  · rcases List.mem_or_eq_of_mem_set hy with h | rfl
    · exact h2 y h
    · rw [List.length_set]; exact h2 _ (List.getElem_mem hi)
theorem stg_same {f : Tick → Tick} (l : List Tick) (M : List Int) {j i0 : Nat} (hj : j < M.length) (hM : M[j] = (i0 : Int)) (hi : i0 < l.length) (hf : f l[i0] = l[i0]) : stg f l M (j + 1) = stg f l M j := by
  rw [stg_next f l M hj hM hi, hf]
  apply List.ext_getElem
  · simp
  · intro i h1 h2
    rw [List.getElem_set]
    split
    · rename_i e
      subst e
      simp only [stg, List.getElem_mapIdx]
      split
      · exact hf.symm
      · rfl
    · rfl
theorem fix_rows {w : World} {base g n cap : Nat} (L : List Tick) {i : Nat} (hi : i < L.length) (h : Own w base 46 3 (.slice (some ⟨g, 0, none⟩) n cap) (L.map Tick.cells)) (m ht : Int) :
    Own ((w.setCell ⟨g, i * 3, none⟩ (.int .i64 m)).setCell ⟨g, i * 3 + 2, none⟩ (.int .i64 ht)) base 46 3 (.slice (some ⟨g, 0, none⟩) n cap) ((L.set i ⟨m, L[i].place, ht⟩).map Tick.cells) := by
  have h1 := h.set1 (i := i) (j := 0) (by simpa using hi) (by omega) (.int .i64 m)
  have h2 := h1.set1 (i := i) (j := 2) (by simpa using hi) (by omega) (.int .i64 ht)
  have e : ((L.set i ⟨m, L[i].place, ht⟩).map Tick.cells) = ((L.map Tick.cells).set i ((L.map Tick.cells)[i]'(by simpa using hi) |>.set 0 (.int .i64 m))).set i (((L.map Tick.cells).set i ((L.map Tick.cells)[i]'(by simpa using hi) |>.set 0 (.int .i64 m)))[i]'(by simpa using hi) |>.set 2 (.int .i64 ht)) := by
    rw [List.set_set, List.getElem_set_self, List.map_set]
    congr 1
    rw [List.getElem_map]
    rfl
  rw [e]
  exact h2
theorem stg_place {f : Tick → Tick} (hf : ∀ t, (f t).place = t.place) (l : List Tick) (M : List Int) (j : Nat) {i : Nat} (hi : i < l.length) : ((stg f l M j)[i]'(by rw [stg_len]; exact hi)).place = l[i].place := by
  simp only [stg, List.getElem_mapIdx]
  split
  · exact hf _
  · rfl
theorem fix_place (s n tol step : Int) (t : Tick) : (fixT s n tol step t).place = t.place := by
  unfold fixT; split <;> rfl
/-- what RepairRow hands back -/
def PostRR (r : List Tick × List Int × Int) (w : World) (e : Ending) (w' : World) : Prop :=
  ∃ A1 c1 A2 c2, e = .returned (.tuple #[.slice A1 r.1.length c1, .slice A2 r.2.1.length c2, .int .i64 r.2.2]) ∧ Own w' w.heap.size 46 3 (.slice A1 r.1.length c1) (r.1.map Tick.cells) ∧ Own w' w.heap.size 2 1 (.slice A2 r.2.1.length c2) (r.2.1.map ic) ∧
    ((Value.slice A2 r.2.1.length c2).ownBlock = none ∨ (Value.slice A2 r.2.1.length c2).ownBlock ≠ (Value.slice A1 r.1.length c1).ownBlock) ∧ Below w.heap.size w w'
theorem mis_get {s n tol : Int} {l : List Tick} {j : Nat} (hj : j < (misIdx s n tol l).length) : ∃ i0 : Nat, ∃ h : i0 < l.length, (misIdx s n tol l)[j] = (i0 : Int) ∧ misB s n l[i0].mark l[i0].place tol = true := by
  obtain ⟨i, hi, hf, he⟩ := collect_mem.1 (List.getElem_mem hj)
  rw [misAt_eq _ _ _ _ hi] at hf
  exact ⟨i, hi, he.symm, hf⟩
theorem mis_mem {s n tol : Int} {l : List Tick} {i : Nat} (hi : i < l.length) (h : misB s n l[i].mark l[i].place tol = true) : (i : Int) ∈ misIdx s n tol l :=
  collect_mem.2 ⟨i, hi, by rw [misAt_eq _ _ _ _ hi]; exact h, rfl⟩
theorem fix_ok {s n tol step : Int} {l : List Tick} (hst : 10 ≤ step ∧ step ≤ 1000) (h : l.all tickOK = true) : (l.map (fixT s n tol step)).all tickOK = true := by
  rw [List.all_eq_true] at h ⊢
  intro x hx
  obtain ⟨t, ht, rfl⟩ := List.mem_map.1 hx
  have h0 := h t ht
  have hb := tick_bd h0
  unfold fixT
  split
  · rename_i hc
    have := (meant_mem hst hc.1 (head_mem hc.2)).2.1
    unfold tickOK
    rw [inB_true.2 this, inB_true.2 hb.2]
    rfl
  · exact h0
set_option maxRecDepth 100000 in
set_option maxHeartbeats 800000 in
theorem implRepairRow_c (s n tol step : Int) (A : Option Addr) (c : Nat) (l : List Tick) (w : World) (hl : l.length ≤ 4000000000) (hs : Sl w w.heap.size 3 A (l.map Tick.cells)) :
    Calls Try.prog 71 #[.int .i64 s, .int .i64 n, .slice A l.length c, .int .i64 tol, .int .i64 step] w (PostRR (rrRes s n l tol step) w) := by
  have hC := checkPrint_c s n A c l tol w (by omega) hs
  unfold PostRR
  by_cases h0 : printCode s n l tol = 0
  · obtain ⟨hs1, hn, _, hok⟩ := print_ok h0
    have h40 := print_len h0
    rw [h0] at hC
    cases hst0 : inB step 10 1000
    · have HR : Hid (rrRes s n l tol step = ([], [], 2)) := by unfold Hid rrRes; rw [if_pos h0, hst0]; rfl
      have hC' := Lib.hid hC
      clear h0 hs1 hn hok hC
      go_enter Try.func71, Try.ntmps71
      go_wp2_with (first | (go_at_call 94; refine hC'.out.mono ?_; rintro e w1 ⟨rfl, hb1⟩) | (go_at_call 113; refine (within_c _ _ _ _).mono ?_; rintro e w' ⟨rfl, rfl⟩))
      go_ret3
      rw [HR.out]
      exact ⟨none, 0, none, 0, rfl, Own.nil_, Own.nil_, .inl rfl, hb1⟩
    · have hst := inB_true.1 hst0
      have HMis := fun W h => Lib.hid (misprints_c s n tol A c l W hs1 hn h40 hok h)
      have HMis2 := fun W A' c' h => Lib.hid (misprints_c s n tol A' c' (l.map (fixT s n tol step)) W hs1 hn (by simpa using h40) (fix_ok hst hok) h)
      have HCl := fun W h => Lib.hid (cloneTick_c A c l W (by omega) h)
      have HMe := fun i (hi : i < l.length) W => Lib.hid (meantMarks_c s n l[i] tol step W hs1 hn (all_ok hok hi).1 (all_ok hok hi).2 hst)
      have HTH := fun m (hm : 1000 ≤ m ∧ m ≤ 9999) W => Lib.hid (tickHeight_c m W hm)
      have hR : rrRes s n l tol step = if l.any (badT s n tol step) then ([], [], 3) else (l.map (fixT s n tol step), misIdx s n tol (l.map (fixT s n tol step)), 0) := by unfold rrRes; rw [if_pos h0, hst0]; rfl
      have hML := misIdx_len s n tol l
      have hC' := Lib.hid hC
      have hR' := Lib.hid hR
      have hok' := Lib.hid hok
      clear h0 hs1 hn hC hR hok
      rw [List.length_map] at HMis2
      go_enter Try.func71, Try.ntmps71
      go_wp2_with (first | (go_at_call 94; refine hC'.out.mono ?_; rintro e w1 ⟨rfl, hb1⟩) | (go_at_call 113; refine (within_c _ _ _ _).mono ?_; rintro e w' ⟨rfl, rfl⟩))
      refine (HCl _ ((hs.below hb1).more hb1.size)).out.mono ?_; rintro e w2 ⟨Ao, co, rfl, hO2, hb2⟩
      have hB2 := hb1.trans (hb2.mono hb1.size)
      have hO2' := hO2.mono hb1.size
      go_wp2_with fail
      refine (HMis _ ((hs.below hB2).more hB2.size)).out.mono ?_; rintro e w3 ⟨Am, cm, rfl, hM3, hb3⟩
      have hB3 := hB2.trans (hb3.mono hB2.size)
      have hO3 := hO2'.below hb3
      have hap := own_apart' hO2 hM3
      have hM3' := hM3.mono hB2.size
      have s3 := hB3.size
      clear hO2 hO2' hM3 hB2 hb1 hb2 hb3 HCl HMis hC'
      go_wp2_with fail
      go_loopw [37] (fun i wr => ∃ j : Nat, j ≤ (misIdx s n tol l).length ∧ i = .int .i64 j ∧ Below w.heap.size w wr ∧ Own wr w.heap.size 46 3 (.slice Ao l.length co) ((stg (fixT s n tol step) l (misIdx s n tol l) j).map Tick.cells) ∧ Own wr w.heap.size 2 1 (.slice Am (misIdx s n tol l).length cm) ((misIdx s n tol l).map ic) ∧ Hid (∀ i (hi : i < l.length), (i : Int) ∈ (misIdx s n tol l).take j → badT s n tol step l[i] = false)) (fun i _ => (misIdx s n tol l).length - (intOf i).toNat)
      case atStart => exact ⟨0, Nat.zero_le _, rfl, hB3, by rw [stg_zero]; exact hO3, hM3', fun i hi h => by simp at h⟩
      case round =>
        obtain ⟨j, hj, rfl, hb, hO, hM, hnb⟩ := hrel
        have hbs := hb.size
        by_cases hltj : j < (misIdx s n tol l).length
        · obtain ⟨i0, hi0, hMj, hmis⟩ := mis_get hltj
          obtain ⟨bm, om, rfl, hbm, hcm⟩ := hM.sl.int hltj
          rw [hMj] at hcm
          obtain rfl := hM.off0 (i := j) (by simpa using hltj)
          rw [Nat.zero_add] at hcm
          have hlt := hi0
          obtain ⟨b, off, rfl, bB, cc⟩ := hs.at_ (i := i0) (by simpa using hlt)
          simp only [List.getElem_map] at cc
          have c0 : wr.cell? ⟨b, off + i0 * 3, none⟩ = some (.int .i64 l[i0].mark) := by rw [hb.cell bB]; exact cc 0 _ rfl
          have c1 : wr.cell? ⟨b, off + i0 * 3 + 1, none⟩ = some (.int .i64 l[i0].place) := by rw [hb.cell bB]; exact cc 1 _ rfl
          have c2 : wr.cell? ⟨b, off + i0 * 3 + 2, none⟩ = some (.int .i64 l[i0].height) := by rw [hb.cell bB]; exact cc 2 _ rfl
          clear cc
          obtain ⟨bo, oo, rfl, hbo, _⟩ := hO.sl.at_ (i := i0) (by rw [List.length_map, stg_len]; exact hi0)
          obtain rfl := hO.off0 (i := i0) (by rw [List.length_map, stg_len]; exact hi0)
          have hbm2 := hM.ownGe bm rfl
          have hbo2 := hO.ownGe bo rfl
          have hne : bm ≠ bo := by
            rcases hap with h | h
            · cases h
            · exact fun e => h (by rw [e]; rfl)
          have HMe' := HMe i0 hi0
          have hfx : fixT s n tol step l[i0] = if misB s n l[i0].mark l[i0].place tol = true ∧ (meant s n l[i0] tol step).length = 1 then ⟨(meant s n l[i0] tol step).headD 0, l[i0].place, tickH ((meant s n l[i0] tol step).headD 0)⟩ else l[i0] := rfl
          have hbd : badT s n tol step l[i0] = (misB s n l[i0].mark l[i0].place tol && decide (100 < (meant s n l[i0] tol step).length)) := rfl
          have hmm := fun (m : Int) (hm : m ∈ meant s n l[i0] tol step) => meant_mem hst hmis hm
          rw [hmis] at hfx hbd
          have hsn := Lib.hid (stg_next (fixT s n tol step) l (misIdx s n tol l) hltj hMj hi0)
          have hsp := Lib.hid (stg_place (fix_place s n tol step) l (misIdx s n tol l) j hi0)
          have hsl := stg_len (fixT s n tol step) l (misIdx s n tol l) j
          generalize hgm : meant s n l[i0] tol step = Rm at *
          have hnb2 : badT s n tol step l[i0] = false → Hid (∀ i (hi : i < l.length), (i : Int) ∈ (misIdx s n tol l).take (j + 1) → badT s n tol step l[i] = false) := by
            intro hf i hi h
            rw [List.take_succ_eq_append_getElem hltj, List.mem_append, List.mem_singleton] at h
            rcases h with h | h
            · exact hnb.out i hi h
            · rw [hMj] at h
              have e : i = i0 := by omega
              subst e
              exact hf
          by_cases hbig : 100 < Rm.length
          · have hbt : badT s n tol step l[i0] = true := by rw [hbd, decide_eq_true hbig]; rfl
            have HR : Hid (rrRes s n l tol step = ([], [], 3)) := by
              unfold Hid
              rw [hR'.out, if_pos (List.any_eq_true.2 ⟨l[i0], List.getElem_mem _, hbt⟩)]
            clear hnb2 hbd hfx hmm hMj
            go_wp2_with (go_at_call 114; refine (HMe' _).out.mono ?_; rintro e w4 ⟨Ame, cme, rfl, hMe, hb4⟩; have hB4 := hb.trans (hb4.mono hbs))
            go_ret3
            rw [HR.out]
            exact ⟨none, 0, none, 0, rfl, Own.nil_, Own.nil_, .inl rfl, hB4⟩
          · have hnb3 := hnb2 (by rw [hbd, decide_eq_false hbig]; rfl)
            clear hnb2 hbd
            by_cases h1 : Rm.length = 1
            · rw [if_pos ⟨rfl, h1⟩] at hfx
              obtain ⟨mh, rfl⟩ : ∃ m, Rm = [m] := by
                match Rm, h1 with
                | [x], _ => exact ⟨x, rfl⟩
              have hmh := (hmm mh (by simp)).2.1
              have HTH' := HTH mh hmh
              simp only [List.headD_cons] at hfx
              clear hmm hbig h1 hMj
              go_wp2_with (go_at_call 114; refine (HMe' _).out.mono ?_; rintro e w4 ⟨Ame, cme, rfl, hMe, hb4⟩; have hB4 := hb.trans (hb4.mono hbs); have hO4 := hO.below hb4; have hM4 := hM.below hb4)
              obtain ⟨bme, ome, rfl, hbme, hcme⟩ := hMe.sl.int (l := [mh]) (k := 0) (by simp)
              obtain rfl := hMe.off0 (i := 0) (by simp)
              have m0 : w4.cell? ⟨bme, 0, none⟩ = some (.int .i64 mh) := by simpa using hcme
              have hkl : i0 < ((stg (fixT s n tol step) l (misIdx s n tol l) j).map Tick.cells).length := by rw [List.length_map, hsl]; exact hi0
              have hz4 := hb4.size
              clear hcme c0 c1 c2
              go_region_with (first | (go_at_call 138; refine (HTH' _).out.mono ?_; rintro e w5 ⟨rfl, hb5⟩; have hz5 := hb5.size; have hO5 := (show Own w4.drew _ _ _ _ _ from hO4).below hb5; have hM5 := (show Own w4.drew _ _ _ _ _ from hM4).below hb5; have hB5 := hB4.drew.trans (hb5.mono hB4.size); have m5 : w5.cell? ⟨bme, 0, none⟩ = some (.int .i64 mh) := (hb5.cell (p := ⟨bme, 0, none⟩) hbme).trans m0; obtain ⟨v0, e0⟩ : ∃ v, w5.cell? ⟨bo, i0 * 3, none⟩ = some v := hO5.cell (i := i0) (j := 0) hkl (by omega); obtain ⟨v2, e2⟩ : ∃ v, w5.cell? ⟨bo, i0 * 3 + 2, none⟩ = some v := hO5.cell (i := i0) (j := 2) hkl (by omega); have f0 : w5.frozen? ⟨bo, i0 * 3, none⟩ = false := hO5.frozen _; have f2 : w5.frozen? ⟨bo, i0 * 3 + 2, none⟩ = false := hO5.frozen _; have zo := hO5.block_ge.2))
              all_goals
                go_wp2
                go_roundw
                case rel =>
                  have hg5 : w5.grownBy ((w5.setCell ⟨bo, i0 * 3, none⟩ (.int .i64 mh)).setCell ⟨bo, i0 * 3 + 2, none⟩ (.int .i64 (tickH mh))) (some bo) := ⟨rfl, rfl, rfl, by simp, fun k hk hne' => by
                    rw [Below.heap_setCell _ _ _ _ (fun e => hne' (by rw [e])), Below.heap_setCell _ _ _ _ (fun e => hne' (by rw [e]))]⟩
                  refine ⟨j + 1, by omega, by go_num, (hB5.setCell hbo2 _).setCell hbo2 _, ?_, hM5.kept hg5 (.inr (fun e => hne (Option.some.inj e))), hnb3⟩
                  have h := fix_rows _ (by rw [hsl]; exact hi0) hO5 mh (tickH mh)
                  rw [hsp.out] at h
                  rw [hsn.out, hfx]
                  exact h
                case measure => simp [intOf]; omega
            · rw [if_neg (fun h => h1 h.2)] at hfx
              have hss := Lib.hid (stg_same l (misIdx s n tol l) hltj hMj hi0 hfx)
              clear hmm hfx hMj
              have hlen2 : ¬ (Rm.length : Int) = 1 := by omega
              go_wp2_with (go_at_call 114; refine (HMe' _).out.mono ?_; rintro e w4 ⟨Ame, cme, rfl, hMe, hb4⟩; have hB4 := hb.trans (hb4.mono hbs); have hO4 := hO.below hb4; have hM4 := hM.below hb4)
              go_roundw
              case rel => exact ⟨j + 1, by omega, by go_num, hB4, by rw [hss.out]; exact hO4, hM4, hnb3⟩
              case measure => simp [intOf]; omega
        · have hjM : j = (misIdx s n tol l).length := by omega
          have hnone : l.any (badT s n tol step) = false := by
            rw [List.any_eq_false]
            intro t ht
            obtain ⟨i, hi, rfl⟩ := List.getElem_of_mem ht
            cases hw : misB s n l[i].mark l[i].place tol
            · unfold badT; rw [hw]; simp
            · have := hnb.out i hi (by rw [hjM, List.take_length]; exact mis_mem hi hw)
              rw [this]; simp
          have HR : Hid (rrRes s n l tol step = (l.map (fixT s n tol step), misIdx s n tol (l.map (fixT s n tol step)), 0)) := by
            unfold Hid; rw [hR'.out, hnone]; rfl
          rw [hjM, stg_end _ _ _ (fun i hi hno => fix_same (by
            cases hw : misB s n l[i].mark l[i].place tol
            · rfl
            · exact absurd (mis_mem hi hw) hno))] at hO
          have HM2 := HMis2 wr Ao co hO.sl
          clear HMis2 hnone HMe HTH hnb
          go_wp2_with (go_at_call 135; refine HM2.out.mono ?_; rintro e w4 ⟨A2, c2, rfl, hM2, hb4⟩)
          go_ret3
          rw [HR.out]
          refine ⟨Ao, co, A2, c2, by simp, ?_, hM2.mono hbs, ?_, hb.trans (hb4.mono hbs)⟩
          · have := hO.below hb4
            rw [List.length_map]
            exact this
          · have := own_apart' hO hM2
            rw [List.length_map]
            exact this
  · have HR : Hid (rrRes s n l tol step = ([], [], printCode s n l tol)) := by unfold Hid rrRes; rw [if_neg h0]
    have hne : (printCode s n l tol != 0) = true := by simp [h0]
    have hC' := Lib.hid hC
    clear h0 hC
    go_enter Try.func71, Try.ntmps71
    go_wp2_with (go_at_call 94; refine hC'.out.mono ?_; rintro e w1 ⟨rfl, hb1⟩)
    go_ret3
    rw [HR.out]
    exact ⟨none, 0, none, 0, rfl, Own.nil_, Own.nil_, .inl rfl, hb1⟩
end Go.Proofs.Ytcpnmeebbbeakaa
