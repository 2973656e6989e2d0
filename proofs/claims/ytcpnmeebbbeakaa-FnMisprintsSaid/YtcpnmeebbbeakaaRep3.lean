/- RepairRow, the reference's: walked. Condition: the row has at most 2^47 ticks. -/
import Derived.Test.YtcpnmeebbbeakaaRep2
namespace Go.Proofs.Ytcpnmeebbbeakaa
open Go.RowKit
/-- two slices of the call's own that do not share their block -/
def Ap (v v' : Value) : Prop := v.ownBlock = none ∨ v.ownBlock ≠ v'.ownBlock
theorem Ap.right {w : World} {base : Nat} {e : TypeId} {k : Nat} {v v1 v2 : Value} {xs : List (List Value)} (h : Ap v v1) (ho : Own w base e k v xs) (hat : v2.ownBlock = v1.ownBlock ∨ v2.ownBlock = some w.heap.size) : Ap v v2 := by
  unfold Ap at *
  rcases h with h | h
  · exact .inl h
  · rcases hat with h2 | h2
    · rw [h2]; exact .inr h
    · rw [h2]
      refine .inr fun e => ?_
      have := (ho.1.lt _ e).2
      omega
theorem Ap.left {w : World} {base : Nat} {e : TypeId} {k : Nat} {v v1 v2 : Value} {xs : List (List Value)} (h : Ap v v1) (ho : Own w base e k v1 xs) (hat : v2.ownBlock = v.ownBlock ∨ v2.ownBlock = some w.heap.size) : Ap v2 v1 := by
  unfold Ap at *
  rcases hat with h2 | h2
  · rw [h2]; exact h
  · rw [h2]
    refine .inr fun e => ?_
    have := (ho.1.lt _ e.symm).2
    omega
theorem Ap.swap {v v' : Value} (h : Ap v v') : Ap v' v := by
  unfold Ap at *
  cases hv : v'.ownBlock with
  | none => exact .inl rfl
  | some g =>
    rcases h with h | h
    · right; rw [h]; simp
    · right; rw [hv] at h; exact fun e => h e.symm
theorem cell_far3 {w0 : World} {b o p : Nat} {u v y x : Value} (h : w0.cell? ⟨b, o, none⟩ = some x) (hne : b ≠ p) : (((w0.setCell ⟨p, 0, none⟩ u).setCell ⟨p, 1, none⟩ v).setCell ⟨p, 2, none⟩ y).cell? ⟨b, o, none⟩ = some x :=
  (World.cell?_of_block ((Below.heap_setCell _ ⟨p, 2, none⟩ _ _ hne).trans ((Below.heap_setCell _ ⟨p, 1, none⟩ _ _ hne).trans (Below.heap_setCell _ ⟨p, 0, none⟩ _ _ hne)))).trans h
theorem cell_set3 {w0 : World} {p : Nat} {u y x z : Value} (h : w0.cell? ⟨p, 1, none⟩ = some z) : (((w0.setCell ⟨p, 0, none⟩ u).setCell ⟨p, 1, none⟩ x).setCell ⟨p, 2, none⟩ y).cell? ⟨p, 1, none⟩ = some x := by
  rw [World.cell?_setCell_other _ _ _ _ (by simp)]
  apply World.cell?_setCell_same (u := z)
  rw [World.cell?_setCell_other _ _ _ _ (by simp)]
  exact h
theorem ne_new {w : World} {base : Nat} {e : TypeId} {k : Nat} {v : Value} {xs : List (List Value)} (h : Own w base e k v xs) : v.ownBlock = none ∨ v.ownBlock ≠ some w.heap.size := by
  cases hv : v.ownBlock with
  | none => exact .inl rfl
  | some g => exact .inr fun e => by have := (h.1.lt g hv).2; have := Option.some.inj e; omega
theorem rows_take {f : Tick → Tick} (l : List Tick) {k : Nat} (hk : k < l.length) : ((l.take k).map f).map Tick.cells ++ [f l[k]].map Tick.cells = ((l.take (k + 1)).map f).map Tick.cells := by
  rw [List.take_succ_eq_append_getElem hk, List.map_append, List.map_append]; rfl
theorem mm_ok {s n tol step : Int} {l : List Tick} {t : Tick} (h : printCode s n l tol = 0) (ht : t ∈ l) (hst : inB step 10 1000 = true) : mmRes s n t tol step = if 100 < (meant s n t tol step).length then ([], 3) else (meant s n t tol step, 0) := by
  have hp : printCode s n [t] tol = 0 := by
    obtain ⟨h1, h2, h3, h4⟩ := print_ok h
    have ht' : tickOK t = true := List.all_eq_true.1 h4 t ht
    unfold printCode rowCode
    simp [ht', inB_true.2 h1, inB_true.2 h2, inB_true.2 h3]
  unfold mmRes
  rw [if_pos hp, if_pos hst]
set_option maxRecDepth 100000 in
set_option maxHeartbeats 1000000 in
theorem specRepairRow_c (s n tol step : Int) (A : Option Addr) (c : Nat) (l : List Tick) (w : World) (hl : l.length ≤ 140737488351232) (hs : Sl w w.heap.size 3 A (l.map Tick.cells)) :
    Calls Try.prog 70 #[.int .i64 s, .int .i64 n, .slice A l.length c, .int .i64 tol, .int .i64 step] w (PostRR (rrRes s n l tol step) w) := by
  have hC := l29Code_c s n A c l tol w hl hs
  unfold PostRR
  by_cases h0 : printCode s n l tol = 0
  · obtain ⟨hs1, hn, _, hok⟩ := print_ok h0
    have h40 := print_len h0
    rw [h0] at hC
    cases hst0 : inB step 10 1000
    · have HR : Hid (rrRes s n l tol step = ([], [], 2)) := by unfold Hid rrRes; rw [if_pos h0, hst0]; rfl
      have hC' := Lib.hid hC
      have hS5 := fun W => l29Step_c step W
      rw [hst0] at hS5
      have hS' := fun W => Lib.hid (hS5 W); clear hS5
      clear h0 hs1 hn hok hC
      go_enter Try.func70, Try.ntmps70
      go_wp2_with (first | (go_at_call 92; refine hC'.out.mono ?_; rintro e w1 ⟨rfl, hb1⟩) | (go_at_call 111; refine (hS' _).out.mono ?_; rintro e w9 ⟨rfl, rfl⟩))
      go_ret3
      rw [HR.out]
      exact ⟨none, 0, none, 0, rfl, Own.nil_, Own.nil_, .inl rfl, hb1⟩
    · have hst := inB_true.1 hst0
      obtain ⟨i0, hi, hz0, hz1, hz2⟩ := info_parts info_Int64
      obtain ⟨i1, hi1, hy0, hy1, hy2⟩ := info_parts info_Tick
      have hS5 := fun W => l29Step_c step W
      rw [hst0] at hS5
      have hS' := fun W => Lib.hid (hS5 W); clear hS5
      have HI := fun i (hi : i < l.length) W => Lib.hid (l29Is_c s n l[i].mark l[i].place tol W hs1 (all_ok hok hi).1 hn (all_ok hok hi).2)
      have HMMs := fun i (hi : i < l.length) W => Lib.hid (specMeantMarks_c s n tol step l[i] W)
      have hmm := fun i (hi : i < l.length) => Lib.hid (mm_ok h0 (List.getElem_mem hi) hst0)
      have HTH := fun m (hm : 1000 ≤ m ∧ m ≤ 9999) W => Lib.hid (l08Height_c m W hm)
      have hR : rrRes s n l tol step = if l.any (badT s n tol step) then ([], [], 3) else (l.map (fixT s n tol step), misIdx s n tol (l.map (fixT s n tol step)), 0) := by unfold rrRes; rw [if_pos h0, hst0]; rfl
      have hC' := Lib.hid hC
      have hR' := Lib.hid hR
      clear h0 hs1 hn hC hR hok
      go_enter Try.func70, Try.ntmps70
      go_wp2_with (first | (go_at_call 92; refine hC'.out.mono ?_; rintro e w1 ⟨rfl, hb1⟩) | (go_at_call 111; refine (hS' _).out.mono ?_; rintro e w9 ⟨rfl, rfl⟩))
      have hs1 := hb1.size
      go_loopw [14, 15, 16] (fun vo vr i wr => ∃ k : Nat, k ≤ l.length ∧ i = .int .i64 k ∧ Below w.heap.size w wr ∧ Own wr w.heap.size 46 3 vo (((l.take k).map (fixT s n tol step)).map Tick.cells) ∧ Own wr w.heap.size 2 1 vr ((collect (misAt s n tol (l.map (fixT s n tol step))) (fun i => (i : Int)) k).map ic) ∧ Ap vr vo ∧ Hid ((l.take k).any (badT s n tol step) = false)) (fun _ _ i _ => l.length - (intOf i).toNat)
      case atStart =>
        refine ⟨0, Nat.zero_le _, rfl, (by repeat (first | with_reducible exact hb1 | with_reducible apply below_drewN' | with_reducible apply Below.drew | (with_reducible refine Below.alloc ?_ (by first | omega | (simp; omega) | simp) _) | (with_reducible refine Below.setCell ?_ (by first | omega | (simp; omega) | simp) _) | exact hb1)), ?_, ?_, ?_, (show (l.take 0).any _ = false by simp)⟩
        · simpa using (Own.empty (e := 46) (k := 3) hs1).alloc (.cells #[] 2)
        · have := Own.empty (w := w1.alloc (.cells #[] 46)) (e := 2) (k := 1) (base := w.heap.size) (by simp; omega)
          simpa [collect] using this
        · right; simp [Value.ownBlock]
      case round =>
        obtain ⟨k, hk, rfl, hb, hO, hR, hap, hnb⟩ := hrel
        have hbs := hb.size
        by_cases hlt : k < l.length
        · obtain ⟨b, off, rfl, bB, cc⟩ := hs.at_ (i := k) (by simpa using hlt)
          simp only [List.getElem_map] at cc
          have c0 : wr.cell? ⟨b, off + k * 3, none⟩ = some (.int .i64 l[k].mark) := by rw [hb.cell bB]; exact cc 0 _ rfl
          have c1 : wr.cell? ⟨b, off + k * 3 + 1, none⟩ = some (.int .i64 l[k].place) := by rw [hb.cell bB]; exact cc 1 _ rfl
          have c2 : wr.cell? ⟨b, off + k * 3 + 2, none⟩ = some (.int .i64 l[k].height) := by rw [hb.cell bB]; exact cc 2 _ rfl
          clear cc
          have HMi := HI k hlt
          have HMM := HMMs k hlt
          have hmmk := hmm k hlt
          have hlo : Hid ((((l.take k).map (fixT s n tol step)).map Tick.cells).length ≤ 40) := by unfold Hid; simp; omega
          have hlr : Hid ((collect (misAt s n tol (l.map (fixT s n tol step))) (fun i => (i : Int)) k).length ≤ 40) := by have := collect_len (misAt s n tol (l.map (fixT s n tol step))) (fun i => (i : Int)) k; unfold Hid; omega
          have hfx : fixT s n tol step l[k] = if misB s n l[k].mark l[k].place tol = true ∧ (meant s n l[k] tol step).length = 1 then ⟨(meant s n l[k] tol step).headD 0, l[k].place, tickH ((meant s n l[k] tol step).headD 0)⟩ else l[k] := rfl
          have hbd : badT s n tol step l[k] = (misB s n l[k].mark l[k].place tol && decide (100 < (meant s n l[k] tol step).length)) := rfl
          have hmf := mis_fix (s := s) (n := n) (tol := tol) hst hlt
          have hmem := fun (hw : misB s n l[k].mark l[k].place tol = true) (m : Int) (hm : m ∈ meant s n l[k] tol step) => meant_mem hst hw hm
          have hrt := Lib.hid (rows_take (f := fixT s n tol step) l hlt)
          have hany : (l.take (k + 1)).any (badT s n tol step) = ((l.take k).any (badT s n tol step) || badT s n tol step l[k]) := by rw [List.take_succ_eq_append_getElem hlt, List.any_append]; simp
          have hst' := Lib.hid (collect_stay (misAt s n tol (l.map (fixT s n tol step))) (fun i => (i : Int)) k)
          have hnx := Lib.hid (collect_next (misAt s n tol (l.map (fixT s n tol step))) (fun i => (i : Int)) k)
          clear HI HMMs hmm hs hC' hS'
          generalize meant s n l[k] tol step = Rm at *
          cases hw : misB s n l[k].mark l[k].place tol
          all_goals rw [hw] at HMi hfx hbd hmf
          · -- no misprint
            rw [if_neg (by simp)] at hfx
            have hany' : Hid ((l.take (k + 1)).any (badT s n tol step) = false) := by unfold Hid; rw [hany, hnb.out, hbd]; rfl
            have hk1 := Lib.hid (hst'.out (by rw [hmf]; rfl))
            have hrt' := hrt.out
            rw [hfx] at hrt'
            have Hrt := Lib.hid hrt'
            clear hrt hrt' hfx hbd hmf hany hst' hnx hmem HMM hmmk hw HTH
            go_wp2_with (first | (go_at_call 96; refine (HMi _).out.mono ?_; rintro e w4 ⟨rfl, hb4⟩; have Bt4 := (Blk.new wr 46 #[.int .i64 l[k].mark, .int .i64 l[k].place, .int .i64 l[k].height]).below hb4 (by first | (simp; done) | (simp; omega)); have hO4 := (hO.alloc (.cells #[.int .i64 l[k].mark, .int .i64 l[k].place, .int .i64 l[k].height] 46)).below hb4; have hR4 := (hR.alloc (.cells #[.int .i64 l[k].mark, .int .i64 l[k].place, .int .i64 l[k].height] 46)).below hb4; have hB4 := (hb.alloc hbs (.cells #[.int .i64 l[k].mark, .int .i64 l[k].place, .int .i64 l[k].height] 46)).trans (hb4.mono (by first | (simp; done) | (simp; omega))); have hs4 := hB4.size; have x0 : w4.cell? ⟨wr.heap.size, 0, none⟩ = some (.int .i64 l[k].mark) := Bt4.cell 0; have x1 : w4.cell? ⟨wr.heap.size, 1, none⟩ = some (.int .i64 l[k].place) := Bt4.cell 1; have x2 : w4.cell? ⟨wr.heap.size, 2, none⟩ = some (.int .i64 l[k].height) := Bt4.cell 2) | (at_builtin; refine wpList_append_rows _ rfl _ _ _ rfl w.heap.size 46 i1 _ 3 24 Try.underlying27 hi1 hy0 hy1 hy2 rfl (by omega) _ _ rfl (hO4.alloc _) _ _ _ _ ([l[k]].map Tick.cells) rfl rfl (Sl.of_blk (Blk.new' _ _ _ rfl) _ rfl (by simp [Tick.cells])) (Tick.one (l := [l[k]])) (by simp; have := hlo.out; unfold maxLen; omega) (by simp; have := hlo.out; omega) (by simp; omega) ?_; intro v1 w5 hO5 hg hat))
            go_roundw
            case rel =>
              have hA4 := hap.right (v2 := v1) (hR4.alloc (.cells #[.int .i64 l[k].mark, .int .i64 l[k].place, .int .i64 l[k].height] 46)) hat
              exact ⟨k + 1, by omega, by go_num, below_app (hB4.alloc hs4 _) hg (by simp; omega) hO.ownGe, by rw [← Hrt.out]; exact hO5, by rw [← hk1.out]; exact (hR4.alloc _).kept hg hap, hA4, hany'⟩
            case measure => simp [intOf]; omega
          · have hq := hmmk.out
            by_cases hbig : 100 < Rm.length
            · rw [if_pos hbig] at hq
              rw [hq] at HMM
              have hbt : badT s n tol step l[k] = true := by rw [hbd, decide_eq_true hbig]; rfl
              have HR : Hid (rrRes s n l tol step = ([], [], 3)) := by
                unfold Hid
                rw [hR'.out, if_pos (List.any_eq_true.2 ⟨l[k], List.getElem_mem _, hbt⟩)]
              clear hrt hfx hbd hmf hany hst' hnx hmem hmmk hw HTH hq
              go_wp2_with (first | (go_at_call 96; refine (HMi _).out.mono ?_; rintro e w4 ⟨rfl, hb4⟩; have Bt4 := (Blk.new wr 46 #[.int .i64 l[k].mark, .int .i64 l[k].place, .int .i64 l[k].height]).below hb4 (by first | (simp; done) | (simp; omega)); have hO4 := (hO.alloc (.cells #[.int .i64 l[k].mark, .int .i64 l[k].place, .int .i64 l[k].height] 46)).below hb4; have hR4 := (hR.alloc (.cells #[.int .i64 l[k].mark, .int .i64 l[k].place, .int .i64 l[k].height] 46)).below hb4; have hB4 := (hb.alloc hbs (.cells #[.int .i64 l[k].mark, .int .i64 l[k].place, .int .i64 l[k].height] 46)).trans (hb4.mono (by first | (simp; done) | (simp; omega))); have hs4 := hB4.size; have x0 : w4.cell? ⟨wr.heap.size, 0, none⟩ = some (.int .i64 l[k].mark) := Bt4.cell 0; have x1 : w4.cell? ⟨wr.heap.size, 1, none⟩ = some (.int .i64 l[k].place) := Bt4.cell 1; have x2 : w4.cell? ⟨wr.heap.size, 2, none⟩ = some (.int .i64 l[k].height) := Bt4.cell 2) | (go_at_call 44; refine (HMM _).out.mono ?_; rintro e w5 ⟨Ame, cme, rfl, hMe, hb5⟩; have Bt5 := Bt4.below hb5 Bt4.lt; have hO5 := hO4.below hb5; have hR5 := hR4.below hb5; have hB5 := hB4.trans (hb5.mono hs4); have hs5 := hB5.size; have hz45 := hb5.size))
              go_ret3
              rw [HR.out]
              exact ⟨none, 0, none, 0, rfl, Own.nil_, Own.nil_, .inl rfl, hB5⟩
            · rw [if_neg hbig] at hq
              rw [hq] at HMM
              have hany' : Hid ((l.take (k + 1)).any (badT s n tol step) = false) := by unfold Hid; rw [hany, hnb.out, hbd, decide_eq_false hbig]; rfl
              by_cases h1 : Rm.length = 1
              · rw [if_pos ⟨rfl, h1⟩] at hfx
                rw [decide_eq_true h1] at hmf
                have hk1 := Lib.hid (hst'.out (by rw [hmf]; rfl))
                obtain ⟨mh, rfl⟩ : ∃ m, Rm = [m] := by
                  match Rm, h1 with
                  | [x], _ => exact ⟨x, rfl⟩
                have hmh := (hmem hw mh (by simp)).2.1
                have HTH' := HTH mh hmh
                simp only [List.headD_cons] at hfx
                have hrt' := hrt.out
                rw [hfx] at hrt'
                have Hrt := Lib.hid hrt'
                clear hrt hrt' hfx hbd hmf hany hst' hnx hmem hmmk hw HTH hq hbig h1
                simp only [List.length_singleton] at HMM
                go_wp2_with (first | (go_at_call 96; refine (HMi _).out.mono ?_; rintro e w4 ⟨rfl, hb4⟩; have Bt4 := (Blk.new wr 46 #[.int .i64 l[k].mark, .int .i64 l[k].place, .int .i64 l[k].height]).below hb4 (by first | (simp; done) | (simp; omega)); have hO4 := (hO.alloc (.cells #[.int .i64 l[k].mark, .int .i64 l[k].place, .int .i64 l[k].height] 46)).below hb4; have hR4 := (hR.alloc (.cells #[.int .i64 l[k].mark, .int .i64 l[k].place, .int .i64 l[k].height] 46)).below hb4; have hB4 := (hb.alloc hbs (.cells #[.int .i64 l[k].mark, .int .i64 l[k].place, .int .i64 l[k].height] 46)).trans (hb4.mono (by first | (simp; done) | (simp; omega))); have hs4 := hB4.size; have x0 : w4.cell? ⟨wr.heap.size, 0, none⟩ = some (.int .i64 l[k].mark) := Bt4.cell 0; have x1 : w4.cell? ⟨wr.heap.size, 1, none⟩ = some (.int .i64 l[k].place) := Bt4.cell 1; have x2 : w4.cell? ⟨wr.heap.size, 2, none⟩ = some (.int .i64 l[k].height) := Bt4.cell 2) | (go_at_call 44; refine (HMM _).out.mono ?_; rintro e w5 ⟨Ame, cme, rfl, hMe, hb5⟩; have Bt5 := Bt4.below hb5 Bt4.lt; have hO5 := hO4.below hb5; have hR5 := hR4.below hb5; have hB5 := hB4.trans (hb5.mono hs4); have hs5 := hB5.size; have hz45 := hb5.size))
                obtain ⟨bme, ome, rfl, hbme, hcme⟩ := hMe.sl.int (l := [mh]) (k := 0) (by simp)
                obtain rfl := hMe.off0 (i := 0) (by simp)
                have m0 : w5.cell? ⟨bme, 0, none⟩ = some (.int .i64 mh) := by simpa using hcme
                have y1 : w5.cell? ⟨wr.heap.size, 1, none⟩ = some (.int .i64 l[k].place) := Bt5.cell 1
                have neO := ne_new hO
                have neR := ne_new hR
                clear hcme x0 x1 x2 c0 c1 c2
                have hI5 : w5.drew.cell? ⟨bme, 0, none⟩ = some (.int .i64 mh) ∧ w5.drew.cell? ⟨wr.heap.size, 1, none⟩ = some (.int .i64 l[k].place) := ⟨m0, y1⟩
                have hbt : bme ≠ wr.heap.size := by have := hMe.ownGe bme rfl; have := Bt4.lt; omega
                have hK5 : ∀ (w0 : World) (a c' : Value), (w0.cell? ⟨bme, 0, none⟩ = some (.int .i64 mh) ∧ w0.cell? ⟨wr.heap.size, 1, none⟩ = some (.int .i64 l[k].place)) → ((((w0.setCell ⟨wr.heap.size, 0, none⟩ a).setCell ⟨wr.heap.size, 1, none⟩ (.int .i64 l[k].place)).setCell ⟨wr.heap.size, 2, none⟩ c').cell? ⟨bme, 0, none⟩ = some (.int .i64 mh) ∧ (((w0.setCell ⟨wr.heap.size, 0, none⟩ a).setCell ⟨wr.heap.size, 1, none⟩ (.int .i64 l[k].place)).setCell ⟨wr.heap.size, 2, none⟩ c').cell? ⟨wr.heap.size, 1, none⟩ = some (.int .i64 l[k].place)) := fun w0 a c' ⟨k1, k2⟩ => ⟨cell_far3 k1 hbt, cell_set3 k2⟩
                go_region_held3 (fun w' => w'.cell? ⟨bme, 0, none⟩ = some (.int .i64 mh) ∧ w'.cell? ⟨wr.heap.size, 1, none⟩ = some (.int .i64 l[k].place)) (first | exact hI5 | assumption | exact hK5 _ _ _ (by assumption)) (first | (go_at_call 136; refine (HTH' _).out.mono ?_; rintro e w6 ⟨rfl, hb6⟩; have Bt6 := (show Blk w5.drew _ _ _ from Bt5).below hb6 (by first | exact Bt5.lt | (simp; have := Bt5.lt; omega)); have hO6 := (show Own w5.drew _ _ _ _ _ from hO5).below hb6; have hR6 := (show Own w5.drew _ _ _ _ _ from hR5).below hb6; have hB6 := hB5.drew.trans (hb6.mono hs5); have m6 : w6.cell? ⟨bme, 0, none⟩ = some (.int .i64 mh) := (hb6.cell (p := ⟨bme, 0, none⟩) hbme).trans m0; have t0 : w6.cell? ⟨wr.heap.size, 0, none⟩ = some (.int .i64 l[k].mark) := Bt6.cell 0; have t1 : w6.cell? ⟨wr.heap.size, 1, none⟩ = some (.int .i64 l[k].place) := Bt6.cell 1; have t2 : w6.cell? ⟨wr.heap.size, 2, none⟩ = some (.int .i64 l[k].height) := Bt6.cell 2; have tf0 := Bt6.frozen 0; have tf1 := Bt6.frozen 1; have tf2 := Bt6.frozen 2; have tz := Bt6.lt; have hs6 := hB6.size; have hI6 := And.intro m6 t1))
                all_goals
                  generalize hT : World.setCell (World.setCell (World.setCell w6 ⟨wr.heap.size, 0, none⟩ _) ⟨wr.heap.size, 1, none⟩ _) ⟨wr.heap.size, 2, none⟩ _ = w7
                  have Bt7 : Blk w7 wr.heap.size 46 #[.int .i64 mh, .int .i64 l[k].place, .int .i64 (tickH mh)] := by rw [← hT]; exact ((Bt6.set_ 0 _).set_ 1 _).set_ 2 _
                  have hg7 : w6.grownBy w7 (some wr.heap.size) := by rw [← hT]; exact grownBy_stores [_, _, _] 0 (World.grownBy.refl _ _)
                  have hB7 : Below w.heap.size w w7 := by rw [← hT]; exact (by repeat (first | with_reducible exact hB6 | with_reducible apply below_drewN' | with_reducible apply Below.drew | (with_reducible refine Below.alloc ?_ (by first | omega | (simp; omega) | simp) _) | (with_reducible refine Below.setCell ?_ (by first | omega | (simp; omega) | simp) _) | exact hB6))
                  have hO7 := hO6.kept hg7 neO
                  have hR7 := hR6.kept hg7 neR
                  have hs7 := hB7.size
                  have p0 : w7.cell? ⟨wr.heap.size, 0, none⟩ = some (.int .i64 mh) := Bt7.cell 0
                  have p1 : w7.cell? ⟨wr.heap.size, 1, none⟩ = some (.int .i64 l[k].place) := Bt7.cell 1
                  have p2 : w7.cell? ⟨wr.heap.size, 2, none⟩ = some (.int .i64 (tickH mh)) := Bt7.cell 2
                  clear hT t0 t1 t2 tf0 tf1 tf2 m6 hI6 hI5 hK5 m0 y1
                  go_wp2_with (first | (at_builtin; refine wpList_append_rows _ rfl _ _ _ rfl w.heap.size 46 i1 _ 3 24 Try.underlying27 hi1 hy0 hy1 hy2 rfl (by omega) _ _ rfl (hO7.alloc _) _ _ _ _ ([(⟨mh, l[k].place, tickH mh⟩ : Tick)].map Tick.cells) rfl rfl (Sl.of_blk (Blk.new' _ _ _ rfl) _ rfl (by simp [Tick.cells])) (Tick.one (l := [⟨mh, l[k].place, tickH mh⟩])) (by simp; have := hlo.out; unfold maxLen; omega) (by simp; have := hlo.out; omega) (by simp; omega) ?_; intro v2 w8 hO8 hg2 hat2))
                  go_roundw
                  case rel =>
                    have hA8 := hap.right (v2 := v2) (hR7.alloc (.cells #[.int .i64 mh, .int .i64 l[k].place, .int .i64 (tickH mh)] 46)) hat2
                    exact ⟨k + 1, by omega, by go_num, below_app (hB7.alloc hs7 _) hg2 (by simp; omega) hO7.ownGe, by rw [← Hrt.out]; exact hO8, by rw [← hk1.out]; exact (hR7.alloc _).kept hg2 hap, hA8, hany'⟩
                  case measure => simp [intOf]; omega
              · rw [if_neg (fun h => h1 h.2)] at hfx
                rw [decide_eq_false h1] at hmf
                have hk1 := Lib.hid (hnx.out (by rw [hmf]; rfl))
                have hlen2 : ¬ (Rm.length : Int) = 1 := by omega
                have hrt' := hrt.out
                rw [hfx] at hrt'
                have Hrt := Lib.hid hrt'
                clear hrt hrt' hfx hbd hmf hany hst' hnx hmem hmmk hw HTH hq
                go_wp2_with (first | (go_at_call 96; refine (HMi _).out.mono ?_; rintro e w4 ⟨rfl, hb4⟩; have Bt4 := (Blk.new wr 46 #[.int .i64 l[k].mark, .int .i64 l[k].place, .int .i64 l[k].height]).below hb4 (by first | (simp; done) | (simp; omega)); have hO4 := (hO.alloc (.cells #[.int .i64 l[k].mark, .int .i64 l[k].place, .int .i64 l[k].height] 46)).below hb4; have hR4 := (hR.alloc (.cells #[.int .i64 l[k].mark, .int .i64 l[k].place, .int .i64 l[k].height] 46)).below hb4; have hB4 := (hb.alloc hbs (.cells #[.int .i64 l[k].mark, .int .i64 l[k].place, .int .i64 l[k].height] 46)).trans (hb4.mono (by first | (simp; done) | (simp; omega))); have hs4 := hB4.size; have x0 : w4.cell? ⟨wr.heap.size, 0, none⟩ = some (.int .i64 l[k].mark) := Bt4.cell 0; have x1 : w4.cell? ⟨wr.heap.size, 1, none⟩ = some (.int .i64 l[k].place) := Bt4.cell 1; have x2 : w4.cell? ⟨wr.heap.size, 2, none⟩ = some (.int .i64 l[k].height) := Bt4.cell 2) | (go_at_call 44; refine (HMM _).out.mono ?_; rintro e w5 ⟨Ame, cme, rfl, hMe, hb5⟩; have Bt5 := Bt4.below hb5 Bt4.lt; have hO5 := hO4.below hb5; have hR5 := hR4.below hb5; have hB5 := hB4.trans (hb5.mono hs4); have hs5 := hB5.size; have hz45 := hb5.size) | (at_builtin; refine wpList_append_rows _ rfl _ _ _ rfl w.heap.size 2 i0 _ 1 8 Try.underlying54 hi hz0 hz1 hz2 rfl (by omega) _ _ rfl (hR5.alloc _) _ _ _ _ [ic k] rfl rfl (Sl.of_blk (Blk.new' _ _ _ rfl) _ rfl (by simp [ic])) (ic_one (x := [(k : Int)])) (by simp; have := hlr.out; unfold maxLen; omega) (by simp; have := hlr.out; omega) (by simp; omega) ?_; intro v1 w6 hR6 hg hat; have hB6 := below_app (hB5.alloc hs5 (.cells #[.int .i64 (k : Int)] 2)) hg (by simp; omega) hR.ownGe; have hs6 := hB6.size; have hO6 := (hO5.alloc (.cells #[.int .i64 (k : Int)] 2)).kept hg (hap.swap); have Bt6 : Blk w6 wr.heap.size 46 #[.int .i64 l[k].mark, .int .i64 l[k].place, .int .i64 l[k].height] := (hg.block _ (by simp; have := Bt5.lt; omega) (fun e => by have := (hR.1.lt _ e.symm).2; omega)).trans (Bt5.alloc (.cells #[.int .i64 (k : Int)] 2)); have q0 : w6.cell? ⟨wr.heap.size, 0, none⟩ = some (.int .i64 l[k].mark) := Bt6.cell 0; have q1 : w6.cell? ⟨wr.heap.size, 1, none⟩ = some (.int .i64 l[k].place) := Bt6.cell 1; have q2 : w6.cell? ⟨wr.heap.size, 2, none⟩ = some (.int .i64 l[k].height) := Bt6.cell 2) | (at_builtin; refine wpList_append_rows _ rfl _ _ _ rfl w.heap.size 46 i1 _ 3 24 Try.underlying27 hi1 hy0 hy1 hy2 rfl (by omega) _ _ rfl (hO6.alloc _) _ _ _ _ ([l[k]].map Tick.cells) rfl rfl (Sl.of_blk (Blk.new' _ _ _ rfl) _ rfl (by simp [Tick.cells])) (Tick.one (l := [l[k]])) (by simp; have := hlo.out; unfold maxLen; omega) (by simp; have := hlo.out; omega) (by simp; omega) ?_; intro v2 w7 hO7 hg2 hat2))
                go_roundw
                case rel =>
                  have hA6 := hap.left (v2 := v1) (hO5.alloc (.cells #[.int .i64 (k : Int)] 2)) hat
                  have hA7 := hA6.right (v2 := v2) (hR6.alloc (.cells #[.int .i64 l[k].mark, .int .i64 l[k].place, .int .i64 l[k].height] 46)) hat2
                  exact ⟨k + 1, by omega, by go_num, below_app (hB6.alloc hs6 _) hg2 (by simp; omega) hO6.ownGe, by rw [← Hrt.out]; exact hO7, by rw [← hk1.out]; exact (hR6.alloc _).kept hg2 hA6, hA7, hany'⟩
                case measure => simp [intOf]; omega
        · have : k = l.length := by omega
          subst this
          rw [List.take_length] at hO hnb
          have HR : Hid (rrRes s n l tol step = (l.map (fixT s n tol step), misIdx s n tol (l.map (fixT s n tol step)), 0)) := by
            unfold Hid; rw [hR'.out, hnb.out]; rfl
          have hmi : misIdx s n tol (l.map (fixT s n tol step)) = collect (misAt s n tol (l.map (fixT s n tol step))) (fun i => (i : Int)) l.length := by unfold misIdx; rw [List.length_map]
          rw [← hmi] at hR
          clear hmi
          obtain ⟨A1, c1, rfl, _⟩ := hO.form
          obtain ⟨A2, c2, rfl, _⟩ := hR.form
          go_wp2
          go_ret3
          rw [HR.out]
          refine ⟨A1, c1, A2, c2, by simp, ?_, ?_, ?_, hb⟩
          · simpa using hO
          · simpa using hR
          · simpa [Ap] using hap
  · have HR : Hid (rrRes s n l tol step = ([], [], printCode s n l tol)) := by unfold Hid rrRes; rw [if_neg h0]
    have hne : (printCode s n l tol != 0) = true := by simp [h0]
    have hne2 : (printCode s n l tol == 0) = false := by simp [h0]
    have hC' := Lib.hid hC
    clear h0 hC
    go_enter Try.func70, Try.ntmps70
    go_wp2_with (go_at_call 92; refine hC'.out.mono ?_; rintro e w1 ⟨rfl, hb1⟩)
    go_ret3
    rw [HR.out]
    exact ⟨none, 0, none, 0, rfl, Own.nil_, Own.nil_, .inl rfl, hb1⟩
end Go.Proofs.Ytcpnmeebbbeakaa
