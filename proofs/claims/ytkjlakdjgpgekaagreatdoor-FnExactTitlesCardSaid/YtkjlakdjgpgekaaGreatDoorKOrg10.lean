/- Whether a list of entries is a catalogue: the reference's. Conditions: the lengths. The origin of an entry and what is derived from one: the program's and the reference's. Conditions: the lengths. OriginOf and DerivedFrom: the program's and the reference's. Conditions: the lengths. Lists of entries: the laws' copies and comparison of them. Conditions: the lists' lengths. What a call may have changed: some blocks, and new ones. A great region whose open values are of any kind. Plain. The laws' marks on lists of entries: what they may have changed. Conditions: the lists' lengths, and what the list owns. -/
import Derived.Laws.BytesArg
import Derived.Test.YtkjlakdjgpgekaaGreatDoorKOrg1
import Derived.Test.YtkjlakdjgpgekaaGreatDoorKOrg3
import Derived.Test.YtkjlakdjgpgekaaGreatDoorKOrg4
import Derived.Test.YtkjlakdjgpgekaaGreatDoorKOrg9
set_option linter.unusedSimpArgs false
namespace Go.Proofs.YtkjlakdjgpgekaaGreatDoor
open Go.RowKit
set_option maxRecDepth 100000 in
set_option maxHeartbeats 4000000 in
theorem specIsCat_c (A : Option Addr) (c : Nat) (es : List EnR) (w : World) (E : EnsIn w A es) :
    Calls Tryz.prog 61 #[.slice A es.length c] w fun x w' => x = .returned (.bool (catB (ens es))) ∧ Below w.heap.size w w' := by
  have hl := E.n
  have hs := E.s
  have HT := Lib.hid (fun (k : Nat) (hk : k < es.length) W => l33Title_c es[k].e.ti W (E.i es[k] (List.getElem_mem hk)).t)
  have HV := Lib.hid (fun (k : Nat) (hk : k < es.length) W => l01In_c es[k].e.ve 1 1000 W)
  have HI := Lib.hid (fun (k : Nat) (hk : k < es.length) W => l01In_c es[k].e.ba (-1) ((k : Int) - 1) W)
  have HL := Lib.hid (fun (k : Nat) (hk : k < es.length) W (hW : Below w.heap.size w W) => specIsRl_c es[k].e.r es[k].A es[k].c W ((E.i es[k] (List.getElem_mem hk)).r.later hW))
  have hat := Lib.hid (fun (k : Nat) (hk : k < es.length) => (entAt_get (l := ens es) (k := k) (by rw [ens_len]; exact hk)).trans (by rw [← ens_take, ens_get hk]))
  have hcatE : Hid (catTo (ens es) es.length = true → catB (ens es) = decide (es.length ≤ 12)) := Lib.hid (fun h => by rw [← ens_len es] at h ⊢; exact catB_all h)
  have hbadE : Hid (∀ k, entAt (ens es) k = false → k < es.length → catB (ens es) = false) := Lib.hid (fun k h hk => catB_bad h (by rw [ens_len]; exact hk))
  clear E
  go_enter Tryz.func61, Tryz.ntmps61
  go_wp2_with fail
  go_loopw [3] (fun i wr => ∃ k : Nat, k ≤ es.length ∧ i = .int .i64 k ∧ Below w.heap.size w wr ∧ Hid (catTo (ens es) k = true)) (fun i _ => es.length - (intOf i).toNat)
  case atStart => exact ⟨0, Nat.zero_le _, rfl, Below.refl _ _, Lib.hid rfl⟩
  case round =>
    obtain ⟨k, hk, rfl, hb, hn⟩ := hrel
    by_cases hlt : k < es.length
    · obtain ⟨b, off, rfl, hbB, hc'⟩ := hs.rg (i := k) (by simpa using hlt)
      simp only [List.getElem_map] at hc'
      replace hc' := rangeAt_below hc' hb hbB
      have hnx := Lib.hid ((catTo_succ (ens es) k).trans (by rw [hn.out, Bool.true_and]))
      have hR : Hid (entAt (ens es) k = (titleB es[k].e.ti && inB es[k].e.ve 1 1000 && es[k].e.r.b && inB es[k].e.ba (-1) ((k : Int) - 1) && !basisBad (ens (es.take k)) es[k].e && !(es.take k).any (fun x => sameTV x.e es[k].e))) := Lib.hid (by
        rw [hat.out k hlt]
        unfold entB
        rw [ens_len, List.length_take, Nat.min_eq_left hk]
        unfold ens
        rw [List.any_map]
        rfl)
      replace HT := Lib.hid (HT.out k hlt)
      replace HV := Lib.hid (HV.out k hlt)
      replace HI := Lib.hid (HI.out k hlt)
      replace HL := Lib.hid (HL.out k hlt)
      have hcl : es[k].cells.length = 20 := rfl
      have hlen : (es[k].e.r.cells es[k].A es[k].c).length = 17 := rfl
      have hon : ∀ v ∈ es[k].cells, v.oneCell' = true := es[k].e.one es[k].A es[k].c
      have hbk : Hid (entAt (ens es) k = false → catB (ens es) = false) := Lib.hid (fun h => hbadE.out k h hlt)
      have HB : Hid (∀ W g, Blk W g 57 es[k].cells.toArray → W.cell? ⟨g, 0, none⟩ = some (.string es[k].e.ti) ∧ W.cell? ⟨g, 1, none⟩ = some (.int .i64 es[k].e.ve) ∧ W.rangeAt g 2 (es[k].e.r.cells es[k].A es[k].c) ∧ W.cell? ⟨g, 19, none⟩ = some (.int .i64 es[k].e.ba)) := Lib.hid (fun W g h => h.en)
      have hbas : Hid (∀ j : Nat, (hj : es[k].e.ba = (j : Int)) → (hjk : j < k) → basisBad (ens (es.take k)) es[k].e = ((es[j].e.ti.toList == es[k].e.ti.toList) && decide (es[k].e.ve ≤ es[j].e.ve))) := Lib.hid (fun j hj hjk => by
        unfold basisBad
        rw [hj, decide_eq_true (by omega : (0 : Int) ≤ (j : Int)), Bool.true_and, Int.toNat_natCast, ens_take, List.getElem?_take, if_pos hjk, List.getElem?_eq_getElem (by rw [ens_len]; omega), ens_get (by omega)])
      have hbas0 : Hid (es[k].e.ba = -1 → basisBad (ens (es.take k)) es[k].e = false) := Lib.hid (fun hj => by
        unfold basisBad
        rw [hj]
        rfl)
      have hany : Hid (∀ j : Nat, (hj : j < k) → ((es.take (j + 1)).any (fun x => sameTV x.e es[k].e)) = (((es.take j).any (fun x => sameTV x.e es[k].e)) || ((es[j].e.ti.toList == es[k].e.ti.toList) && (es[j].e.ve == es[k].e.ve)))) := Lib.hid (fun j hj => by
        rw [List.take_succ_eq_append_getElem (by omega), List.any_append]
        simp [sameTV])
      have hany2 : Hid (∀ j : Nat, (hj : j < k) → ((es[j].e.ti.toList == es[k].e.ti.toList) && (es[j].e.ve == es[k].e.ve)) = true → (es.take k).any (fun x => sameTV x.e es[k].e) = true) := Lib.hid (fun j hj h => by
        rw [List.any_eq_true]
        exact ⟨es[j], by rw [List.mem_take_iff_getElem]; exact ⟨j, by omega, rfl⟩, h⟩)
      have hany0 : Hid ((es.take 0).any (fun x => sameTV x.e es[k].e) = false) := Lib.hid (by simp)
      clear hat hbadE
      generalize (fun x : EnR => sameTV x.e es[k].e) = pv at *
      generalize basisBad (ens (es.take k)) es[k].e = bsb at *
      generalize es[k].e.r.cells es[k].A es[k].c = rc at *
      generalize es[k].e.r.b = rb at *
      generalize es[k].e.ti = ti at *
      generalize es[k].e.ve = ve at *
      generalize es[k].e.ba = ba at *
      generalize es[k].cells = cs at *
      generalize entAt (ens es) k = ek at *
      generalize titleB ti = tb at *
      have hbw : Below wr.heap.size wr (wr.alloc (.cells cs.toArray 57)) := (Below.refl _ _).alloc (Nat.le_refl _) _
      have D0 := Blk.new wr 57 cs.toArray
      obtain ⟨x0, x1, x2, x3⟩ := HB.out _ _ D0
      go_wp2_with (first | (refine wpList_load_mid rfl 57 _ rfl (b) (off + k * 20) rfl (cs) _ hc' Tryz.underlying57 rfl (by kernel_rfl) ?_) | (refine wpList_store_new rfl _ _ rfl cs rfl rfl (by rw [hcl]; kernel_rfl) (by rw [hcl]; rfl) hon ?_) | fail)
      replace hb := hb.trans (hbw.mono hb.size)
      clear hbw hc'
      generalize wr.alloc (.cells cs.toArray 57) = W at *
      generalize wr.heap.size = g at *
      refine Calls.mono (HT.out _) ?_; rintro x w1 ⟨rfl, rfl⟩
      cases tb with
      | false =>
        have hr := Lib.hid (hbk.out (by rw [hR.out]; rfl))
        go_wp2
        go_ret
        exact ⟨by rw [hr.out]; rfl, hb⟩
      | true =>
      cases hv : inB ve 1 1000 with
      | false =>
        replace HV := Lib.hid (fun W => by have h := HV.out W; rwa [hv] at h)
        have hr := Lib.hid (hbk.out (by rw [hR.out, hv]; rfl))
        clear hv
        go_wp2_with (go_at_call 89; refine Calls.mono (HV.out _) ?_; rintro x w3 ⟨rfl, rfl⟩)
        go_ret
        exact ⟨by rw [hr.out]; rfl, hb⟩
      | true =>
      replace HV := Lib.hid (fun W => by have h := HV.out W; rwa [hv] at h)
      replace hR := Lib.hid (hR.out.trans (by rw [hv]))
      clear hv
      go_wp2_with (first | (go_at_call 89; refine Calls.mono (HV.out _) ?_; rintro x w3 ⟨rfl, rfl⟩) | (refine wpList_load_g (by rfl) 55 _ rfl g 2 rfl rc _ x2 Tryz.underlying55 rfl (by rw [hlen]; kernel_rfl) ?_) | fail)
      refine Calls.mono (HL.out _ hb) ?_; rintro x w2 ⟨rfl, hb1⟩
      clear x0 x1 x2 x3 HL HV HT
      replace D0 := D0.below hb1 D0.lt
      replace hb := hb.trans (hb1.mono hb.size)
      clear hb1
      obtain ⟨x0, x1, x2, x3⟩ := HB.out _ _ D0
      cases rb with
      | false =>
        have hr := Lib.hid (hbk.out (by rw [hR.out]; rfl))
        go_wp2
        go_ret
        exact ⟨by rw [hr.out]; rfl, hb⟩
      | true =>
      have hwr : IntKind.i64.wrap ((k : Int) - 1) = (k : Int) - 1 := IntWalk.i64_in _ (by omega)
      cases hi : inB ba (-1) ((k : Int) - 1) with
      | false =>
        replace HI := Lib.hid (fun W => by have h := HI.out W; rwa [hi] at h)
        have hr := Lib.hid (hbk.out (by rw [hR.out, hi]; rfl))
        clear hi
        go_wp2_with (go_at_call 89; refine Calls.mono (HI.out _) ?_; rintro x w3 ⟨rfl, rfl⟩)
        go_ret
        exact ⟨by rw [hr.out]; rfl, hb⟩
      | true =>
      replace HI := Lib.hid (fun W => by have h := HI.out W; rwa [hi] at h)
      replace hR := Lib.hid (hR.out.trans (by rw [hi]))
      have hbd := inB_true.1 hi
      clear hi
      go_wp2_with (first | (go_at_call 89; refine Calls.mono (HI.out _) ?_; rintro x w3 ⟨rfl, rfl⟩) | fail)
      clear HI hwr
      by_cases h0 : (0 : Int) ≤ ba
      · obtain ⟨m, rfl⟩ : ∃ m : Nat, ba = (m : Int) := ⟨ba.toNat, by omega⟩
        have hml : m < es.length := by omega
        have hbb := Lib.hid (hbas.out m rfl (by omega))
        obtain ⟨bj, offj, hbe, hbB', hc⟩ := hs.at_ (i := m) (by simpa using hml)
        obtain ⟨rfl, rfl⟩ : b = bj ∧ off = offj := by simpa using hbe
        simp only [List.getElem_map] at hc
        have y0 : w2.cell? ⟨b, off + m * 20, none⟩ = some (.string es[m].e.ti) := (hb.cell (p := ⟨b, off + m * 20, none⟩) hbB).trans (by simpa using hc 0 _ rfl)
        have y1 : w2.cell? ⟨b, off + m * 20 + 1, none⟩ = some (.int .i64 es[m].e.ve) := (hb.cell (p := ⟨b, off + m * 20 + 1, none⟩) hbB).trans (by simpa using hc 1 _ rfl)
        clear hc hbe
        have hj1 : (m : Int) < (es.length : Int) := by omega
        have hj0 : (0 : Int) ≤ (m : Int) := by omega
        have d0 : decide ((m : Int) ≥ 0) = true := decide_eq_true (by omega)
        have d1 : decide ((0 : Int) ≤ (m : Int)) = true := decide_eq_true (by omega)
        generalize es[m].e.ti = tj at *
        generalize es[m].e.ve = vj at *
        cases hq : (tj.toList == ti.toList) with
        | false =>
          replace hbb := Lib.hid (hbb.out.trans (by rw [hq, Bool.false_and]))
          go_quiet (fail)
          clear y0 y1 d0 d1 hj1 hj0 hq
          refine then_world (R := fun V => Blk V g 57 cs.toArray ∧ Below w.heap.size w V) ⟨D0, by first | exact below_drewN' hb _ | exact hb.drew | exact hb⟩ (fun V hV => ?_)
          clear x0 x1 x2 x3 hb D0 hbas hbas0
          obtain ⟨D0, hb⟩ := hV
          go_wp2_with fail
          go_loopw [5] (fun i wr => ∃ j : Nat, j ≤ k ∧ i = .int .i64 j ∧ Below w.heap.size w wr ∧ Blk wr g 57 cs.toArray ∧ Hid ((es.take j).any pv = false)) (fun i _ => k - (intOf i).toNat)
          case atStart => exact ⟨0, Nat.zero_le _, rfl, hb, D0, hany0⟩
          case round =>
            clear hb D0
            obtain ⟨j, hj, rfl, hb, D0, hnj⟩ := hrel
            obtain ⟨x0, x1, x2, x3⟩ := HB.out _ _ D0
            by_cases hjk : j < k
            · have hjl : j < es.length := by omega
              obtain ⟨bj, offj, hbe, hbB', hc⟩ := hs.at_ (i := j) (by simpa using hjl)
              obtain ⟨rfl, rfl⟩ : b = bj ∧ off = offj := by simpa using hbe
              simp only [List.getElem_map] at hc
              have y0 : wr.cell? ⟨b, off + j * 20, none⟩ = some (.string es[j].e.ti) := (hb.cell (p := ⟨b, off + j * 20, none⟩) hbB).trans (by simpa using hc 0 _ rfl)
              have y1 : wr.cell? ⟨b, off + j * 20 + 1, none⟩ = some (.int .i64 es[j].e.ve) := (hb.cell (p := ⟨b, off + j * 20 + 1, none⟩) hbB).trans (by simpa using hc 1 _ rfl)
              have hnj1 := Lib.hid ((hany.out j hjk).trans (by rw [hnj.out, Bool.false_or]))
              have hbad := Lib.hid (hany2.out j hjk)
              have hj1 : (j : Int) < (es.length : Int) := by omega
              have hj0 : (0 : Int) ≤ (j : Int) := by omega
              clear hc hbe
              generalize es[j].e.ti = tj at *
              generalize es[j].e.ve = vj at *
              cases hq : (tj.toList == ti.toList) with
              | false =>
                replace hnj1 := Lib.hid (hnj1.out.trans (by rw [hq, Bool.false_and]))
                go_wp2_with fail
                go_quiet (fail)
                go_wp2
                go_roundw
                case rel => exact ⟨j + 1, by omega, by go_num, (by first | exact below_drewN' hb _ | exact hb.drew | exact hb), D0, hnj1⟩
                case measure => simp [intOf]; omega
              | true =>
                by_cases hvv : vj = ve
                · have d2 : decide (vj = ve) = true := decide_eq_true hvv
                  have d3 : (vj == ve) = true := by simp [hvv]
                  have hr := Lib.hid (hbk.out (by rw [hR.out, hbb.out, hbad.out (by rw [hq, d3]; rfl)]; rfl))
                  go_wp2_with fail
                  go_quiet (fail)
                  go_wp2
                  go_ret
                  exact ⟨by rw [hr.out]; rfl, by first | exact below_drewN' hb _ | exact hb.drew | exact hb⟩
                · have d2 : decide (vj = ve) = false := decide_eq_false hvv
                  have d3 : (vj == ve) = false := by simp [hvv]
                  replace hnj1 := Lib.hid (hnj1.out.trans (by rw [hq, d3, Bool.and_false]))
                  go_wp2_with fail
                  go_quiet (fail)
                  go_wp2
                  go_roundw
                  case rel => exact ⟨j + 1, by omega, by go_num, (by first | exact below_drewN' hb _ | exact hb.drew | exact hb), D0, hnj1⟩
                  case measure => simp [intOf]; omega
            · have : j = k := by omega
              subst this
              have hek := Lib.hid (hR.out.trans (by rw [hbb.out, hnj.out]))
              go_wp2
              go_roundw
              case rel => exact ⟨j + 1, by omega, by go_num, hb, Lib.hid (hnx.out.trans (by rw [hek.out]; rfl))⟩
              case measure => simp [intOf]; omega
        | true =>
          by_cases hvv : ve ≤ vj
          · have d2 : decide (ve ≤ vj) = true := decide_eq_true hvv
            have hr := Lib.hid (hbk.out (by rw [hR.out, hbb.out, hq, d2]; rfl))
            go_quiet (fail)
            go_wp2
            go_ret
            exact ⟨by rw [hr.out]; rfl, by first | exact below_drewN' hb _ | exact hb.drew | exact hb⟩
          · have d2 : decide (ve ≤ vj) = false := decide_eq_false hvv
            replace hbb := Lib.hid (hbb.out.trans (by rw [hq, d2, Bool.true_and]))
            go_quiet (fail)
            clear y0 y1 d0 d1 hj1 hj0 hq d2
            refine then_world (R := fun V => Blk V g 57 cs.toArray ∧ Below w.heap.size w V) ⟨D0, by first | exact below_drewN' hb _ | exact hb.drew | exact hb⟩ (fun V hV => ?_)
            clear x0 x1 x2 x3 hb D0 hbas hbas0
            obtain ⟨D0, hb⟩ := hV
            go_wp2_with fail
            go_loopw [5] (fun i wr => ∃ j : Nat, j ≤ k ∧ i = .int .i64 j ∧ Below w.heap.size w wr ∧ Blk wr g 57 cs.toArray ∧ Hid ((es.take j).any pv = false)) (fun i _ => k - (intOf i).toNat)
            case atStart => exact ⟨0, Nat.zero_le _, rfl, hb, D0, hany0⟩
            case round =>
              clear hb D0
              obtain ⟨j, hj, rfl, hb, D0, hnj⟩ := hrel
              obtain ⟨x0, x1, x2, x3⟩ := HB.out _ _ D0
              by_cases hjk : j < k
              · have hjl : j < es.length := by omega
                obtain ⟨bj, offj, hbe, hbB', hc⟩ := hs.at_ (i := j) (by simpa using hjl)
                obtain ⟨rfl, rfl⟩ : b = bj ∧ off = offj := by simpa using hbe
                simp only [List.getElem_map] at hc
                have y0 : wr.cell? ⟨b, off + j * 20, none⟩ = some (.string es[j].e.ti) := (hb.cell (p := ⟨b, off + j * 20, none⟩) hbB).trans (by simpa using hc 0 _ rfl)
                have y1 : wr.cell? ⟨b, off + j * 20 + 1, none⟩ = some (.int .i64 es[j].e.ve) := (hb.cell (p := ⟨b, off + j * 20 + 1, none⟩) hbB).trans (by simpa using hc 1 _ rfl)
                have hnj1 := Lib.hid ((hany.out j hjk).trans (by rw [hnj.out, Bool.false_or]))
                have hbad := Lib.hid (hany2.out j hjk)
                have hj1 : (j : Int) < (es.length : Int) := by omega
                have hj0 : (0 : Int) ≤ (j : Int) := by omega
                clear hc hbe
                generalize es[j].e.ti = tj at *
                generalize es[j].e.ve = vj at *
                cases hq : (tj.toList == ti.toList) with
                | false =>
                  replace hnj1 := Lib.hid (hnj1.out.trans (by rw [hq, Bool.false_and]))
                  go_wp2_with fail
                  go_quiet (fail)
                  go_wp2
                  go_roundw
                  case rel => exact ⟨j + 1, by omega, by go_num, (by first | exact below_drewN' hb _ | exact hb.drew | exact hb), D0, hnj1⟩
                  case measure => simp [intOf]; omega
                | true =>
                  by_cases hvv : vj = ve
                  · have d2 : decide (vj = ve) = true := decide_eq_true hvv
                    have d3 : (vj == ve) = true := by simp [hvv]
                    have hr := Lib.hid (hbk.out (by rw [hR.out, hbb.out, hbad.out (by rw [hq, d3]; rfl)]; rfl))
                    go_wp2_with fail
                    go_quiet (fail)
                    go_wp2
                    go_ret
                    exact ⟨by rw [hr.out]; rfl, by first | exact below_drewN' hb _ | exact hb.drew | exact hb⟩
                  · have d2 : decide (vj = ve) = false := decide_eq_false hvv
                    have d3 : (vj == ve) = false := by simp [hvv]
                    replace hnj1 := Lib.hid (hnj1.out.trans (by rw [hq, d3, Bool.and_false]))
                    go_wp2_with fail
                    go_quiet (fail)
                    go_wp2
                    go_roundw
                    case rel => exact ⟨j + 1, by omega, by go_num, (by first | exact below_drewN' hb _ | exact hb.drew | exact hb), D0, hnj1⟩
                    case measure => simp [intOf]; omega
              · have : j = k := by omega
                subst this
                have hek := Lib.hid (hR.out.trans (by rw [hbb.out, hnj.out]))
                go_wp2
                go_roundw
                case rel => exact ⟨j + 1, by omega, by go_num, hb, Lib.hid (hnx.out.trans (by rw [hek.out]; rfl))⟩
                case measure => simp [intOf]; omega
      · have hbb := Lib.hid (hbas0.out (by omega))
        obtain rfl : ba = -1 := by omega
        go_quiet (fail)
        refine then_world (R := fun V => Blk V g 57 cs.toArray ∧ Below w.heap.size w V) ⟨D0, by first | exact below_drewN' hb _ | exact hb.drew | exact hb⟩ (fun V hV => ?_)
        clear x0 x1 x2 x3 hb D0 hbas hbas0
        obtain ⟨D0, hb⟩ := hV
        go_wp2_with fail
        go_loopw [5] (fun i wr => ∃ j : Nat, j ≤ k ∧ i = .int .i64 j ∧ Below w.heap.size w wr ∧ Blk wr g 57 cs.toArray ∧ Hid ((es.take j).any pv = false)) (fun i _ => k - (intOf i).toNat)
        case atStart => exact ⟨0, Nat.zero_le _, rfl, hb, D0, hany0⟩
        case round =>
          clear hb D0
          obtain ⟨j, hj, rfl, hb, D0, hnj⟩ := hrel
          obtain ⟨x0, x1, x2, x3⟩ := HB.out _ _ D0
          by_cases hjk : j < k
          · have hjl : j < es.length := by omega
            obtain ⟨bj, offj, hbe, hbB', hc⟩ := hs.at_ (i := j) (by simpa using hjl)
            obtain ⟨rfl, rfl⟩ : b = bj ∧ off = offj := by simpa using hbe
            simp only [List.getElem_map] at hc
            have y0 : wr.cell? ⟨b, off + j * 20, none⟩ = some (.string es[j].e.ti) := (hb.cell (p := ⟨b, off + j * 20, none⟩) hbB).trans (by simpa using hc 0 _ rfl)
            have y1 : wr.cell? ⟨b, off + j * 20 + 1, none⟩ = some (.int .i64 es[j].e.ve) := (hb.cell (p := ⟨b, off + j * 20 + 1, none⟩) hbB).trans (by simpa using hc 1 _ rfl)
            have hnj1 := Lib.hid ((hany.out j hjk).trans (by rw [hnj.out, Bool.false_or]))
            have hbad := Lib.hid (hany2.out j hjk)
            have hj1 : (j : Int) < (es.length : Int) := by omega
            have hj0 : (0 : Int) ≤ (j : Int) := by omega
            clear hc hbe
            generalize es[j].e.ti = tj at *
            generalize es[j].e.ve = vj at *
            cases hq : (tj.toList == ti.toList) with
            | false =>
              replace hnj1 := Lib.hid (hnj1.out.trans (by rw [hq, Bool.false_and]))
              go_wp2_with fail
              go_quiet (fail)
              go_wp2
              go_roundw
              case rel => exact ⟨j + 1, by omega, by go_num, (by first | exact below_drewN' hb _ | exact hb.drew | exact hb), D0, hnj1⟩
              case measure => simp [intOf]; omega
            | true =>
              by_cases hvv : vj = ve
              · have d2 : decide (vj = ve) = true := decide_eq_true hvv
                have d3 : (vj == ve) = true := by simp [hvv]
                have hr := Lib.hid (hbk.out (by rw [hR.out, hbb.out, hbad.out (by rw [hq, d3]; rfl)]; rfl))
                go_wp2_with fail
                go_quiet (fail)
                go_wp2
                go_ret
                exact ⟨by rw [hr.out]; rfl, by first | exact below_drewN' hb _ | exact hb.drew | exact hb⟩
              · have d2 : decide (vj = ve) = false := decide_eq_false hvv
                have d3 : (vj == ve) = false := by simp [hvv]
                replace hnj1 := Lib.hid (hnj1.out.trans (by rw [hq, d3, Bool.and_false]))
                go_wp2_with fail
                go_quiet (fail)
                go_wp2
                go_roundw
                case rel => exact ⟨j + 1, by omega, by go_num, (by first | exact below_drewN' hb _ | exact hb.drew | exact hb), D0, hnj1⟩
                case measure => simp [intOf]; omega
          · have : j = k := by omega
            subst this
            have hek := Lib.hid (hR.out.trans (by rw [hbb.out, hnj.out]))
            go_wp2
            go_roundw
            case rel => exact ⟨j + 1, by omega, by go_num, hb, Lib.hid (hnx.out.trans (by rw [hek.out]; rfl))⟩
            case measure => simp [intOf]; omega
    · have : k = es.length := by omega
      subst this
      have hr := Lib.hid (hcatE.out hn.out)
      clear hcatE hbadE hat
      go_wp2
      go_ret
      exact ⟨by rw [hr.out, show decide (es.length ≤ 12) = decide ((es.length : Int) ≤ 12) from decide_eq_decide.2 (by omega)]; rfl, hb⟩
end Go.Proofs.YtkjlakdjgpgekaaGreatDoor
namespace Go.Proofs.YtkjlakdjgpgekaaGreatDoor
open Go.RowKit
/-- a slice of the call's own while it grows -/
structure AppL (w : World) (e : TypeId) (xs : List (List Value)) (V : Value) (wr : World) : Prop where
  hb : Below w.heap.size w wr
  o : Own wr w.heap.size e 1 V xs
section
variable {w : World} {e : TypeId} {xs ys : List (List Value)} {V V' : Value} {wr w2 : World}
theorem AppL.below (h : AppL w e xs V wr) (hb : Below wr.heap.size wr w2) : AppL w e xs V w2 := ⟨h.hb.trans (hb.mono h.hb.size), h.o.below hb⟩
theorem AppL.alloc (h : AppL w e xs V wr) (ob : Obj) : AppL w e xs V (wr.alloc ob) := h.below ((Below.refl _ _).alloc (Nat.le_refl _) ob)
theorem AppL.app (h : AppL w e xs V wr) (hg : wr.grownBy w2 V.ownBlock) (h2 : Own w2 w.heap.size e 1 V' (xs ++ ys)) : AppL w e (xs ++ ys) V' w2 := ⟨below_app h.hb hg h.hb.size h.o.ownGe, h2⟩
end
def basOf (l : List En) (i : Int) : Int := match l[i.toNat]? with | some e => e.ba | none => -1
def chain (l : List En) : Nat → Int → List Int
  | 0, _ => []
  | n + 1, i => if i < 0 then [] else i :: chain l n (basOf l i)
theorem chain_len (l : List En) : ∀ (n : Nat) (i : Int), (chain l n i).length ≤ n
  | 0, _ => Nat.le_refl _
  | n + 1, i => by
    unfold chain
    split
    · exact Nat.zero_le _
    · have := chain_len l n (basOf l i)
      simp only [List.length_cons]
      omega
theorem chain_neg (l : List En) (n : Nat) {i : Int} (h : i < 0) : chain l n i = [] := by
  cases n with
  | zero => rfl
  | succ n => unfold chain; rw [if_pos h]
theorem chain_next (l : List En) (n : Nat) {i : Int} (h : ¬ i < 0) : chain l (n + 1) i = i :: chain l n (basOf l i) := by
  conv => lhs; unfold chain
  rw [if_neg h]
theorem basOf_get {l : List En} {m : Nat} (hm : m < l.length) : basOf l (m : Int) = l[m].ba := by
  unfold basOf
  rw [Int.toNat_natCast, List.getElem?_eq_getElem hm]
theorem info_Int : (Tryz.prog.info? 2).map (fun i => (i.zero, i.size, i.bytes)) = some (some (.int .i64 0), 1, 8) := by kernel_rfl
theorem catB_ba {l : List En} (h : catB l = true) {m : Nat} (hm : m < l.length) : -1 ≤ l[m].ba ∧ l[m].ba ≤ (m : Int) - 1 := by
  have h1 := entB_ba (catB_at h hm)
  rw [List.length_take, Nat.min_eq_left (by omega)] at h1
  exact h1
set_option maxRecDepth 100000 in
set_option maxHeartbeats 4000000 in
theorem originOf_c (A : Option Addr) (c : Nat) (es : List EnR) (i0 : Int) (w : World) (E : EnsIn w A es) (hv : catB (ens es) = true) (hi0 : -1 ≤ i0 ∧ i0 < (es.length : Int)) :
    Calls Tryz.prog 59 #[.slice A es.length c, .int .i64 i0] w fun x w' => ∃ A' c', x = .returned (.slice A' (chain (ens es) es.length i0).length c') ∧ Own w' w.heap.size 2 1 (.slice A' (chain (ens es) es.length i0).length c') ((chain (ens es) es.length i0).map ic) ∧ Below w.heap.size w w' := by
  have hl := E.n
  have hs := E.s
  have hba := Lib.hid (fun (m : Nat) (hm : m < es.length) => by have h := catB_ba hv (m := m) (by rw [ens_len]; exact hm); rw [ens_get hm] at h; exact h)
  have hbo := Lib.hid (fun (m : Nat) (hm : m < es.length) => (basOf_get (l := ens es) (m := m) (by rw [ens_len]; exact hm)).trans (by rw [ens_get hm]))
  have hcl := Lib.hid (chain_len (ens es) es.length i0)
  have hcn := Lib.hid (fun n i h => @chain_neg (ens es) n i h)
  have hcx := Lib.hid (fun n i h => @chain_next (ens es) n i h)
  obtain ⟨ii, hi, hz0, hz1, hz2⟩ := info_parts info_Int
  clear hv E
  have L0 : AppL w 2 (([] : List Int).map ic) (.slice (some ⟨w.heap.size, 0, none⟩) 0 0) (w.alloc (.cells #[] 2)) := ⟨(by repeat (first | with_reducible exact Below.refl _ _ | with_reducible apply below_drewN' | with_reducible apply Below.drew | (with_reducible refine Below.alloc ?_ (by first | omega | (simp; omega) | simp | (have := (Below.refl _ _).size; omega) | (have := (Below.refl _ _).size; simp; omega)) _) | (with_reducible refine Below.setCell ?_ (by first | omega | (simp; omega) | simp | (have := (Below.refl _ _).size; omega) | (have := (Below.refl _ _).size; simp; omega)) _) | exact Below.refl _ _)), Own.empty (Nat.le_refl _)⟩
  generalize hR0 : chain (ens es) es.length i0 = R at *
  generalize chain (ens es) = ch at *
  have hP0 : Hid ([] ++ ch es.length i0 = R) := Lib.hid hR0
  clear hR0
  go_enter Tryz.func59, Tryz.ntmps59
  go_wp2_with fail
  go_loopw [1, 5] (fun i o wr => ∃ (f : Nat) (j : Int) (P : List Int), i = .int .i64 j ∧ (-1 ≤ j ∧ j < (es.length : Int) ∧ j + 1 ≤ (f : Int)) ∧ Hid (P ++ ch f j = R) ∧ AppL w 2 (P.map ic) o wr) (fun i _ _ => (intOf i + 1).toNat)
  case atStart => exact ⟨es.length, i0, [], rfl, ⟨by omega, by omega, by omega⟩, hP0, L0⟩
  case round =>
    clear L0 hP0
    obtain ⟨f, j, P, rfl, ⟨hj0, hj1, hj2⟩, hP, hL⟩ := hrel
    by_cases hjn : j < 0
    · have hR : P = R := by rw [← hP.out, hcn.out f j hjn, List.append_nil]
      subst hR
      have hO := hL.o
      have hbw := hL.hb
      obtain ⟨A9, c9, hv, _⟩ := hO.form
      rw [List.length_map] at hv
      subst hv
      clear hL
      go_wp2
      go_ret
      exact ⟨A9, c9, rfl, hO, hbw⟩
    · obtain ⟨m, rfl⟩ : ∃ m : Nat, j = (m : Int) := ⟨j.toNat, by omega⟩
      have hml : m < es.length := by omega
      obtain ⟨f, rfl⟩ : ∃ f', f = f' + 1 := ⟨f - 1, by omega⟩
      have hPl : Hid (P.length + 1 ≤ 1048576) := Lib.hid (by
        have h1 := congrArg List.length hP.out
        rw [hcx.out f _ (by omega), List.length_append, List.length_cons] at h1
        have h2 := hcl.out
        omega)
      have hP' : Hid ((P ++ [(m : Int)]) ++ ch f es[m].e.ba = R) := Lib.hid (by rw [← hP.out, hcx.out f _ (by omega), hbo.out m hml, List.append_assoc]; rfl)
      have hbm := hba.out m hml
      obtain ⟨b, off, rfl, hbB, hc⟩ := hs.at_ (i := m) (by simpa using hml)
      simp only [List.getElem_map] at hc
      have HY : Hid (∀ W, Below w.heap.size w W → W.cell? ⟨b, off + m * 20 + 19, none⟩ = some (.int .i64 es[m].e.ba)) := Lib.hid (fun W hW => (hW.cell (p := ⟨b, off + m * 20 + 19, none⟩) hbB).trans (by simpa using hc 19 _ rfl))
      have hj3 : (m : Int) < (es.length : Int) := by omega
      have hj4 : (0 : Int) ≤ (m : Int) := by omega
      have hws := hL.hb.size
      clear hc hP
      generalize es[m].e.ba = ba at *
      have hbl : b < wr.heap.size := Nat.lt_of_lt_of_le hbB hws
      go_wp2_with (at_builtin; refine wpList_append_rows _ rfl _ _ _ rfl w.heap.size 2 ii _ 1 8 Tryz.underlying24 hi hz0 hz1 hz2 rfl (by omega) _ _ rfl (hL.o.alloc _) _ _ _ _ ([(m : Int)].map ic) rfl rfl (Sl.blkInts (Blk.new wr 2 _) [(m : Int)] rfl) (ic_one (x := [(m : Int)])) (by simp; have := hPl.out; unfold maxLen; omega) (by simp; have := hPl.out; omega) (by first | omega | (simp only []; omega) | (simp; omega)) ?_; intro v1 w2 hO2 hg2 hat; have hL2 := (hL.alloc _).app hg2 hO2; have y19 := HY.out w2 hL2.hb)
      go_roundw
      case rel => exact ⟨f, ba, P ++ [(m : Int)], rfl, ⟨by omega, by omega, by omega⟩, hP', by rw [List.map_append]; exact hL2⟩
      case measure => simp [intOf]; omega
set_option maxRecDepth 100000 in
set_option maxHeartbeats 4000000 in
theorem l33Origin_c (A : Option Addr) (c : Nat) (es : List EnR) (i0 : Int) (w : World) (E : EnsIn w A es) (hv : catB (ens es) = true) (hi0 : -1 ≤ i0 ∧ i0 < (es.length : Int)) :
    Calls Tryz.prog 57 #[.slice A es.length c, .int .i64 i0] w fun x w' => ∃ A' c', x = .returned (.slice A' (chain (ens es) es.length i0).length c') ∧ Own w' w.heap.size 2 1 (.slice A' (chain (ens es) es.length i0).length c') ((chain (ens es) es.length i0).map ic) ∧ Below w.heap.size w w' := by
  have hl := E.n
  have hs := E.s
  have hba := Lib.hid (fun (m : Nat) (hm : m < es.length) => by have h := catB_ba hv (m := m) (by rw [ens_len]; exact hm); rw [ens_get hm] at h; exact h)
  have hbo := Lib.hid (fun (m : Nat) (hm : m < es.length) => (basOf_get (l := ens es) (m := m) (by rw [ens_len]; exact hm)).trans (by rw [ens_get hm]))
  have hcl := Lib.hid (chain_len (ens es) es.length i0)
  have hcn := Lib.hid (fun n i h => @chain_neg (ens es) n i h)
  have hcx := Lib.hid (fun n i h => @chain_next (ens es) n i h)
  obtain ⟨ii, hi, hz0, hz1, hz2⟩ := info_parts info_Int
  clear hv E
  have L0 : AppL w 2 (([] : List Int).map ic) (.slice (some ⟨w.heap.size, 0, none⟩) 0 0) (w.alloc (.cells #[] 2)) := ⟨(by repeat (first | with_reducible exact Below.refl _ _ | with_reducible apply below_drewN' | with_reducible apply Below.drew | (with_reducible refine Below.alloc ?_ (by first | omega | (simp; omega) | simp | (have := (Below.refl _ _).size; omega) | (have := (Below.refl _ _).size; simp; omega)) _) | (with_reducible refine Below.setCell ?_ (by first | omega | (simp; omega) | simp | (have := (Below.refl _ _).size; omega) | (have := (Below.refl _ _).size; simp; omega)) _) | exact Below.refl _ _)), Own.empty (Nat.le_refl _)⟩
  generalize hR0 : chain (ens es) es.length i0 = R at *
  generalize chain (ens es) = ch at *
  have hP0 : Hid ([] ++ ch es.length i0 = R) := Lib.hid hR0
  clear hR0
  go_enter Tryz.func57, Tryz.ntmps57
  go_wp2_with fail
  go_loopw [1, 5] (fun i o wr => ∃ (f : Nat) (j : Int) (P : List Int), i = .int .i64 j ∧ (-1 ≤ j ∧ j < (es.length : Int) ∧ j + 1 ≤ (f : Int)) ∧ Hid (P ++ ch f j = R) ∧ AppL w 2 (P.map ic) o wr) (fun i _ _ => (intOf i + 1).toNat)
  case atStart => exact ⟨es.length, i0, [], rfl, ⟨by omega, by omega, by omega⟩, hP0, L0⟩
  case round =>
    clear L0 hP0
    obtain ⟨f, j, P, rfl, ⟨hj0, hj1, hj2⟩, hP, hL⟩ := hrel
    by_cases hjn : j < 0
    · have hR : P = R := by rw [← hP.out, hcn.out f j hjn, List.append_nil]
      subst hR
      have hO := hL.o
      have hbw := hL.hb
      obtain ⟨A9, c9, hv, _⟩ := hO.form
      rw [List.length_map] at hv
      subst hv
      clear hL
      go_wp2
      go_ret
      exact ⟨A9, c9, rfl, hO, hbw⟩
    · obtain ⟨m, rfl⟩ : ∃ m : Nat, j = (m : Int) := ⟨j.toNat, by omega⟩
      have hml : m < es.length := by omega
      obtain ⟨f, rfl⟩ : ∃ f', f = f' + 1 := ⟨f - 1, by omega⟩
      have hPl : Hid (P.length + 1 ≤ 1048576) := Lib.hid (by
        have h1 := congrArg List.length hP.out
        rw [hcx.out f _ (by omega), List.length_append, List.length_cons] at h1
        have h2 := hcl.out
        omega)
      have hP' : Hid ((P ++ [(m : Int)]) ++ ch f es[m].e.ba = R) := Lib.hid (by rw [← hP.out, hcx.out f _ (by omega), hbo.out m hml, List.append_assoc]; rfl)
      have hbm := hba.out m hml
      obtain ⟨b, off, rfl, hbB, hc⟩ := hs.at_ (i := m) (by simpa using hml)
      simp only [List.getElem_map] at hc
      have HY : Hid (∀ W, Below w.heap.size w W → W.cell? ⟨b, off + m * 20 + 19, none⟩ = some (.int .i64 es[m].e.ba)) := Lib.hid (fun W hW => (hW.cell (p := ⟨b, off + m * 20 + 19, none⟩) hbB).trans (by simpa using hc 19 _ rfl))
      have hj3 : (m : Int) < (es.length : Int) := by omega
      have hj4 : (0 : Int) ≤ (m : Int) := by omega
      have hws := hL.hb.size
      clear hc hP
      generalize es[m].e.ba = ba at *
      have hbl : b < wr.heap.size := Nat.lt_of_lt_of_le hbB hws
      go_wp2_with (at_builtin; refine wpList_append_rows _ rfl _ _ _ rfl w.heap.size 2 ii _ 1 8 Tryz.underlying24 hi hz0 hz1 hz2 rfl (by omega) _ _ rfl (hL.o.alloc _) _ _ _ _ ([(m : Int)].map ic) rfl rfl (Sl.blkInts (Blk.new wr 2 _) [(m : Int)] rfl) (ic_one (x := [(m : Int)])) (by simp; have := hPl.out; unfold maxLen; omega) (by simp; have := hPl.out; omega) (by first | omega | (simp only []; omega) | (simp; omega)) ?_; intro v1 w2 hO2 hg2 hat; have hL2 := (hL.alloc _).app hg2 hO2; have y19 := HY.out w2 hL2.hb)
      go_roundw
      case rel => exact ⟨f, ba, P ++ [(m : Int)], rfl, ⟨by omega, by omega, by omega⟩, hP', by rw [List.map_append]; exact hL2⟩
      case measure => simp [intOf]; omega
end Go.Proofs.YtkjlakdjgpgekaaGreatDoor
namespace Go.Proofs.YtkjlakdjgpgekaaGreatDoor
open Go.RowKit
/-- the code of a catalogue and an index -/
def enC (l : List En) (i : Int) : Int := if catB l = true then (if inB i 0 ((l.length : Int) - 1) = true then 0 else 2) else 1
def orgR (l : List En) (i : Int) : List Int := if enC l i = 0 then chain l l.length i else []
def derTo (l : List En) (x : Int) : Nat → List Int
  | 0 => []
  | k + 1 => if x ∈ chain l l.length (k : Int) then derTo l x k ++ [(k : Int)] else derTo l x k
def derR (l : List En) (i : Int) : List Int := if enC l i = 0 then derTo l i l.length else []
theorem derTo_len (l : List En) (x : Int) : ∀ k : Nat, (derTo l x k).length ≤ k
  | 0 => Nat.le_refl _
  | k + 1 => by
    have := derTo_len l x k
    unfold derTo
    split
    · simp; omega
    · omega
theorem orgR_len (l : List En) (i : Int) : (orgR l i).length ≤ l.length := by
  unfold orgR
  split
  · exact chain_len _ _ _
  · exact Nat.zero_le _
theorem derR_len (l : List En) (i : Int) : (derR l i).length ≤ l.length := by
  unfold derR
  split
  · exact derTo_len _ _ _
  · exact Nat.zero_le _
theorem enC_zero {l : List En} {i : Int} (h : enC l i = 0) : catB l = true ∧ 0 ≤ i ∧ i < (l.length : Int) := by
  unfold enC at h
  split at h
  · split at h
    · rename_i h1 h2
      have := inB_true.1 h2
      exact ⟨h1, by omega, by omega⟩
    · cases h
  · cases h
theorem enC_or (l : List En) (i : Int) : enC l i = 0 ∨ enC l i = 1 ∨ enC l i = 2 := by
  unfold enC
  split
  · split
    · exact .inl rfl
    · exact .inr (.inr rfl)
  · exact .inr (.inl rfl)
set_option maxRecDepth 100000 in
theorem checkEntry_c (A : Option Addr) (c : Nat) (es : List EnR) (i : Int) (w : World) (E : EnsIn w A es) (hc : es.length ≤ c) :
    Calls Tryz.prog 58 #[.slice A es.length c, .int .i64 i] w fun x w' => x = .returned (.int .i64 (enC (ens es) i)) ∧ Below w.heap.size w w' := by
  have hl := E.n
  have hc' : Hid (es.length ≤ c) := hc
  have HC := Lib.hid (implIsCat_c A c es w E hc)
  have HI := Lib.hid (fun W => within_c i 0 ((es.length : Int) - 1) W)
  have hR : Hid (enC (ens es) i = if catB (ens es) = true then (if inB i 0 ((es.length : Int) - 1) = true then 0 else 2) else 1) := Lib.hid (by unfold enC; rw [ens_len])
  have hw : IntKind.i64.wrap ((es.length : Int) - 1) = (es.length : Int) - 1 := IntWalk.i64_in _ (by omega)
  clear E hc hc'
  generalize catB (ens es) = cb at *
  generalize inB i 0 ((es.length : Int) - 1) = bi at *
  generalize enC (ens es) i = r at *
  cases cb with
  | false =>
    obtain rfl := hR.out
    go_enter Tryz.func58, Tryz.ntmps58
    go_wp2_with fail
    refine Calls.mono HC.out ?_; rintro x w1 ⟨rfl, hb1⟩
    go_wp2
    go_ret
    exact ⟨rfl, hb1⟩
  | true =>
  cases bi with
  | false =>
    obtain rfl := hR.out
    go_enter Tryz.func58, Tryz.ntmps58
    go_wp2_with fail
    refine Calls.mono HC.out ?_; rintro x w1 ⟨rfl, hb1⟩
    go_wp2_with (go_at_call 90; refine Calls.mono (HI.out _) ?_; rintro x w3 ⟨rfl, rfl⟩)
    go_ret
    exact ⟨rfl, hb1⟩
  | true =>
    obtain rfl := hR.out
    go_enter Tryz.func58, Tryz.ntmps58
    go_wp2_with fail
    refine Calls.mono HC.out ?_; rintro x w1 ⟨rfl, hb1⟩
    go_wp2_with (go_at_call 90; refine Calls.mono (HI.out _) ?_; rintro x w3 ⟨rfl, rfl⟩)
    go_ret
    exact ⟨rfl, hb1⟩
set_option maxRecDepth 100000 in
theorem l33Code_c (A : Option Addr) (c : Nat) (es : List EnR) (i : Int) (w : World) (E : EnsIn w A es) (hc : es.length ≤ c) :
    Calls Tryz.prog 56 #[.slice A es.length c, .int .i64 i] w fun x w' => x = .returned (.int .i64 (enC (ens es) i)) ∧ Below w.heap.size w w' := by
  have hl := E.n
  have hc' : Hid (es.length ≤ c) := hc
  have HC := Lib.hid (specIsCat_c A c es w E)
  have HI := Lib.hid (fun W => l01In_c i 0 ((es.length : Int) - 1) W)
  have hR : Hid (enC (ens es) i = if catB (ens es) = true then (if inB i 0 ((es.length : Int) - 1) = true then 0 else 2) else 1) := Lib.hid (by unfold enC; rw [ens_len])
  have hw : IntKind.i64.wrap ((es.length : Int) - 1) = (es.length : Int) - 1 := IntWalk.i64_in _ (by omega)
  clear E hc hc'
  generalize catB (ens es) = cb at *
  generalize inB i 0 ((es.length : Int) - 1) = bi at *
  generalize enC (ens es) i = r at *
  cases cb with
  | false =>
    obtain rfl := hR.out
    go_enter Tryz.func56, Tryz.ntmps56
    go_wp2_with fail
    refine Calls.mono HC.out ?_; rintro x w1 ⟨rfl, hb1⟩
    go_wp2
    go_ret
    exact ⟨rfl, hb1⟩
  | true =>
  cases bi with
  | false =>
    obtain rfl := hR.out
    go_enter Tryz.func56, Tryz.ntmps56
    go_wp2_with fail
    refine Calls.mono HC.out ?_; rintro x w1 ⟨rfl, hb1⟩
    go_wp2_with (go_at_call 89; refine Calls.mono (HI.out _) ?_; rintro x w3 ⟨rfl, rfl⟩)
    go_ret
    exact ⟨rfl, hb1⟩
  | true =>
    obtain rfl := hR.out
    go_enter Tryz.func56, Tryz.ntmps56
    go_wp2_with fail
    refine Calls.mono HC.out ?_; rintro x w1 ⟨rfl, hb1⟩
    go_wp2_with (go_at_call 89; refine Calls.mono (HI.out _) ?_; rintro x w3 ⟨rfl, rfl⟩)
    go_ret
    exact ⟨rfl, hb1⟩
set_option maxRecDepth 100000 in
theorem implOriginOf_c (A : Option Addr) (c : Nat) (es : List EnR) (i : Int) (w : World) (E : EnsIn w A es) (hc : es.length ≤ c) :
    Calls Tryz.prog 13 #[.slice A es.length c, .int .i64 i] w (PostRows 2 1 (orgR (ens es) i).length ((orgR (ens es) i).map ic) (enC (ens es) i) w) := by
  have HC := Lib.hid (checkEntry_c A c es i w E hc)
  have HO := Lib.hid (fun (h : enC (ens es) i = 0) W (hW : Below w.heap.size w W) => originOf_c A c es i W (E.later hW) (enC_zero h).1 (by have h2 := (enC_zero h).2; rw [ens_len] at h2; omega))
  have hR : Hid (orgR (ens es) i = if enC (ens es) i = 0 then chain (ens es) es.length i else []) := Lib.hid (by unfold orgR; rw [ens_len])
  have hor := enC_or (ens es) i
  clear E hc
  generalize orgR (ens es) i = R at *
  generalize chain (ens es) es.length i = ch at *
  generalize enC (ens es) i = r at *
  go_enter Tryz.func13, Tryz.ntmps13
  go_wp2_with fail
  refine Calls.mono HC.out ?_; rintro x w1 ⟨rfl, hb1⟩
  rcases hor with rfl | rfl | rfl
  · rw [if_pos rfl] at hR
    have hcall := Lib.hid (HO.out rfl w1 hb1)
    go_wp2_with fail
    refine Calls.mono hcall.out ?_; rintro x w2 ⟨A2, c2, rfl, hO, hb2⟩
    obtain rfl := hR.out
    have hb := hb1.trans (hb2.mono hb1.size)
    have hO' := hO.mono hb1.size
    clear hO hcall
    go_wp2
    go_ret2
    exact ⟨A2, c2, rfl, hO', hb⟩
  · obtain rfl := hR.out
    go_wp2
    go_ret2
    exact ⟨none, 0, rfl, Own.nil_, hb1⟩
  · obtain rfl := hR.out
    go_wp2
    go_ret2
    exact ⟨none, 0, rfl, Own.nil_, hb1⟩
set_option maxRecDepth 100000 in
theorem specOriginOf_c (A : Option Addr) (c : Nat) (es : List EnR) (i : Int) (w : World) (E : EnsIn w A es) (hc : es.length ≤ c) :
    Calls Tryz.prog 11 #[.slice A es.length c, .int .i64 i] w (PostRows 2 1 (orgR (ens es) i).length ((orgR (ens es) i).map ic) (enC (ens es) i) w) := by
  have HC := Lib.hid (l33Code_c A c es i w E hc)
  have HO := Lib.hid (fun (h : enC (ens es) i = 0) W (hW : Below w.heap.size w W) => l33Origin_c A c es i W (E.later hW) (enC_zero h).1 (by have h2 := (enC_zero h).2; rw [ens_len] at h2; omega))
  have hR : Hid (orgR (ens es) i = if enC (ens es) i = 0 then chain (ens es) es.length i else []) := Lib.hid (by unfold orgR; rw [ens_len])
  have hor := enC_or (ens es) i
  clear E hc
  generalize orgR (ens es) i = R at *
  generalize chain (ens es) es.length i = ch at *
  generalize enC (ens es) i = r at *
  go_enter Tryz.func11, Tryz.ntmps11
  go_wp2_with fail
  refine Calls.mono HC.out ?_; rintro x w1 ⟨rfl, hb1⟩
  rcases hor with rfl | rfl | rfl
  · rw [if_pos rfl] at hR
    have hcall := Lib.hid (HO.out rfl w1 hb1)
    go_wp2_with fail
    refine Calls.mono hcall.out ?_; rintro x w2 ⟨A2, c2, rfl, hO, hb2⟩
    obtain rfl := hR.out
    have hb := hb1.trans (hb2.mono hb1.size)
    have hO' := hO.mono hb1.size
    clear hO hcall
    go_wp2
    go_ret2
    exact ⟨A2, c2, rfl, hO', hb⟩
  · obtain rfl := hR.out
    go_wp2
    go_ret2
    exact ⟨none, 0, rfl, Own.nil_, hb1⟩
  · obtain rfl := hR.out
    go_wp2
    go_ret2
    exact ⟨none, 0, rfl, Own.nil_, hb1⟩
set_option maxRecDepth 100000 in
set_option maxHeartbeats 4000000 in
theorem implDerivedFrom_c (A : Option Addr) (c : Nat) (es : List EnR) (i : Int) (w : World) (E : EnsIn w A es) (hc : es.length ≤ c) :
    Calls Tryz.prog 22 #[.slice A es.length c, .int .i64 i] w (PostRows 2 1 (derR (ens es) i).length ((derR (ens es) i).map ic) (enC (ens es) i) w) := by
  have hl := E.n
  have HC := Lib.hid (checkEntry_c A c es i w E hc)
  have HO := Lib.hid (fun (h : enC (ens es) i = 0) (k : Nat) (hk : k < es.length) W (hW : Below w.heap.size w W) => originOf_c A c es (k : Int) W (E.later hW) (enC_zero h).1 (by omega))
  have hR : Hid (derR (ens es) i = if enC (ens es) i = 0 then derTo (ens es) i es.length else []) := Lib.hid (by unfold derR; rw [ens_len])
  have hds := Lib.hid (fun k : Nat => (by rw [← ens_len es]; rfl : derTo (ens es) i (k + 1) = if i ∈ chain (ens es) es.length (k : Int) then derTo (ens es) i k ++ [(k : Int)] else derTo (ens es) i k))
  have hdl := Lib.hid (derTo_len (ens es) i)
  have hd0 : Hid (derTo (ens es) i 0 = []) := Lib.hid rfl
  have hchl := Lib.hid (fun k : Nat => chain_len (ens es) es.length (k : Int))
  have hor := enC_or (ens es) i
  obtain ⟨ii, hi, hz0, hz1, hz2⟩ := info_parts info_Int
  clear E hc
  generalize derR (ens es) i = R at *
  generalize derTo (ens es) i = dt at *
  generalize (fun k : Int => chain (ens es) es.length k) = ch at *
  generalize enC (ens es) i = r at *
  go_enter Tryz.func22, Tryz.ntmps22
  go_wp2_with fail
  refine Calls.mono HC.out ?_; rintro x w1 ⟨rfl, hb1⟩
  rcases hor with rfl | rfl | rfl
  · replace hR := Lib.hid (hR.out.trans (if_pos rfl))
    replace HO := Lib.hid (HO.out rfl)
    have L0 : AppL w 2 ((dt 0).map ic) (.slice (some ⟨w1.heap.size, 0, none⟩) 0 0) (w1.alloc (.cells #[] 2)) := ⟨(by repeat (first | with_reducible exact hb1 | with_reducible apply below_drewN' | with_reducible apply Below.drew | (with_reducible refine Below.alloc ?_ (by first | omega | (simp; omega) | simp | (have := (hb1).size; omega) | (have := (hb1).size; simp; omega)) _) | (with_reducible refine Below.setCell ?_ (by first | omega | (simp; omega) | simp | (have := (hb1).size; omega) | (have := (hb1).size; simp; omega)) _) | exact hb1)), by rw [hd0.out]; exact Own.empty hb1.size⟩
    go_wp2_with fail
    go_loopw [7, 18] (fun o i wr => ∃ k : Nat, k ≤ es.length ∧ i = .int .i64 k ∧ AppL w 2 ((dt k).map ic) o wr) (fun _ i _ => es.length - (intOf i).toNat)
    case atStart => exact ⟨0, Nat.zero_le _, rfl, L0⟩
    case round =>
      clear L0
      obtain ⟨k, hk, rfl, hL⟩ := hrel
      by_cases hlt : k < es.length
      · have hcall := Lib.hid (HO.out k hlt _ hL.hb)
        have hnx := Lib.hid (hds.out k)
        have hkl := Lib.hid (hdl.out k)
        have hcl := Lib.hid (hchl.out k)
        generalize chain (ens es) es.length (k : Int) = X at *
        go_wp2_with fail
        refine Calls.mono hcall.out ?_; rintro x w2 ⟨A2, c2, rfl, hO, hb2⟩
        replace hL := hL.below hb2
        have hcon := Lib.hid (containsInt_c A2 c2 X i w2 (by have := hcl.out; omega) hO.sl)
        clear hcall hb2 hO
        by_cases hm : i ∈ X
        · rw [decide_eq_true hm] at hcon
          replace hnx := Lib.hid (hnx.out.trans (if_pos hm))
          have hws := hL.hb.size
          go_wp2_with (first | (go_at_call 64; refine Calls.mono hcon.out ?_; rintro x w3 ⟨rfl, rfl⟩) | (at_builtin; refine wpList_append_rows _ rfl _ _ _ rfl w.heap.size 2 ii _ 1 8 Tryz.underlying24 hi hz0 hz1 hz2 rfl (by omega) _ _ rfl (hL.o.alloc _) _ _ _ _ ([(k : Int)].map ic) rfl rfl (Sl.blkInts (Blk.new w2 2 _) [(k : Int)] rfl) (ic_one (x := [(k : Int)])) (by simp; have := hkl.out; unfold maxLen; omega) (by simp; have := hkl.out; omega) (by first | omega | (simp only []; omega) | (simp; omega)) ?_; intro v1 w3 hO2 hg2 hat; have hL2 := (hL.alloc _).app hg2 hO2))
          go_roundw
          case rel => exact ⟨k + 1, by omega, by go_num, by rw [hnx.out, List.map_append]; exact hL2⟩
          case measure => simp [intOf]; omega
        · rw [decide_eq_false hm] at hcon
          replace hnx := Lib.hid (hnx.out.trans (if_neg hm))
          go_wp2_with (go_at_call 64; refine Calls.mono hcon.out ?_; rintro x w3 ⟨rfl, rfl⟩)
          go_roundw
          case rel => exact ⟨k + 1, by omega, by go_num, by rw [hnx.out]; exact hL⟩
          case measure => simp [intOf]; omega
      · have : k = es.length := by omega
        subst this
        have hO := hL.o
        have hbw := hL.hb
        rw [← hR.out] at hO
        obtain ⟨A9, c9, hv, _⟩ := hO.form
        rw [List.length_map] at hv
        subst hv
        clear hL
        go_wp2
        go_ret2
        exact ⟨A9, c9, rfl, hO, hbw⟩
  · obtain rfl := hR.out
    go_wp2
    go_ret2
    exact ⟨none, 0, rfl, Own.nil_, hb1⟩
  · obtain rfl := hR.out
    go_wp2
    go_ret2
    exact ⟨none, 0, rfl, Own.nil_, hb1⟩
set_option maxRecDepth 100000 in
set_option maxHeartbeats 4000000 in
theorem specDerivedFrom_c (A : Option Addr) (c : Nat) (es : List EnR) (i : Int) (w : World) (E : EnsIn w A es) (hc : es.length ≤ c) :
    Calls Tryz.prog 21 #[.slice A es.length c, .int .i64 i] w (PostRows 2 1 (derR (ens es) i).length ((derR (ens es) i).map ic) (enC (ens es) i) w) := by
  have hl := E.n
  have HC := Lib.hid (l33Code_c A c es i w E hc)
  have HO := Lib.hid (fun (h : enC (ens es) i = 0) (k : Nat) (hk : k < es.length) W (hW : Below w.heap.size w W) => l33Origin_c A c es (k : Int) W (E.later hW) (enC_zero h).1 (by omega))
  have hR : Hid (derR (ens es) i = if enC (ens es) i = 0 then derTo (ens es) i es.length else []) := Lib.hid (by unfold derR; rw [ens_len])
  have hds := Lib.hid (fun k : Nat => (by rw [← ens_len es]; rfl : derTo (ens es) i (k + 1) = if i ∈ chain (ens es) es.length (k : Int) then derTo (ens es) i k ++ [(k : Int)] else derTo (ens es) i k))
  have hdl := Lib.hid (derTo_len (ens es) i)
  have hd0 : Hid (derTo (ens es) i 0 = []) := Lib.hid rfl
  have hchl := Lib.hid (fun k : Nat => chain_len (ens es) es.length (k : Int))
  have hor := enC_or (ens es) i
  obtain ⟨ii, hi, hz0, hz1, hz2⟩ := info_parts info_Int
  clear E hc
  generalize derR (ens es) i = R at *
  generalize derTo (ens es) i = dt at *
  generalize (fun k : Int => chain (ens es) es.length k) = ch at *
  generalize enC (ens es) i = r at *
  go_enter Tryz.func21, Tryz.ntmps21
  go_wp2_with fail
  refine Calls.mono HC.out ?_; rintro x w1 ⟨rfl, hb1⟩
  rcases hor with rfl | rfl | rfl
  · replace hR := Lib.hid (hR.out.trans (if_pos rfl))
    replace HO := Lib.hid (HO.out rfl)
    have L0 : AppL w 2 ((dt 0).map ic) (.slice (some ⟨w1.heap.size, 0, none⟩) 0 0) (w1.alloc (.cells #[] 2)) := ⟨(by repeat (first | with_reducible exact hb1 | with_reducible apply below_drewN' | with_reducible apply Below.drew | (with_reducible refine Below.alloc ?_ (by first | omega | (simp; omega) | simp | (have := (hb1).size; omega) | (have := (hb1).size; simp; omega)) _) | (with_reducible refine Below.setCell ?_ (by first | omega | (simp; omega) | simp | (have := (hb1).size; omega) | (have := (hb1).size; simp; omega)) _) | exact hb1)), by rw [hd0.out]; exact Own.empty hb1.size⟩
    go_wp2_with fail
    go_loopw [7, 8] (fun o i wr => ∃ k : Nat, k ≤ es.length ∧ i = .int .i64 k ∧ AppL w 2 ((dt k).map ic) o wr) (fun _ i _ => es.length - (intOf i).toNat)
    case atStart => exact ⟨0, Nat.zero_le _, rfl, L0⟩
    case round =>
      clear L0
      obtain ⟨k, hk, rfl, hL⟩ := hrel
      by_cases hlt : k < es.length
      · have hcall := Lib.hid (HO.out k hlt _ hL.hb)
        have hnx := Lib.hid (hds.out k)
        have hkl := Lib.hid (hdl.out k)
        have hcl := Lib.hid (hchl.out k)
        generalize chain (ens es) es.length (k : Int) = X at *
        go_wp2_with fail
        refine Calls.mono hcall.out ?_; rintro x w2 ⟨A2, c2, rfl, hO, hb2⟩
        replace hL := hL.below hb2
        have hcon := Lib.hid (l01Has_c A2 c2 X i w2 (by have := hcl.out; omega) hO.sl)
        clear hcall hb2 hO
        by_cases hm : i ∈ X
        · rw [decide_eq_true hm] at hcon
          replace hnx := Lib.hid (hnx.out.trans (if_pos hm))
          have hws := hL.hb.size
          go_wp2_with (first | (go_at_call 63; refine Calls.mono hcon.out ?_; rintro x w3 ⟨rfl, rfl⟩) | (at_builtin; refine wpList_append_rows _ rfl _ _ _ rfl w.heap.size 2 ii _ 1 8 Tryz.underlying24 hi hz0 hz1 hz2 rfl (by omega) _ _ rfl (hL.o.alloc _) _ _ _ _ ([(k : Int)].map ic) rfl rfl (Sl.blkInts (Blk.new w2 2 _) [(k : Int)] rfl) (ic_one (x := [(k : Int)])) (by simp; have := hkl.out; unfold maxLen; omega) (by simp; have := hkl.out; omega) (by first | omega | (simp only []; omega) | (simp; omega)) ?_; intro v1 w3 hO2 hg2 hat; have hL2 := (hL.alloc _).app hg2 hO2))
          go_roundw
          case rel => exact ⟨k + 1, by omega, by go_num, by rw [hnx.out, List.map_append]; exact hL2⟩
          case measure => simp [intOf]; omega
        · rw [decide_eq_false hm] at hcon
          replace hnx := Lib.hid (hnx.out.trans (if_neg hm))
          go_wp2_with (go_at_call 63; refine Calls.mono hcon.out ?_; rintro x w3 ⟨rfl, rfl⟩)
          go_roundw
          case rel => exact ⟨k + 1, by omega, by go_num, by rw [hnx.out]; exact hL⟩
          case measure => simp [intOf]; omega
      · have : k = es.length := by omega
        subst this
        have hO := hL.o
        have hbw := hL.hb
        rw [← hR.out] at hO
        obtain ⟨A9, c9, hv, _⟩ := hO.form
        rw [List.length_map] at hv
        subst hv
        clear hL
        go_wp2
        go_ret2
        exact ⟨A9, c9, rfl, hO, hbw⟩
  · obtain rfl := hR.out
    go_wp2
    go_ret2
    exact ⟨none, 0, rfl, Own.nil_, hb1⟩
  · obtain rfl := hR.out
    go_wp2
    go_ret2
    exact ⟨none, 0, rfl, Own.nil_, hb1⟩
end Go.Proofs.YtkjlakdjgpgekaaGreatDoor
namespace Go.Proofs.YtkjlakdjgpgekaaGreatDoor
open Go.RowKit
def EnR.sl (x : EnR) : Value := .slice x.A x.e.r.l.length x.c
/-- two entries whose powers lie apart -/
def EnR.apart (x y : EnR) : Prop := ∀ g, x.sl.ownBlock = some g → y.sl.ownBlock ≠ some g
theorem own_ne_of_off {w : World} {base : Nat} {e : TypeId} {k n c g : Nat} {A : Option Addr} {xs : List (List Value)} (h : Own w base e k (.slice A n c) xs) (ho : OffE A g) : (Value.slice A n c).ownBlock = none ∨ (Value.slice A n c).ownBlock ≠ some g := by
  rcases h.1.2 with ⟨hv, _⟩ | ⟨b, cap, cur, hv, _⟩
  · obtain ⟨rfl, _, _⟩ : A = none ∧ _ ∧ _ := by simpa using hv
    exact .inl rfl
  · obtain ⟨rfl, _, _⟩ : A = some ⟨b, 0, none⟩ ∧ _ ∧ _ := by simpa using hv
    refine .inr fun hh => ?_
    have hb : b = g := by simpa [Value.ownBlock] using hh
    exact ho b 0 rfl hb
theorem info_Entry : (Tryz.prog.info? 57).map (fun i => (i.zero, i.size, i.bytes)) = some (some (.agg EnZ.toArray), 20, 192) := by kernel_rfl
/-- copies so far: k of them, in block g -/
structure CopyE (w : World) (es : List EnR) (g k : Nat) (fs : List EnR) (wr : World) : Prop where
  hb : Below w.heap.size w wr
  fk : fs.length = k
  o : Own wr w.heap.size 57 20 (.slice (some ⟨g, 0, none⟩) es.length es.length) (fs.map EnR.cells ++ List.replicate (es.length - k) EnZ)
  i : ∀ f ∈ fs, f.In wr ∧ OffE f.A g
  s : ens fs = (ens es).take k
  p : ∀ f ∈ fs, Own wr w.heap.size 2 1 f.sl (f.e.r.l.map ic)
  d : fs.Pairwise EnR.apart
theorem CopyE.below {w : World} {es : List EnR} {g k : Nat} {fs : List EnR} {wr w2 : World} (h : CopyE w es g k fs wr) (hb : Below wr.heap.size wr w2) : CopyE w es g k fs w2 :=
  ⟨h.hb.trans (hb.mono h.hb.size), h.fk, h.o.below hb, fun f hf => ⟨EnIn.later (h.i f hf).1 hb, (h.i f hf).2⟩, h.s, fun f hf => (h.p f hf).below hb, h.d⟩
theorem rowsE_put {xs : List (List Value)} {z x : List Value} {k n : Nat} (hk : xs.length = k) (hn : k < n) : (xs ++ List.replicate (n - k) z).set k x = (xs ++ [x]) ++ List.replicate (n - (k + 1)) z := by
  subst hk
  rw [List.set_append_right _ _ (Nat.le_refl _), Nat.sub_self]
  obtain ⟨m, hm⟩ : ∃ m, n - xs.length = m + 1 := ⟨n - xs.length - 1, by omega⟩
  rw [hm, show n - (xs.length + 1) = m from by omega, List.replicate_succ, List.set_cons_zero]
  simp
theorem CopyE.next {w : World} {es : List EnR} {g k : Nat} {fs : List EnR} {w2 : World} (h : CopyE w es g k fs w2) (hk : k < es.length) {f : EnR} (hf : f.e = es[k].e) (hi : f.In w2) (hff : OffE f.A g) (hg : w.heap.size ≤ g)
    {B : Nat} (ho : Own w2 B 2 1 f.sl (f.e.r.l.map ic)) (hBw : w.heap.size ≤ B) (hB : ∀ x ∈ fs, ∀ b, x.sl.ownBlock = some b → b < B) :
    CopyE w es g (k + 1) (fs ++ [f]) (stores w2 g (k * 20) f.cells) := by
  have hst := grownBy_stores f.cells (k * 20) (World.grownBy.refl w2 (some g))
  refine ⟨stores_below hg f.cells (k * 20) h.hb, by simp [h.fk], ?_, fun x hx => ?_, ?_, fun x hx => ?_, ?_⟩
  · have h' := h.o.store (i := k) (by simp [h.fk]; omega) f.cells rfl
    rw [rowsE_put (by simp [h.fk]) hk] at h'
    rw [List.map_append]
    exact h'
  · rcases List.mem_append.1 hx with hx | hx
    · exact ⟨EnR.In.stores (h.i x hx).2 _ _ (h.i x hx).1, (h.i x hx).2⟩
    · obtain rfl : x = f := by simpa using hx
      exact ⟨EnR.In.stores hff _ _ hi, hff⟩
  · have hkl : k < (ens es).length := by simpa [ens] using hk
    rw [List.take_succ_eq_append_getElem hkl, ← h.s]
    simp [ens, hf]
  · rcases List.mem_append.1 hx with hx | hx
    · exact (h.p x hx).kept hst (own_ne_of_off (h.p x hx) (h.i x hx).2)
    · obtain rfl : x = f := by simpa using hx
      exact (ho.mono hBw).kept hst (own_ne_of_off ho hff)
  · rw [List.pairwise_append]
    refine ⟨h.d, List.pairwise_singleton _ _, fun x hx y hy => ?_⟩
    obtain rfl : y = f := by simpa using hy
    intro b hb hy2
    have h1 := hB x hx b hb
    have h2 := ho.ownGe b hy2
    omega
/-- a copy of a list of entries -/
def EnsCopy (es : List EnR) (v : Value) (w' : World) (base : Nat) : Prop := ∃ A' c' fs, v = .slice A' es.length c' ∧ fs.length = es.length ∧ ens fs = ens es ∧ es.length ≤ c' ∧ EnsIn w' A' fs ∧ Own w' base 57 20 (.slice A' es.length c') (fs.map EnR.cells)
theorem EnsCopy.below {es : List EnR} {v : Value} {w w' : World} {base : Nat} (h : EnsCopy es v w base) (hb : Below w.heap.size w w') : EnsCopy es v w' base := by
  obtain ⟨A', c', fs, h1, h2, h3, h4, h5, h6⟩ := h
  exact ⟨A', c', fs, h1, h2, h3, h4, h5.later hb, h6.below hb⟩
/-- the same, and what the copy owns: its powers, each apart from the others -/
def EnsCopyO (es : List EnR) (v : Value) (w' : World) (base : Nat) : Prop := ∃ A' c' fs, v = .slice A' es.length c' ∧ fs.length = es.length ∧ ens fs = ens es ∧ es.length ≤ c' ∧ EnsIn w' A' fs ∧ Own w' base 57 20 (.slice A' es.length c') (fs.map EnR.cells) ∧
  (∀ f ∈ fs, Own w' base 2 1 f.sl (f.e.r.l.map ic) ∧ ∀ g, A' = some ⟨g, 0, none⟩ → OffE f.A g) ∧ fs.Pairwise EnR.apart
/-- a struct stored into a row of a slice of one's own -/
theorem wpList_store_row {P : Program} {ops : Array Oper} {rest : List Oper} {op : Oper} {a : Act} {w : World} {Q : Exit → Act → World → Prop} (hgd : op.guard = none) (ty : TypeId) (x y : Operand) (ho : op.op = .store ty x y)
    (g o : Nat) (cs : List Value) (hx : a.eval x = .pointer (some ⟨g, o, none⟩)) (hy : a.eval y = .agg cs.toArray) (ht : ∀ j, j < cs.length → ∃ v, w.cell? ⟨g, o + j, none⟩ = some v) (hf : ∀ j, w.frozen? ⟨g, j, none⟩ = false)
    (hi : (P.info? ty).map (·.size) = some cs.length) (h1 : ∀ v ∈ cs, v.oneCell' = true)
    (h : wpList P ops Q rest (a.put op.dst undef) (stores w g o cs)) : wpList P ops Q (op :: rest) a w := by
  refine wpList_store_mid hgd ty x y ho g o cs.toArray hx hy (fun j hj => ⟨?_, hf _⟩) (by simpa using hi) (all_oneCell_toArray h1) ?_
  · obtain ⟨v, hv⟩ := ht j (by simpa using hj)
    rw [hv]
    rfl
  · have hc : w.setCells g o cs.toArray.toList = stores w g o cs := stores_cells' g cs o w
    rw [hc]
    exact h
set_option maxRecDepth 100000 in
theorem toEnSO_c (A : Option Addr) (c : Nat) (es : List EnR) (w : World) (E : EnsIn w A es) :
    Calls Tryz.prog 12 #[.slice A es.length c] w fun e w' => (∃ v, e = .returned v ∧ EnsCopyO es v w' w.heap.size) ∧ Below w.heap.size w w' := by
  obtain ⟨i0, hi, hz0, hz1, hz2⟩ := info_parts info_Entry
  have hl := E.n
  have hs := E.s
  have hin := Lib.hid E.i
  go_enter Tryz.func12, Tryz.ntmps12
  go_wp2_with (refine wpList_make_full _ rfl (.tmp 6) (.tmp 6) 27 rfl w.heap.size 57 i0 _ 20 Tryz.underlying27 hi hz0 hz1 .i64 .i64 _ _ es.length rfl rfl rfl rfl (by rw [hz2]; omega) (by unfold maxLen; omega) (Nat.le_refl _) ?_; intro w1 hown hg)
  have hb1 : Below w.heap.size w w1 := (Below.refl _ _).grown hg (Nat.le_refl _) (fun k h => by cases h)
  have hO : CopyE w es w.heap.size 0 [] w1 := by
    refine ⟨hb1, rfl, ⟨?_, by simp [EnZ]⟩, by simp, by simp [ens], by simp, List.Pairwise.nil⟩
    rw [made_rows _ 20 _ rfl (by omega)] at hown
    simpa [Value.cells] using hown
  clear hown hg hb1
  generalize hgs : w.heap.size = g at hO ⊢
  rw [hgs] at hs
  go_loopw [4] (fun i wr => ∃ (k : Nat) (fs : List EnR), k ≤ es.length ∧ i = .int .i64 k ∧ CopyE w es g k fs wr) (fun i _ => es.length - (intOf i).toNat)
  case atStart => exact ⟨0, [], Nat.zero_le _, rfl, hO⟩
  case round =>
    obtain ⟨k, fs, hk, rfl, hO⟩ := hrel
    by_cases hlt : k < es.length
    · have hb := hO.hb
      obtain ⟨b, off, rfl, hbB, hc⟩ := hs.rg (i := k) (by simpa using hlt)
      simp only [List.getElem_map] at hc
      rw [← hgs] at hbB
      replace hc := rangeAt_below hc hb hbB
      have EI : es[k].In wr := EnIn.later (hin.out es[k] (List.getElem_mem hlt)) hb
      have HT := Lib.hid (toEn_c es[k].e es[k].A es[k].c wr EI)
      have hcd : es[k].e.cells es[k].A es[k].c = es[k].cells := rfl
      rw [hcd] at HT
      have hcl : es[k].cells.length = 20 := rfl
      have hgl : g < wr.heap.size := hO.o.block_ge.2
      have hBl : ∀ x ∈ fs, ∀ b, x.sl.ownBlock = some b → b < wr.heap.size := fun x hx b hb => ((hO.p x hx).1.lt b hb).2
      have hws : w.heap.size ≤ wr.heap.size := hO.hb.size
      replace hBl := Lib.hid hBl
      have HO := Lib.hid hO
      have hfk := hO.fk
      clear EI hcd
      generalize es[k].cells = cs at *
      go_wp2_with (first | (refine wpList_load_mid rfl 45 _ rfl (b) (off + k * 20) rfl (cs) _ hc Tryz.underlying45 rfl (by kernel_rfl) ?_) | (go_at_call 25; refine Calls.mono HT.out ?_; rintro e w2 ⟨B, d, rfl, E2, o2, hb2⟩; refine Hid.out ?_))
      refine Lib.hid ?_
      have hO2 := HO.out.below hb2
      have hnx := hO2.next hlt (f := ⟨es[k].e, B, d⟩) rfl E2 (offE_own o2 hgl) (by omega) o2 hws hBl.out
      have hkl : k < (fs.map EnR.cells ++ List.replicate (es.length - k) EnZ).length := by simp [hfk]; omega
      have hce := fun j (hj : j < 20) => hO2.o.cell (i := k) (j := j) hkl hj
      have hfz := fun j => hO2.o.frozen j
      have hel := es[k].e.len B d
      have heo := es[k].e.one B d
      have hcd : (EnR.cells ⟨es[k].e, B, d⟩) = es[k].e.cells B d := rfl
      rw [hcd] at hnx
      replace hnx := Lib.hid hnx
      generalize es[k].e.cells B d = ec at *
      clear hO2 HO hO E2 o2 HT hc hcd
      go_wp2_with (refine wpList_store_row rfl 57 _ _ rfl g (k * 20) ec rfl rfl (fun j hj => hce j (by omega)) hfz (by rw [hel]; kernel_rfl) heo ?_)
      go_roundw
      case rel => exact ⟨k + 1, _, by omega, by go_num, hnx.out⟩
      case measure => simp [intOf]; omega
    · have : k = es.length := by omega
      subst this
      go_wp2
      go_ret
      have ho := hO.o
      rw [Nat.sub_self, List.replicate_zero, List.append_nil] at ho
      have hb := hO.hb
      have hs2 : ens fs = ens es := by have := hO.s; rwa [show es.length = (ens es).length by simp [ens], List.take_length] at this
      subst hgs
      have hof : ∀ f ∈ fs, ∀ g', (some ⟨w.heap.size, 0, none⟩ : Option Addr) = some ⟨g', 0, none⟩ → OffE f.A g' := fun f hf g' e => by
        have e1 : w.heap.size = g' := by simpa using e
        rw [← e1]
        exact (hO.i f hf).2
      exact ⟨⟨_, rfl, _, _, fs, rfl, hO.fk, hs2, Nat.le_refl _, ⟨by rw [hO.fk]; exact hl, ho.sl, fun f hf => (hO.i f hf).1⟩, ho, fun f hf => ⟨hO.p f hf, hof f hf⟩, hO.d⟩, hb⟩
theorem EnsCopyO.weak {es : List EnR} {v : Value} {w' : World} {base : Nat} (h : EnsCopyO es v w' base) : EnsCopy es v w' base := by
  obtain ⟨A', c', fs, h1, h2, h3, h4, h5, h6, _⟩ := h
  exact ⟨A', c', fs, h1, h2, h3, h4, h5, h6⟩
theorem toEnS_c (A : Option Addr) (c : Nat) (es : List EnR) (w : World) (E : EnsIn w A es) :
    Calls Tryz.prog 12 #[.slice A es.length c] w fun e w' => (∃ v, e = .returned v ∧ EnsCopy es v w' w.heap.size) ∧ Below w.heap.size w w' :=
  (toEnSO_c A c es w E).mono fun _ _ ⟨⟨v, h1, h2⟩, h3⟩ => ⟨⟨v, h1, h2.weak⟩, h3⟩
end Go.Proofs.YtkjlakdjgpgekaaGreatDoor
namespace Go.Proofs.YtkjlakdjgpgekaaGreatDoor
open Go.RowKit
structure Kb (bad : Nat → Prop) (w w' : World) : Prop where
  os : w'.os = w.os
  tape : w'.tape = w.tape
  output : w'.output = w.output
  size : w.heap.size ≤ w'.heap.size
  block : ∀ k, k < w.heap.size → ¬ bad k → w'.heap[k]? = w.heap[k]?
section
variable {bad : Nat → Prop} {w w' w1 w2 a : World} {B g base k : Nat} {t e : TypeId} {cs : Array Value} {u : Value} {xs : List (List Value)} {r : Option Nat}
theorem Kb.of_grown (h : w.grownBy w' r) (hr : ∀ k, some k = r → bad k) : Kb bad w w' := ⟨h.os, h.tape, h.output, h.size, fun k hk hn => h.block k hk (fun e => hn (hr k e))⟩
theorem Kb.of_below (h : Below w.heap.size w w') : Kb bad w w' := ⟨h.os, h.tape, h.output, h.size, fun k hk _ => h.block k hk⟩
theorem Kb.trans (h1 : Kb bad w w1) (h2 : Kb bad w1 w2) : Kb bad w w2 := ⟨h2.os.trans h1.os, h2.tape.trans h1.tape, h2.output.trans h1.output, Nat.le_trans h1.size h2.size, fun k hk hn => (h2.block k (Nat.lt_of_lt_of_le hk h1.size) hn).trans (h1.block k hk hn)⟩
theorem below_kb (h : Below B a w) (hk : Kb bad w w') (hB : B ≤ w.heap.size) (hn : ∀ k, k < B → ¬ bad k) : Below B a w' :=
  ⟨hk.os.trans h.os, hk.tape.trans h.tape, hk.output.trans h.output, Nat.le_trans h.size hk.size, fun k hkB => (hk.block k (by omega) (hn k hkB)).trans (h.block k hkB)⟩
theorem Blk.kb (h : Blk w g t cs) (hk : Kb bad w w') (hn : ¬ bad g) : Blk w' g t cs := (hk.block g h.lt hn).trans h
theorem own_lt' (h : Own w base e k u xs) : ∀ x, u.ownBlock = some x → x < w.heap.size := fun x hx => (h.1.lt x hx).2
theorem Own.kb (h : Own w base e k u xs) (hk : Kb bad w w') (hn : ∀ x, u.ownBlock = some x → ¬ bad x) : Own w' base e k u xs := by
  obtain ⟨⟨h1, h2⟩, h3⟩ := h
  refine ⟨⟨h1, ?_⟩, h3⟩
  rcases h2 with h2 | ⟨g, cap, cur, hv, hg, hh, r⟩
  · exact Or.inl h2
  · refine Or.inr ⟨g, cap, cur, hv, hg, ?_, r⟩
    have hlt : g < w.heap.size := by
      rcases Nat.lt_or_ge g w.heap.size with hlt | hge
      · exact hlt
      · rw [Array.getElem?_eq_none hge] at hh; cases hh
    rw [hk.block g hlt (hn g (by rw [hv]; rfl))]
    exact hh
end
theorem region_fx {X : Type} {P : Program} {Q : Exit → Act → World → Prop} {l : List Oper} (n : Nat) {id : Nat} {w : World} {slots : List Value} {d : List Deferred}
    (fr : (Nat → Bool) → List Value → X → List Value) (S : (Nat → Bool) → X → World → Prop) (hm : P.follows .mixedOrders = true) (hB : backB .any l.toArray = true) (hn : n = l.length)
    (x0 : X) (h00 : fr (fun _ => false) slots x0 = slots) (h0 : S (fun _ => false) x0 w.drew)
    (hI : ∀ f x v, S f x v → ∀ i, i < n → f i = false → ∀ o, l.toArray[i]? = some o → (∀ e ∈ o.after, Region.binds .any e = true → f e.on = true) → wpOp P l.toArray Q i (fun a' w' => ∃ x', a' = ⟨(fr (upd f i) slots x').toArray, d⟩ ∧ S (upd f i) x' w') ⟨(fr f slots x).toArray, d⟩ v)
    (hE : ∀ f x v, S f x v → (∀ i, i < n → f i = true) → Q .normal ⟨(fr f slots x).toArray, d⟩ v) : (Code.region id l.toArray true).wp P Q ⟨slots.toArray, d⟩ w := by
  subst hn
  exact wp_region_all (fun _ f b v => ∃ x, b = ⟨(fr f slots x).toArray, d⟩ ∧ S f x v) hm hB ⟨x0, by rw [h00], h0⟩
    (fun f b v ⟨x, hb, hS⟩ i hi hf o ho ha => by subst hb; exact hI f x v hS i hi hf o ho ha)
    (fun f b v ⟨x, hb, hS⟩ hall => by subst hb; exact hE f x v hS hall)
end Go.Proofs.YtkjlakdjgpgekaaGreatDoor
namespace Go.Proofs.YtkjlakdjgpgekaaGreatDoor
open Go.RowKit
def Nb (lo hi : Nat) (k : Nat) : Prop := lo ≤ k ∧ k < hi
theorem kb_set {w : World} {bad : Nat → Prop} {g o : Nat} {u : Value} (h : bad g) : Kb bad w (w.setCell ⟨g, o, none⟩ u) :=
  Kb.of_grown (r := some g) (grownBy_stores [u] o (World.grownBy.refl w (some g))) (fun k hk => by cases hk; exact h)
theorem own_set {w : World} {base : Nat} {e : TypeId} {k g o : Nat} {u v : Value} {xs : List (List Value)} (h : Own w base e k v xs) (hn : v.ownBlock = none ∨ v.ownBlock ≠ some g) : Own (w.setCell ⟨g, o, none⟩ u) base e k v xs :=
  h.kept (grownBy_stores [u] o (World.grownBy.refl w (some g))) hn
/-- a value of one cell stored -/
theorem wpList_store_cell {P : Program} {ops : Array Oper} {rest : List Oper} {op : Oper} {a : Act} {w : World} {Q : Exit → Act → World → Prop} (hgd : op.guard = none) (ty : TypeId) (x y : Operand) (ho : op.op = .store ty x y)
    (g o : Nat) (v : Value) (hx : a.eval x = .pointer (some ⟨g, o, none⟩)) (hy : a.eval y = v) (hv : (∃ k n, v = .int k n) ∨ ∃ s, v = .string s) (hsz : ∀ w, (sizeOf ty).run P w = .ok 1 w) {u : Value} (hc : w.cell? ⟨g, o, none⟩ = some u) (hf : w.frozen? ⟨g, o, none⟩ = false)
    (h : wpList P ops Q rest (a.put op.dst undef) (w.setCell ⟨g, o, none⟩ v)) : wpList P ops Q (op :: rest) a w := by
  refine wpList_plain hgd fun K hK => ?_
  unfold Oper.wp execOp
  rcases hv with ⟨k, n, rfl⟩ | ⟨s, rfl⟩
  · simp only [ho, hx, hy]
    simp [go_sem, hc, hf, hsz]
    exact hK _ _ h
  · simp only [ho, hx, hy]
    simp [go_sem, hc, hf, hsz]
    exact hK _ _ h
/-- the text of a mark -/
def markLoop : Nat → Nat → ByteArray → ByteArray
  | 0, _, t => t
  | f + 1, k, t => if k = 0 then t else markLoop f (k / 10) (strOfNums [48 + (k : Int) % 10] ++ t)
theorem markLoop_zero (f : Nat) (t : ByteArray) : markLoop f 0 t = t := by
  cases f <;> simp [markLoop]
theorem markLoop_succ (f k : Nat) (t : ByteArray) (h : k ≠ 0) : markLoop (f + 1) k t = markLoop f (k / 10) (strOfNums [48 + (k : Int) % 10] ++ t) := by
  conv => lhs; unfold markLoop
  rw [if_neg h]
def markT (m : Int) : ByteArray := if m ≤ 0 then ⟨#[109, 48]⟩ else ⟨#[109]⟩ ++ markLoop m.toNat m.toNat ⟨#[]⟩
set_option maxRecDepth 100000 in
theorem markInt64B_c (A : Option Addr) (c base : Nat) (m : Int) (xs : List (List Value)) (w : World) (hm : 0 ≤ m ∧ m ≤ 1000000000000000) (hl : xs.length ≤ 10000000) (hO : Own w base 2 1 (.slice A xs.length c) xs) :
    Calls Tryz.prog 17 #[.slice A xs.length c, .int .i64 m] w fun e w' => e = .returned (.int .i64 (m + xs.length)) ∧ Own w' base 2 1 (.slice A xs.length c) ((List.range xs.length).map (markInt64 m)) ∧ w.grownBy w' (Value.slice A xs.length c).ownBlock := by
  go_enter Tryz.func17, Tryz.ntmps17
  go_wp2_with fail
  go_loopw [1, 5] (fun q i wr => ∃ k : Nat, k ≤ xs.length ∧ i = .int .i64 k ∧ q = .int .i64 (m + k) ∧ w.grownBy wr (Value.slice A xs.length c).ownBlock ∧
      Own wr base 2 1 (.slice A xs.length c) ((List.range k).map (markInt64 m) ++ xs.drop k)) (fun _ i _ => xs.length - (intOf i).toNat)
  case atStart => exact ⟨0, Nat.zero_le _, rfl, by simp, World.grownBy.refl _ _, by simpa using hO⟩
  case round =>
    obtain ⟨k, hk, rfl, rfl, hg, hO1⟩ := hrel
    by_cases hlt : k < xs.length
    · have hkl : k < ((List.range k).map (markInt64 m) ++ xs.drop k).length := by simp; omega
      obtain ⟨_, b, off, rfl, _, _⟩ := hO1.sl k _ (List.getElem?_eq_getElem hkl)
      obtain rfl := hO1.off0 hkl
      obtain ⟨v0, e0⟩ : ∃ v, wr.cell? ⟨b, k * 1, none⟩ = some v := hO1.cell (i := k) (j := 0) hkl (by omega)
      have f0 : wr.frozen? ⟨b, k * 1, none⟩ = false := hO1.frozen _
      rw [Nat.mul_one] at e0 f0
      clear hO
      go_wp2
      go_roundw
      case rel =>
        refine ⟨k + 1, by omega, by go_num, ?_, ?_, ?_⟩
        · simp; omega
        · have := grownBy_stores (markInt64 m k) (k * 1) hg
          rw [Nat.mul_one] at this
          exact this
        · have h := hO1.store (i := k) hkl (markInt64 m k) rfl
          rw [marks_next _ hlt, Nat.mul_one] at h
          exact h
      case measure => simp [intOf]; omega
    · have : k = xs.length := by omega
      subst this
      go_wp2
      go_ret
      rw [List.drop_of_length_le (Nat.le_refl _), List.append_nil] at hO1
      exact ⟨rfl, hO1, hg⟩
set_option maxRecDepth 100000 in
theorem markText_c (m : Int) (w : World) (hm : 0 ≤ m ∧ m ≤ 4000000000000000) : Calls Tryz.prog 60 #[.int .i64 m] w fun e w' => e = .returned (.string (markT m)) ∧ Below w.heap.size w w' := by
  by_cases h0 : m ≤ 0
  · have hR : Hid (markT m = ⟨#[109, 48]⟩) := Lib.hid (if_pos h0)
    go_enter Tryz.func60, Tryz.ntmps60
    go_wp2
    go_ret
    exact ⟨by rw [hR.out]; rfl, Below.refl _ _⟩
  have hR : Hid (markT m = ⟨#[109]⟩ ++ markLoop m.toNat m.toNat ⟨#[]⟩) := Lib.hid (if_neg h0)
  generalize hL : markLoop m.toNat m.toNat ⟨#[]⟩ = L at *
  replace hL := Lib.hid hL
  generalize markT m = res at *
  go_enter Tryz.func60, Tryz.ntmps60
  go_wp2_with fail
  go_loopw [0, 3] (fun i s wr => ∃ (f k : Nat) (t : ByteArray), i = .int .i64 k ∧ s = .string t ∧ (k ≤ f ∧ t.size + k ≤ m.toNat) ∧ Hid (markLoop f k t = L) ∧ Below w.heap.size w wr) (fun i _ _ => (intOf i).toNat)
  case atStart => exact ⟨m.toNat, m.toNat, ⟨#[]⟩, by congr 1; omega, rfl, ⟨Nat.le_refl _, by simp [ByteArray.size]⟩, hL, Below.refl _ _⟩
  case round =>
    obtain ⟨f, k, t, rfl, rfl, ⟨hkf, hk⟩, hl, hb⟩ := hrel
    by_cases hlt : 0 < k
    · obtain ⟨f, rfl⟩ : ∃ f', f = f' + 1 := ⟨f - 1, by omega⟩
      have hl' : Hid (markLoop f (k / 10) (strOfNums [48 + (k : Int) % 10] ++ t) = L) := Lib.hid (by rw [← hl.out, markLoop_succ f k t (by omega)])
      have D0 := Blk.new wr 5 #[.int .u8 (48 + (k : Int) % 10)]
      have hcv : (convert 67 9 (.slice (some ⟨wr.heap.size, 0, none⟩) 1 1)).run Tryz.prog (wr.alloc (.cells #[.int .u8 (48 + (k : Int) % 10)] 5)) = .ok (.string (strOfNums [48 + (k : Int) % 10])) (wr.alloc (.cells #[.int .u8 (48 + (k : Int) % 10)] 5)) :=
        run_convert_bytes_arg _ _ 5 Tryz.underlying67 Tryz.underlying5 _ _ 1 1 [48 + (k : Int) % 10] rfl (fun i hi => by
          obtain rfl : i = 0 := by omega
          exact D0.cell 0) _ Tryz.underlying9
      have hcs : (strOfNums [48 + (k : Int) % 10]).size = 1 := strOfNums_size _
      clear D0 hl
      generalize strOfNums [48 + (k : Int) % 10] = ch at *
      have hlim : ¬ 9223372036854775807 < ch.size + t.size := by omega
      go_wp2
      go_roundw
      case rel => exact ⟨f, k / 10, ch ++ t, by go_num, rfl, ⟨by omega, by rw [ByteArray.size_append]; omega⟩, hl', (by repeat (first | with_reducible exact hb | with_reducible apply below_drewN' | with_reducible apply Below.drew | (with_reducible refine Below.alloc ?_ (by first | omega | (simp; omega) | simp | (have := (hb).size; omega) | (have := (hb).size; simp; omega)) _) | (with_reducible refine Below.setCell ?_ (by first | omega | (simp; omega) | simp | (have := (hb).size; omega) | (have := (hb).size; simp; omega)) _) | exact hb))⟩
      case measure => simp [intOf]; omega
    · obtain rfl : k = 0 := by omega
      have ht := Lib.hid (hl.out.symm.trans (markLoop_zero f t))
      have hlim : ¬ 9223372036854775807 < 1 + t.size := by omega
      clear hl
      go_wp2
      go_ret
      exact ⟨by rw [hR.out, ht.out]; rfl, hb⟩
end Go.Proofs.YtkjlakdjgpgekaaGreatDoor
