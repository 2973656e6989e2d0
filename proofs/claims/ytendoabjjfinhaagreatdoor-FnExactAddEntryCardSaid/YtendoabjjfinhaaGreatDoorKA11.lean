/- Whether a list of entries is a catalogue: the program's. Conditions: the lengths. Whether a list of entries is a catalogue: the reference's. Conditions: the lengths. The origin of an entry and what is derived from one: the program's and the reference's. Conditions: the lengths. Formulas, charts and releases in new memory: the program's copies, and the reference's of a formula. Conditions: the lengths. A formula in new memory: the reference's copy; slices.Clone at []impl.Entry. Conditions: the lengths. -/
import Derived.Lib.SliceRun
import Derived.Test.YtendoabjjfinhaaGreatDoorKA1
import Derived.Test.YtendoabjjfinhaaGreatDoorKA10
import Derived.Test.YtendoabjjfinhaaGreatDoorKA3
import Derived.Test.YtendoabjjfinhaaGreatDoorKA4
import Derived.Test.YtendoabjjfinhaaGreatDoorKA6
import Derived.Test.YtendoabjjfinhaaGreatDoorKA9
set_option linter.unusedSimpArgs false
namespace Go.Proofs.YtendoabjjfinhaaGreatDoor
open Go.RowKit
theorem run_slice_to {P : Program} (W : World) (t e : TypeId) (k : Nat) (ht : P.underlying t = some (.slice e)) (hz : ∀ w, (Go.sizeOf e).run P w = .ok k w) (A : Option Addr) (n cap hi : Nat) (h : hi ≤ cap) :
    (Instr.slice t (.slice A n cap) none (some (.int .i64 (hi : Int))) none).run P W = .ok (.slice A hi cap) W := by
  have ht' : P.underlying t = some (.slice (P.elem t)) := by simp [Program.elem, ht]
  have he : P.elem t = e := by simp [Program.elem, ht]
  rw [run_slice_h W t _ _ _ ht' .i64 _ (by omega) (by omega), he, hz]
  have hA : A.map (·.add (0 * k)) = A := by cases A <;> simp [Addr.add]
  simp only [Result.andThen, sliced, hA, Nat.sub_zero, Int.toNat_natCast, ite_self]
set_option maxRecDepth 100000 in
set_option maxHeartbeats 4000000 in
theorem implIsCat_c (A : Option Addr) (c : Nat) (es : List EnR) (w : World) (E : EnsIn w A es) (hc : es.length ≤ c) :
    Calls Tryz.prog 29 #[.slice A es.length c] w fun x w' => x = .returned (.bool (catB (ens es))) ∧ Below w.heap.size w w' := by
  have hl := E.n
  have hs := E.s
  have hrun : Hid (∀ (k : Nat) W, k ≤ c → (Instr.slice 36 (.slice A es.length c) none (some (.int .i64 (k : Int))) none).run Tryz.prog W = .ok (.slice A k c) W) := Lib.hid (fun k W hk => run_slice_to W 36 48 20 Tryz.underlying36 (fun _ => by kernel_rfl) A es.length c k hk)
  have HE := Lib.hid (fun (k : Nat) (hk : k < es.length) W (hW : Below w.heap.size w W) => isEntry_c A c (es.take k) es[k].e es[k].A es[k].c W ((E.take k).later hW) (EnIn.later (E.i es[k] (List.getElem_mem hk)) hW))
  have hat := Lib.hid (fun (k : Nat) (hk : k < es.length) => (entAt_get (l := ens es) (k := k) (by rw [ens_len]; exact hk)).trans (by rw [← ens_take, ens_get hk]))
  have hcatE : Hid (catTo (ens es) es.length = true → catB (ens es) = decide (es.length ≤ 12)) := Lib.hid (fun h => by rw [← ens_len es] at h ⊢; exact catB_all h)
  have hbadE : Hid (∀ k, entAt (ens es) k = false → k < es.length → catB (ens es) = false) := Lib.hid (fun k h hk => catB_bad h (by rw [ens_len]; exact hk))
  clear E
  go_enter Tryz.func29, Tryz.ntmps29
  go_wp2_with fail
  go_loopw [7] (fun i wr => ∃ k : Nat, k ≤ es.length ∧ i = .int .i64 k ∧ Below w.heap.size w wr ∧ Hid (catTo (ens es) k = true)) (fun i _ => es.length - (intOf i).toNat)
  case atStart => exact ⟨0, Nat.zero_le _, rfl, Below.refl _ _, Lib.hid rfl⟩
  case round =>
    obtain ⟨k, hk, rfl, hb, hn⟩ := hrel
    by_cases hlt : k < es.length
    · obtain ⟨b, off, rfl, hbB, hc'⟩ := hs.rg (i := k) (by simpa using hlt)
      simp only [List.getElem_map] at hc'
      replace hc' := rangeAt_below hc' hb hbB
      have hnx := Lib.hid ((catTo_succ (ens es) k).trans (by rw [hn.out, Bool.true_and]))
      have HK := HE.out k hlt
      rw [← hat.out k hlt] at HK
      rw [show (es.take k).length = k by rw [List.length_take]; omega] at HK
      have hcd : es[k].e.cells es[k].A es[k].c = es[k].cells := rfl
      rw [hcd] at HK
      replace HK := Lib.hid HK
      have hcl : es[k].cells.length = 20 := rfl
      have hon : ∀ v ∈ es[k].cells, v.oneCell' = true := es[k].e.one es[k].A es[k].c
      have hbk : Hid (entAt (ens es) k = false → catB (ens es) = false) := Lib.hid (fun h => hbadE.out k h hlt)
      have hrk := Lib.hid (fun W => hrun.out k W (by omega))
      generalize entAt (ens es) k = bk at *
      clear hcd hat HE
      generalize es[k].cells = cs at *
      have hbw : Below wr.heap.size wr (wr.alloc (.cells cs.toArray 48)) := (Below.refl _ _).alloc (Nat.le_refl _) _
      have D0 := Blk.new wr 48 cs.toArray
      go_wp2_with (first | (refine wpList_load_mid rfl 48 _ rfl (b) (off + k * 20) rfl (cs) _ hc' Tryz.underlying48 rfl (by kernel_rfl) ?_) | (refine wpList_store_new rfl _ _ rfl cs rfl rfl (by rw [hcl]; kernel_rfl) (by rw [hcl]; rfl) hon ?_) | fail)
      replace hb := hb.trans (hbw.mono hb.size)
      clear hbw hc'
      generalize wr.alloc (.cells cs.toArray 48) = W at *
      generalize wr.heap.size = g at *
      refine wp_region_sink 5 (fun a0 fL bA v => ∃ v12 v13 v14 v15 v16 : Value, bA = ((((a0.put (some 12) v12).put (some 13) v13).put (some 14) v14).put (some 15) v15).put (some 16) v16 ∧ (Below W.heap.size W v) ∧ (fL 0 = true → v12 = .slice (some ⟨b, off, none⟩) es.length c) ∧ (fL 1 = true → v13 = .int .i64 k) ∧ (fL 2 = true → v14 = .slice (some ⟨b, off, none⟩) k c) ∧ (fL 3 = true → v15 = .agg cs.toArray) ∧ (fL 4 = true → v16 = .bool bk)) (by kernel_rfl) (by decide +kernel) ?_ ?_ ?_
      · exact ⟨_, _, _, _, _, put_more (put_more (put_more (put_more (put_more (rfl) 12) 13) 14) 15) 16, (Below.refl _ _).drew, nofun, nofun, nofun, nofun, nofun⟩
      · rintro fL bA v ⟨v12, v13, v14, v15, v16, rfl, hS, q0, q1, q2, q3, q4⟩ i hi hf o ho hall
        simp only [Act.put, List.setIfInBounds_toArray, List.set_cons_zero, List.set_cons_succ]
        have hn : i = 0 ∨ i = 1 ∨ i = 2 ∨ i = 3 ∨ i = 4 := by omega
        clear hi
        rcases hn with rfl | rfl | rfl | rfl | rfl
        · obtain rfl := Option.some.inj ho
          clear hall ho
          refine wpOp_step rfl (fun K hK => ?_)
          go_simp
          exact hK _ _ ⟨_, _, _, _, _, rfl, hS, fun _ => rfl, q1, q2, q3, q4⟩
        · obtain rfl := Option.some.inj ho
          clear hall ho
          refine wpOp_step rfl (fun K hK => ?_)
          go_simp
          exact hK _ _ ⟨_, _, _, _, _, rfl, hS, q0, fun _ => rfl, q2, q3, q4⟩
        · obtain rfl := Option.some.inj ho
          obtain rfl := q0 (hall ⟨0, .data⟩ (by simp) rfl)
          obtain rfl := q1 (hall ⟨1, .data⟩ (by simp) rfl)
          have hr := hrk.out v
          clear hall ho
          refine wpOp_step rfl (fun K hK => ?_)
          go_simp
          exact hK _ _ ⟨_, _, _, _, _, rfl, hS, fun _ => rfl, fun _ => rfl, fun _ => rfl, q3, q4⟩
        · obtain rfl := Option.some.inj ho
          clear hall ho
          refine wpOp_step rfl (fun K hK => ?_)
          refine wp_load_mid 48 _ rfl g 0 rfl cs _ (D0.below hS D0.lt).range Tryz.underlying48 rfl (by rw [hcl]; kernel_rfl) ?_
          exact hK _ _ ⟨_, _, _, _, _, rfl, hS, q0, q1, q2, fun _ => rfl, q4⟩
        · obtain rfl := Option.some.inj ho
          obtain rfl := q2 (hall ⟨2, .data⟩ (by simp) rfl)
          obtain rfl := q3 (hall ⟨3, .data⟩ (by simp) rfl)
          clear hall ho
          refine wpOp_step rfl (fun K hK => ?_)
          go_simp
          refine Calls.mono ((HK.out v (hb.trans (hS.mono hb.size)))) ?_; rintro e w1 ⟨rfl, hb1⟩
          go_simp
          exact hK _ _ ⟨_, _, _, _, _, rfl, hS.trans (hb1.mono hS.size), q0, q1, fun _ => rfl, fun _ => rfl, fun _ => rfl⟩
      · rintro fL bA v ⟨v12, v13, v14, v15, v16, rfl, hS, q0, q1, q2, q3, q4⟩ hall
        simp only [Act.put, List.setIfInBounds_toArray, List.set_cons_zero, List.set_cons_succ]
        obtain rfl := q0 (hall 0 (by omega))
        obtain rfl := q1 (hall 1 (by omega))
        obtain rfl := q2 (hall 2 (by omega))
        obtain rfl := q3 (hall 3 (by omega))
        obtain rfl := q4 (hall 4 (by omega))
        clear hall
        simp only [List.drop_succ_cons, List.drop_zero]
        have hbv := hb.trans (hS.mono hb.size)
        clear hrk HK hS hrun
        cases bk with
        | false =>
          have hr := Lib.hid (hbk.out rfl)
          go_wp2
          go_ret
          exact ⟨by rw [hr.out]; rfl, hbv⟩
        | true =>
          go_wp2
          go_roundw
          case rel => exact ⟨k + 1, by omega, by go_num, hbv, hnx⟩
          case measure => simp [intOf]; omega
    · have : k = es.length := by omega
      subst this
      have hr := Lib.hid (hcatE.out hn.out)
      clear hcatE hbadE hat HE hrun
      go_wp2
      go_ret
      exact ⟨by rw [hr.out, show decide (es.length ≤ 12) = decide ((es.length : Int) ≤ 12) from decide_eq_decide.2 (by omega)]; rfl, hb⟩
end Go.Proofs.YtendoabjjfinhaaGreatDoor
namespace Go.Proofs.YtendoabjjfinhaaGreatDoor
open Go.RowKit
set_option maxRecDepth 100000 in
set_option maxHeartbeats 4000000 in
theorem specIsCat_c (A : Option Addr) (c : Nat) (es : List EnR) (w : World) (E : EnsIn w A es) :
    Calls Tryz.prog 47 #[.slice A es.length c] w fun x w' => x = .returned (.bool (catB (ens es))) ∧ Below w.heap.size w w' := by
  have hl := E.n
  have hs := E.s
  have HT := Lib.hid (fun (k : Nat) (hk : k < es.length) W => l33Title_c es[k].e.ti W (E.i es[k] (List.getElem_mem hk)).t)
  have HV := Lib.hid (fun (k : Nat) (hk : k < es.length) W => l01In_c es[k].e.ve 1 1000 W)
  have HI := Lib.hid (fun (k : Nat) (hk : k < es.length) W => l01In_c es[k].e.ba (-1) ((k : Int) - 1) W)
  have HL := Lib.hid (fun (k : Nat) (hk : k < es.length) W (hW : Below w.heap.size w W) => specIsRl_c es[k].e.r es[k].A es[k].c W ((E.i es[k] (List.getElem_mem hk)).r.later hW))
  have hat := Lib.hid (fun (k : Nat) (hk : k < es.length) => (entAt_get (l := ens es) (k := k) (by rw [ens_len]; exact hk)).trans (by rw [← ens_take, ens_get hk]))
  have hcatE : Hid (catTo (ens es) es.length = true → catB (ens es) = decide (es.length ≤ 12)) := Lib.hid (fun h => by rw [← ens_len es] at h ⊢; exact catB_all h)
  have hbadE : Hid (∀ k, entAt (ens es) k = false → k < es.length → catB (ens es) = false) := Lib.hid (fun k h hk => catB_bad h (by rw [ens_len]; exact hk))
  clear E
  go_enter Tryz.func47, Tryz.ntmps47
  go_wp2_with fail
  go_loopw [3] (fun i wr => ∃ k : Nat, k ≤ es.length ∧ i = .int .i64 k ∧ Below w.heap.size w wr ∧ Hid (catTo (ens es) k = true)) (fun i _ => es.length - (intOf i).toNat)
  case atStart => exact ⟨0, Nat.zero_le _, rfl, Below.refl _ _, Lib.hid rfl⟩
  case round =>
    obtain ⟨k, hk, rfl, hb, hn⟩ := hrel
    by_cases hlt : k < es.length
    · obtain ⟨b, off, rfl, hbB, hc'⟩ := hs.rg (i := k) (by simpa using hlt)
      simp only [List.getElem_map] at hc'
      replace hc' := rangeAt_below hc' hb hbB
      have hnx := Lib.hid ((catTo_succ (ens es) k).trans (by rw [hn.out, Bool.true_and]))
      have hR : Hid (entAt (ens es) k = (titleB es[k].e.ti && inB es[k].e.ve 1 1000 && es[k].e.r.b && inB es[k].e.ba (-1) ((k : Int) - 1) && !basisBad (ens (es.take k)) es[k].e && !(es.take k).any (fun x => sameTV x.e es[k].e))) := Lib.hid (by
        rw [hat.out k hlt]
        unfold entB
        rw [ens_len, List.length_take, Nat.min_eq_left hk]
        unfold ens
        rw [List.any_map]
        rfl)
      replace HT := Lib.hid (HT.out k hlt)
      replace HV := Lib.hid (HV.out k hlt)
      replace HI := Lib.hid (HI.out k hlt)
      replace HL := Lib.hid (HL.out k hlt)
      have hcl : es[k].cells.length = 20 := rfl
      have hlen : (es[k].e.r.cells es[k].A es[k].c).length = 17 := rfl
      have hon : ∀ v ∈ es[k].cells, v.oneCell' = true := es[k].e.one es[k].A es[k].c
      have hbk : Hid (entAt (ens es) k = false → catB (ens es) = false) := Lib.hid (fun h => hbadE.out k h hlt)
      have HB : Hid (∀ W g, Blk W g 48 es[k].cells.toArray → W.cell? ⟨g, 0, none⟩ = some (.string es[k].e.ti) ∧ W.cell? ⟨g, 1, none⟩ = some (.int .i64 es[k].e.ve) ∧ W.rangeAt g 2 (es[k].e.r.cells es[k].A es[k].c) ∧ W.cell? ⟨g, 19, none⟩ = some (.int .i64 es[k].e.ba)) := Lib.hid (fun W g h => h.en)
      have hbas : Hid (∀ j : Nat, (hj : es[k].e.ba = (j : Int)) → (hjk : j < k) → basisBad (ens (es.take k)) es[k].e = ((es[j].e.ti.toList == es[k].e.ti.toList) && decide (es[k].e.ve ≤ es[j].e.ve))) := Lib.hid (fun j hj hjk => by
        unfold basisBad
        rw [hj, decide_eq_true (by omega : (0 : Int) ≤ (j : Int)), Bool.true_and, Int.toNat_natCast, ens_take, List.getElem?_take, if_pos hjk, List.getElem?_eq_getElem (by rw [ens_len]; omega), ens_get (by omega)])
      have hbas0 : Hid (es[k].e.ba = -1 → basisBad (ens (es.take k)) es[k].e = false) := Lib.hid (fun hj => by
        unfold basisBad
        rw [hj]
        rfl)
      have hany : Hid (∀ j : Nat, (hj : j < k) → ((es.take (j + 1)).any (fun x => sameTV x.e es[k].e)) = (((es.take j).any (fun x => sameTV x.e es[k].e)) || ((es[j].e.ti.toList == es[k].e.ti.toList) && (es[j].e.ve == es[k].e.ve)))) := Lib.hid (fun j hj => by
        rw [List.take_succ_eq_append_getElem (by omega), List.any_append]
        simp [sameTV])
      have hany2 : Hid (∀ j : Nat, (hj : j < k) → ((es[j].e.ti.toList == es[k].e.ti.toList) && (es[j].e.ve == es[k].e.ve)) = true → (es.take k).any (fun x => sameTV x.e es[k].e) = true) := Lib.hid (fun j hj h => by
        rw [List.any_eq_true]
        exact ⟨es[j], by rw [List.mem_take_iff_getElem]; exact ⟨j, by omega, rfl⟩, h⟩)
      have hany0 : Hid ((es.take 0).any (fun x => sameTV x.e es[k].e) = false) := Lib.hid (by simp)
      clear hat hbadE
      generalize (fun x : EnR => sameTV x.e es[k].e) = pv at *
      generalize basisBad (ens (es.take k)) es[k].e = bsb at *
      generalize es[k].e.r.cells es[k].A es[k].c = rc at *
      generalize es[k].e.r.b = rb at *
      generalize es[k].e.ti = ti at *
      generalize es[k].e.ve = ve at *
      generalize es[k].e.ba = ba at *
      generalize es[k].cells = cs at *
      generalize entAt (ens es) k = ek at *
      generalize titleB ti = tb at *
      have hbw : Below wr.heap.size wr (wr.alloc (.cells cs.toArray 48)) := (Below.refl _ _).alloc (Nat.le_refl _) _
      have D0 := Blk.new wr 48 cs.toArray
      obtain ⟨x0, x1, x2, x3⟩ := HB.out _ _ D0
      go_wp2_with (first | (refine wpList_load_mid rfl 48 _ rfl (b) (off + k * 20) rfl (cs) _ hc' Tryz.underlying48 rfl (by kernel_rfl) ?_) | (refine wpList_store_new rfl _ _ rfl cs rfl rfl (by rw [hcl]; kernel_rfl) (by rw [hcl]; rfl) hon ?_) | fail)
      replace hb := hb.trans (hbw.mono hb.size)
      clear hbw hc'
      generalize wr.alloc (.cells cs.toArray 48) = W at *
      generalize wr.heap.size = g at *
      refine Calls.mono (HT.out _) ?_; rintro x w1 ⟨rfl, rfl⟩
      cases tb with
      | false =>
        have hr := Lib.hid (hbk.out (by rw [hR.out]; rfl))
        go_wp2
        go_ret
        exact ⟨by rw [hr.out]; rfl, hb⟩
      | true =>
      cases hv : inB ve 1 1000 with
      | false =>
        replace HV := Lib.hid (fun W => by have h := HV.out W; rwa [hv] at h)
        have hr := Lib.hid (hbk.out (by rw [hR.out, hv]; rfl))
        clear hv
        go_wp2_with (go_at_call 83; refine Calls.mono (HV.out _) ?_; rintro x w3 ⟨rfl, rfl⟩)
        go_ret
        exact ⟨by rw [hr.out]; rfl, hb⟩
      | true =>
      replace HV := Lib.hid (fun W => by have h := HV.out W; rwa [hv] at h)
      replace hR := Lib.hid (hR.out.trans (by rw [hv]))
      clear hv
      go_wp2_with (first | (go_at_call 83; refine Calls.mono (HV.out _) ?_; rintro x w3 ⟨rfl, rfl⟩) | (refine wpList_load_g (by rfl) 46 _ rfl g 2 rfl rc _ x2 Tryz.underlying46 rfl (by rw [hlen]; kernel_rfl) ?_) | fail)
      refine Calls.mono (HL.out _ hb) ?_; rintro x w2 ⟨rfl, hb1⟩
      clear x0 x1 x2 x3 HL HV HT
      replace D0 := D0.below hb1 D0.lt
      replace hb := hb.trans (hb1.mono hb.size)
      clear hb1
      obtain ⟨x0, x1, x2, x3⟩ := HB.out _ _ D0
      cases rb with
      | false =>
        have hr := Lib.hid (hbk.out (by rw [hR.out]; rfl))
        go_wp2
        go_ret
        exact ⟨by rw [hr.out]; rfl, hb⟩
      | true =>
      have hwr : IntKind.i64.wrap ((k : Int) - 1) = (k : Int) - 1 := IntWalk.i64_in _ (by omega)
      cases hi : inB ba (-1) ((k : Int) - 1) with
      | false =>
        replace HI := Lib.hid (fun W => by have h := HI.out W; rwa [hi] at h)
        have hr := Lib.hid (hbk.out (by rw [hR.out, hi]; rfl))
        clear hi
        go_wp2_with (go_at_call 83; refine Calls.mono (HI.out _) ?_; rintro x w3 ⟨rfl, rfl⟩)
        go_ret
        exact ⟨by rw [hr.out]; rfl, hb⟩
      | true =>
      replace HI := Lib.hid (fun W => by have h := HI.out W; rwa [hi] at h)
      replace hR := Lib.hid (hR.out.trans (by rw [hi]))
      have hbd := inB_true.1 hi
      clear hi
      go_wp2_with (first | (go_at_call 83; refine Calls.mono (HI.out _) ?_; rintro x w3 ⟨rfl, rfl⟩) | fail)
      clear HI hwr
      by_cases h0 : (0 : Int) ≤ ba
      · obtain ⟨m, rfl⟩ : ∃ m : Nat, ba = (m : Int) := ⟨ba.toNat, by omega⟩
        have hml : m < es.length := by omega
        have hbb := Lib.hid (hbas.out m rfl (by omega))
        obtain ⟨bj, offj, hbe, hbB', hc⟩ := hs.at_ (i := m) (by simpa using hml)
        obtain ⟨rfl, rfl⟩ : b = bj ∧ off = offj := by simpa using hbe
        simp only [List.getElem_map] at hc
        have y0 : w2.cell? ⟨b, off + m * 20, none⟩ = some (.string es[m].e.ti) := (hb.cell (p := ⟨b, off + m * 20, none⟩) hbB).trans (by simpa using hc 0 _ rfl)
        have y1 : w2.cell? ⟨b, off + m * 20 + 1, none⟩ = some (.int .i64 es[m].e.ve) := (hb.cell (p := ⟨b, off + m * 20 + 1, none⟩) hbB).trans (by simpa using hc 1 _ rfl)
        clear hc hbe
        have hj1 : (m : Int) < (es.length : Int) := by omega
        have hj0 : (0 : Int) ≤ (m : Int) := by omega
        have d0 : decide ((m : Int) ≥ 0) = true := decide_eq_true (by omega)
        have d1 : decide ((0 : Int) ≤ (m : Int)) = true := decide_eq_true (by omega)
        generalize es[m].e.ti = tj at *
        generalize es[m].e.ve = vj at *
        cases hq : (tj.toList == ti.toList) with
        | false =>
          replace hbb := Lib.hid (hbb.out.trans (by rw [hq, Bool.false_and]))
          go_quiet (fail)
          clear y0 y1 d0 d1 hj1 hj0 hq
          refine then_world (R := fun V => Blk V g 48 cs.toArray ∧ Below w.heap.size w V) ⟨D0, by first | exact below_drewN' hb _ | exact hb.drew | exact hb⟩ (fun V hV => ?_)
          clear x0 x1 x2 x3 hb D0 hbas hbas0
          obtain ⟨D0, hb⟩ := hV
          go_wp2_with fail
          go_loopw [5] (fun i wr => ∃ j : Nat, j ≤ k ∧ i = .int .i64 j ∧ Below w.heap.size w wr ∧ Blk wr g 48 cs.toArray ∧ Hid ((es.take j).any pv = false)) (fun i _ => k - (intOf i).toNat)
          case atStart => exact ⟨0, Nat.zero_le _, rfl, hb, D0, hany0⟩
          case round =>
            clear hb D0
            obtain ⟨j, hj, rfl, hb, D0, hnj⟩ := hrel
            obtain ⟨x0, x1, x2, x3⟩ := HB.out _ _ D0
            by_cases hjk : j < k
            · have hjl : j < es.length := by omega
              obtain ⟨bj, offj, hbe, hbB', hc⟩ := hs.at_ (i := j) (by simpa using hjl)
              obtain ⟨rfl, rfl⟩ : b = bj ∧ off = offj := by simpa using hbe
              simp only [List.getElem_map] at hc
              have y0 : wr.cell? ⟨b, off + j * 20, none⟩ = some (.string es[j].e.ti) := (hb.cell (p := ⟨b, off + j * 20, none⟩) hbB).trans (by simpa using hc 0 _ rfl)
              have y1 : wr.cell? ⟨b, off + j * 20 + 1, none⟩ = some (.int .i64 es[j].e.ve) := (hb.cell (p := ⟨b, off + j * 20 + 1, none⟩) hbB).trans (by simpa using hc 1 _ rfl)
              have hnj1 := Lib.hid ((hany.out j hjk).trans (by rw [hnj.out, Bool.false_or]))
              have hbad := Lib.hid (hany2.out j hjk)
              have hj1 : (j : Int) < (es.length : Int) := by omega
              have hj0 : (0 : Int) ≤ (j : Int) := by omega
              clear hc hbe
              generalize es[j].e.ti = tj at *
              generalize es[j].e.ve = vj at *
              cases hq : (tj.toList == ti.toList) with
              | false =>
                replace hnj1 := Lib.hid (hnj1.out.trans (by rw [hq, Bool.false_and]))
                go_wp2_with fail
                go_quiet (fail)
                go_wp2
                go_roundw
                case rel => exact ⟨j + 1, by omega, by go_num, (by first | exact below_drewN' hb _ | exact hb.drew | exact hb), D0, hnj1⟩
                case measure => simp [intOf]; omega
              | true =>
                by_cases hvv : vj = ve
                · have d2 : decide (vj = ve) = true := decide_eq_true hvv
                  have d3 : (vj == ve) = true := by simp [hvv]
                  have hr := Lib.hid (hbk.out (by rw [hR.out, hbb.out, hbad.out (by rw [hq, d3]; rfl)]; rfl))
                  go_wp2_with fail
                  go_quiet (fail)
                  go_wp2
                  go_ret
                  exact ⟨by rw [hr.out]; rfl, by first | exact below_drewN' hb _ | exact hb.drew | exact hb⟩
                · have d2 : decide (vj = ve) = false := decide_eq_false hvv
                  have d3 : (vj == ve) = false := by simp [hvv]
                  replace hnj1 := Lib.hid (hnj1.out.trans (by rw [hq, d3, Bool.and_false]))
                  go_wp2_with fail
                  go_quiet (fail)
                  go_wp2
                  go_roundw
                  case rel => exact ⟨j + 1, by omega, by go_num, (by first | exact below_drewN' hb _ | exact hb.drew | exact hb), D0, hnj1⟩
                  case measure => simp [intOf]; omega
            · have : j = k := by omega
              subst this
              have hek := Lib.hid (hR.out.trans (by rw [hbb.out, hnj.out]))
              go_wp2
              go_roundw
              case rel => exact ⟨j + 1, by omega, by go_num, hb, Lib.hid (hnx.out.trans (by rw [hek.out]; rfl))⟩
              case measure => simp [intOf]; omega
        | true =>
          by_cases hvv : ve ≤ vj
          · have d2 : decide (ve ≤ vj) = true := decide_eq_true hvv
            have hr := Lib.hid (hbk.out (by rw [hR.out, hbb.out, hq, d2]; rfl))
            go_quiet (fail)
            go_wp2
            go_ret
            exact ⟨by rw [hr.out]; rfl, by first | exact below_drewN' hb _ | exact hb.drew | exact hb⟩
          · have d2 : decide (ve ≤ vj) = false := decide_eq_false hvv
            replace hbb := Lib.hid (hbb.out.trans (by rw [hq, d2, Bool.true_and]))
            go_quiet (fail)
            clear y0 y1 d0 d1 hj1 hj0 hq d2
            refine then_world (R := fun V => Blk V g 48 cs.toArray ∧ Below w.heap.size w V) ⟨D0, by first | exact below_drewN' hb _ | exact hb.drew | exact hb⟩ (fun V hV => ?_)
            clear x0 x1 x2 x3 hb D0 hbas hbas0
            obtain ⟨D0, hb⟩ := hV
            go_wp2_with fail
            go_loopw [5] (fun i wr => ∃ j : Nat, j ≤ k ∧ i = .int .i64 j ∧ Below w.heap.size w wr ∧ Blk wr g 48 cs.toArray ∧ Hid ((es.take j).any pv = false)) (fun i _ => k - (intOf i).toNat)
            case atStart => exact ⟨0, Nat.zero_le _, rfl, hb, D0, hany0⟩
            case round =>
              clear hb D0
              obtain ⟨j, hj, rfl, hb, D0, hnj⟩ := hrel
              obtain ⟨x0, x1, x2, x3⟩ := HB.out _ _ D0
              by_cases hjk : j < k
              · have hjl : j < es.length := by omega
                obtain ⟨bj, offj, hbe, hbB', hc⟩ := hs.at_ (i := j) (by simpa using hjl)
                obtain ⟨rfl, rfl⟩ : b = bj ∧ off = offj := by simpa using hbe
                simp only [List.getElem_map] at hc
                have y0 : wr.cell? ⟨b, off + j * 20, none⟩ = some (.string es[j].e.ti) := (hb.cell (p := ⟨b, off + j * 20, none⟩) hbB).trans (by simpa using hc 0 _ rfl)
                have y1 : wr.cell? ⟨b, off + j * 20 + 1, none⟩ = some (.int .i64 es[j].e.ve) := (hb.cell (p := ⟨b, off + j * 20 + 1, none⟩) hbB).trans (by simpa using hc 1 _ rfl)
                have hnj1 := Lib.hid ((hany.out j hjk).trans (by rw [hnj.out, Bool.false_or]))
                have hbad := Lib.hid (hany2.out j hjk)
                have hj1 : (j : Int) < (es.length : Int) := by omega
                have hj0 : (0 : Int) ≤ (j : Int) := by omega
                clear hc hbe
                generalize es[j].e.ti = tj at *
                generalize es[j].e.ve = vj at *
                cases hq : (tj.toList == ti.toList) with
                | false =>
                  replace hnj1 := Lib.hid (hnj1.out.trans (by rw [hq, Bool.false_and]))
                  go_wp2_with fail
                  go_quiet (fail)
                  go_wp2
                  go_roundw
                  case rel => exact ⟨j + 1, by omega, by go_num, (by first | exact below_drewN' hb _ | exact hb.drew | exact hb), D0, hnj1⟩
                  case measure => simp [intOf]; omega
                | true =>
                  by_cases hvv : vj = ve
                  · have d2 : decide (vj = ve) = true := decide_eq_true hvv
                    have d3 : (vj == ve) = true := by simp [hvv]
                    have hr := Lib.hid (hbk.out (by rw [hR.out, hbb.out, hbad.out (by rw [hq, d3]; rfl)]; rfl))
                    go_wp2_with fail
                    go_quiet (fail)
                    go_wp2
                    go_ret
                    exact ⟨by rw [hr.out]; rfl, by first | exact below_drewN' hb _ | exact hb.drew | exact hb⟩
                  · have d2 : decide (vj = ve) = false := decide_eq_false hvv
                    have d3 : (vj == ve) = false := by simp [hvv]
                    replace hnj1 := Lib.hid (hnj1.out.trans (by rw [hq, d3, Bool.and_false]))
                    go_wp2_with fail
                    go_quiet (fail)
                    go_wp2
                    go_roundw
                    case rel => exact ⟨j + 1, by omega, by go_num, (by first | exact below_drewN' hb _ | exact hb.drew | exact hb), D0, hnj1⟩
                    case measure => simp [intOf]; omega
              · have : j = k := by omega
                subst this
                have hek := Lib.hid (hR.out.trans (by rw [hbb.out, hnj.out]))
                go_wp2
                go_roundw
                case rel => exact ⟨j + 1, by omega, by go_num, hb, Lib.hid (hnx.out.trans (by rw [hek.out]; rfl))⟩
                case measure => simp [intOf]; omega
      · have hbb := Lib.hid (hbas0.out (by omega))
        obtain rfl : ba = -1 := by omega
        go_quiet (fail)
        refine then_world (R := fun V => Blk V g 48 cs.toArray ∧ Below w.heap.size w V) ⟨D0, by first | exact below_drewN' hb _ | exact hb.drew | exact hb⟩ (fun V hV => ?_)
        clear x0 x1 x2 x3 hb D0 hbas hbas0
        obtain ⟨D0, hb⟩ := hV
        go_wp2_with fail
        go_loopw [5] (fun i wr => ∃ j : Nat, j ≤ k ∧ i = .int .i64 j ∧ Below w.heap.size w wr ∧ Blk wr g 48 cs.toArray ∧ Hid ((es.take j).any pv = false)) (fun i _ => k - (intOf i).toNat)
        case atStart => exact ⟨0, Nat.zero_le _, rfl, hb, D0, hany0⟩
        case round =>
          clear hb D0
          obtain ⟨j, hj, rfl, hb, D0, hnj⟩ := hrel
          obtain ⟨x0, x1, x2, x3⟩ := HB.out _ _ D0
          by_cases hjk : j < k
          · have hjl : j < es.length := by omega
            obtain ⟨bj, offj, hbe, hbB', hc⟩ := hs.at_ (i := j) (by simpa using hjl)
            obtain ⟨rfl, rfl⟩ : b = bj ∧ off = offj := by simpa using hbe
            simp only [List.getElem_map] at hc
            have y0 : wr.cell? ⟨b, off + j * 20, none⟩ = some (.string es[j].e.ti) := (hb.cell (p := ⟨b, off + j * 20, none⟩) hbB).trans (by simpa using hc 0 _ rfl)
            have y1 : wr.cell? ⟨b, off + j * 20 + 1, none⟩ = some (.int .i64 es[j].e.ve) := (hb.cell (p := ⟨b, off + j * 20 + 1, none⟩) hbB).trans (by simpa using hc 1 _ rfl)
            have hnj1 := Lib.hid ((hany.out j hjk).trans (by rw [hnj.out, Bool.false_or]))
            have hbad := Lib.hid (hany2.out j hjk)
            have hj1 : (j : Int) < (es.length : Int) := by omega
            have hj0 : (0 : Int) ≤ (j : Int) := by omega
            clear hc hbe
            generalize es[j].e.ti = tj at *
            generalize es[j].e.ve = vj at *
            cases hq : (tj.toList == ti.toList) with
            | false =>
              replace hnj1 := Lib.hid (hnj1.out.trans (by rw [hq, Bool.false_and]))
              go_wp2_with fail
              go_quiet (fail)
              go_wp2
              go_roundw
              case rel => exact ⟨j + 1, by omega, by go_num, (by first | exact below_drewN' hb _ | exact hb.drew | exact hb), D0, hnj1⟩
              case measure => simp [intOf]; omega
            | true =>
              by_cases hvv : vj = ve
              · have d2 : decide (vj = ve) = true := decide_eq_true hvv
                have d3 : (vj == ve) = true := by simp [hvv]
                have hr := Lib.hid (hbk.out (by rw [hR.out, hbb.out, hbad.out (by rw [hq, d3]; rfl)]; rfl))
                go_wp2_with fail
                go_quiet (fail)
                go_wp2
                go_ret
                exact ⟨by rw [hr.out]; rfl, by first | exact below_drewN' hb _ | exact hb.drew | exact hb⟩
              · have d2 : decide (vj = ve) = false := decide_eq_false hvv
                have d3 : (vj == ve) = false := by simp [hvv]
                replace hnj1 := Lib.hid (hnj1.out.trans (by rw [hq, d3, Bool.and_false]))
                go_wp2_with fail
                go_quiet (fail)
                go_wp2
                go_roundw
                case rel => exact ⟨j + 1, by omega, by go_num, (by first | exact below_drewN' hb _ | exact hb.drew | exact hb), D0, hnj1⟩
                case measure => simp [intOf]; omega
          · have : j = k := by omega
            subst this
            have hek := Lib.hid (hR.out.trans (by rw [hbb.out, hnj.out]))
            go_wp2
            go_roundw
            case rel => exact ⟨j + 1, by omega, by go_num, hb, Lib.hid (hnx.out.trans (by rw [hek.out]; rfl))⟩
            case measure => simp [intOf]; omega
    · have : k = es.length := by omega
      subst this
      have hr := Lib.hid (hcatE.out hn.out)
      clear hcatE hbadE hat
      go_wp2
      go_ret
      exact ⟨by rw [hr.out, show decide (es.length ≤ 12) = decide ((es.length : Int) ≤ 12) from decide_eq_decide.2 (by omega)]; rfl, hb⟩
end Go.Proofs.YtendoabjjfinhaaGreatDoor
namespace Go.Proofs.YtendoabjjfinhaaGreatDoor
open Go.RowKit
/-- a slice of the call's own while it grows -/
structure AppL (w : World) (e : TypeId) (xs : List (List Value)) (V : Value) (wr : World) : Prop where
  hb : Below w.heap.size w wr
  o : Own wr w.heap.size e 1 V xs
section
variable {w : World} {e : TypeId} {xs ys : List (List Value)} {V V' : Value} {wr w2 : World}
theorem AppL.below (h : AppL w e xs V wr) (hb : Below wr.heap.size wr w2) : AppL w e xs V w2 := ⟨h.hb.trans (hb.mono h.hb.size), h.o.below hb⟩
theorem AppL.alloc (h : AppL w e xs V wr) (ob : Obj) : AppL w e xs V (wr.alloc ob) := h.below ((Below.refl _ _).alloc (Nat.le_refl _) ob)
theorem AppL.app (h : AppL w e xs V wr) (hg : wr.grownBy w2 V.ownBlock) (h2 : Own w2 w.heap.size e 1 V' (xs ++ ys)) : AppL w e (xs ++ ys) V' w2 := ⟨below_app h.hb hg h.hb.size h.o.ownGe, h2⟩
end
def basOf (l : List En) (i : Int) : Int := match l[i.toNat]? with | some e => e.ba | none => -1
def chain (l : List En) : Nat → Int → List Int
  | 0, _ => []
  | n + 1, i => if i < 0 then [] else i :: chain l n (basOf l i)
theorem chain_len (l : List En) : ∀ (n : Nat) (i : Int), (chain l n i).length ≤ n
  | 0, _ => Nat.le_refl _
  | n + 1, i => by
    unfold chain
    split
    · exact Nat.zero_le _
    · have := chain_len l n (basOf l i)
      simp only [List.length_cons]
      omega
theorem chain_neg (l : List En) (n : Nat) {i : Int} (h : i < 0) : chain l n i = [] := by
  cases n with
  | zero => rfl
  | succ n => unfold chain; rw [if_pos h]
theorem chain_next (l : List En) (n : Nat) {i : Int} (h : ¬ i < 0) : chain l (n + 1) i = i :: chain l n (basOf l i) := by
  conv => lhs; unfold chain
  rw [if_neg h]
theorem basOf_get {l : List En} {m : Nat} (hm : m < l.length) : basOf l (m : Int) = l[m].ba := by
  unfold basOf
  rw [Int.toNat_natCast, List.getElem?_eq_getElem hm]
theorem info_Int : (Tryz.prog.info? 2).map (fun i => (i.zero, i.size, i.bytes)) = some (some (.int .i64 0), 1, 8) := by kernel_rfl
theorem catB_ba {l : List En} (h : catB l = true) {m : Nat} (hm : m < l.length) : -1 ≤ l[m].ba ∧ l[m].ba ≤ (m : Int) - 1 := by
  have h1 := entB_ba (catB_at h hm)
  rw [List.length_take, Nat.min_eq_left (by omega)] at h1
  exact h1
set_option maxRecDepth 100000 in
set_option maxHeartbeats 4000000 in
theorem originOf_c (A : Option Addr) (c : Nat) (es : List EnR) (i0 : Int) (w : World) (E : EnsIn w A es) (hv : catB (ens es) = true) (hi0 : -1 ≤ i0 ∧ i0 < (es.length : Int)) :
    Calls Tryz.prog 63 #[.slice A es.length c, .int .i64 i0] w fun x w' => ∃ A' c', x = .returned (.slice A' (chain (ens es) es.length i0).length c') ∧ Own w' w.heap.size 2 1 (.slice A' (chain (ens es) es.length i0).length c') ((chain (ens es) es.length i0).map ic) ∧ Below w.heap.size w w' := by
  have hl := E.n
  have hs := E.s
  have hba := Lib.hid (fun (m : Nat) (hm : m < es.length) => by have h := catB_ba hv (m := m) (by rw [ens_len]; exact hm); rw [ens_get hm] at h; exact h)
  have hbo := Lib.hid (fun (m : Nat) (hm : m < es.length) => (basOf_get (l := ens es) (m := m) (by rw [ens_len]; exact hm)).trans (by rw [ens_get hm]))
  have hcl := Lib.hid (chain_len (ens es) es.length i0)
  have hcn := Lib.hid (fun n i h => @chain_neg (ens es) n i h)
  have hcx := Lib.hid (fun n i h => @chain_next (ens es) n i h)
  obtain ⟨ii, hi, hz0, hz1, hz2⟩ := info_parts info_Int
  clear hv E
  have L0 : AppL w 2 (([] : List Int).map ic) (.slice (some ⟨w.heap.size, 0, none⟩) 0 0) (w.alloc (.cells #[] 2)) := ⟨(by repeat (first | with_reducible exact Below.refl _ _ | with_reducible apply below_drewN' | with_reducible apply Below.drew | (with_reducible refine Below.alloc ?_ (by first | omega | (simp; omega) | simp | (have := (Below.refl _ _).size; omega) | (have := (Below.refl _ _).size; simp; omega)) _) | (with_reducible refine Below.setCell ?_ (by first | omega | (simp; omega) | simp | (have := (Below.refl _ _).size; omega) | (have := (Below.refl _ _).size; simp; omega)) _) | exact Below.refl _ _)), Own.empty (Nat.le_refl _)⟩
  generalize hR0 : chain (ens es) es.length i0 = R at *
  generalize chain (ens es) = ch at *
  have hP0 : Hid ([] ++ ch es.length i0 = R) := Lib.hid hR0
  clear hR0
  go_enter Tryz.func63, Tryz.ntmps63
  go_wp2_with fail
  go_loopw [1, 5] (fun i o wr => ∃ (f : Nat) (j : Int) (P : List Int), i = .int .i64 j ∧ (-1 ≤ j ∧ j < (es.length : Int) ∧ j + 1 ≤ (f : Int)) ∧ Hid (P ++ ch f j = R) ∧ AppL w 2 (P.map ic) o wr) (fun i _ _ => (intOf i + 1).toNat)
  case atStart => exact ⟨es.length, i0, [], rfl, ⟨by omega, by omega, by omega⟩, hP0, L0⟩
  case round =>
    clear L0 hP0
    obtain ⟨f, j, P, rfl, ⟨hj0, hj1, hj2⟩, hP, hL⟩ := hrel
    by_cases hjn : j < 0
    · have hR : P = R := by rw [← hP.out, hcn.out f j hjn, List.append_nil]
      subst hR
      have hO := hL.o
      have hbw := hL.hb
      obtain ⟨A9, c9, hv, _⟩ := hO.form
      rw [List.length_map] at hv
      subst hv
      clear hL
      go_wp2
      go_ret
      exact ⟨A9, c9, rfl, hO, hbw⟩
    · obtain ⟨m, rfl⟩ : ∃ m : Nat, j = (m : Int) := ⟨j.toNat, by omega⟩
      have hml : m < es.length := by omega
      obtain ⟨f, rfl⟩ : ∃ f', f = f' + 1 := ⟨f - 1, by omega⟩
      have hPl : Hid (P.length + 1 ≤ 1048576) := Lib.hid (by
        have h1 := congrArg List.length hP.out
        rw [hcx.out f _ (by omega), List.length_append, List.length_cons] at h1
        have h2 := hcl.out
        omega)
      have hP' : Hid ((P ++ [(m : Int)]) ++ ch f es[m].e.ba = R) := Lib.hid (by rw [← hP.out, hcx.out f _ (by omega), hbo.out m hml, List.append_assoc]; rfl)
      have hbm := hba.out m hml
      obtain ⟨b, off, rfl, hbB, hc⟩ := hs.at_ (i := m) (by simpa using hml)
      simp only [List.getElem_map] at hc
      have HY : Hid (∀ W, Below w.heap.size w W → W.cell? ⟨b, off + m * 20 + 19, none⟩ = some (.int .i64 es[m].e.ba)) := Lib.hid (fun W hW => (hW.cell (p := ⟨b, off + m * 20 + 19, none⟩) hbB).trans (by simpa using hc 19 _ rfl))
      have hj3 : (m : Int) < (es.length : Int) := by omega
      have hj4 : (0 : Int) ≤ (m : Int) := by omega
      have hws := hL.hb.size
      clear hc hP
      generalize es[m].e.ba = ba at *
      have hbl : b < wr.heap.size := Nat.lt_of_lt_of_le hbB hws
      go_wp2_with (at_builtin; refine wpList_append_rows _ rfl _ _ _ rfl w.heap.size 2 ii _ 1 8 Tryz.underlying25 hi hz0 hz1 hz2 rfl (by omega) _ _ rfl (hL.o.alloc _) _ _ _ _ ([(m : Int)].map ic) rfl rfl (Sl.blkInts (Blk.new wr 2 _) [(m : Int)] rfl) (ic_one (x := [(m : Int)])) (by simp; have := hPl.out; unfold maxLen; omega) (by simp; have := hPl.out; omega) (by first | omega | (simp only []; omega) | (simp; omega)) ?_; intro v1 w2 hO2 hg2 hat; have hL2 := (hL.alloc _).app hg2 hO2; have y19 := HY.out w2 hL2.hb)
      go_roundw
      case rel => exact ⟨f, ba, P ++ [(m : Int)], rfl, ⟨by omega, by omega, by omega⟩, hP', by rw [List.map_append]; exact hL2⟩
      case measure => simp [intOf]; omega
set_option maxRecDepth 100000 in
set_option maxHeartbeats 4000000 in
theorem l33Origin_c (A : Option Addr) (c : Nat) (es : List EnR) (i0 : Int) (w : World) (E : EnsIn w A es) (hv : catB (ens es) = true) (hi0 : -1 ≤ i0 ∧ i0 < (es.length : Int)) :
    Calls Tryz.prog 65 #[.slice A es.length c, .int .i64 i0] w fun x w' => ∃ A' c', x = .returned (.slice A' (chain (ens es) es.length i0).length c') ∧ Own w' w.heap.size 2 1 (.slice A' (chain (ens es) es.length i0).length c') ((chain (ens es) es.length i0).map ic) ∧ Below w.heap.size w w' := by
  have hl := E.n
  have hs := E.s
  have hba := Lib.hid (fun (m : Nat) (hm : m < es.length) => by have h := catB_ba hv (m := m) (by rw [ens_len]; exact hm); rw [ens_get hm] at h; exact h)
  have hbo := Lib.hid (fun (m : Nat) (hm : m < es.length) => (basOf_get (l := ens es) (m := m) (by rw [ens_len]; exact hm)).trans (by rw [ens_get hm]))
  have hcl := Lib.hid (chain_len (ens es) es.length i0)
  have hcn := Lib.hid (fun n i h => @chain_neg (ens es) n i h)
  have hcx := Lib.hid (fun n i h => @chain_next (ens es) n i h)
  obtain ⟨ii, hi, hz0, hz1, hz2⟩ := info_parts info_Int
  clear hv E
  have L0 : AppL w 2 (([] : List Int).map ic) (.slice (some ⟨w.heap.size, 0, none⟩) 0 0) (w.alloc (.cells #[] 2)) := ⟨(by repeat (first | with_reducible exact Below.refl _ _ | with_reducible apply below_drewN' | with_reducible apply Below.drew | (with_reducible refine Below.alloc ?_ (by first | omega | (simp; omega) | simp | (have := (Below.refl _ _).size; omega) | (have := (Below.refl _ _).size; simp; omega)) _) | (with_reducible refine Below.setCell ?_ (by first | omega | (simp; omega) | simp | (have := (Below.refl _ _).size; omega) | (have := (Below.refl _ _).size; simp; omega)) _) | exact Below.refl _ _)), Own.empty (Nat.le_refl _)⟩
  generalize hR0 : chain (ens es) es.length i0 = R at *
  generalize chain (ens es) = ch at *
  have hP0 : Hid ([] ++ ch es.length i0 = R) := Lib.hid hR0
  clear hR0
  go_enter Tryz.func65, Tryz.ntmps65
  go_wp2_with fail
  go_loopw [1, 5] (fun i o wr => ∃ (f : Nat) (j : Int) (P : List Int), i = .int .i64 j ∧ (-1 ≤ j ∧ j < (es.length : Int) ∧ j + 1 ≤ (f : Int)) ∧ Hid (P ++ ch f j = R) ∧ AppL w 2 (P.map ic) o wr) (fun i _ _ => (intOf i + 1).toNat)
  case atStart => exact ⟨es.length, i0, [], rfl, ⟨by omega, by omega, by omega⟩, hP0, L0⟩
  case round =>
    clear L0 hP0
    obtain ⟨f, j, P, rfl, ⟨hj0, hj1, hj2⟩, hP, hL⟩ := hrel
    by_cases hjn : j < 0
    · have hR : P = R := by rw [← hP.out, hcn.out f j hjn, List.append_nil]
      subst hR
      have hO := hL.o
      have hbw := hL.hb
      obtain ⟨A9, c9, hv, _⟩ := hO.form
      rw [List.length_map] at hv
      subst hv
      clear hL
      go_wp2
      go_ret
      exact ⟨A9, c9, rfl, hO, hbw⟩
    · obtain ⟨m, rfl⟩ : ∃ m : Nat, j = (m : Int) := ⟨j.toNat, by omega⟩
      have hml : m < es.length := by omega
      obtain ⟨f, rfl⟩ : ∃ f', f = f' + 1 := ⟨f - 1, by omega⟩
      have hPl : Hid (P.length + 1 ≤ 1048576) := Lib.hid (by
        have h1 := congrArg List.length hP.out
        rw [hcx.out f _ (by omega), List.length_append, List.length_cons] at h1
        have h2 := hcl.out
        omega)
      have hP' : Hid ((P ++ [(m : Int)]) ++ ch f es[m].e.ba = R) := Lib.hid (by rw [← hP.out, hcx.out f _ (by omega), hbo.out m hml, List.append_assoc]; rfl)
      have hbm := hba.out m hml
      obtain ⟨b, off, rfl, hbB, hc⟩ := hs.at_ (i := m) (by simpa using hml)
      simp only [List.getElem_map] at hc
      have HY : Hid (∀ W, Below w.heap.size w W → W.cell? ⟨b, off + m * 20 + 19, none⟩ = some (.int .i64 es[m].e.ba)) := Lib.hid (fun W hW => (hW.cell (p := ⟨b, off + m * 20 + 19, none⟩) hbB).trans (by simpa using hc 19 _ rfl))
      have hj3 : (m : Int) < (es.length : Int) := by omega
      have hj4 : (0 : Int) ≤ (m : Int) := by omega
      have hws := hL.hb.size
      clear hc hP
      generalize es[m].e.ba = ba at *
      have hbl : b < wr.heap.size := Nat.lt_of_lt_of_le hbB hws
      go_wp2_with (at_builtin; refine wpList_append_rows _ rfl _ _ _ rfl w.heap.size 2 ii _ 1 8 Tryz.underlying25 hi hz0 hz1 hz2 rfl (by omega) _ _ rfl (hL.o.alloc _) _ _ _ _ ([(m : Int)].map ic) rfl rfl (Sl.blkInts (Blk.new wr 2 _) [(m : Int)] rfl) (ic_one (x := [(m : Int)])) (by simp; have := hPl.out; unfold maxLen; omega) (by simp; have := hPl.out; omega) (by first | omega | (simp only []; omega) | (simp; omega)) ?_; intro v1 w2 hO2 hg2 hat; have hL2 := (hL.alloc _).app hg2 hO2; have y19 := HY.out w2 hL2.hb)
      go_roundw
      case rel => exact ⟨f, ba, P ++ [(m : Int)], rfl, ⟨by omega, by omega, by omega⟩, hP', by rw [List.map_append]; exact hL2⟩
      case measure => simp [intOf]; omega
end Go.Proofs.YtendoabjjfinhaaGreatDoor
namespace Go.Proofs.YtendoabjjfinhaaGreatDoor
open Go.RowKit
def formC (fd ft : Int) (s : ByteArray) (A : Option Addr) (n c : Nat) : List Value := [.int .i64 fd, .int .i64 ft, .string s, .slice A n c]
def chartC (fd ft : Int) (s : ByteArray) (A : Option Addr) (n c : Nat) (wd lf rt : Int) : List Value := formC fd ft s A n c ++ [.int .i64 wd, .int .i64 lf, .int .i64 rt]
def Rl.tail (r : Rl) : List Value := [.int .i64 r.lud, .int .i64 r.lut, .int .i64 r.hud, .int .i64 r.hut, .int .i64 r.lvd, .int .i64 r.lvt, .int .i64 r.hvd, .int .i64 r.hvt, .int .i64 r.ey, .int .i64 r.bo]
theorem Rl.split (r : Rl) (A : Option Addr) (c : Nat) : r.cells A c = chartC r.fd r.ft r.nm A r.l.length c r.wd r.lf r.rt ++ r.tail := rfl
theorem formC_one (fd ft : Int) (s : ByteArray) (A : Option Addr) (n c : Nat) : ∀ v ∈ formC fd ft s A n c, v.oneCell' = true := by
  unfold formC
  simp only [List.mem_cons, List.not_mem_nil, or_false]
  rintro v (h | h | h | h) <;> subst h <;> rfl
theorem chartC_one (fd ft : Int) (s : ByteArray) (A : Option Addr) (n c : Nat) (wd lf rt : Int) : ∀ v ∈ chartC fd ft s A n c wd lf rt, v.oneCell' = true := by
  unfold chartC
  intro v hv
  rcases List.mem_append.1 hv with h | h
  · exact formC_one _ _ _ _ _ _ v h
  · simp only [List.mem_cons, List.not_mem_nil, or_false] at h
    rcases h with h | h | h <;> subst h <;> rfl
theorem aggFo (W : World) : (isAgg 42).run Tryz.prog W = .ok true W := by simp [isAgg, go_sem]
theorem szFoC (W : World) : (sizeOf 42).run Tryz.prog W = .ok 4 W := by simp [go_sem]
theorem aggCh (W : World) : (isAgg 44).run Tryz.prog W = .ok true W := by simp [isAgg, go_sem]
theorem szChC (W : World) : (sizeOf 44).run Tryz.prog W = .ok 7 W := by simp [go_sem]
theorem aggRe (W : World) : (isAgg 46).run Tryz.prog W = .ok true W := by simp [isAgg, go_sem]
theorem szReC (W : World) : (sizeOf 46).run Tryz.prog W = .ok 17 W := by simp [go_sem]
set_option maxRecDepth 100000 in
set_option maxHeartbeats 1000000 in
theorem ownFormula_c (fd ft : Int) (s : ByteArray) (A : Option Addr) (c : Nat) (l : List Int) (w : World) (hl : l.length ≤ 1048576) (hs : Sl w w.heap.size 1 A (l.map ic)) :
    Calls Tryz.prog 128 #[.agg (formC fd ft s A l.length c).toArray] w fun x w' => ∃ B d, x = .returned (.agg (formC fd ft s B l.length d).toArray) ∧ Own w' w.heap.size 2 1 (.slice B l.length d) (l.map ic) ∧ Below w.heap.size w w' := by
  have HC := Lib.hid (fun W (hW : Below w.heap.size w W) => cloneInt_c A c l W (by omega) ((hs.below hW).more hW.size))
  have hW : Below w.heap.size w ((w.alloc (.cells #[.int .i64 fd, .int .i64 ft, .string s, .slice A l.length c] 42)).alloc (.cells #[.int .i64 0, .int .i64 0, .string ⟨#[]⟩, .slice none 0 0] 42)) := (by repeat (first | with_reducible exact Below.refl _ _ | with_reducible apply below_drewN' | with_reducible apply Below.drew | (with_reducible refine Below.alloc ?_ (by first | omega | (simp; omega) | simp | (have := (Below.refl _ _).size; omega) | (have := (Below.refl _ _).size; simp; omega)) _) | (with_reducible refine Below.setCell ?_ (by first | omega | (simp; omega) | simp | (have := (Below.refl _ _).size; omega) | (have := (Below.refl _ _).size; simp; omega)) _) | exact Below.refl _ _))
  have B0 := (Blk.new w 42 #[.int .i64 fd, .int .i64 ft, .string s, .slice A l.length c]).alloc (.cells #[.int .i64 0, .int .i64 0, .string ⟨#[]⟩, .slice none 0 0] 42)
  have Z0 := Blk.new' (w.alloc (.cells #[.int .i64 fd, .int .i64 ft, .string s, .slice A l.length c] 42)) 42 #[.int .i64 0, .int .i64 0, .string ⟨#[]⟩, .slice none 0 0] (g := w.heap.size + 1) (by simp)
  unfold formC
  clear hs
  go_enter Tryz.func128, Tryz.ntmps128
  go_wp2_with fail
  generalize ((w.alloc (.cells #[.int .i64 fd, .int .i64 ft, .string s, .slice A l.length c] 42)).alloc (.cells #[.int .i64 0, .int .i64 0, .string ⟨#[]⟩, .slice none 0 0] 42)) = W at *
  have hWs := Z0.lt
  refine Calls.mono (HC.out W hW) ?_; rintro x w1 ⟨B, d, rfl, O, hb1⟩
  replace B0 := B0.below hb1 B0.lt
  replace Z0 := Z0.below hb1 Z0.lt
  replace hW := hW.trans (hb1.mono hW.size)
  clear hb1
  clear HC
  have hge := O.ownGe
  have y3 : w1.cell? ⟨w.heap.size, 3, none⟩ = some (.slice A l.length c) := B0.cell 3
  have f3 := B0.frozen 3
  have B1 : Blk (w1.setCell ⟨w.heap.size, 3, none⟩ (.slice B l.length d)) w.heap.size 42 [Value.int .i64 fd, .int .i64 ft, .string s, .slice B l.length d].toArray := B0.set_ 3 _
  have Z1 : Blk (w1.setCell ⟨w.heap.size, 3, none⟩ (.slice B l.length d)) (w.heap.size + 1) 42 ([Value.int .i64 0, .int .i64 0, .string ⟨#[]⟩, .slice none 0 0] : List Value).toArray := Z0.far (p := ⟨w.heap.size, 3, none⟩) (by simp) _
  have O1 : Own (w1.setCell ⟨w.heap.size, 3, none⟩ (.slice B l.length d)) W.heap.size 2 1 (.slice B l.length d) (l.map ic) := own_far O (by first | omega | (simp; omega))
  have hW1 : Below w.heap.size w (w1.setCell ⟨w.heap.size, 3, none⟩ (.slice B l.length d)) := (by repeat (first | with_reducible exact hW | with_reducible apply below_drewN' | with_reducible apply Below.drew | (with_reducible refine Below.alloc ?_ (by first | omega | (simp; omega) | simp | (have := (hW).size; omega) | (have := (hW).size; simp; omega)) _) | (with_reducible refine Below.setCell ?_ (by first | omega | (simp; omega) | simp | (have := (hW).size; omega) | (have := (hW).size; simp; omega)) _) | exact hW))
  have hr1 := B1.range
  clear B0 Z0 O hW
  go_wp2_with (first | (refine wpList_load_mid rfl 42 _ rfl (w.heap.size) 0 rfl ([Value.int .i64 fd, .int .i64 ft, .string s, .slice B l.length d]) _ hr1 Tryz.underlying42 rfl (by kernel_rfl) ?_) | (refine wpList_store_part rfl 42 _ _ rfl (w.heap.size + 1) 0 [Value.int .i64 fd, .int .i64 ft, .string s, .slice B l.length d] rfl rfl Z1 (by simp) (by kernel_rfl) (formC_one fd ft s B l.length d) ?_; intro w4 hg4 D4; refine Hid.out ?_))
  refine Lib.hid ?_
  have D5 : Blk w4 (w.heap.size + 1) 42 [Value.int .i64 fd, .int .i64 ft, .string s, .slice B l.length d].toArray := D4
  have O4 := O1.kept hg4 (.inr (fun h => by have := hge _ h; omega))
  have hW4 : Below w.heap.size w w4 := hW1.grown hg4 hW1.size (fun g hh => by simp only [Option.some.injEq] at hh; omega)
  have hs2 : w.heap.size ≤ W.heap.size := by omega
  clear D4 Z1 B1 O1 hW1 hr1 y3 f3
  go_wp2_with fail
  refine bodyPost_ret (res_cells (k := 2) (vs := [Value.int .i64 fd, .int .i64 ft, .string s, .slice B l.length d]) Tryz.results128 rfl (aggFo w4) (szFoC w4) D5) rfl ⟨B, d, rfl, O4.mono hs2, hW4⟩
set_option maxRecDepth 100000 in
set_option maxHeartbeats 1000000 in
theorem ownChart_c (fd ft : Int) (s : ByteArray) (A : Option Addr) (c : Nat) (l : List Int) (wd lf rt : Int) (w : World) (hl : l.length ≤ 1048576) (hs : Sl w w.heap.size 1 A (l.map ic)) :
    Calls Tryz.prog 91 #[.agg (chartC fd ft s A l.length c wd lf rt).toArray] w fun x w' => ∃ B d, x = .returned (.agg (chartC fd ft s B l.length d wd lf rt).toArray) ∧ Own w' w.heap.size 2 1 (.slice B l.length d) (l.map ic) ∧ Below w.heap.size w w' := by
  have HC := Lib.hid (fun W (hW : Below w.heap.size w W) => ownFormula_c fd ft s A c l W hl ((hs.below hW).more hW.size))
  have hsp : Hid (∀ X Y, chartC fd ft s X l.length Y wd lf rt = formC fd ft s X l.length Y ++ [Value.int .i64 wd, .int .i64 lf, .int .i64 rt]) := Lib.hid (fun X Y => rfl)
  have hone := Lib.hid (fun X Y => chartC_one fd ft s X l.length Y wd lf rt)
  have hpone := Lib.hid (fun X Y => formC_one fd ft s X l.length Y)
  have hlen : Hid (∀ X Y, (chartC fd ft s X l.length Y wd lf rt).length = 7) := Lib.hid (fun X Y => rfl)
  have hplen : Hid (∀ X Y, (formC fd ft s X l.length Y).length = 4) := Lib.hid (fun X Y => rfl)
  have hW : Below w.heap.size w ((w.alloc (.cells (chartC fd ft s A l.length c wd lf rt).toArray 44)).alloc (.cells ([Value.int .i64 0, .int .i64 0, .string ⟨#[]⟩, .slice none 0 0, .int .i64 0, .int .i64 0, .int .i64 0]).toArray 44)) := (by repeat (first | with_reducible exact Below.refl _ _ | with_reducible apply below_drewN' | with_reducible apply Below.drew | (with_reducible refine Below.alloc ?_ (by first | omega | (simp; omega) | simp | (have := (Below.refl _ _).size; omega) | (have := (Below.refl _ _).size; simp; omega)) _) | (with_reducible refine Below.setCell ?_ (by first | omega | (simp; omega) | simp | (have := (Below.refl _ _).size; omega) | (have := (Below.refl _ _).size; simp; omega)) _) | exact Below.refl _ _))
  have B0 := (Blk.new w 44 (chartC fd ft s A l.length c wd lf rt).toArray).alloc (.cells ([Value.int .i64 0, .int .i64 0, .string ⟨#[]⟩, .slice none 0 0, .int .i64 0, .int .i64 0, .int .i64 0]).toArray 44)
  have Z0 := Blk.new' (w.alloc (.cells (chartC fd ft s A l.length c wd lf rt).toArray 44)) 44 ([Value.int .i64 0, .int .i64 0, .string ⟨#[]⟩, .slice none 0 0, .int .i64 0, .int .i64 0, .int .i64 0]).toArray (g := w.heap.size + 1) (by simp)
  have x2 : ((w.alloc (.cells (chartC fd ft s A l.length c wd lf rt).toArray 44)).alloc (.cells ([Value.int .i64 0, .int .i64 0, .string ⟨#[]⟩, .slice none 0 0, .int .i64 0, .int .i64 0, .int .i64 0]).toArray 44)).rangeAt w.heap.size 0 (formC fd ft s A l.length c) := Blk.part (xs := []) (ys := [Value.int .i64 wd, .int .i64 lf, .int .i64 rt]) (by rw [List.nil_append, ← hsp.out]; exact B0) rfl
  have hpl := hplen.out A c
  clear hs
  have hca := Lib.hid (hsp.out A c)
  generalize hcs : chartC fd ft s A l.length c wd lf rt = ca at *
  generalize hps : formC fd ft s A l.length c = pa at *
  clear hcs hps
  have htl : ([Value.int .i64 wd, .int .i64 lf, .int .i64 rt] : List Value).length + 4 = 7 := rfl
  go_enter Tryz.func91, Tryz.ntmps91
  go_wp2_with (first | (refine wpList_load_mid rfl 42 _ rfl w.heap.size 0 rfl pa _ x2 Tryz.underlying42 rfl (by rw [hpl]; kernel_rfl) ?_) | fail)
  generalize ((w.alloc (.cells ca.toArray 44)).alloc (.cells ([Value.int .i64 0, .int .i64 0, .string ⟨#[]⟩, .slice none 0 0, .int .i64 0, .int .i64 0, .int .i64 0]).toArray 44)) = W at *
  clear x2
  have hWs := Z0.lt
  refine Calls.mono (HC.out W hW) ?_; rintro x w1 ⟨B, d, rfl, O, hb1⟩
  replace B0 := B0.below hb1 B0.lt
  replace Z0 := Z0.below hb1 Z0.lt
  replace hW := hW.trans (hb1.mono hW.size)
  clear hb1
  clear HC
  obtain rfl := hca.out
  have hge := O.ownGe
  have hpb := hplen.out B d
  have hec := Lib.hid (hsp.out B d)
  have hpo := hpone.out B d
  have heo := hone.out B d
  have hel := hlen.out B d
  generalize hcs : chartC fd ft s B l.length d wd lf rt = ec at *
  generalize hps : formC fd ft s B l.length d = pb at *
  clear hps hpone hone hplen
  go_wp2_with (refine wpList_store_part rfl 42 _ _ rfl w.heap.size 0 pb rfl rfl B0 (by rw [List.length_append, hpl, hpb]; omega) (by rw [hpb]; kernel_rfl) hpo ?_; intro w2 hg2 D2; refine Hid.out ?_)
  refine Lib.hid ?_
  have B1 : Blk w2 w.heap.size 44 ec.toArray := by
    have h := fill_mid pb pa [] [Value.int .i64 wd, .int .i64 lf, .int .i64 rt] (by rw [hpl, hpb])
    simp only [List.nil_append, List.length_nil] at h
    rw [hec.out, ← h]
    exact D2
  have Z1 : Blk w2 (w.heap.size + 1) 44 ([Value.int .i64 0, .int .i64 0, .string ⟨#[]⟩, .slice none 0 0, .int .i64 0, .int .i64 0, .int .i64 0]).toArray := (hg2.block _ Z0.lt (by simp)).trans Z0
  have O1 := O.kept hg2 (.inr (fun h => by have := hge _ h; omega))
  have hW1 : Below w.heap.size w w2 := hW.grown hg2 hW.size (fun g hh => by simp only [Option.some.injEq] at hh; omega)
  have hr1 := B1.range
  replace hcs := Lib.hid hcs
  clear B0 Z0 O hW D2 hg2 hec
  go_wp2_with (first | (refine wpList_load_mid rfl 44 _ rfl w.heap.size 0 rfl ec _ hr1 Tryz.underlying44 rfl (by rw [hel]; kernel_rfl) ?_) | (refine wpList_store_part rfl 44 _ _ rfl (w.heap.size + 1) 0 ec rfl rfl Z1 (by rw [hel]; simp) (by rw [hel]; kernel_rfl) heo ?_; intro w4 hg4 D4; refine Hid.out ?_))
  refine Lib.hid ?_
  have D5 : Blk w4 (w.heap.size + 1) 44 ec.toArray := by
    have h := fill_mid ec [Value.int .i64 0, .int .i64 0, .string ⟨#[]⟩, .slice none 0 0, .int .i64 0, .int .i64 0, .int .i64 0] [] [] (by rw [hel]; rfl)
    simp only [List.nil_append, List.append_nil, List.length_nil] at h
    rw [← h]
    exact D4
  have O4 := O1.kept hg4 (.inr (fun h => by have := hge _ h; omega))
  have hW4 : Below w.heap.size w w4 := hW1.grown hg4 hW1.size (fun g hh => by simp only [Option.some.injEq] at hh; omega)
  have hs2 : w.heap.size ≤ W.heap.size := by omega
  clear D4 Z1 B1 O1 hW1 hr1
  go_wp2_with fail
  refine bodyPost_ret (res_cells (k := 2) (vs := ec) Tryz.results91 rfl (aggCh w4) (by rw [hel]; exact szChC w4) D5) rfl ⟨B, d, by rw [hcs.out], O4.mono hs2, hW4⟩
set_option maxRecDepth 100000 in
set_option maxHeartbeats 1000000 in
theorem ownRelease_c (r : Rl) (A : Option Addr) (c : Nat) (w : World) (hl : r.l.length ≤ 1048576) (hs : Sl w w.heap.size 1 A (r.l.map ic)) :
    Calls Tryz.prog 52 #[.agg (r.cells A c).toArray] w fun x w' => ∃ B d, x = .returned (.agg (r.cells B d).toArray) ∧ Own w' w.heap.size 2 1 (.slice B r.l.length d) (r.l.map ic) ∧ Below w.heap.size w w' := by
  have HC := Lib.hid (fun W (hW : Below w.heap.size w W) => ownChart_c r.fd r.ft r.nm A c r.l r.wd r.lf r.rt W hl ((hs.below hW).more hW.size))
  have hsp : Hid (∀ X Y, r.cells X Y = chartC r.fd r.ft r.nm X r.l.length Y r.wd r.lf r.rt ++ r.tail) := Lib.hid (fun X Y => Rl.split r X Y)
  have hone := Lib.hid (fun X Y => r.one X Y)
  have hpone := Lib.hid (fun X Y => chartC_one r.fd r.ft r.nm X r.l.length Y r.wd r.lf r.rt)
  have hlen : Hid (∀ X Y, (r.cells X Y).length = 17) := Lib.hid (fun X Y => rfl)
  have hplen : Hid (∀ X Y, (chartC r.fd r.ft r.nm X r.l.length Y r.wd r.lf r.rt).length = 7) := Lib.hid (fun X Y => rfl)
  have hW : Below w.heap.size w ((w.alloc (.cells (r.cells A c).toArray 46)).alloc (.cells ([Value.int .i64 0, .int .i64 0, .string ⟨#[]⟩, .slice none 0 0, .int .i64 0, .int .i64 0, .int .i64 0, .int .i64 0, .int .i64 0, .int .i64 0, .int .i64 0, .int .i64 0, .int .i64 0, .int .i64 0, .int .i64 0, .int .i64 0, .int .i64 0]).toArray 46)) := (by repeat (first | with_reducible exact Below.refl _ _ | with_reducible apply below_drewN' | with_reducible apply Below.drew | (with_reducible refine Below.alloc ?_ (by first | omega | (simp; omega) | simp | (have := (Below.refl _ _).size; omega) | (have := (Below.refl _ _).size; simp; omega)) _) | (with_reducible refine Below.setCell ?_ (by first | omega | (simp; omega) | simp | (have := (Below.refl _ _).size; omega) | (have := (Below.refl _ _).size; simp; omega)) _) | exact Below.refl _ _))
  have B0 := (Blk.new w 46 (r.cells A c).toArray).alloc (.cells ([Value.int .i64 0, .int .i64 0, .string ⟨#[]⟩, .slice none 0 0, .int .i64 0, .int .i64 0, .int .i64 0, .int .i64 0, .int .i64 0, .int .i64 0, .int .i64 0, .int .i64 0, .int .i64 0, .int .i64 0, .int .i64 0, .int .i64 0, .int .i64 0]).toArray 46)
  have Z0 := Blk.new' (w.alloc (.cells (r.cells A c).toArray 46)) 46 ([Value.int .i64 0, .int .i64 0, .string ⟨#[]⟩, .slice none 0 0, .int .i64 0, .int .i64 0, .int .i64 0, .int .i64 0, .int .i64 0, .int .i64 0, .int .i64 0, .int .i64 0, .int .i64 0, .int .i64 0, .int .i64 0, .int .i64 0, .int .i64 0]).toArray (g := w.heap.size + 1) (by simp)
  have x2 : ((w.alloc (.cells (r.cells A c).toArray 46)).alloc (.cells ([Value.int .i64 0, .int .i64 0, .string ⟨#[]⟩, .slice none 0 0, .int .i64 0, .int .i64 0, .int .i64 0, .int .i64 0, .int .i64 0, .int .i64 0, .int .i64 0, .int .i64 0, .int .i64 0, .int .i64 0, .int .i64 0, .int .i64 0, .int .i64 0]).toArray 46)).rangeAt w.heap.size 0 (chartC r.fd r.ft r.nm A r.l.length c r.wd r.lf r.rt) := Blk.part (xs := []) (ys := r.tail) (by rw [List.nil_append, ← hsp.out]; exact B0) rfl
  have hpl := hplen.out A c
  clear hs
  have hca := Lib.hid (hsp.out A c)
  generalize hcs : r.cells A c = ca at *
  generalize hps : chartC r.fd r.ft r.nm A r.l.length c r.wd r.lf r.rt = pa at *
  clear hcs hps
  have htl : (r.tail : List Value).length + 7 = 17 := rfl
  go_enter Tryz.func52, Tryz.ntmps52
  go_wp2_with (first | (refine wpList_load_mid rfl 44 _ rfl w.heap.size 0 rfl pa _ x2 Tryz.underlying44 rfl (by rw [hpl]; kernel_rfl) ?_) | fail)
  generalize ((w.alloc (.cells ca.toArray 46)).alloc (.cells ([Value.int .i64 0, .int .i64 0, .string ⟨#[]⟩, .slice none 0 0, .int .i64 0, .int .i64 0, .int .i64 0, .int .i64 0, .int .i64 0, .int .i64 0, .int .i64 0, .int .i64 0, .int .i64 0, .int .i64 0, .int .i64 0, .int .i64 0, .int .i64 0]).toArray 46)) = W at *
  clear x2
  have hWs := Z0.lt
  refine Calls.mono (HC.out W hW) ?_; rintro x w1 ⟨B, d, rfl, O, hb1⟩
  replace B0 := B0.below hb1 B0.lt
  replace Z0 := Z0.below hb1 Z0.lt
  replace hW := hW.trans (hb1.mono hW.size)
  clear hb1
  clear HC
  obtain rfl := hca.out
  have hge := O.ownGe
  have hpb := hplen.out B d
  have hec := Lib.hid (hsp.out B d)
  have hpo := hpone.out B d
  have heo := hone.out B d
  have hel := hlen.out B d
  generalize hcs : r.cells B d = ec at *
  generalize hps : chartC r.fd r.ft r.nm B r.l.length d r.wd r.lf r.rt = pb at *
  clear hps hpone hone hplen
  go_wp2_with (refine wpList_store_part rfl 44 _ _ rfl w.heap.size 0 pb rfl rfl B0 (by rw [List.length_append, hpl, hpb]; omega) (by rw [hpb]; kernel_rfl) hpo ?_; intro w2 hg2 D2; refine Hid.out ?_)
  refine Lib.hid ?_
  have B1 : Blk w2 w.heap.size 46 ec.toArray := by
    have h := fill_mid pb pa [] r.tail (by rw [hpl, hpb])
    simp only [List.nil_append, List.length_nil] at h
    rw [hec.out, ← h]
    exact D2
  have Z1 : Blk w2 (w.heap.size + 1) 46 ([Value.int .i64 0, .int .i64 0, .string ⟨#[]⟩, .slice none 0 0, .int .i64 0, .int .i64 0, .int .i64 0, .int .i64 0, .int .i64 0, .int .i64 0, .int .i64 0, .int .i64 0, .int .i64 0, .int .i64 0, .int .i64 0, .int .i64 0, .int .i64 0]).toArray := (hg2.block _ Z0.lt (by simp)).trans Z0
  have O1 := O.kept hg2 (.inr (fun h => by have := hge _ h; omega))
  have hW1 : Below w.heap.size w w2 := hW.grown hg2 hW.size (fun g hh => by simp only [Option.some.injEq] at hh; omega)
  have hr1 := B1.range
  replace hcs := Lib.hid hcs
  clear B0 Z0 O hW D2 hg2 hec
  go_wp2_with (first | (refine wpList_load_mid rfl 46 _ rfl w.heap.size 0 rfl ec _ hr1 Tryz.underlying46 rfl (by rw [hel]; kernel_rfl) ?_) | (refine wpList_store_part rfl 46 _ _ rfl (w.heap.size + 1) 0 ec rfl rfl Z1 (by rw [hel]; simp) (by rw [hel]; kernel_rfl) heo ?_; intro w4 hg4 D4; refine Hid.out ?_))
  refine Lib.hid ?_
  have D5 : Blk w4 (w.heap.size + 1) 46 ec.toArray := by
    have h := fill_mid ec [Value.int .i64 0, .int .i64 0, .string ⟨#[]⟩, .slice none 0 0, .int .i64 0, .int .i64 0, .int .i64 0, .int .i64 0, .int .i64 0, .int .i64 0, .int .i64 0, .int .i64 0, .int .i64 0, .int .i64 0, .int .i64 0, .int .i64 0, .int .i64 0] [] [] (by rw [hel]; rfl)
    simp only [List.nil_append, List.append_nil, List.length_nil] at h
    rw [← h]
    exact D4
  have O4 := O1.kept hg4 (.inr (fun h => by have := hge _ h; omega))
  have hW4 : Below w.heap.size w w4 := hW1.grown hg4 hW1.size (fun g hh => by simp only [Option.some.injEq] at hh; omega)
  have hs2 : w.heap.size ≤ W.heap.size := by omega
  clear D4 Z1 B1 O1 hW1 hr1
  go_wp2_with fail
  refine bodyPost_ret (res_cells (k := 2) (vs := ec) Tryz.results52 rfl (aggRe w4) (by rw [hel]; exact szReC w4) D5) rfl ⟨B, d, by rw [hcs.out], O4.mono hs2, hW4⟩
end Go.Proofs.YtendoabjjfinhaaGreatDoor
namespace Go.Proofs.YtendoabjjfinhaaGreatDoor
open Go.RowKit
structure L18S (W0 : World) (n : Nat) (R : List (List Value)) (fd ft : Int) (s : ByteArray) (b9 b10 : Bool) (x9 x10 : Value) (v : World) : Prop where
  hb : Below W0.heap.size W0 v
  q : b9 = true → ∃ B d, x9 = .slice B n d ∧ Own v W0.heap.size 2 1 x9 R
  k : b10 = true → b9 = true ∧ x10 = .agg #[.int .i64 fd, .int .i64 ft, .string s, x9]
set_option maxRecDepth 100000 in
set_option maxHeartbeats 1000000 in
theorem l18Own_c (fd ft : Int) (s : ByteArray) (A : Option Addr) (c : Nat) (l : List Int) (w : World) (hl : l.length ≤ 1048576) (hs : Sl w w.heap.size 1 A (l.map ic)) :
    Calls Tryz.prog 48 #[.agg (formC fd ft s A l.length c).toArray] w fun x w' => ∃ B d, x = .returned (.agg (formC fd ft s B l.length d).toArray) ∧ Own w' w.heap.size 2 1 (.slice B l.length d) (l.map ic) ∧ Below w.heap.size w w' := by
  have HC := Lib.hid (fun W (hW : Below w.heap.size w W) => l01Own_c A c l W (by omega) ((hs.below hW).more hW.size))
  have hW : Below w.heap.size w ((w.alloc (.cells #[.int .i64 fd, .int .i64 ft, .string s, .slice A l.length c] 42)).alloc (.cells #[.int .i64 0, .int .i64 0, .string ⟨#[]⟩, .slice none 0 0] 42)) := (by repeat (first | with_reducible exact Below.refl _ _ | with_reducible apply below_drewN' | with_reducible apply Below.drew | (with_reducible refine Below.alloc ?_ (by first | omega | (simp; omega) | simp | (have := (Below.refl _ _).size; omega) | (have := (Below.refl _ _).size; simp; omega)) _) | (with_reducible refine Below.setCell ?_ (by first | omega | (simp; omega) | simp | (have := (Below.refl _ _).size; omega) | (have := (Below.refl _ _).size; simp; omega)) _) | exact Below.refl _ _))
  have B0 := (Blk.new w 42 #[.int .i64 fd, .int .i64 ft, .string s, .slice A l.length c]).alloc (.cells #[.int .i64 0, .int .i64 0, .string ⟨#[]⟩, .slice none 0 0] 42)
  have Z0 := Blk.new' (w.alloc (.cells #[.int .i64 fd, .int .i64 ft, .string s, .slice A l.length c] 42)) 42 #[.int .i64 0, .int .i64 0, .string ⟨#[]⟩, .slice none 0 0] (g := w.heap.size + 1) (by simp)
  unfold formC
  clear hs
  go_enter Tryz.func48, Tryz.ntmps48
  go_wp2_with fail
  generalize ((w.alloc (.cells #[.int .i64 fd, .int .i64 ft, .string s, .slice A l.length c] 42)).alloc (.cells #[.int .i64 0, .int .i64 0, .string ⟨#[]⟩, .slice none 0 0] 42)) = W at *
  have hWs := Z0.lt
  have hBl := B0.lt
  refine wp_region_sink 8 (fun a0 fL bA v => ∃ v3 v4 v5 v6 v7 v8 v9 v10 : Value, bA = (((((((a0.put (some 3) v3).put (some 4) v4).put (some 5) v5).put (some 6) v6).put (some 7) v7).put (some 8) v8).put (some 9) v9).put (some 10) v10 ∧ (L18S W l.length (l.map ic) fd ft s (fL 6) (fL 7) v9 v10 v) ∧ (fL 0 = true → v3 = .pointer (some ⟨w.heap.size, 0, none⟩)) ∧ (fL 1 = true → v4 = .agg #[.int .i64 fd, .int .i64 ft]) ∧ (fL 2 = true → v5 = .pointer (some ⟨w.heap.size, 2, none⟩)) ∧ (fL 3 = true → v6 = .string s) ∧ (fL 4 = true → v7 = .pointer (some ⟨w.heap.size, 3, none⟩)) ∧ (fL 5 = true → v8 = .slice A l.length c) ∧ (fL 6 = true → True) ∧ (fL 7 = true → True)) (by kernel_rfl) (by decide +kernel) ?_ ?_ ?_
  · exact ⟨_, _, _, _, _, _, _, _, put_more (put_more (put_more (put_more (put_more (put_more (put_more (put_more (rfl) 3) 4) 5) 6) 7) 8) 9) 10, ⟨(Below.refl _ _).drew, nofun, nofun⟩, nofun, nofun, nofun, nofun, nofun, nofun, nofun, nofun⟩
  · rintro fL bA v ⟨v3, v4, v5, v6, v7, v8, v9, v10, rfl, hS, q0, q1, q2, q3, q4, q5, q6, q7⟩ i hi hf o ho hall
    simp only [Act.put, List.setIfInBounds_toArray, List.set_cons_zero, List.set_cons_succ]
    have hn : i = 0 ∨ i = 1 ∨ i = 2 ∨ i = 3 ∨ i = 4 ∨ i = 5 ∨ i = 6 ∨ i = 7 := by omega
    clear hi
    rcases hn with rfl | rfl | rfl | rfl | rfl | rfl | rfl | rfl
    · obtain rfl := Option.some.inj ho
      clear hall ho
      refine wpOp_step rfl (fun K hK => ?_)
      go_simp
      exact hK _ _ ⟨_, _, _, _, _, _, _, _, rfl, hS, fun _ => rfl, q1, q2, q3, q4, q5, fun _ => trivial, fun _ => trivial⟩
    · obtain rfl := Option.some.inj ho
      obtain rfl := q0 (hall ⟨0, .data⟩ (by simp) rfl)
      have z0 : v.cell? ⟨w.heap.size, 0, none⟩ = some (.int .i64 fd) := (B0.below hS.hb hBl).cell 0
      have z1 : v.cell? ⟨w.heap.size, 1, none⟩ = some (.int .i64 ft) := (B0.below hS.hb hBl).cell 1
      clear hall ho
      refine wpOp_step rfl (fun K hK => ?_)
      go_simp
      exact hK _ _ ⟨_, _, _, _, _, _, _, _, rfl, hS, fun _ => rfl, fun _ => rfl, q2, q3, q4, q5, fun _ => trivial, fun _ => trivial⟩
    · obtain rfl := Option.some.inj ho
      clear hall ho
      refine wpOp_step rfl (fun K hK => ?_)
      go_simp
      exact hK _ _ ⟨_, _, _, _, _, _, _, _, rfl, hS, q0, q1, fun _ => rfl, q3, q4, q5, fun _ => trivial, fun _ => trivial⟩
    · obtain rfl := Option.some.inj ho
      obtain rfl := q2 (hall ⟨2, .data⟩ (by simp) rfl)
      have z2 : v.cell? ⟨w.heap.size, 2, none⟩ = some (.string s) := (B0.below hS.hb hBl).cell 2
      clear hall ho
      refine wpOp_step rfl (fun K hK => ?_)
      go_simp
      exact hK _ _ ⟨_, _, _, _, _, _, _, _, rfl, hS, q0, q1, fun _ => rfl, fun _ => rfl, q4, q5, fun _ => trivial, fun _ => trivial⟩
    · obtain rfl := Option.some.inj ho
      clear hall ho
      refine wpOp_step rfl (fun K hK => ?_)
      go_simp
      exact hK _ _ ⟨_, _, _, _, _, _, _, _, rfl, hS, q0, q1, q2, q3, fun _ => rfl, q5, fun _ => trivial, fun _ => trivial⟩
    · obtain rfl := Option.some.inj ho
      obtain rfl := q4 (hall ⟨4, .data⟩ (by simp) rfl)
      have z3 : v.cell? ⟨w.heap.size, 3, none⟩ = some (.slice A l.length c) := (B0.below hS.hb hBl).cell 3
      clear hall ho
      refine wpOp_step rfl (fun K hK => ?_)
      go_simp
      exact hK _ _ ⟨_, _, _, _, _, _, _, _, rfl, hS, q0, q1, q2, q3, fun _ => rfl, fun _ => rfl, fun _ => trivial, fun _ => trivial⟩
    · obtain rfl := Option.some.inj ho
      obtain rfl := q5 (hall ⟨5, .data⟩ (by simp) rfl)
      clear hall ho
      refine wpOp_step rfl (fun K hK => ?_)
      go_simp
      refine Calls.mono (HC.out v (hW.trans (hS.hb.mono hW.size))) ?_; rintro e w7 ⟨B7, d7, rfl, O7, hb7⟩
      go_simp
      exact hK _ _ ⟨_, _, _, _, _, _, _, _, rfl, ⟨hS.hb.trans (hb7.mono hS.hb.size), fun _ => ⟨B7, d7, rfl, O7.mono hS.hb.size⟩, fun e => absurd (hS.k e).1 (by rw [hf]; simp)⟩, q0, q1, q2, q3, q4, fun _ => rfl, fun _ => trivial, fun _ => trivial⟩
    · obtain rfl := Option.some.inj ho
      obtain rfl := q1 (hall ⟨1, .data⟩ (by simp) rfl)
      obtain rfl := q3 (hall ⟨3, .data⟩ (by simp) rfl)
      have e6 : fL 6 = true := hall ⟨6, .data⟩ (by simp) rfl
      obtain ⟨B7, d7, rfl, O7⟩ := hS.q e6
      clear hall ho
      refine wpOp_step rfl (fun K hK => ?_)
      go_simp
      exact hK _ _ ⟨_, _, _, _, _, _, _, _, rfl, ⟨hS.hb, hS.q, fun _ => ⟨e6, rfl⟩⟩, q0, fun _ => rfl, q2, fun _ => rfl, q4, q5, fun _ => trivial, fun _ => trivial⟩
  · rintro fL bA v ⟨v3, v4, v5, v6, v7, v8, v9, v10, rfl, hS, q0, q1, q2, q3, q4, q5, q6, q7⟩ hall
    simp only [Act.put, List.setIfInBounds_toArray, List.set_cons_zero, List.set_cons_succ]
    obtain rfl := q0 (hall 0 (by omega))
    obtain rfl := q1 (hall 1 (by omega))
    obtain rfl := q2 (hall 2 (by omega))
    obtain rfl := q3 (hall 3 (by omega))
    obtain rfl := q4 (hall 4 (by omega))
    obtain rfl := q5 (hall 5 (by omega))
    have e6 : fL 6 = true := hall 6 (by omega)
    have e7 : fL 7 = true := hall 7 (by omega)
    clear hall
    simp only [List.drop_succ_cons, List.drop_zero]
    obtain ⟨B, d, rfl, O⟩ := hS.q e6
    obtain ⟨_, rfl⟩ := hS.k e7
    have hb1 := hS.hb
    clear hS
    obtain ⟨w1, hnm⟩ : ∃ u, u = v := ⟨_, rfl⟩
    subst hnm
    replace B0 := B0.below hb1 B0.lt
    replace Z0 := Z0.below hb1 Z0.lt
    replace hW := hW.trans (hb1.mono hW.size)
    clear hb1
    clear HC
    have hge := O.ownGe
    go_wp2_with (refine wpList_store_part rfl 42 _ _ rfl (w.heap.size + 1) 0 [Value.int .i64 fd, .int .i64 ft, .string s, .slice B l.length d] rfl rfl (L := [Value.int .i64 0, .int .i64 0, .string ⟨#[]⟩, .slice none 0 0]) Z0 (by simp) (by kernel_rfl) (formC_one fd ft s B l.length d) ?_; intro w4 hg4 D4; refine Hid.out ?_)
    refine Lib.hid ?_
    have D5 : Blk w4 (w.heap.size + 1) 42 [Value.int .i64 fd, .int .i64 ft, .string s, .slice B l.length d].toArray := D4
    have O4 := O.kept hg4 (.inr (fun h => by have := hge _ h; omega))
    have hW4 : Below w.heap.size w w4 := hW.grown hg4 hW.size (fun g hh => by simp only [Option.some.injEq] at hh; omega)
    have hs2 : w.heap.size ≤ W.heap.size := by omega
    clear D4 Z0 B0 O hW
    go_wp2_with fail
    refine bodyPost_ret (res_cells (k := 2) (vs := [Value.int .i64 fd, .int .i64 ft, .string s, .slice B l.length d]) Tryz.results48 rfl (aggFo w4) (szFoC w4) D5) rfl ⟨B, d, rfl, O4.mono hs2, hW4⟩
theorem EnR.one {l : List EnR} : ∀ y ∈ l.map EnR.cells, ∀ u ∈ y, u.oneCell' = true := fun y hy u hu => by
  obtain ⟨x, _, rfl⟩ := List.mem_map.1 hy
  exact x.e.one x.A x.c u hu
set_option maxRecDepth 100000 in
theorem cloneEn_c (A : Option Addr) (c : Nat) (l : List EnR) (w : World) (hl : l.length ≤ 4000000) (hs : Sl w w.heap.size 20 A (l.map EnR.cells)) :
    Calls Tryz.prog 51 #[.slice A l.length c] w fun e w' => ∃ A' c', e = .returned (.slice A' l.length c') ∧ Own w' w.heap.size 48 20 (.slice A' l.length c') (l.map EnR.cells) ∧ Below w.heap.size w w' := by
  obtain ⟨i0, hi, hz0, hz1, hz2⟩ := info_parts info_Entry
  have qT : ∀ (w : World) (a : Option Addr) (n c n' c' : Nat), (binOp .eql 36 (.slice a n c) (.slice none n' c')).run Tryz.prog w = .ok (.bool a.isNone) w := fun w a n c n' c' => Lib.run_eql_slice_nil w _ _ a n c n' c' Tryz.underlying36
  cases A with
  | none =>
    have hl0 : l = [] := by
      cases l with
      | nil => rfl
      | cons y r => obtain ⟨_, b, off, h, _⟩ := hs 0 _ rfl; cases h
    subst hl0
    go_enter Tryz.func51, Tryz.ntmps51
    go_wp2
    go_ret
    exact ⟨none, 0, rfl, Own.nil_, Below.refl _ _⟩
  | some a =>
    go_enter Tryz.func51, Tryz.ntmps51
    go_wp2_with (at_builtin; refine wpList_append_rows _ rfl (.tmp 5) (.tmp 6) _ rfl w.heap.size 48 i0 _ 20 192 Tryz.underlying36 hi hz0 hz1 hz2 rfl (by omega) _ [] rfl (Own.empty (Nat.le_refl _)) w.heap.size (some a) l.length c (l.map EnR.cells) rfl (by simp) (hs.alloc (Nat.le_refl _) _) EnR.one (by simp [maxLen]; omega) (by simp; omega) (by simp) ?_; intro v1 w1 hO hg hat)
    go_ret
    obtain ⟨A', c', rfl, _⟩ := hO.form
    refine ⟨A', c', by simp, by simpa using hO, ?_⟩
    exact below_app (((Below.refl _ _).alloc (Nat.le_refl _) _)) hg (by simp) (fun g hg' => Nat.le_of_eq (Option.some.inj hg'))
end Go.Proofs.YtendoabjjfinhaaGreatDoor
