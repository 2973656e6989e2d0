/- FnExactMarkOf: the walk. Conditions: what an argument always is. -/
import Derived.Test.YtmdliicdlehibaaRl
import Derived.Test.YtmdliicdlehibaaOpenF
namespace Go.Proofs.Ytmdliicdlehibaa
open Go.RowKit
set_option linter.unusedSimpArgs false
/-- while '!eqRelease(x0, toRelease(aR))' runs -/
structure EqR (w1 : World) (b : Bool) (Q : Value → World → Prop) (x : Value) (v : World) : Prop where
  hb : Below w1.heap.size w1 v
  q : b = true → Q x v
set_option maxRecDepth 100000 in
set_option maxHeartbeats 4000000 in
theorem lawMarkOf_c (r : Rl) (A : Option Addr) (c : Nat) (w : World) (X : RlLaid w A c r) :
    Calls Try.prog 3 #[.agg (r.cells A c).toArray] w fun e w' => e = .returned (.bool true) ∧ Below w.heap.size w w' := by
  have hW : Below w.heap.size w (w.alloc (.cells (r.cells A c).toArray 30)) := (by repeat (first | with_reducible exact Below.refl _ _ | with_reducible apply below_drewN' | with_reducible apply Below.drew | (with_reducible refine Below.alloc ?_ (by first | omega | (simp; omega) | simp | (have := (Below.refl _ _).size; omega) | (have := (Below.refl _ _).size; simp; omega)) _) | (with_reducible refine Below.setCell ?_ (by first | omega | (simp; omega) | simp | (have := (Below.refl _ _).size; omega) | (have := (Below.refl _ _).size; simp; omega)) _) | exact Below.refl _ _))
  have B0 := Blk.new w 30 (r.cells A c).toArray
  have HZ := Lib.hid (fun W (hW : Below w.heap.size w W) => szRl_c r A c 1048576 W ⟨X.hm, X.k, X.z, (X.s.below hW).more hW.size⟩ (by omega))
  have HT := Lib.hid (fun W (hW : Below w.heap.size w W) (E : RlIn w A c r) => toRl_c r A c W (E.later hW))
  have HSp := Lib.hid (fun B d W (E : RlIn W B d r) => specMarkRl_c r B d W E)
  have HIm := Lib.hid (fun B d W (E : RlIn W B d r) => implMarkRl_c r B d W E)
  have HE := Lib.hid (fun B d B' d' W (E : RlIn W B d r) (F : RlIn W B' d' r) => eqRl_c r B d B' d' W E F)
  have X := Lib.hid X
  have hcl := Lib.hid (fun B d => r.len B d)
  have hone := Lib.hid (fun B d => r.one B d)
  have hr := B0.range
  have hC : Hid (∀ v w', RlCopy r v w' → ∃ B d, v = .agg (r.cells B d).toArray ∧ RlIn w' B d r) := Lib.hid (fun v w' h => h)
  generalize hcs : r.cells = cells at *
  clear hcs
  generalize cells A c = cs at *
  generalize relMark r.b r.nums = mk at *
  generalize relCode r.b = cd at *
  go_enter Try.func3, Try.ntmps3
  go_wp2_with (refine wpList_load_mid rfl 30 _ rfl w.heap.size 0 rfl (cs) _ hr Try.underlying30 rfl (by kernel_rfl) ?_)
  generalize w.alloc (.cells cs.toArray 30) = W at *
  clear hr
  refine Calls.mono (HZ.out W hW) ?_; rintro e w1 ⟨⟨v, rfl, hv⟩, hb1⟩
  replace B0 := B0.below hb1 B0.lt
  replace hW := hW.trans (hb1.mono hW.size)
  clear hb1
  clear HZ
  rcases hv with hv | ⟨hv0, _, hlen⟩
  · go_wp2
    go_ret
    exact ⟨rfl, (by repeat (first | with_reducible exact hW | with_reducible apply below_drewN' | with_reducible apply Below.drew | (with_reducible refine Below.alloc ?_ (by first | omega | (simp; omega) | simp | (have := (hW).size; omega) | (have := (hW).size; simp; omega)) _) | (with_reducible refine Below.setCell ?_ (by first | omega | (simp; omega) | simp | (have := (hW).size; omega) | (have := (hW).size; simp; omega)) _) | exact hW))⟩
  have hvn : ¬ v < 0 := by omega
  have E := X.out.rl hlen
  clear X hlen
  replace HT := Lib.hid (fun W hW => HT.out W hW E)
  have hr := B0.range
  go_wp2_with (refine wpList_load_mid rfl 30 _ rfl w.heap.size 0 rfl (cs) _ hr Try.underlying30 rfl (by kernel_rfl) ?_)
  refine Calls.mono (HT.out w1 hW) ?_; rintro e w2 ⟨⟨v2, rfl, hv2⟩, hb2⟩
  obtain ⟨B2, d2, rfl, E2⟩ := hC.out _ _ hv2
  replace B0 := B0.below hb2 B0.lt
  replace hW := hW.trans (hb2.mono hW.size)
  clear hb2
  clear hr hv2
  go_wp2_with fail
  refine Calls.mono (HSp.out B2 d2 w2 E2) ?_; rintro e w3 ⟨rfl, hb3⟩
  replace B0 := B0.below hb3 B0.lt
  replace hW := hW.trans (hb3.mono hW.size)
  clear hb3
  clear E2 HSp
  have hr := B0.range
  go_wp2_with (refine wpList_load_mid rfl 30 _ rfl w.heap.size 0 rfl (cs) _ hr Try.underlying30 rfl (by kernel_rfl) ?_)
  refine Calls.mono (HT.out w3 hW) ?_; rintro e w4 ⟨⟨v4, rfl, hv4⟩, hb4⟩
  obtain ⟨B4, d4, rfl, E4⟩ := hC.out _ _ hv4
  replace B0 := B0.below hb4 B0.lt
  replace hW := hW.trans (hb4.mono hW.size)
  clear hb4
  clear hr hv4
  have hl4 : (cells B4 d4).length = 17 := hcl.out B4 d4
  have ho4 := hone.out B4 d4
  have hba : Below w4.heap.size w4 (w4.alloc (.cells (cells B4 d4).toArray 40)) := (Below.refl _ _).alloc (Nat.le_refl _) _
  have D0 := Blk.new w4 40 (cells B4 d4).toArray
  have hr := D0.range
  have hcall := HIm.out B4 d4 _ (E4.later hba)
  generalize hx4 : cells B4 d4 = x4 at *
  replace hx4 := Lib.hid hx4
  go_wp2_with (first | (refine wpList_store_new rfl _ _ rfl x4 rfl rfl (by rw [hl4]; kernel_rfl) (by rw [hl4]; rfl) ho4 ?_) | (refine wpList_load_mid rfl 40 _ rfl w4.heap.size 0 rfl (x4) _ hr Try.underlying40 rfl (by kernel_rfl) ?_))
  clear hr hl4 ho4
  have E5 := E4.later hba
  replace B0 := B0.below hba B0.lt
  replace hW := hW.trans (hba.mono hW.size)
  clear E4 hba
  generalize w4.alloc (.cells x4.toArray 40) = w5 at *
  generalize w4.heap.size = gx at *
  refine Calls.mono hcall ?_; rintro e w6 ⟨rfl, hb6⟩
  replace E5 := E5.later hb6
  replace B0 := B0.below hb6 B0.lt
  replace D0 := D0.below hb6 D0.lt
  replace hW := hW.trans (hb6.mono hW.size)
  clear hb6
  clear hcall HIm
  have HEq : Hid (∀ B' d' W, Below w6.heap.size w6 W → RlIn W B' d' r → Calls Try.prog 10 #[.agg x4.toArray, .agg (cells B' d').toArray] W fun e w' => e = .returned (.bool true) ∧ Below W.heap.size W w') := Lib.hid (fun B' d' W hb F => by have h := HE.out B4 d4 B' d' W (E5.later hb) F; rwa [hx4.out] at h)
  clear HE E5 hx4
  go_wp2_with fail
  refine wp_region_sink 4 (fun a0 fL bA v => ∃ v35 v36 v37 v38 : Value, bA = (((a0.put (some 35) v35).put (some 36) v36).put (some 37) v37).put (some 38) v38 ∧ (EqR w6 (fL 2) (fun x u => ∃ B d, x = .agg (cells B d).toArray ∧ RlIn u B d r) v37 v) ∧ (fL 0 = true → v35 = .agg x4.toArray) ∧ (fL 1 = true → v36 = .agg cs.toArray) ∧ (fL 2 = true → True) ∧ (fL 3 = true → v38 = .bool true)) (by kernel_rfl) (by decide +kernel) ?_ ?_ ?_
  · exact ⟨undef, undef, undef, undef, by simp only [Act.put, List.setIfInBounds_toArray, List.set_cons_zero, List.set_cons_succ], ⟨(Below.refl _ _).drew, nofun⟩, nofun, nofun, nofun, nofun⟩
  · rintro fL bA v ⟨v35, v36, v37, v38, rfl, hS, q0, q1, q2, q3⟩ i hi hf o ho hall
    simp only [Act.put, List.setIfInBounds_toArray, List.set_cons_zero, List.set_cons_succ]
    have hn : i = 0 ∨ i = 1 ∨ i = 2 ∨ i = 3 := by omega
    clear hi
    rcases hn with rfl | rfl | rfl | rfl
    · obtain rfl := Option.some.inj ho
      clear hall ho
      refine wpOp_step rfl (fun K hK => ?_)
      refine wp_load_mid 40 _ rfl gx 0 rfl x4 _ (D0.below hS.hb D0.lt).range Try.underlying40 rfl (by kernel_rfl) ?_
      exact hK _ _ ⟨_, _, _, _, rfl, hS, fun _ => rfl, q1, fun _ => trivial, q3⟩
    · obtain rfl := Option.some.inj ho
      clear hall ho
      refine wpOp_step rfl (fun K hK => ?_)
      refine wp_load_mid 30 _ rfl w.heap.size 0 rfl cs _ (B0.below hS.hb B0.lt).range Try.underlying30 rfl (by kernel_rfl) ?_
      exact hK _ _ ⟨_, _, _, _, rfl, hS, q0, fun _ => rfl, fun _ => trivial, q3⟩
    · obtain rfl := Option.some.inj ho
      obtain rfl := q1 (hall ⟨1, .data⟩ (by simp) rfl)
      clear hall ho
      refine wpOp_step rfl (fun K hK => ?_)
      go_simp
      refine Calls.mono (HT.out v (hW.trans (hS.hb.mono hW.size))) ?_; rintro e w7 ⟨⟨u, rfl, hu⟩, hb7⟩
      go_simp
      exact hK _ _ ⟨_, _, _, _, rfl, ⟨hS.hb.trans (hb7.mono hS.hb.size), fun _ => hC.out _ _ hu⟩, q0, fun _ => rfl, fun _ => trivial, q3⟩
    · obtain rfl := Option.some.inj ho
      obtain rfl := q0 (hall ⟨0, .data⟩ (by simp) rfl)
      have e2 : fL 2 = true := hall ⟨2, .data⟩ (by simp) rfl
      clear hall ho
      refine wpOp_step rfl (fun K hK => ?_)
      obtain ⟨H1, h1, rfl, EH⟩ := hS.q e2
      go_simp
      refine Calls.mono (HEq.out H1 h1 v hS.hb EH) ?_; rintro e w7 ⟨rfl, hb7⟩
      go_simp
      exact hK _ _ ⟨_, _, _, _, rfl, ⟨hS.hb.trans (hb7.mono hS.hb.size), fun e => let ⟨B, d, h1, h2⟩ := hS.q e; ⟨B, d, h1, h2.later hb7⟩⟩, fun _ => rfl, q1, fun _ => trivial, fun _ => rfl⟩
  · rintro fL bA v ⟨v35, v36, v37, v38, rfl, hS, q0, q1, q2, q3⟩ hall
    simp only [Act.put, List.setIfInBounds_toArray, List.set_cons_zero, List.set_cons_succ]
    obtain rfl := q0 (hall 0 (by omega))
    obtain rfl := q1 (hall 1 (by omega))
    have e2 : fL 2 = true := hall 2 (by omega)
    obtain rfl := q3 (hall 3 (by omega))
    clear hall
    simp only [List.drop_succ_cons, List.drop_zero]
    have hbv := hW.trans (hS.hb.mono hW.size)
    go_wp2
    go_ret
    exact ⟨rfl, (by repeat (first | with_reducible exact hbv | with_reducible apply below_drewN' | with_reducible apply Below.drew | (with_reducible refine Below.alloc ?_ (by first | omega | (simp; omega) | simp | (have := (hbv).size; omega) | (have := (hbv).size; simp; omega)) _) | (with_reducible refine Below.setCell ?_ (by first | omega | (simp; omega) | simp | (have := (hbv).size; omega) | (have := (hbv).size; simp; omega)) _) | exact hbv))⟩
end Go.Proofs.Ytmdliicdlehibaa
