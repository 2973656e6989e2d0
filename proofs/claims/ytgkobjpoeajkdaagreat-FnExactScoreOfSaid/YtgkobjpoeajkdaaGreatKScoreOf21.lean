/- FnExactScoreOf: the walk. Conditions: what an argument always is. -/
import Derived.Test.YtgkobjpoeajkdaaGreatKScoreOf20
namespace Go.Proofs.YtgkobjpoeajkdaaGreat
open Go.RowKit
set_option maxRecDepth 100000 in
set_option maxHeartbeats 4000000 in
theorem lawScoreOf_c (L : Int) (A1 : Option Addr) (c1 : Nat) (l1 : List Int) (A2 : Option Addr) (c2 : Nat) (l2 : List Int) (A3 : Option Addr) (c3 : Nat) (l3 : List Term) (p q r : Int) (A : Option Addr) (c : Nat) (es : List AnR) (w : World) (X : ExLaid w A1 c1 l1 A2 c2 l2 A3 c3 l3) (hn : es.length ≤ 140737488351232) (hi : ∀ e ∈ es, e.Laid w) (hs : Sl w w.heap.size 3 A (es.map AnR.cells)) :
    Calls Tryz.prog 9 #[.agg #[.int .i64 L, .slice A1 l1.length c1, .slice A2 l2.length c2, .slice A3 l3.length c3, .int .i64 p, .int .i64 q, .int .i64 r], .slice A es.length c] w fun e w' => e = .returned (.bool true) ∧ Below w.heap.size w w' := by
  have HZ := fun W => Lib.hid (szExercise_c L A1 l1.length c1 A2 l2.length c2 A3 l3.length c3 p q r 1048576 W X.z1 X.z2 X.z3 (by omega))
  have HZA := Lib.hid (fun left W (h : 0 ≤ left ∧ left ≤ 1048576) (hb : Below w.heap.size w W) => Lib.hid (szAnS_c A c es left W hn (fun e he => AnLaid.later (hi e he) hb) ((hs.below hb).more hb.size) h))
  have HF : Hid ((es.length ≤ 1048576 ∧ ∀ e ∈ es, e.short) → AnsIn w A es) := fun h => ⟨h.1, hs, fun e he => ⟨h.2 e he, (hi e he).k, (hi e he).s⟩⟩
  have hW : Below w.heap.size w (w.alloc (.cells #[.int .i64 L, .slice A1 l1.length c1, .slice A2 l2.length c2, .slice A3 l3.length c3, .int .i64 p, .int .i64 q, .int .i64 r] 29)) := (by repeat (first | with_reducible exact Below.refl _ _ | with_reducible apply below_drewN' | with_reducible apply Below.drew | (with_reducible refine Below.alloc ?_ (by first | omega | (simp; omega) | simp) _) | (with_reducible refine Below.setCell ?_ (by first | omega | (simp; omega) | simp) _) | exact Below.refl _ _))
  have X0 := Blk.new w 29 #[.int .i64 L, .slice A1 l1.length c1, .slice A2 l2.length c2, .slice A3 l3.length c3, .int .i64 p, .int .i64 q, .int .i64 r]
  have X := Lib.hid X
  clear hi hs
  go_enter Tryz.func9, Tryz.ntmps9
  go_wp2_with fail
  generalize w.alloc (.cells #[.int .i64 L, .slice A1 l1.length c1, .slice A2 l2.length c2, .slice A3 l3.length c3, .int .i64 p, .int .i64 q, .int .i64 r] 29) = W at *
  refine Calls.mono (HZ W).out ?_; rintro e w1 ⟨⟨v, rfl, hv⟩, hb1⟩
  have hW1 := hW.trans (hb1.mono hW.size)
  have X1 := X0.below hb1 X0.lt
  clear hW X0 hb1 HZ
  rcases hv with hv | ⟨hv0, hv1, hlen⟩
  · go_wp2
    go_ret
    exact ⟨rfl, (by repeat (first | with_reducible exact hW1 | with_reducible apply below_drewN' | with_reducible apply Below.drew | (with_reducible refine Below.alloc ?_ (by first | omega | (simp; omega) | simp) _) | (with_reducible refine Below.setCell ?_ (by first | omega | (simp; omega) | simp) _) | exact hW1))⟩
  have hvn : ¬ v < 0 := by omega
  have E := Lib.hid (X.out.ex hlen)
  have HZA := HZA.out v w1 ⟨hv0, hv1⟩ hW1
  clear X hlen
  go_wp2_with fail
  refine Calls.mono HZA.out ?_; rintro e w2 ⟨⟨v', rfl, hv'⟩, hb2⟩
  have hW2 := hW1.trans (hb2.mono hW1.size)
  have X2 := X1.below hb2 X1.lt
  clear hW1 X1 hb2 HZA
  rcases hv' with hv' | ⟨hv0', hv1', hlen⟩
  · go_wp2
    go_ret
    exact ⟨rfl, (by repeat (first | with_reducible exact hW2 | with_reducible apply below_drewN' | with_reducible apply Below.drew | (with_reducible refine Below.alloc ?_ (by first | omega | (simp; omega) | simp) _) | (with_reducible refine Below.setCell ?_ (by first | omega | (simp; omega) | simp) _) | exact hW2))⟩
  have hvn' : ¬ v' < 0 := by omega
  have F := Lib.hid (HF.out hlen)
  clear HF hlen
  have HT := fun (W : World) (hW : Below w.heap.size w W) => Lib.hid (toEx_c L A1 c1 l1 A2 c2 l2 A3 c3 l3 p q r W (E.out.later hW))
  unfold exAgg at HT
  have HT := Lib.hid HT
  have HU := Lib.hid (fun (W : World) (hW : Below w.heap.size w W) => Lib.hid (toAnS_c A c es W (F.out.later hW)))
  have HSp : Hid (∀ (B1 : Option Addr) d1 B2 d2 B3 d3 A' c' (fs : List AnR) W, ExIn W B1 d1 l1 B2 d2 l2 B3 d3 l3 → SameA es fs → AnsIn W A' fs → Hid (Calls Tryz.prog 43 #[.agg #[.int .i64 L, .slice B1 l1.length d1, .slice B2 l2.length d2, .slice B3 l3.length d3, .int .i64 p, .int .i64 q, .int .i64 r], .slice A' es.length c'] W fun e w' => e = .returned (.tuple #[.int .i64 (scV (gradeP L l1 l2 l3 p q r) (exB L l1 l2 l3 p q r && es.all AnR.ok) (es.map AnR.fig)), .int .i64 (scC (exB L l1 l2 l3 p q r && es.all AnR.ok) es.length)]) ∧ Below W.heap.size W w')) := fun B1 d1 B2 d2 B3 d3 A' c' fs W hE hS hF => by
    have h := specScoreOf_c L B1 d1 l1 B2 d2 l2 B3 d3 l3 p q r A' c' fs W hE hF
    rw [hS.ok, hS.figs, ← hS.1] at h
    exact h
  have HIm : Hid (∀ (B1 : Option Addr) d1 B2 d2 B3 d3 A' c' (fs : List AnR) W, ExIn W B1 d1 l1 B2 d2 l2 B3 d3 l3 → SameA es fs → AnsIn W A' fs → Hid (Calls Tryz.prog 45 #[.agg #[.int .i64 L, .slice B1 l1.length d1, .slice B2 l2.length d2, .slice B3 l3.length d3, .int .i64 p, .int .i64 q, .int .i64 r], .slice A' es.length c'] W fun e w' => e = .returned (.tuple #[.int .i64 (scV (gradeP L l1 l2 l3 p q r) (exB L l1 l2 l3 p q r && es.all AnR.ok) (es.map AnR.fig)), .int .i64 (scC (exB L l1 l2 l3 p q r && es.all AnR.ok) es.length)]) ∧ Below W.heap.size W w')) := fun B1 d1 B2 d2 B3 d3 A' c' fs W hE hS hF => by
    have h := implScoreOf_c L B1 d1 l1 B2 d2 l2 B3 d3 l3 p q r A' c' fs W hE hF
    rw [hS.ok, hS.figs, ← hS.1] at h
    exact h
  generalize scV (gradeP L l1 l2 l3 p q r) (exB L l1 l2 l3 p q r && es.all AnR.ok) (es.map AnR.fig) = g0 at *
  generalize scC (exB L l1 l2 l3 p q r && es.all AnR.ok) es.length = g1 at *
  have y0 : w2.cell? ⟨w.heap.size, 0, none⟩ = some (.int .i64 L) := X2.cell 0
  have y1 : w2.cell? ⟨w.heap.size, 1, none⟩ = some (.slice A1 l1.length c1) := X2.cell 1
  have y2 : w2.cell? ⟨w.heap.size, 2, none⟩ = some (.slice A2 l2.length c2) := X2.cell 2
  have y3 : w2.cell? ⟨w.heap.size, 3, none⟩ = some (.slice A3 l3.length c3) := X2.cell 3
  have y4 : w2.cell? ⟨w.heap.size, 4, none⟩ = some (.int .i64 p) := X2.cell 4
  have y5 : w2.cell? ⟨w.heap.size, 5, none⟩ = some (.int .i64 q) := X2.cell 5
  have y6 : w2.cell? ⟨w.heap.size, 6, none⟩ = some (.int .i64 r) := X2.cell 6
  go_wp2_with fail
  refine Calls.mono (HT.out w2 hW2).out ?_; rintro e w3 ⟨⟨u3, rfl, G1, k1, G2, k2, G3, k3, rfl, E3, _, _, _⟩, hb3⟩
  have hW3 := hW2.trans (hb3.mono hW2.size)
  have X3 := X2.below hb3 X2.lt
  clear y0 y1 y2 y3 y4 y5 y6 hb3 hW2 X2
  unfold exAgg
  go_wp2_with fail
  refine Calls.mono (HU.out w3 hW3).out ?_; rintro e w4 ⟨⟨u4, rfl, A4, c4, fs4, rfl, _, S4, _, F4, _⟩, hb4⟩
  have hW4 := hW3.trans (hb4.mono hW3.size)
  have X4 := X3.below hb4 X3.lt
  have hcall := HSp.out G1 k1 G2 k2 G3 k3 A4 c4 fs4 w4 (E3.later hb4) S4 F4
  clear hb4 hW3 X3 E3 F4 S4 HSp
  go_wp2_with fail
  refine Calls.mono hcall.out ?_; rintro e w5 ⟨rfl, hb5⟩
  have hW5 := hW4.trans (hb5.mono hW4.size)
  have X5 := X4.below hb5 X4.lt
  clear hcall hb5 hW4 X4
  have y0 : w5.cell? ⟨w.heap.size, 0, none⟩ = some (.int .i64 L) := X5.cell 0
  have y1 : w5.cell? ⟨w.heap.size, 1, none⟩ = some (.slice A1 l1.length c1) := X5.cell 1
  have y2 : w5.cell? ⟨w.heap.size, 2, none⟩ = some (.slice A2 l2.length c2) := X5.cell 2
  have y3 : w5.cell? ⟨w.heap.size, 3, none⟩ = some (.slice A3 l3.length c3) := X5.cell 3
  have y4 : w5.cell? ⟨w.heap.size, 4, none⟩ = some (.int .i64 p) := X5.cell 4
  have y5 : w5.cell? ⟨w.heap.size, 5, none⟩ = some (.int .i64 q) := X5.cell 5
  have y6 : w5.cell? ⟨w.heap.size, 6, none⟩ = some (.int .i64 r) := X5.cell 6
  go_wp2_with fail
  refine Calls.mono (HT.out w5 hW5).out ?_; rintro e w6 ⟨⟨u6, rfl, G1, k1, G2, k2, G3, k3, rfl, E6, _, _, _⟩, hb6⟩
  have hW6 := hW5.trans (hb6.mono hW5.size)
  have X6 := X5.below hb6 X5.lt
  clear y0 y1 y2 y3 y4 y5 y6 hb6 hW5 X5
  unfold exAgg
  have hba : Below w6.heap.size w6 (w6.alloc (.cells #[.int .i64 L, .slice G1 l1.length k1, .slice G2 l2.length k2, .slice G3 l3.length k3, .int .i64 p, .int .i64 q, .int .i64 r] 36)) := (Below.refl _ _).alloc (Nat.le_refl _) _
  have E7 := E6.later hba
  have X7 := X6.below hba X6.lt
  have K7 := Blk.new w6 36 #[.int .i64 L, .slice G1 l1.length k1, .slice G2 l2.length k2, .slice G3 l3.length k3, .int .i64 p, .int .i64 q, .int .i64 r]
  have hW7 := hW6.trans (hba.mono hW6.size)
  clear E6 X6 hW6 hba
  go_wp2_with fail
  generalize w6.alloc (.cells #[.int .i64 L, .slice G1 l1.length k1, .slice G2 l2.length k2, .slice G3 l3.length k3, .int .i64 p, .int .i64 q, .int .i64 r] 36) = w7 at *
  generalize w6.heap.size = gx at *
  refine Calls.mono (HU.out w7 hW7).out ?_; rintro e w8 ⟨⟨u8, rfl, A8, c8, fs8, rfl, _, S8, _, F8, _⟩, hb8⟩
  have hW8 := hW7.trans (hb8.mono hW7.size)
  have X8 := X7.below hb8 X7.lt
  have K8 := K7.below hb8 K7.lt
  have E8 := E7.later hb8
  have hcall := HIm.out G1 k1 G2 k2 G3 k3 A8 c8 fs8 w8 E8 S8 F8
  clear hb8 hW7 X7 K7 E7 HIm
  have y0 : w8.cell? ⟨gx, 0, none⟩ = some (.int .i64 L) := K8.cell 0
  have y1 : w8.cell? ⟨gx, 1, none⟩ = some (.slice G1 l1.length k1) := K8.cell 1
  have y2 : w8.cell? ⟨gx, 2, none⟩ = some (.slice G2 l2.length k2) := K8.cell 2
  have y3 : w8.cell? ⟨gx, 3, none⟩ = some (.slice G3 l3.length k3) := K8.cell 3
  have y4 : w8.cell? ⟨gx, 4, none⟩ = some (.int .i64 p) := K8.cell 4
  have y5 : w8.cell? ⟨gx, 5, none⟩ = some (.int .i64 q) := K8.cell 5
  have y6 : w8.cell? ⟨gx, 6, none⟩ = some (.int .i64 r) := K8.cell 6
  go_wp2_with fail
  refine Calls.mono hcall.out ?_; rintro e w9 ⟨rfl, hb9⟩
  have hW9 := hW8.trans (hb9.mono hW8.size)
  have X9 := X8.below hb9 X8.lt
  have K9 := K8.below hb9 K8.lt
  have E9 := Lib.hid (E8.later hb9)
  have F9 := Lib.hid (F8.later hb9)
  have S9 := Lib.hid S8
  clear y0 y1 y2 y3 y4 y5 y6 hcall hb9 hW8 X8 K8 E8 F8 S8
  go_wp2_with fail
  refine wp_region_sink 4 (fun a0 fL bA v => ∃ v48 v49 v50 v51 : Value, bA = (((a0.put (some 48) v48).put (some 49) v49).put (some 50) v50).put (some 51) v51 ∧ (EqS w9 (fL 2) (fun x v => ExCopy L l1 l2 l3 p q r x v w9.heap.size) v50 v) ∧ (fL 0 = true → v48 = .agg #[.int .i64 L, .slice G1 l1.length k1, .slice G2 l2.length k2, .slice G3 l3.length k3, .int .i64 p, .int .i64 q, .int .i64 r]) ∧ (fL 1 = true → v49 = .agg #[.int .i64 L, .slice A1 l1.length c1, .slice A2 l2.length c2, .slice A3 l3.length c3, .int .i64 p, .int .i64 q, .int .i64 r]) ∧ (fL 2 = true → True) ∧ (fL 3 = true → v51 = .bool true)) (by kernel_rfl) (by decide +kernel) ?_ ?_ ?_
  · exact ⟨undef, undef, undef, undef, by simp only [Act.put, List.setIfInBounds_toArray, List.set_cons_zero, List.set_cons_succ], ⟨(Below.refl _ _).drew, nofun⟩, nofun, nofun, nofun, nofun⟩
  · rintro fL bA v ⟨v48, v49, v50, v51, rfl, hS, q0, q1, q2, q3⟩ i hi hf o ho hall
    simp only [Act.put, List.setIfInBounds_toArray, List.set_cons_zero, List.set_cons_succ]
    have hn : i = 0 ∨ i = 1 ∨ i = 2 ∨ i = 3 := by omega
    clear hi
    rcases hn with rfl | rfl | rfl | rfl
    · obtain rfl := Option.some.inj ho
      have FF := K9.below hS.hb K9.lt
      have y0 : v.cell? ⟨gx, 0, none⟩ = some (.int .i64 L) := FF.cell 0
      have y1 : v.cell? ⟨gx, 1, none⟩ = some (.slice G1 l1.length k1) := FF.cell 1
      have y2 : v.cell? ⟨gx, 2, none⟩ = some (.slice G2 l2.length k2) := FF.cell 2
      have y3 : v.cell? ⟨gx, 3, none⟩ = some (.slice G3 l3.length k3) := FF.cell 3
      have y4 : v.cell? ⟨gx, 4, none⟩ = some (.int .i64 p) := FF.cell 4
      have y5 : v.cell? ⟨gx, 5, none⟩ = some (.int .i64 q) := FF.cell 5
      have y6 : v.cell? ⟨gx, 6, none⟩ = some (.int .i64 r) := FF.cell 6
      clear hall ho
      refine wpOp_step rfl (fun K hK => ?_)
      go_simp
      exact hK _ _ ⟨_, _, _, _, rfl, hS, fun _ => rfl, q1, fun _ => trivial, q3⟩
    · obtain rfl := Option.some.inj ho
      have FF := X9.below hS.hb X9.lt
      have y0 : v.cell? ⟨w.heap.size, 0, none⟩ = some (.int .i64 L) := FF.cell 0
      have y1 : v.cell? ⟨w.heap.size, 1, none⟩ = some (.slice A1 l1.length c1) := FF.cell 1
      have y2 : v.cell? ⟨w.heap.size, 2, none⟩ = some (.slice A2 l2.length c2) := FF.cell 2
      have y3 : v.cell? ⟨w.heap.size, 3, none⟩ = some (.slice A3 l3.length c3) := FF.cell 3
      have y4 : v.cell? ⟨w.heap.size, 4, none⟩ = some (.int .i64 p) := FF.cell 4
      have y5 : v.cell? ⟨w.heap.size, 5, none⟩ = some (.int .i64 q) := FF.cell 5
      have y6 : v.cell? ⟨w.heap.size, 6, none⟩ = some (.int .i64 r) := FF.cell 6
      clear hall ho
      refine wpOp_step rfl (fun K hK => ?_)
      go_simp
      exact hK _ _ ⟨_, _, _, _, rfl, hS, q0, fun _ => rfl, fun _ => trivial, q3⟩
    · obtain rfl := Option.some.inj ho
      obtain rfl := q1 (hall ⟨1, .data⟩ (by simp) rfl)
      clear hall ho
      refine wpOp_step rfl (fun K hK => ?_)
      go_simp
      refine Calls.mono (HT.out v (hW9.trans (hS.hb.mono hW9.size))).out ?_; rintro e w11 ⟨⟨u, rfl, hu⟩, hb11⟩
      go_simp
      exact hK _ _ ⟨_, _, _, _, rfl, ⟨hS.hb.trans (hb11.mono hS.hb.size), fun _ => hu.weak hS.hb.size⟩, q0, fun _ => rfl, fun _ => trivial, q3⟩
    · obtain rfl := Option.some.inj ho
      obtain rfl := q0 (hall ⟨0, .data⟩ (by simp) rfl)
      have e2 : fL 2 = true := hall ⟨2, .data⟩ (by simp) rfl
      clear hall ho
      refine wpOp_step rfl (fun K hK => ?_)
      obtain ⟨H1, h1, H2, h2, H3, h3, rfl, EH, _, _, _⟩ := hS.q e2
      unfold exAgg
      go_simp
      refine Calls.mono (eqEx_c L G1 k1 H1 h1 l1 G2 k2 H2 h2 l2 G3 k3 H3 h3 l3 p q r v (E9.out.later hS.hb) EH) ?_; rintro e w11 ⟨rfl, hb11⟩
      go_simp
      exact hK _ _ ⟨_, _, _, _, rfl, ⟨hS.hb.trans (hb11.mono hS.hb.size), fun e => (hS.q e).below hb11⟩, fun _ => rfl, q1, fun _ => trivial, fun _ => rfl⟩
  · rintro fL bA v ⟨v48, v49, v50, v51, rfl, hS, q0, q1, q2, q3⟩ hall
    simp only [Act.put, List.setIfInBounds_toArray, List.set_cons_zero, List.set_cons_succ]
    obtain rfl := q0 (hall 0 (by omega))
    obtain rfl := q1 (hall 1 (by omega))
    have e2 : fL 2 = true := hall 2 (by omega)
    obtain rfl := q3 (hall 3 (by omega))
    clear hall
    simp only [List.drop_succ_cons, List.drop_zero]
    have hW10 := hW9.trans (hS.hb.mono hW9.size)
    have F10 := Lib.hid (F9.out.later hS.hb)
    clear hS hW9 E9 F9 X9 K9 HT
    generalize v = w10 at *
    go_wp2_with fail
    refine Calls.mono (HU.out w10 hW10).out ?_; rintro e w11 ⟨⟨u11, rfl, A11, c11, fs11, rfl, hl11, S11, _, F11, _⟩, hb11⟩
    have hW11 := hW10.trans (hb11.mono hW10.size)
    have HQ := eqAnS_c A8 A11 c8 c11 fs8 fs11 w11 (F10.out.later hb11) F11 (S9.out.trans' S11)
    rw [hl11, ← S9.out.1] at HQ
    have HQ := Lib.hid HQ
    clear F10 S9 S11 F11 hb11 HU hl11
    go_wp2_with fail
    refine Calls.mono HQ.out ?_; rintro e w12 ⟨rfl, hb12⟩
    have hW12 := hW11.trans (hb12.mono hW11.size)
    go_wp2
    go_ret
    exact ⟨rfl, (by repeat (first | with_reducible exact hW12 | with_reducible apply below_drewN' | with_reducible apply Below.drew | (with_reducible refine Below.alloc ?_ (by first | omega | (simp; omega) | simp) _) | (with_reducible refine Below.setCell ?_ (by first | omega | (simp; omega) | simp) _) | exact hW12))⟩
end Go.Proofs.YtgkobjpoeajkdaaGreat
