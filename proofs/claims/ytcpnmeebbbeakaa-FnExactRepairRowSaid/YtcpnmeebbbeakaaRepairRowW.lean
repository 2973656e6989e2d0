/- The law on RepairRow, walked. -/
import Derived.Test.YtcpnmeebbbeakaaRep3
namespace Go.Proofs.Ytcpnmeebbbeakaa
open Go.RowKit
set_option maxRecDepth 100000 in
set_option maxHeartbeats 1000000 in
theorem lawRepairRow_c (s n tol step : Int) (A : Option Addr) (c : Nat) (l : List Tick) (w : World) (hl : l.length ≤ 140737488351232) (hs : Sl w w.heap.size 3 A (l.map Tick.cells)) :
    Calls Try.prog 13 #[.int .i64 s, .int .i64 n, .slice A l.length c, .int .i64 tol, .int .i64 step] w fun e w' => e = .returned (.bool true) ∧ Below w.heap.size w w' := by
  have hsz := szTickS_c A l.length c 1048576 w hl (by omega)
  by_cases hbig : (1048576 : Int) < l.length
  · rw [if_pos hbig] at hsz
    have H := Lib.hid hsz; clear hsz hs
    go_enter Try.func13, Try.ntmps13
    go_wp2_with (go_at_call 15; refine H.out.mono ?_; rintro e w1 ⟨rfl, rfl⟩)
    go_ret
    exact ⟨rfl, Below.refl _ _⟩
  · rw [if_neg hbig] at hsz
    have H := Lib.hid hsz; clear hsz
    have hlen : l.length ≤ 1048576 := by omega
    obtain ⟨R, R2, code, hrl, hrl2, hS, hI⟩ : ∃ (R : List Tick) (R2 : List Int) (code : Int), R.length ≤ 1048576 ∧ R2.length ≤ 1048576 ∧
        (∀ (A1 : Option Addr) (c1 : Nat) (w1 : World), Sl w1 w1.heap.size 3 A1 (l.map Tick.cells) → Calls Try.prog 70 #[.int .i64 s, .int .i64 n, .slice A1 l.length c1, .int .i64 tol, .int .i64 step] w1 (PostRR (R, R2, code) w1)) ∧
        (∀ (A1 : Option Addr) (c1 : Nat) (w1 : World), Sl w1 w1.heap.size 3 A1 (l.map Tick.cells) → Calls Try.prog 71 #[.int .i64 s, .int .i64 n, .slice A1 l.length c1, .int .i64 tol, .int .i64 step] w1 (PostRR (R, R2, code) w1)) := by
      have hr := rrRes_len s n l tol step
      exact ⟨(rrRes s n l tol step).1, (rrRes s n l tol step).2.1, (rrRes s n l tol step).2.2, by omega, by omega, fun A1 c1 w1 hs => specRepairRow_c s n tol step A1 c1 l w1 hl hs, fun A1 c1 w1 hs => implRepairRow_c s n tol step A1 c1 l w1 (by omega) hs⟩
    have hS := Lib.hid hS
    have hI := Lib.hid hI
    go_enter Try.func13, Try.ntmps13
    go_wp2_with (go_at_call 15; refine H.out.mono ?_; rintro e w1 ⟨rfl, rfl⟩)
    refine (toTickS_c A c l w hlen hs).mono ?_; rintro e w1 ⟨A1, c1, rfl, hO1, hb1⟩
    go_wp2_with fail
    refine (hS.out A1 c1 w1 hO1.sl).mono ?_; rintro e w2 ⟨Aw, cw, Av, cv, rfl, hOw, hOv, _, hb2⟩
    have hB2 := hb1.trans (hb2.mono hb1.size)
    have s12 := hb2.size
    go_wp2_with fail
    refine (toTickS_c A c l w2 hlen ((hs.below hB2).more hB2.size)).mono ?_; rintro e w3 ⟨A3, c3, rfl, hO3, hb3⟩
    have hB3 := hB2.trans (hb3.mono hB2.size)
    have hOw3 := hOw.below hb3
    have hOv3 := hOv.below hb3
    have s23 := hb3.size
    go_wp2_with fail
    refine (hI.out A3 c3 w3 hO3.sl).mono ?_; rintro e w4 ⟨Ag, cg, Ai, ci, rfl, hOg, hOi, hap, hb4⟩
    have hB4 := hB3.trans (hb4.mono hB3.size)
    have s34 := hb4.size
    have hOw4 := hOw3.below hb4
    have hOv4 := hOv3.below hb4
    have hOx4 := hO3.below hb4
    have hap' : Ap _ _ := hap
    go_wp2_with fail
    refine (eqTickS_c Ag Aw cg cw R w4 (by omega) hOg.sl hOw4.sl).mono ?_; rintro e w5 ⟨rfl, hb5⟩
    have hB5 := hB4.trans (hb5.mono hB4.size)
    have s45 := hb5.size
    have hOw5 := hOw4.below hb5
    have hOv5 := hOv4.below hb5
    have hOx5 := hOx4.below hb5
    have hOg5 := hOg.below hb5
    have hOi5 := hOi.below hb5
    go_wp2_with fail
    refine (eqInt64S_c Ai Av ci cv R2 w5 (by omega) hOi5.sl hOv5.sl).mono ?_; rintro e w6 ⟨rfl, hb6⟩
    have hB6 := hB5.trans (hb6.mono hB5.size)
    have s56 := hb6.size
    have hOw6 := hOw5.below hb6
    have hOv6 := hOv5.below hb6
    have hOx6 := hOx5.below hb6
    have hOg6 := hOg5.below hb6
    have hOi6 := hOi5.below hb6
    go_wp2_with fail
    refine (toTickS_c A c l w6 hlen ((hs.below hB6).more hB6.size)).mono ?_; rintro e w7 ⟨A7, c7, rfl, hO7, hb7⟩
    have hB7 := hB6.trans (hb7.mono hB6.size)
    have s67 := hb7.size
    have hOw7 := hOw6.below hb7
    have hOv7 := hOv6.below hb7
    have hOx7 := hOx6.below hb7
    have hOg7 := hOg6.below hb7
    have hOi7 := hOi6.below hb7
    go_wp2_with fail
    refine (eqTickS_c A3 A7 c3 c7 l w7 hl hOx7.sl hO7.sl).mono ?_; rintro e w8 ⟨rfl, hb8⟩
    have hB8 := hB7.trans (hb8.mono hB7.size)
    have s78 := hb8.size
    have hOw8 := hOw7.below hb8
    have hOv8 := hOv7.below hb8
    have hOx8 := hOx7.below hb8
    have hOg8 := hOg7.below hb8
    have hOi8 := hOi7.below hb8
    have s01 := hb1.size
    go_wp2_with fail
    have hmk := markTickS_c A3 c3 w2.heap.size 1 (l.map Tick.cells) w8 (by omega) (by simp; omega) (by rw [List.length_map]; exact hOx8)
    rw [List.length_map] at hmk
    refine hmk.mono ?_; rintro e w9 ⟨rfl, hOx9, hg9⟩
    have hB9 := below_app hB8 hg9 hB8.size (fun g hg => Nat.le_trans hB2.size (hOx8.ownGe g hg))
    have hOw9 := hOw8.kept hg9 (own_apart hOw hOx8)
    have hOv9 := hOv8.kept hg9 (own_apart hOv hOx8)
    have hOg9 := hOg8.kept hg9 (own_apart' hO3 hOg8)
    have hOi9 := hOi8.kept hg9 (own_apart' hO3 hOi8)
    have s89 := hg9.size
    clear hmk
    go_wp2_with fail
    refine (eqTickS_c Ag Aw cg cw R w9 (by omega) hOg9.sl hOw9.sl).mono ?_; rintro e w10 ⟨rfl, hb10⟩
    have hB10 := hB9.trans (hb10.mono hB9.size)
    have s910 := hb10.size
    have hOw10 := hOw9.below hb10
    have hOv10 := hOv9.below hb10
    have hOg10 := hOg9.below hb10
    have hOi10 := hOi9.below hb10
    go_wp2_with fail
    refine (eqInt64S_c Ai Av ci cv R2 w10 (by omega) hOi10.sl hOv10.sl).mono ?_; rintro e w11 ⟨rfl, hb11⟩
    have hB11 := hB10.trans (hb11.mono hB10.size)
    have s1011 := hb11.size
    have hOw11 := hOw10.below hb11
    have hOv11 := hOv10.below hb11
    have hOg11 := hOg10.below hb11
    have hOi11 := hOi10.below hb11
    go_wp2_with fail
    have hmk := markTickS_c Ag cg w3.heap.size 1 (R.map Tick.cells) w11 (by omega) (by simp; omega) (by rw [List.length_map]; exact hOg11)
    rw [List.length_map] at hmk
    refine hmk.mono ?_; rintro e w12 ⟨rfl, hOg12, hg12⟩
    have hB12 := below_app hB11 hg12 hB11.size (fun g hg => Nat.le_trans hB3.size (hOg11.ownGe g hg))
    have hOw12 := hOw11.kept hg12 (own_apart hOw (hOg11.mono s23))
    have hOv12 := hOv11.kept hg12 (own_apart hOv (hOg11.mono s23))
    have hOi12 := hOi11.kept hg12 hap'
    have s1112 := hg12.size
    clear hmk
    go_wp2_with fail
    have hmk := markInt64S_c Ai ci w3.heap.size (1 + R.length * 3) (R2.map ic) w12 (by omega) (by simp; omega) (by rw [List.length_map]; exact hOi12)
    rw [List.length_map] at hmk
    refine hmk.mono ?_; rintro e w13 ⟨rfl, hOi13, hg13⟩
    have hB13 := below_app hB12 hg13 hB12.size (fun g hg => Nat.le_trans hB3.size (hOi12.ownGe g hg))
    have hOw13 := hOw12.kept hg13 (own_apart hOw (hOi12.mono s23))
    have hOv13 := hOv12.kept hg13 (own_apart hOv (hOi12.mono s23))
    have hOg13 := hOg12.kept hg13 hap'.swap
    have s1213 := hg13.size
    clear hmk
    go_wp2_with fail
    refine (heldTickS_c Ag R.length cg 1 w13 (by omega) (by omega) hOg13.sl).mono ?_; rintro e w13' ⟨rfl, rfl⟩
    go_wp2_with fail
    refine (heldInt64S_c Ai R2.length ci (1 + R.length * 3) w13 (by omega) (by omega) hOi13.sl).mono ?_; rintro e w13' ⟨rfl, rfl⟩
    go_wp2_with fail
    refine (toTickS_c A c l w13 hlen ((hs.below hB13).more hB13.size)).mono ?_; rintro e w14 ⟨A14, c14, rfl, hO14, hb14⟩
    have hB14 := hB13.trans (hb14.mono hB13.size)
    have s1314 := hb14.size
    have hOw14 := hOw13.below hb14
    have hOv14 := hOv13.below hb14
    have hOg14 := hOg13.below hb14
    have hOi14 := hOi13.below hb14
    go_wp2_with fail
    refine (hI.out A14 c14 w14 hO14.sl).mono ?_; rintro e w15 ⟨Ah, ch, Aj, cj, rfl, hOh, hOj, _, hb15⟩
    have hB15 := hB14.trans (hb15.mono hB14.size)
    have s1415 := hb15.size
    have hOw15 := hOw14.below hb15
    have hOv15 := hOv14.below hb15
    have hOg15 := hOg14.below hb15
    have hOi15 := hOi14.below hb15
    go_wp2_with fail
    refine (eqTickS_c Ah Aw ch cw R w15 (by omega) hOh.sl hOw15.sl).mono ?_; rintro e w16 ⟨rfl, hb16⟩
    have hOj16 := hOj.below hb16
    have hB16 := hB15.trans (hb16.mono hB15.size)
    have s1516 := hb16.size
    have hOv16 := hOv15.below hb16
    have hOg16 := hOg15.below hb16
    have hOi16 := hOi15.below hb16
    go_wp2_with fail
    refine (eqInt64S_c Aj Av cj cv R2 w16 (by omega) hOj16.sl hOv16.sl).mono ?_; rintro e w17 ⟨rfl, hb17⟩
    have hB17 := hB16.trans (hb17.mono hB16.size)
    have s1617 := hb17.size
    have hOg17 := hOg16.below hb17
    have hOi17 := hOi16.below hb17
    go_wp2_with fail
    refine (heldTickS_c Ag R.length cg 1 w17 (by omega) (by omega) hOg17.sl).mono ?_; rintro e w18 ⟨rfl, rfl⟩
    go_wp2_with fail
    refine (heldInt64S_c Ai R2.length ci (1 + R.length * 3) w17 (by omega) (by omega) hOi17.sl).mono ?_; rintro e w18 ⟨rfl, rfl⟩
    go_wp2
    go_ret
    exact ⟨rfl, hB17⟩
end Go.Proofs.Ytcpnmeebbbeakaa
