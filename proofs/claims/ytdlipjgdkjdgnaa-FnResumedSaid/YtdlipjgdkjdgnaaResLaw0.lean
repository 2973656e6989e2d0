/- The law on engraving resumed: walked. Condition: none. -/
import Derived.Test.YtdlipjgdkjdgnaaDraw9
import Derived.Test.YtdlipjgdkjdgnaaLikeS
import Derived.Test.YtdlipjgdkjdgnaaWear
import Derived.Test.YtdlipjgdkjdgnaaRest
import Derived.Test.YtdlipjgdkjdgnaaSortT
namespace Go.Proofs.Ytdlipjgdkjdgnaa
open Go.RowKit
theorem bigR_c (A : Option Addr) (n c : Nat) (w : World) (hn : n ≤ 140737488351232) : Calls Try.prog 32 #[.slice A n c] w fun e w' => e = .returned (.bool (decide (4096 < n))) ∧ w = w' := by
  go_enter Try.func32, Try.ntmps32
  go_wp2
  go_ret
  exact ⟨ret_bool (by simp; omega), rfl⟩
theorem eng_strokes {t : List Tick} (h : engCode t = 0) : strokesCode (t.map tickStroke) = 0 := by
  obtain ⟨h1, h2⟩ := engCode_ok h
  unfold strokesCode
  rw [if_pos, if_neg (by rw [List.length_map]; omega)]
  rw [List.all_eq_true] at h1 ⊢
  intro x hx
  obtain ⟨y, hy, rfl⟩ := List.mem_map.1 hx
  obtain ⟨hp, hh⟩ := eng_bd (h1 y hy)
  unfold strokeOK tickStroke
  simp only
  rw [inB_true.2 hp, inB_true.2 (show (1 : Int) ≤ 100 + 50 * y.height ∧ 100 + 50 * y.height ≤ 1000 by omega)]
  split
  · rw [inB_true.2 (by omega)]; rfl
  · rw [inB_true.2 (by omega)]; rfl
theorem sort_code {l : List Stroke} (h : strokesCode l = 0) : strokesCode (sortSt l) = 0 := by
  obtain ⟨h1, h2⟩ := strokesCode_ok h
  unfold strokesCode
  rw [if_pos, if_neg (by rw [sortSt_len]; omega)]
  rw [List.all_eq_true] at h1 ⊢
  exact fun x hx => h1 x ((List.mergeSort_perm _ _).mem_iff.1 hx)
theorem sortSt_sortSt (l : List Stroke) : sortSt (sortSt l) = sortSt l := by
  have hO := swoSort
  unfold sortSt
  refine List.mergeSort_of_pairwise (List.pairwise_mergeSort ?_ ?_ l)
  · intro a b c h1 h2
    simp only [Bool.not_eq_eq_eq_not, Bool.not_true] at h1 h2 ⊢
    exact hO.ntrans _ _ _ h2 h1
  · intro a b
    cases h1 : ltOf cfSort b a
    · rfl
    · cases h2 : ltOf cfSort a b
      · rfl
      · have := hO.trans _ _ _ h1 h2
        rw [hO.irrefl] at this
        cases this
theorem engraved_facts {t : List Tick} (h : engCode t = 0) : strokesCode (strokesRes t) = 0 ∧ engB t (sortR (strokesRes t)) = true ∧ engC t (sortR (strokesRes t)) = 0 := by
  have h1 := eng_strokes h
  have h2 : strokesRes t = t.map tickStroke := by unfold strokesRes; rw [if_pos h]
  have h3 : sortR (t.map tickStroke) = sortSt (t.map tickStroke) := by unfold sortR; rw [if_pos h1]
  rw [h2, h3]
  have h4 := sort_code h1
  refine ⟨h1, ?_, ?_⟩
  · unfold engB
    rw [if_pos ⟨h, h4⟩, sortSt_sortSt]
    simp
  · unfold engC
    rw [if_neg (by rw [h, h4]; decide), if_neg (by rw [h, h4]; decide)]
theorem rest_facts {l : List Stroke} {d : Int} (h : restCode l d = 0) : timeRes (restL l d) = ((resumeRes l d).1, 0) ∧ ((restL l d).length : Int) + d = (l.length : Int) := by
  obtain ⟨h1, h2⟩ := restL_ok h
  obtain ⟨h3, h4⟩ := rest_ok h
  have hb := inB_true.1 h4
  refine ⟨?_, ?_⟩
  · unfold timeRes resumeRes
    rw [if_pos h, if_pos]
    unfold strokesCode
    rw [if_pos h2, if_neg (by omega)]
  · unfold restL
    rw [if_pos h, List.length_drop]
    omega
set_option maxRecDepth 100000 in
set_option maxHeartbeats 2000000 in
theorem lawResumed_c (A : Option Addr) (n c : Nat) (w : World) (hn : n ≤ 140737488351232) (hb : Bytes w A n w.heap.size) :
    Calls Try.prog 7 #[.slice A n c] w fun e w' => e = .returned (.bool true) ∧ Below w.heap.size w w' := by
  have hG := bigR_c A n c w hn
  by_cases hbig : 4096 < n
  · rw [decide_eq_true hbig] at hG
    have HG := Lib.hid hG; clear hG hb
    go_enter Try.func7, Try.ntmps7
    go_wp2_with (go_at_call 32; refine HG.out.mono ?_; rintro e w1 ⟨rfl, rfl⟩)
    go_ret
    exact ⟨rfl, Below.refl _ _⟩
  · rw [decide_eq_false hbig] at hG
    have HG := Lib.hid hG; clear hG
    have hn' : n ≤ 4096 := by omega
    have HB := Lib.hid hb; clear hb
    go_enter Try.func7, Try.ntmps7
    go_wp2_with (go_at_call 32; refine HG.out.mono ?_; rintro e w1 ⟨rfl, rfl⟩)
    clear HG
    refine (drawStrokesOf_c A n c w hn' HB.out).mono ?_; rintro e w1 ⟨t, At, ct, rfl, ht, hOt, hB⟩
    have hln := strokesRes_len t
    have HE : Hid (engCode t = 0 → strokesCode (strokesRes t) = 0 ∧ engB t (sortR (strokesRes t)) = true ∧ engC t (sortR (strokesRes t)) = 0) := engraved_facts
    have HI := fun A c W h => Lib.hid (implStrokesOf_c A c t W (by omega) h)
    have HS := fun A c W h => Lib.hid (specStrokesOf_c A c t W (by omega) h)
    have hsl := sortR_len (strokesRes t)
    generalize strokesRes t = L at *
    generalize hgz : engCode t = z at *
    go_wp2_with fail
    refine ((HI At ct _ hOt.sl).out).mono ?_; rintro e w2 ⟨Al, cl, rfl, hOl, hb2⟩
    have hB := hB.trans (hb2.mono hB.size)
    have hOt := hOt.below hb2
    clear hb2
    go_wp2_with fail
    refine ((HS At ct _ hOt.sl).out).mono ?_; rintro e w3 ⟨Am, cm, rfl, hOm, hb3⟩
    have hB := hB.trans (hb3.mono hB.size)
    have hOt := hOt.below hb3
    have hOl := hOl.below hb3
    clear hb3
    clear HI HS
    go_wp2_with fail
    refine (drawRestOf_c A n c _ hn' ((HB.out.keep fun p hp => hB.cell hp).more hB.size)).mono ?_; rintro e w4 ⟨R, Ar, cr, d, rfl, hR, hd, hOr, hb4⟩
    have hB := hB.trans (hb4.mono hB.size)
    have hOt := hOt.below hb4
    have hOl := hOl.below hb4
    have hOm := hOm.below hb4
    clear hb4
    have hcr := hOr.le_cap
    have hrl := restL_len R d
    have HF : Hid (restCode R d = 0 → timeRes (restL R d) = ((resumeRes R d).1, 0) ∧ ((restL R d).length : Int) + d = (R.length : Int)) := rest_facts
    have HI := fun W h => Lib.hid (implRestOf_c Ar cr R d W (by omega) hcr h)
    have HS := fun W h => Lib.hid (specRestOf_c Ar cr R d W (by omega) hcr h)
    have HJ := fun W h => Lib.hid (implResumeTime_c Ar cr R d W (by omega) hcr h)
    have HK := fun W h => Lib.hid (specResumeTime_c Ar cr R d W (by omega) hcr h)
    unfold RestPost at HI HS
    generalize restL R d = r at *
    generalize restCode R d = o at *
    generalize resumeRes R d = q at *
    obtain ⟨q1, q2⟩ := q
    simp only at HJ HK HF
    go_wp2_with fail
    refine ((HI _ hOr.sl).out).mono ?_; rintro e w5 ⟨As, cs, rfl, hOs, hb5⟩
    have hB := hB.trans (hb5.mono hB.size)
    have hOt := hOt.below hb5
    have hOl := hOl.below hb5
    have hOm := hOm.below hb5
    have hOr := hOr.below hb5
    clear hb5
    go_wp2_with fail
    refine ((HS _ hOr.sl).out).mono ?_; rintro e w6 ⟨Av, cv, rfl, hOv, hb6⟩
    have hB := hB.trans (hb6.mono hB.size)
    have hOt := hOt.below hb6
    have hOl := hOl.below hb6
    have hOm := hOm.below hb6
    have hOr := hOr.below hb6
    have hOs := hOs.below hb6
    clear hb6
    go_wp2_with fail
    refine ((HJ _ hOr.sl).out).mono ?_; rintro e w7 ⟨rfl, hb7⟩
    have hB := hB.trans (hb7.mono hB.size)
    have hOt := hOt.below hb7
    have hOl := hOl.below hb7
    have hOm := hOm.below hb7
    have hOr := hOr.below hb7
    have hOs := hOs.below hb7
    have hOv := hOv.below hb7
    clear hb7
    go_wp2_with fail
    refine ((HK _ hOr.sl).out).mono ?_; rintro e w8 ⟨rfl, hb8⟩
    have hB := hB.trans (hb8.mono hB.size)
    have hOt := hOt.below hb8
    have hOl := hOl.below hb8
    have hOm := hOm.below hb8
    have hOr := hOr.below hb8
    have hOs := hOs.below hb8
    have hOv := hOv.below hb8
    clear hb8
    clear HI HS HJ HK
    go_wp2_with fail
    refine (drawTimeOf_c A n c _ hn' ((HB.out.keep fun p hp => hB.cell hp).more hB.size)).mono ?_; rintro e w9 ⟨B, Ab, cb, rfl, hBl, hOb, hb9⟩
    have hB := hB.trans (hb9.mono hB.size)
    have hOt := hOt.below hb9
    have hOl := hOl.below hb9
    have hOm := hOm.below hb9
    have hOr := hOr.below hb9
    have hOs := hOs.below hb9
    have hOv := hOv.below hb9
    clear hb9
    have HI := fun W h => Lib.hid (implTimeOf_c Ab cb B W (by omega) h)
    have HS := fun W h => Lib.hid (specTimeOf_c Ab cb B W (by omega) h)
    generalize timeRes B = tb at *
    obtain ⟨tb1, tb2⟩ := tb
    simp only at HI HS
    go_wp2_with fail
    refine ((HI _ hOb.sl).out).mono ?_; rintro e w10 ⟨rfl, hb10⟩
    have hB := hB.trans (hb10.mono hB.size)
    have hOt := hOt.below hb10
    have hOl := hOl.below hb10
    have hOm := hOm.below hb10
    have hOr := hOr.below hb10
    have hOs := hOs.below hb10
    have hOv := hOv.below hb10
    have hOb := hOb.below hb10
    clear hb10
    go_wp2_with fail
    refine ((HS _ hOb.sl).out).mono ?_; rintro e w11 ⟨rfl, hb11⟩
    have hB := hB.trans (hb11.mono hB.size)
    have hOt := hOt.below hb11
    have hOl := hOl.below hb11
    have hOm := hOm.below hb11
    have hOr := hOr.below hb11
    have hOs := hOs.below hb11
    have hOv := hOv.below hb11
    have hOb := hOb.below hb11
    clear hb11
    clear HI HS hOb
    go_wp2_with fail
    refine (drawIsEngraved_c A n c _ hn' ((HB.out.keep fun p hp => hB.cell hp).more hB.size)).mono ?_; rintro e w12 ⟨t2, A2, c2, l2, A3, c3, rfl, ht2, hl2, hO2, hO3, hb12⟩
    have hB := hB.trans (hb12.mono hB.size)
    have hOt := hOt.below hb12
    have hOl := hOl.below hb12
    have hOm := hOm.below hb12
    have hOr := hOr.below hb12
    have hOs := hOs.below hb12
    have hOv := hOv.below hb12
    clear hb12
    have HI := fun W h h' => Lib.hid (implIsEngraved_c A2 c2 t2 A3 c3 l2 W (by omega) h (by omega) h')
    have HS := fun W h h' => Lib.hid (specIsEngraved_c A2 c2 t2 A3 c3 l2 W (by omega) h (by omega) h')
    generalize engB t2 l2 = eb at *
    generalize engC t2 l2 = ec at *
    go_wp2_with fail
    refine ((HI _ hO2.sl hO3.sl).out).mono ?_; rintro e w13 ⟨rfl, hb13⟩
    have hB := hB.trans (hb13.mono hB.size)
    have hOt := hOt.below hb13
    have hOl := hOl.below hb13
    have hOm := hOm.below hb13
    have hOr := hOr.below hb13
    have hOs := hOs.below hb13
    have hOv := hOv.below hb13
    have hO2 := hO2.below hb13
    have hO3 := hO3.below hb13
    clear hb13
    go_wp2_with fail
    refine ((HS _ hO2.sl hO3.sl).out).mono ?_; rintro e w14 ⟨rfl, hb14⟩
    have hB := hB.trans (hb14.mono hB.size)
    have hOt := hOt.below hb14
    have hOl := hOl.below hb14
    have hOm := hOm.below hb14
    have hOr := hOr.below hb14
    have hOs := hOs.below hb14
    have hOv := hOv.below hb14
    have hO2 := hO2.below hb14
    have hO3 := hO3.below hb14
    clear hb14
    clear HI HS hO2 hO3
    go_wp2_with fail
    refine (drawWearOf_c A n c _ hn' ((HB.out.keep fun p hp => hB.cell hp).more hB.size)).mono ?_; rintro e w15 ⟨E, Ae, ce, rfl, hE, hOe, hb15⟩
    have hB := hB.trans (hb15.mono hB.size)
    have hOt := hOt.below hb15
    have hOl := hOl.below hb15
    have hOm := hOm.below hb15
    have hOr := hOr.below hb15
    have hOs := hOs.below hb15
    have hOv := hOv.below hb15
    clear hb15
    have HI := fun W h => Lib.hid (implWearOf_c Ae ce E W (by omega) h)
    have HS := fun W h => Lib.hid (specWearOf_c Ae ce E W (by omega) h)
    generalize wearRes E = we at *
    obtain ⟨we1, we2, we3⟩ := we
    simp only at HI HS
    go_wp2_with fail
    refine ((HI _ hOe.sl).out).mono ?_; rintro e w16 ⟨rfl, hb16⟩
    have hB := hB.trans (hb16.mono hB.size)
    have hOt := hOt.below hb16
    have hOl := hOl.below hb16
    have hOm := hOm.below hb16
    have hOr := hOr.below hb16
    have hOs := hOs.below hb16
    have hOv := hOv.below hb16
    have hOe := hOe.below hb16
    clear hb16
    go_wp2_with fail
    refine ((HS _ hOe.sl).out).mono ?_; rintro e w17 ⟨rfl, hb17⟩
    have hB := hB.trans (hb17.mono hB.size)
    have hOt := hOt.below hb17
    have hOl := hOl.below hb17
    have hOm := hOm.below hb17
    have hOr := hOr.below hb17
    have hOs := hOs.below hb17
    have hOv := hOv.below hb17
    have hOe := hOe.below hb17
    clear hb17
    clear HI HS hOe HB
    go_wp2_with fail
    refine (likeStrokes_c Al Am cl cm L _ (by omega) hOl.sl hOm.sl).mono ?_; rintro e w18 ⟨rfl, hb18⟩
    have hB := hB.trans (hb18.mono hB.size)
    have hOt := hOt.below hb18
    have hOl := hOl.below hb18
    have hOm := hOm.below hb18
    have hOr := hOr.below hb18
    have hOs := hOs.below hb18
    have hOv := hOv.below hb18
    clear hb18
    clear hOm
    go_wp2_with fail
    refine (likeStrokes_c As Av cs cv r _ (by omega) hOs.sl hOv.sl).mono ?_; rintro e w19 ⟨rfl, hb19⟩
    have hB := hB.trans (hb19.mono hB.size)
    have hOt := hOt.below hb19
    have hOl := hOl.below hb19
    have hOr := hOr.below hb19
    have hOs := hOs.below hb19
    have hOv := hOv.below hb19
    clear hb19
    clear hOv
    by_cases ho : o = 0
    · subst ho
      obtain ⟨g1, g2⟩ := HF.out rfl
      have HI := fun W h => implTimeOf_c As cs r W (by omega) h
      rw [g1] at HI
      have HI := fun W h => Lib.hid (HI W h)
      clear HF g1
      go_wp2_with fail
      refine (HI _ hOs.sl).out.mono ?_; rintro e w30 ⟨rfl, hb30⟩
      have hB := hB.trans (hb30.mono hB.size)
      have hOt := hOt.below hb30
      have hOl := hOl.below hb30
      clear HI hOs hOr hb30
      by_cases hz : z = 0
      · subst hz
        obtain ⟨f1, f2, f3⟩ := HE.out rfl
        have HI := fun A c W h => implSortStrokes_c A c L W (by omega) h
        have HJ := fun A c W h h' => implIsEngraved_c At ct t A c (sortR L) W (by omega) h (by omega) h'
        rw [f1] at HI
        rw [f2, f3] at HJ
        have HI := fun A c W h => Lib.hid (HI A c W h)
        have HJ := fun A c W h h' => Lib.hid (HJ A c W h h')
        clear f1 f2 f3 HE hgz
        generalize sortR L = M at *
        go_wp2_with fail
        refine (HI Al cl _ hOl.sl).out.mono ?_; rintro e v1 ⟨Ay, cy, rfl, hOy, hd1⟩
        have hB := hB.trans (hd1.mono hB.size)
        have hOt := hOt.below hd1
        go_wp2_with fail
        refine (HJ Ay cy _ hOt.sl hOy.sl).out.mono ?_; rintro e v2 ⟨rfl, hd2⟩
        have hB := hB.trans (hd2.mono hB.size)
        go_wp2
        go_ret
        exact ⟨rfl, hB⟩
      · have hzf : (z != 0) = true := by simp [hz]
        clear HE hgz hz
        go_wp2
        go_ret
        exact ⟨rfl, hB⟩
    · have hof : (o == 0) = false := by simp [ho]
      clear HF ho
      by_cases hz : z = 0
      · subst hz
        obtain ⟨f1, f2, f3⟩ := HE.out rfl
        have HI := fun A c W h => implSortStrokes_c A c L W (by omega) h
        have HJ := fun A c W h h' => implIsEngraved_c At ct t A c (sortR L) W (by omega) h (by omega) h'
        rw [f1] at HI
        rw [f2, f3] at HJ
        have HI := fun A c W h => Lib.hid (HI A c W h)
        have HJ := fun A c W h h' => Lib.hid (HJ A c W h h')
        clear f1 f2 f3 HE hgz
        generalize sortR L = M at *
        go_wp2_with fail
        refine (HI Al cl _ hOl.sl).out.mono ?_; rintro e v1 ⟨Ay, cy, rfl, hOy, hd1⟩
        have hB := hB.trans (hd1.mono hB.size)
        have hOt := hOt.below hd1
        go_wp2_with fail
        refine (HJ Ay cy _ hOt.sl hOy.sl).out.mono ?_; rintro e v2 ⟨rfl, hd2⟩
        have hB := hB.trans (hd2.mono hB.size)
        go_wp2
        go_ret
        exact ⟨rfl, hB⟩
      · have hzf : (z != 0) = true := by simp [hz]
        clear HE hgz hz
        go_wp2
        go_ret
        exact ⟨rfl, hB⟩
end Go.Proofs.Ytdlipjgdkjdgnaa
