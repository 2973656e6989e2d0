/- FnExactReadProgram: the walk. Conditions: what the library's variables hold. -/
import Derived.Test.YtkkgomldahjocaaDoorReadS
namespace Go.Proofs.YtkkgomldahjocaaDoor
open Go.RowKit
set_option linter.unusedSimpArgs false
theorem readL_len (s : List UInt8) : (readL s).length ≤ 150 := by
  unfold readL
  cases hr : readR s with
  | none => simp
  | some L =>
    unfold readR at hr
    split at hr
    · obtain rfl := Option.some.inj hr; simp
    · split at hr
      · rename_i hc
        obtain rfl := Option.some.inj hr
        rw [Bool.and_eq_true, decide_eq_true_eq] at hc
        simpa using hc.2
      · cases hr
set_option maxRecDepth 100000 in
theorem lawReadProgram_c (S : ByteArray) (w : World) (L : LwP w) :
    Calls Tryd.prog 4 #[.string S] w fun e w' => e = .returned (.bool true) ∧ Below w.heap.size w w' := by
  obtain ⟨s, rfl⟩ : ∃ s, S = bs s := ⟨S.data.toList, (bs_of S).symm⟩
  have hsz := bs_size s
  by_cases hbig : 1048576 < s.length
  · have hb2 : (1048576 : Int) < (bs s).size := by omega
    generalize bs s = S at *
    go_enter Tryd.func4, Tryd.ntmps4
    go_wp2
    go_ret
    exact ⟨rfl, Below.refl _ _⟩
  · have hl : s.length ≤ 1048576 := by omega
    have hb2 : ¬ (1048576 : Int) < (bs s).size := by omega
    have HP : Hid (∀ W, Below w.heap.size w W → LwP W) := Lib.hid (fun W h => L.below h)
    have HS := Lib.hid (specRead_c s w hl)
    have HI := Lib.hid (fun W hW => implRead_c s W hl (HP.out W hW))
    have hRl := Lib.hid (readL_len s)
    clear L
    generalize readL s = R at *
    generalize readC s = cd at *
    generalize bs s = S at *
    go_enter Tryd.func4, Tryd.ntmps4
    go_wp2_with fail
    refine Calls.mono HS.out ?_; rintro e w1 ⟨Aw, cw, rfl, Ow, hW⟩
    have hlw : ∀ x, (Value.slice Aw R.length cw).ownBlock = some x → x < w1.heap.size := fun x hx => (Ow.1.lt x hx).2
    have hww : w.heap.size ≤ w1.heap.size := hW.size
    go_wp2_with fail
    refine Calls.mono (HI.out w1 hW) ?_; rintro e w2 ⟨Ag, cg, rfl, Og, hb⟩
    replace Ow := Ow.below hb
    replace hW := hW.trans (hb.mono hW.size)
    have hgg := Og.ownGe
    clear hb
    go_wp2_with fail
    refine (eqStrokeS_c Ag Aw cg cw R w2 (by have := hRl.out; omega) Og.sl Ow.sl).mono ?_; rintro e w3 ⟨rfl, hb⟩
    replace Ow := Ow.below hb
    replace Og := Og.below hb
    replace hW := hW.trans (hb.mono hW.size)
    clear hb
    have hmk := markStrokeS_c Ag cg w1.heap.size 1 (R.map Stroke.cells) w3 (by omega) (by simp; have := hRl.out; omega) (by rw [List.length_map]; exact Og)
    rw [List.length_map] at hmk
    replace hmk := Lib.hid hmk
    go_wp2_with fail
    refine hmk.out.mono ?_; rintro e w4 ⟨rfl, Og2, hg⟩
    have hkw : Own w4 w.heap.size 37 3 (.slice Aw R.length cw) (R.map Stroke.cells) := Ow.kept hg (by
      cases hob : (Value.slice Aw R.length cw).ownBlock with
      | none => exact .inl rfl
      | some x => exact .inr (fun e => by
          have h1 := hlw x hob
          have h2 := hgg x e.symm
          omega))
    replace hW := hW.grown hg hW.size (fun b e => by have := hgg b e; omega)
    clear hg hmk Og Ow
    have hq0 : ¬ (1 + (R.length : Int) * 3) < 0 := by omega
    have HH := Lib.hid (fun W (hs : Sl W W.heap.size 3 Ag ((List.range R.length).map (markStroke 1))) => heldStrokeS_c Ag R.length cg 1 W (by omega) (by have := hRl.out; omega) hs)
    go_wp2_with fail
    refine Calls.mono (HH.out w4 Og2.sl) ?_; rintro e w5 ⟨rfl, rfl⟩
    go_wp2_with fail
    refine Calls.mono (HI.out w4 hW) ?_; rintro e w5 ⟨Ah, ch, rfl, Oh, hb⟩
    have hkw5 := hkw.below hb
    have Og5 := Og2.below hb
    replace hW := hW.trans (hb.mono hW.size)
    clear hb Og2 hkw
    go_wp2_with fail
    refine (eqStrokeS_c Ah Aw ch cw R w5 (by have := hRl.out; omega) Oh.sl hkw5.sl).mono ?_; rintro e w6 ⟨rfl, hb⟩
    replace Og5 := Og5.below hb
    replace hW := hW.trans (hb.mono hW.size)
    clear hb Oh hkw5
    go_wp2_with fail
    refine Calls.mono (HH.out w6 Og5.sl) ?_; rintro e w7 ⟨rfl, rfl⟩
    go_wp2
    go_ret
    exact ⟨rfl, hW⟩
end Go.Proofs.YtkkgomldahjocaaDoor
