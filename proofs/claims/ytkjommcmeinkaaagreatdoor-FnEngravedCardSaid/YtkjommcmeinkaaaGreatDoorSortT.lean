/- SortStrokes: the program's, and both sides' results. No condition beyond the list's length. -/
import Derived.Test.YtkjommcmeinkaaaGreatDoorStab4
import Derived.Test.YtkjommcmeinkaaaGreatDoorSortS
import Derived.Test.YtkjommcmeinkaaaGreatDoorLay
namespace Go.Proofs.YtkjommcmeinkaaaGreatDoor
open Go.Shelf Go.RowKit Go.Lib Go.Sort
set_option maxRecDepth 100000 in
theorem stabL : SL Tryz.prog 3 := {
  mixed := by kernel_rfl
  f_swap := Tryz.func79
  f_rot := Tryz.func69
  f_sym := Tryz.func58
  f_stab := Tryz.func41
  e_swap := enters_of Tryz.func79 (by kernel_rfl) rfl
  e_rot := enters_of Tryz.func69 (by kernel_rfl) rfl
  e_sym := enters_of Tryz.func58 (by kernel_rfl) rfl
  e_stab := enters_of Tryz.func41 (by kernel_rfl) rfl
  e_ins := enters_of Tryz.func57 (by kernel_rfl) rfl
  t0 := by kernel_rfl
  a0 := fun _ => by kernel_rfl
  z0 := fun _ => by kernel_rfl
  v0 := fun _ => by kernel_rfl
  t3 := by kernel_rfl
  a3 := fun _ => by kernel_rfl
  z3 := fun _ => by kernel_rfl
  v3 := fun _ => by kernel_rfl
  t4 := by kernel_rfl
  a4 := fun _ => by kernel_rfl
  z4 := fun _ => by kernel_rfl
  v4 := fun _ => by kernel_rfl
  tu := by kernel_rfl
  au := fun _ => by kernel_rfl
  zu := fun _ => by kernel_rfl
  vu := fun _ => by kernel_rfl
  t22 := by kernel_rfl
  a22 := fun _ => by kernel_rfl
  z22 := fun _ => by kernel_rfl
  v22 := fun _ => by kernel_rfl
  t25 := by kernel_rfl
  a25 := fun _ => by kernel_rfl
  z25 := fun _ => by kernel_rfl
  v25 := fun _ => by kernel_rfl
  aE := fun _ => by kernel_rfl
  zE := fun _ => by kernel_rfl }
theorem ins_of (cf : Stroke → Stroke → Int) (hO : SWO (ltOf cf)) (g : Nat) (blk off cap : Nat) (d : Array Stroke) (w : World)
    (eg : ∀ args w, (callFunc g args).run Tryz.prog w = .ok (.enter g args) w) (hclo : ∀ x y W, Calls Tryz.prog g #[.agg x.cells.toArray, .agg y.cells.toArray] W fun e w' => e = .returned (.int .i64 (cf x y)) ∧ Grows W w') (R : RowK Stroke.cells 3 w blk off d) (hsz : d.size ≤ 1000000) :
    ∀ (a b : Nat) (dk : Array Stroke) (wr : World), dk.size = d.size → SWK Stroke.cells 3 w blk off dk wr → a ≤ b → b ≤ d.size → Calls Tryz.prog 57 #[.slice (some ⟨blk, off, none⟩) d.size cap, .int .i64 a, .int .i64 b, .func (.func g) #[] #[]] wr (InsPost Stroke.cells 3 w blk off a b cf dk) := by
  intro a b dk wr hd S hab hb
  have hH := S.holds R.hblk R.hH hd
  have hlt := S.lt R.hblk
  have hcmp : CmpLays Tryz.prog g #[] Stroke.cells 3 cf blk off dk.size wr := fun m os dk' _ x y => (by rw [Array.append_empty]; exact hclo x y _)
  have h := AnyQ.insertionSortCmpFunc { Tryz.laySF with } 3 (fun _ => by kernel_rfl) (fun _ => by kernel_rfl) Stroke.cells R.hk R.h1 cf g #[] blk off cap a b dk wr eg hcmp hH hlt hab (by omega) (by omega)
  change Calls Tryz.prog 57 _ _ _ at h
  rw [hd] at h
  refine h.mono fun e w' ⟨he, n, os, hw⟩ => ⟨he, _, ?_, insertionSort_holds hO dk a b hab (by omega)⟩
  rw [hw]
  exact S.on R.hblk n _ os (insertionSort_holds hO dk a b hab (by omega)).1.1
theorem strokeRow {w : World} {base g n c : Nat} {l : List Stroke} (h : Own w base 35 3 (.slice (some ⟨g, 0, none⟩) n c) (l.map Stroke.cells)) : RowK Stroke.cells 3 w g 0 l.toArray :=
  ⟨fun _ => rfl, fun x v hv => Stroke.one (l := [x]) x.cells (by simp) v hv, own_holds (enc := Stroke.cells) (k := 3) (fun _ => rfl) h, h.block_ge.2⟩
theorem sortStableSt_c (base g c : Nat) (l : List Stroke) (w : World) (hl : l.length ≤ 1000000) (hO : Own w base 35 3 (.slice (some ⟨g, 0, none⟩) l.length c) (l.map Stroke.cells)) :
    Calls Tryz.prog 21 #[.slice (some ⟨g, 0, none⟩) l.length c, .func (.func 22) #[] #[]] w fun e w' => e = .returned (.tuple #[]) ∧ Own w' base 35 3 (.slice (some ⟨g, 0, none⟩) l.length c) ((sortSt l).map Stroke.cells) ∧ RowKit.Below base w w' := by
  have eg : ∀ args w, (callFunc 22 args).run Tryz.prog w = .ok (.enter 22 args) w := enters_of Tryz.func22 (by kernel_rfl) rfl
  have R := strokeRow hO
  have hcmp : CmpLays Tryz.prog 22 #[] Stroke.cells 3 cfSort g 0 l.toArray.size w := fun m os dk' _ x y => (by rw [Array.append_empty]; exact sortClo_c x y _)
  have h := sortStable_c stabL Tryz.func21 Stroke.cells cfSort swoSort 22 #[] g 0 c l.toArray w eg hcmp R (by simpa using hl) (ins_of cfSort swoSort _ g 0 c l.toArray w eg sortClo_c R (by simpa using hl))
  rw [List.size_toArray] at h
  refine h.mono fun e w' ⟨he, d', hS, hp, hs⟩ => ⟨he, ?_, sort_below hO.block_ge.1 hO.block_ge.2 hS⟩
  have hpl := permIn_list (d := l.toArray) (by simpa using hp)
  have hsz : d'.size = l.length := by simpa using hpl.1
  have heq : d'.toList = sortSt l := sorted_one swoSort totSort (lsorted_of (by rw [hsz]; exact hs)) (by simpa using hpl.2)
  have := own_sorted (enc := Stroke.cells) (k := 3) (fun _ => rfl) hO (l' := d'.toList) (by simpa using hsz) (by simpa using hS)
  rw [heq] at this
  exact this
theorem insNil_c (w : World) (v : Value) : Calls Tryz.prog 57 #[.slice none 0 0, .int .i64 0, .int .i64 0, v] w fun e w' => e = .returned (.tuple #[]) ∧ w = w' := by
  go_enter Tryz.func57, Tryz.ntmps57
  go_wp2_with fail
  go_loop [8] (fun i => i = .int .i64 1) (fun _ => 0)
  case atStart => rfl
  case round =>
    subst hrel
    go_wp2_with fail
    go_end0
    exact ⟨rfl, rfl⟩
theorem stabNil_c (w : World) (v : Value) : Calls Tryz.prog 41 #[.slice none 0 0, .int .i64 0, v] w fun e w' => e = .returned (.tuple #[]) ∧ w = w' := by
  go_enter Tryz.func41, Tryz.ntmps41
  go_wp2_with fail
  go_loop [7, 8] (fun i j => i = .int .i64 0 ∧ j = .int .i64 20) (fun _ _ => 0)
  case atStart => exact ⟨rfl, rfl⟩
  case round =>
    obtain ⟨rfl, rfl⟩ := hrel
    go_wp2_with (go_at_call 57; refine (insNil_c _ _).mono ?_; rintro e w' ⟨rfl, rfl⟩)
    go_loop [6] (fun i => i = .int .i64 20) (fun _ => 0)
    case atStart => rfl
    case round =>
      subst hrel
      go_wp2_with fail
      go_end0
      exact ⟨rfl, rfl⟩
theorem topNil_c (w : World) (v : Value) : Calls Tryz.prog 21 #[.slice none 0 0, v] w fun e w' => e = .returned (.tuple #[]) ∧ w = w' := by
  go_enter Tryz.func21, Tryz.ntmps21
  go_wp2_with (go_at_call 41; refine (stabNil_c _ _).mono ?_; rintro e w' ⟨rfl, rfl⟩)
  go_end0
  exact ⟨rfl, rfl⟩
/-- the sort at whatever slice of the call's own -/
theorem sortStableAny_c (base : Nat) (A : Option Addr) (c : Nat) (l : List Stroke) (w : World) (hl : l.length ≤ 1000000) (hO : Own w base 35 3 (.slice A l.length c) (l.map Stroke.cells)) :
    Calls Tryz.prog 21 #[.slice A l.length c, .func (.func 22) #[] #[]] w fun e w' => e = .returned (.tuple #[]) ∧ Own w' base 35 3 (.slice A l.length c) ((sortSt l).map Stroke.cells) ∧ RowKit.Below base w w' := by
  rcases hO.1.2 with ⟨hv, h0⟩ | ⟨g, cap, cur, hv, _⟩
  · simp only [Value.slice.injEq] at hv
    obtain ⟨rfl, hl0, rfl⟩ := hv
    obtain rfl : l = [] := List.eq_nil_of_length_eq_zero hl0
    refine (topNil_c w _).mono fun e w' ⟨he, hw⟩ => ?_
    subst hw
    exact ⟨he, by simpa [sortSt] using hO, RowKit.Below.refl _ _⟩
  · simp only [Value.slice.injEq] at hv
    obtain ⟨rfl, _, rfl⟩ := hv
    exact sortStableSt_c base g c l w hl hO
theorem sortSt_len (l : List Stroke) : (sortSt l).length = l.length := (List.mergeSort_perm _ _).length_eq
def sortR (l : List Stroke) : List Stroke := if strokesCode l = 0 then sortSt l else []
theorem sortR_len (l : List Stroke) : (sortR l).length ≤ l.length := by
  unfold sortR; split
  · rw [sortSt_len]; exact Nat.le_refl _
  · simp
set_option maxRecDepth 100000 in
theorem implSortStrokes_c (A : Option Addr) (c : Nat) (l : List Stroke) (w : World) (hl : l.length ≤ 140737488351232) (hs : Sl w w.heap.size 3 A (l.map Stroke.cells)) :
    Calls Tryz.prog 6 #[.slice A l.length c] w (PostRows 35 3 (sortR l).length ((sortR l).map Stroke.cells) (strokesCode l) w) := by
  have hC := checkStrokes_c A c l w hl hs
  by_cases h0 : strokesCode l = 0
  · obtain ⟨_, h150⟩ := strokesCode_ok h0
    have HR : Hid (sortR l = sortSt l) := by unfold Hid sortR; rw [if_pos h0]
    have HC := Lib.hid h0
    rw [h0] at hC
    have hC := Lib.hid hC
    clear h0
    go_enter Tryz.func6, Tryz.ntmps6
    go_wp2_with (first
      | (go_at_call 19; refine hC.out.mono ?_; rintro e w1 ⟨rfl, hb1⟩)
      | (go_at_call 20; refine (cloneStroke_c A c l _ (by omega) ((hs.below hb1).more hb1.size)).mono ?_; rintro e w2 ⟨A2, c2, rfl, hO2, hb2⟩)
      | (go_at_call 21; refine (sortStableAny_c w1.heap.size A2 c2 l w2 (by omega) hO2).mono ?_; rintro e w3 ⟨rfl, hO3, hb3⟩))
    go_ret2
    rw [HR.out, HC.out]
    refine ⟨A2, c2, by rw [sortSt_len]; rfl, by rw [sortSt_len]; exact hO3.mono hb1.size, (hb1.trans (hb2.mono hb1.size)).trans (hb3.mono hb1.size)⟩
  · have HR : Hid (sortR l = []) := by unfold Hid sortR; rw [if_neg h0]
    have hn : (strokesCode l != 0) = true := by simp [h0]
    clear h0
    generalize strokesCode l = q at *
    have hC := Lib.hid hC
    go_enter Tryz.func6, Tryz.ntmps6
    go_wp2_with (go_at_call 19; refine hC.out.mono ?_; rintro e w1 ⟨rfl, hb1⟩)
    go_ret2
    rw [HR.out]
    exact ⟨none, 0, rfl, Own.nil_, hb1⟩
set_option maxRecDepth 100000 in
theorem specSortStrokes_c (A : Option Addr) (c : Nat) (l : List Stroke) (w : World) (hl : l.length ≤ 140737488351232) (hs : Sl w w.heap.size 3 A (l.map Stroke.cells)) :
    Calls Tryz.prog 7 #[.slice A l.length c] w (PostRows 35 3 (sortR l).length ((sortR l).map Stroke.cells) (strokesCode l) w) := by
  have hC := l32Code_c A c l w hl hs
  by_cases h0 : strokesCode l = 0
  · obtain ⟨hok, h150⟩ := strokesCode_ok h0
    have ht : ∀ x ∈ l, x.tool = 1 ∨ x.tool = 2 := fun x hx => by
      have := List.all_eq_true.1 hok x hx
      simp only [strokeOK, Bool.and_eq_true] at this
      have := inB_true.1 this.1.1
      omega
    have HT := Lib.hid ht
    have HR : Hid (sortR l = sortSt l) := by unfold Hid sortR; rw [if_pos h0]
    have HC := Lib.hid h0
    rw [h0] at hC
    have hC := Lib.hid hC
    clear h0 ht hok
    go_enter Tryz.func7, Tryz.ntmps7
    go_wp2_with (first
      | (go_at_call 25; refine hC.out.mono ?_; rintro e w1 ⟨rfl, hb1⟩)
      | (go_at_call 26; refine (l32Sorted_c A c l _ (by omega) HT.out ((hs.below hb1).more hb1.size)).mono ?_; rintro e w2 ⟨A2, c2, rfl, hO2, hb2⟩))
    go_ret2
    rw [HR.out, HC.out]
    exact ⟨A2, c2, rfl, hO2.mono hb1.size, hb1.trans (hb2.mono hb1.size)⟩
  · have HR : Hid (sortR l = []) := by unfold Hid sortR; rw [if_neg h0]
    have hn : (strokesCode l != 0) = true := by simp [h0]
    clear h0
    generalize strokesCode l = q at *
    have hC := Lib.hid hC
    go_enter Tryz.func7, Tryz.ntmps7
    go_wp2_with (go_at_call 25; refine hC.out.mono ?_; rintro e w1 ⟨rfl, hb1⟩)
    go_ret2
    rw [HR.out]
    exact ⟨none, 0, rfl, Own.nil_, hb1⟩
end Go.Proofs.YtkjommcmeinkaaaGreatDoor
