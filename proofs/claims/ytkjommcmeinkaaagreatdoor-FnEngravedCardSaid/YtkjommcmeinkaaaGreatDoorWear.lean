/- WearOf: the program's and the reference's, at all lists within the reach. -/
import Derived.Test.YtkjommcmeinkaaaGreatDoorPlainSt
namespace Go.Proofs.YtkjommcmeinkaaaGreatDoor
open Go.RowKit
def wearRes (l : List Stroke) : Int × Int × Int := if strokesCode l = 0 then (sumTo fineOf l l.length, sumTo broadOf l l.length, 0) else (0, 0, strokesCode l)
theorem fine_bd {l : List Stroke} (h : ∀ s ∈ l, strokeOK s = true) : ∀ x ∈ l, 0 ≤ fineOf x ∧ fineOf x ≤ 1000 := fun x hx => by
  have := stroke_bd (h x hx)
  unfold fineOf; split <;> omega
theorem broad_bd {l : List Stroke} (h : ∀ s ∈ l, strokeOK s = true) : ∀ x ∈ l, 0 ≤ broadOf x ∧ broadOf x ≤ 1000 := fun x hx => by
  have := stroke_bd (h x hx)
  unfold broadOf; split <;> omega
set_option maxRecDepth 100000 in
theorem implWearOf_c (A : Option Addr) (c : Nat) (l : List Stroke) (w : World) (hl : l.length ≤ 140737488351232) (hs : Sl w w.heap.size 3 A (l.map Stroke.cells)) :
    Calls Tryz.prog 16 #[.slice A l.length c] w fun e w' => e = .returned (.tuple #[.int .i64 (wearRes l).1, .int .i64 (wearRes l).2.1, .int .i64 (wearRes l).2.2]) ∧ Below w.heap.size w w' := by
  have H := Lib.hid (checkStrokes_c A c l w hl hs)
  by_cases h0 : strokesCode l = 0
  · have hok := strokesCode_ok h0
    have H0 : Hid (wearRes l = (sumTo fineOf l l.length, sumTo broadOf l l.length, 0)) := by unfold Hid wearRes; rw [if_pos h0]
    have hlen := hok.2
    have hok' := Lib.hid (List.all_eq_true.1 hok.1); clear hok
    rw [h0] at H
    clear h0
    go_enter Tryz.func16, Tryz.ntmps16
    go_wp2_with (go_at_call 19; refine H.out.mono ?_; rintro e w1 ⟨rfl, hb1⟩)
    go_loopw [6, 7, 17] (fun n b_ i wr => ∃ k : Nat, k ≤ l.length ∧ i = .int .i64 k ∧ n = .int .i64 (sumTo fineOf l k) ∧ b_ = .int .i64 (sumTo broadOf l k) ∧ Below w.heap.size w wr) (fun _ _ i _ => l.length - (intOf i).toNat)
    case atStart => exact ⟨0, Nat.zero_le _, rfl, rfl, rfl, hb1⟩
    case round =>
      obtain ⟨k, hk, rfl, rfl, rfl, hb⟩ := hrel
      have bf := sumTo_bd fineOf l 1000 (fine_bd hok'.out) k hk
      have bb := sumTo_bd broadOf l 1000 (broad_bd hok'.out) k hk
      by_cases hlt : k < l.length
      · have Hf := Lib.hid (sumTo_succ fineOf l k hlt)
        have Hb := Lib.hid (sumTo_succ broadOf l k hlt)
        have bs := stroke_bd (hok'.out l[k] (List.getElem_mem _))
        obtain ⟨bf1, bf2⟩ := bf
        obtain ⟨bb1, bb2⟩ := bb
        obtain ⟨b, off, rfl, bB, cc⟩ := hs.at_ (i := k) (by simpa using hlt)
        simp only [List.getElem_map] at cc
        have c0 : wr.cell? ⟨b, off + k * 3, none⟩ = some (.int .i64 l[k].tool) := by rw [hb.cell bB]; exact cc 0 _ rfl
        have c1 : wr.cell? ⟨b, off + k * 3 + 1, none⟩ = some (.int .i64 l[k].place) := by rw [hb.cell bB]; exact cc 1 _ rfl
        have c2 : wr.cell? ⟨b, off + k * 3 + 2, none⟩ = some (.int .i64 l[k].long) := by rw [hb.cell bB]; exact cc 2 _ rfl
        clear cc
        by_cases htl : l[k].tool = 1
        · have hne : (l[k].tool == 1) = true := by simp [htl]
          have Htl := Lib.hid htl; clear htl
          go_wp2
          go_roundw
          case rel => exact ⟨k + 1, by omega, by go_num, by rw [Hf.out]; simp [fineOf, Htl.out], by rw [Hb.out]; simp [broadOf, Htl.out], hb.alloc hb.size _⟩
          case measure => simp [intOf]; omega
        · have hne : (l[k].tool == 1) = false := by simp [htl]
          have Htl := Lib.hid htl; clear htl
          go_wp2
          go_roundw
          case rel => exact ⟨k + 1, by omega, by go_num, by rw [Hf.out]; simp [fineOf, Htl.out], by rw [Hb.out]; simp [broadOf, Htl.out], hb.alloc hb.size _⟩
          case measure => simp [intOf]; omega
      · have : k = l.length := by omega
        subst this
        go_wp2
        go_ret3
        exact ⟨by rw [H0.out]; rfl, hb⟩
  · have H0 : Hid (wearRes l = (0, 0, strokesCode l)) := by unfold Hid wearRes; rw [if_neg h0]
    have hne : (strokesCode l != 0) = true := by simp [h0]
    have h0' := Lib.hid h0; clear h0
    go_enter Tryz.func16, Tryz.ntmps16
    go_wp2_with (go_at_call 19; refine H.out.mono ?_; rintro e w1 ⟨rfl, hb1⟩)
    go_ret3
    exact ⟨by rw [H0.out]; rfl, hb1⟩
end Go.Proofs.YtkjommcmeinkaaaGreatDoor
