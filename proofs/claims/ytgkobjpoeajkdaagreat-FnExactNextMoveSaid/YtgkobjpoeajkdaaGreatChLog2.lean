/- The logarithm of a chain, the program's. Condition: the chain is valid. -/
import Derived.Test.YtgkobjpoeajkdaaGreatChLog
import Derived.Deep.RegionHeld3
namespace Go.Proofs.YtgkobjpoeajkdaaGreat
open Go.RowKit
set_option maxRecDepth 100000 in
set_option maxHeartbeats 1000000 in
theorem chainLog_c (A : Option Addr) (c : Nat) (l : List Term) (w : World) (h6 : l.length ≤ 6) (hok : l.all termOK = true) (hs : Sl w w.heap.size 3 A (l.map Term.cells)) :
    Calls Tryz.prog 177 #[.slice A l.length c] w fun e w' => e = .returned (.agg #[.int .i64 (chainTo l l.length).1, .int .i64 (chainTo l l.length).2]) ∧ Below w.heap.size w w' := by
  have Hok := Lib.hid hok; clear hok
  go_enter Tryz.func177, Tryz.ntmps177
  go_wp2_with fail
  go_loopw [9] (fun i wr => ∃ k : Nat, k ≤ l.length ∧ i = .int .i64 k ∧ Below w.heap.size w wr ∧ Blk wr w.heap.size 201 #[.int .i64 0, .int .i64 0] ∧ Blk wr (w.heap.size + 1) 201 #[.int .i64 (chainTo l k).1, .int .i64 (chainTo l k).2]) (fun i _ => l.length - (intOf i).toNat)
  case atStart => exact ⟨0, Nat.zero_le _, rfl, (by repeat (first | with_reducible exact Below.refl _ _ | with_reducible apply below_drewN' | with_reducible apply Below.drew | (with_reducible refine Below.alloc ?_ (by first | omega | (simp; omega) | simp) _) | (with_reducible refine Below.setCell ?_ (by first | omega | (simp; omega) | simp) _) | exact Below.refl _ _)), (Blk.new w _ _).alloc _, Blk.new' _ _ _ (by simp)⟩
  case round =>
    obtain ⟨k, hk, rfl, hb, Brr, Bg⟩ := hrel
    by_cases hlt : k < l.length
    · obtain ⟨b, off, rfl, hbB, hc⟩ := hs.at_ (i := k) (by simpa using hlt)
      simp only [List.getElem_map] at hc
      have c0 : wr.cell? ⟨b, off + k * 3, none⟩ = some (.int .i64 l[k].digits) := by rw [hb.cell hbB]; exact hc 0 _ rfl
      have c1 : wr.cell? ⟨b, off + k * 3 + 1, none⟩ = some (.int .i64 l[k].tens) := by rw [hb.cell hbB]; exact hc 1 _ rfl
      have c2 : wr.cell? ⟨b, off + k * 3 + 2, none⟩ = some (.bool l[k].div) := by rw [hb.cell hbB]; exact hc 2 _ rfl
      clear hc
      have hbk := term_bd (List.all_eq_true.1 Hok.out l[k] (List.getElem_mem _))
      have hfb := figLo_bd hbk.1 hbk.2
      have hcb := chainTo_bd Hok.out hk
      have Hnx := Lib.hid (chainTo_succ l hlt)
      have HF := fun W => figureLog_c ⟨l[k].digits, l[k].tens⟩ W hbk.1 hbk.2
      unfold Figure.agg at HF
      have HF : ∀ W, Calls Tryz.prog 207 #[.agg #[.int .i64 l[k].digits, .int .i64 l[k].tens]] W fun e w' => e = .returned (.agg #[.int .i64 (figLo l[k].digits l[k].tens), .int .i64 (figHi l[k].digits l[k].tens)]) ∧ Below W.heap.size W w' := HF
      unfold chainStep at Hnx
      generalize figLo l[k].digits l[k].tens = fl at *
      generalize figHi l[k].digits l[k].tens = fh at *
      generalize chainTo l k = s at *
      obtain ⟨s1, s2⟩ := s
      simp only at Hnx hcb Bg
      have HF := fun W => Lib.hid (HF W)
      generalize l[k] = t at *
      obtain ⟨td, tt, tv⟩ := t
      simp only at Hnx c0 c1 c2 HF
      have hzr := hb.size
      have hzg := Bg.lt
      have BT := Blk.new wr 118 #[.int .i64 td, .int .i64 tt, .bool tv]
      have Bo3 := Bg.alloc (.cells #[.int .i64 td, .int .i64 tt, .bool tv] 118)
      have Br3 := Brr.alloc (.cells #[.int .i64 td, .int .i64 tt, .bool tv] 118)
      have hB3 : Below w.heap.size w (wr.alloc (.cells #[.int .i64 td, .int .i64 tt, .bool tv] 118)) := (by repeat (first | with_reducible exact hb | with_reducible apply below_drewN' | with_reducible apply Below.drew | (with_reducible refine Below.alloc ?_ (by first | omega | (simp; omega) | simp) _) | (with_reducible refine Below.setCell ?_ (by first | omega | (simp; omega) | simp) _) | exact hb))
      cases tv with
      | true =>
        simp only [if_true] at Hnx
        go_wp2_with fail
        generalize hW3 : wr.alloc (.cells #[.int .i64 td, .int .i64 tt, .bool true] 118) = W3 at *
        have x0 : W3.cell? ⟨wr.heap.size, 0, none⟩ = some (.int .i64 td) := BT.cell 0
        have x1 : W3.cell? ⟨wr.heap.size, 1, none⟩ = some (.int .i64 tt) := BT.cell 1
        have y0 : W3.cell? ⟨w.heap.size + 1, 0, none⟩ = some (.int .i64 s1) := Bo3.cell 0
        have y1 : W3.cell? ⟨w.heap.size + 1, 1, none⟩ = some (.int .i64 s2) := Bo3.cell 1
        have Bo4 : Blk W3.drew (w.heap.size + 1) 201 #[.int .i64 s1, .int .i64 s2] := Bo3.drewN 1
        have Br4 : Blk W3.drew w.heap.size 201 #[.int .i64 0, .int .i64 0] := Br3.drewN 1
        have hB4 : Below w.heap.size w W3.drew := hB3.drew
        clear c0 c1 c2 hs hW3
        go_region_with (first | (go_at_call 207; refine Calls.mono (HF _) ?_; rintro e w5 ⟨rfl, hb5⟩; have Bo5 := Bo4.below hb5 Bo4.lt; have Br5 := Br4.below hb5 Br4.lt; have z50 : w5.cell? ⟨w.heap.size + 1, 0, none⟩ = some (.int .i64 s1) := Bo5.cell 0; have z51 : w5.cell? ⟨w.heap.size + 1, 1, none⟩ = some (.int .i64 s2) := Bo5.cell 1; have hB5 := hB4.trans (hb5.mono hB4.size); have hz5 := hB5.size) | (go_at_call 210; refine (difference_c s1 s2 fl fh _ (by omega) (by omega) (by omega) (by omega)).mono ?_; rintro e w6 ⟨rfl, hb6⟩; have Bo6 := Bo5.below hb6 Bo5.lt; have Br6 := Br5.below hb6 Br5.lt; have z60 : w6.cell? ⟨w.heap.size + 1, 0, none⟩ = some (.int .i64 s1) := Bo6.cell 0; have z61 : w6.cell? ⟨w.heap.size + 1, 1, none⟩ = some (.int .i64 s2) := Bo6.cell 1; have zf60 : w6.frozen? ⟨w.heap.size + 1, 0, none⟩ = false := Bo6.frozen 0; have zf61 : w6.frozen? ⟨w.heap.size + 1, 1, none⟩ = false := Bo6.frozen 1; have hB6 := hB5.trans (hb6.mono hB5.size); have hz6 := Bo6.lt))
        all_goals
          go_wp2
          go_roundw
          case rel => exact ⟨k + 1, by omega, by go_num, (hB6.setCell (p := ⟨w.heap.size + 1, 0, none⟩) (by show w.heap.size ≤ w.heap.size + 1; omega) _).setCell (p := ⟨w.heap.size + 1, 1, none⟩) (by show w.heap.size ≤ w.heap.size + 1; omega) _, (Br6.far (p := ⟨w.heap.size + 1, 0, none⟩) (by simp) _).far (p := ⟨w.heap.size + 1, 1, none⟩) (by simp) _, by rw [Hnx.out]; exact (Bo6.two0 (u := .int .i64 (s1 - fh))).two1 (u := .int .i64 (s2 - fl))⟩
          case measure => simp [intOf]; omega
      | false =>
        simp only [Bool.false_eq_true, if_false] at Hnx
        go_wp2_with fail
        generalize hW3 : wr.alloc (.cells #[.int .i64 td, .int .i64 tt, .bool false] 118) = W3 at *
        have x0 : W3.cell? ⟨wr.heap.size, 0, none⟩ = some (.int .i64 td) := BT.cell 0
        have x1 : W3.cell? ⟨wr.heap.size, 1, none⟩ = some (.int .i64 tt) := BT.cell 1
        have y0 : W3.cell? ⟨w.heap.size + 1, 0, none⟩ = some (.int .i64 s1) := Bo3.cell 0
        have y1 : W3.cell? ⟨w.heap.size + 1, 1, none⟩ = some (.int .i64 s2) := Bo3.cell 1
        have Bo4 : Blk W3.drew (w.heap.size + 1) 201 #[.int .i64 s1, .int .i64 s2] := Bo3.drewN 1
        have Br4 : Blk W3.drew w.heap.size 201 #[.int .i64 0, .int .i64 0] := Br3.drewN 1
        have hB4 : Below w.heap.size w W3.drew := hB3.drew
        clear c0 c1 c2 hs hW3
        go_region_with (first | (go_at_call 207; refine Calls.mono (HF _) ?_; rintro e w5 ⟨rfl, hb5⟩; have Bo5 := Bo4.below hb5 Bo4.lt; have Br5 := Br4.below hb5 Br4.lt; have z50 : w5.cell? ⟨w.heap.size + 1, 0, none⟩ = some (.int .i64 s1) := Bo5.cell 0; have z51 : w5.cell? ⟨w.heap.size + 1, 1, none⟩ = some (.int .i64 s2) := Bo5.cell 1; have hB5 := hB4.trans (hb5.mono hB4.size); have hz5 := hB5.size) | (go_at_call 222; refine (sum_c s1 s2 fl fh _ (by omega) (by omega) (by omega) (by omega)).mono ?_; rintro e w6 ⟨rfl, hb6⟩; have Bo6 := Bo5.below hb6 Bo5.lt; have Br6 := Br5.below hb6 Br5.lt; have z60 : w6.cell? ⟨w.heap.size + 1, 0, none⟩ = some (.int .i64 s1) := Bo6.cell 0; have z61 : w6.cell? ⟨w.heap.size + 1, 1, none⟩ = some (.int .i64 s2) := Bo6.cell 1; have zf60 : w6.frozen? ⟨w.heap.size + 1, 0, none⟩ = false := Bo6.frozen 0; have zf61 : w6.frozen? ⟨w.heap.size + 1, 1, none⟩ = false := Bo6.frozen 1; have hB6 := hB5.trans (hb6.mono hB5.size); have hz6 := Bo6.lt))
        all_goals
          go_wp2
          go_roundw
          case rel => exact ⟨k + 1, by omega, by go_num, (hB6.setCell (p := ⟨w.heap.size + 1, 0, none⟩) (by show w.heap.size ≤ w.heap.size + 1; omega) _).setCell (p := ⟨w.heap.size + 1, 1, none⟩) (by show w.heap.size ≤ w.heap.size + 1; omega) _, (Br6.far (p := ⟨w.heap.size + 1, 0, none⟩) (by simp) _).far (p := ⟨w.heap.size + 1, 1, none⟩) (by simp) _, by rw [Hnx.out]; exact (Bo6.two0 (u := .int .i64 (s1 + fl))).two1 (u := .int .i64 (s2 + fh))⟩
          case measure => simp [intOf]; omega
    · have : k = l.length := by omega
      subst this
      have z0 : wr.cell? ⟨w.heap.size + 1, 0, none⟩ = some (.int .i64 (chainTo l l.length).1) := Bg.cell 0
      have z1 : wr.cell? ⟨w.heap.size + 1, 1, none⟩ = some (.int .i64 (chainTo l l.length).2) := Bg.cell 1
      have r0 : wr.cell? ⟨w.heap.size, 0, none⟩ = some (.int .i64 0) := Brr.cell 0
      have r1 : wr.cell? ⟨w.heap.size, 1, none⟩ = some (.int .i64 0) := Brr.cell 1
      have rf0 : wr.frozen? ⟨w.heap.size, 0, none⟩ = false := Brr.frozen 0
      have rf1 : wr.frozen? ⟨w.heap.size, 1, none⟩ = false := Brr.frozen 1
      have _rz := Brr.lt
      clear hs
      go_wp2
      refine bodyPost_ret (v := .agg #[.int .i64 (chainTo l l.length).1, .int .i64 (chainTo l l.length).2]) (by simp [results, Tryz.results177, go_sem, r0, r1]) rfl ⟨rfl, (by repeat (first | with_reducible exact hb | with_reducible apply below_drewN' | with_reducible apply Below.drew | (with_reducible refine Below.alloc ?_ (by first | omega | (simp; omega) | simp) _) | (with_reducible refine Below.setCell ?_ (by first | omega | (simp; omega) | simp) _) | exact hb))⟩
end Go.Proofs.YtgkobjpoeajkdaaGreat
