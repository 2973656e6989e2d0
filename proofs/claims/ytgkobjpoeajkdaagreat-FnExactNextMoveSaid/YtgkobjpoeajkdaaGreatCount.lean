/- Whether moves are valid, and the number of settings: the reference's. Condition: the list's length. -/
import Derived.Test.YtgkobjpoeajkdaaGreatSpecUs
import Derived.Test.YtgkobjpoeajkdaaGreatPlanSp2
namespace Go.Proofs.YtgkobjpoeajkdaaGreat
open Go.RowKit
def movesCode (l : List Move) : Int := if l.all moveB then (if 30 < l.length then 3 else 0) else 1
set_option maxRecDepth 100000 in
set_option maxHeartbeats 400000 in
theorem l12Code_c (A : Option Addr) (c : Nat) (l : List Move) (w : World) (hl : l.length ≤ 140737488351232) (hs : Sl w w.heap.size 4 A (l.map Move.cells)) :
    Calls Tryz.prog 186 #[.slice A l.length c] w fun e w' => e = .returned (.int .i64 (movesCode l)) ∧ Below w.heap.size w w' := by
  have HI := fun m W => Lib.hid (l12Is_c (Move.kind m) m.scale m.digits m.tens W)
  go_enter Tryz.func186, Tryz.ntmps186
  go_wp2_with fail
  go_loopw [3] (fun i wr => ∃ k : Nat, k ≤ l.length ∧ i = .int .i64 k ∧ Hid ((l.take k).all moveB = true) ∧ Below w.heap.size w wr) (fun i _ => l.length - (intOf i).toNat)
  case atStart => exact ⟨0, Nat.zero_le _, rfl, (show (l.take 0).all moveB = true by simp), Below.refl _ _⟩
  case round =>
    obtain ⟨k, hk, rfl, hok, hb⟩ := hrel
    by_cases hlt : k < l.length
    · obtain ⟨b, off, rfl, hbB, hc⟩ := hs.at_ (i := k) (by simpa using hlt)
      simp only [List.getElem_map] at hc
      have c0 : wr.cell? ⟨b, off + k * 4, none⟩ = some (.int .i64 l[k].kind) := by rw [hb.cell hbB]; exact hc 0 _ rfl
      have c1 : wr.cell? ⟨b, off + k * 4 + 1, none⟩ = some (.int .i64 l[k].scale) := by rw [hb.cell hbB]; exact hc 1 _ rfl
      have c2 : wr.cell? ⟨b, off + k * 4 + 2, none⟩ = some (.int .i64 l[k].digits) := by rw [hb.cell hbB]; exact hc 2 _ rfl
      have c3 : wr.cell? ⟨b, off + k * 4 + 3, none⟩ = some (.int .i64 l[k].tens) := by rw [hb.cell hbB]; exact hc 3 _ rfl
      clear hc
      have hI := HI l[k]
      have Hnx : Hid ((l.take (k + 1)).all moveB = ((l.take k).all moveB && moveB l[k])) := by unfold Hid; rw [List.take_succ_eq_append_getElem hlt, List.all_append]; simp
      have Hmem : Hid (l[k] ∈ l) := List.getElem_mem hlt
      have HmB : Hid (moveB l[k] = moveB ⟨l[k].kind, l[k].scale, l[k].digits, l[k].tens⟩) := rfl
      cases hm : moveB ⟨l[k].kind, l[k].scale, l[k].digits, l[k].tens⟩ with
      | true =>
        rw [hm] at hI
        have Hm := Lib.hid hm; clear hm
        have hok2 : Hid ((l.take (k + 1)).all moveB = true) := by unfold Hid; rw [Hnx.out, hok.out, HmB.out, Hm.out]; rfl
        go_wp2_with (go_at_call 230; refine Calls.mono (hI _).out ?_; rintro e w1 ⟨rfl, hb1⟩)
        go_roundw
        case rel => exact ⟨k + 1, by omega, by go_num, hok2, hb.trans (hb1.mono hb.size)⟩
        case measure => simp [intOf]; omega
      | false =>
        rw [hm] at hI
        have hbad : Hid (movesCode l = 1) := by
          unfold Hid movesCode
          rw [if_neg]
          intro h
          have := List.all_eq_true.1 h _ Hmem.out
          rw [HmB.out, hm] at this
          cases this
        clear hm
        go_wp2_with (go_at_call 230; refine Calls.mono (hI _).out ?_; rintro e w1 ⟨rfl, hb1⟩)
        go_ret
        exact ⟨by rw [hbad.out]; rfl, hb.trans (hb1.mono hb.size)⟩
    · have : k = l.length := by omega
      subst this
      have hall : l.all moveB = true := by have := hok.out; rwa [List.take_length] at this
      by_cases h30 : 30 < l.length
      · have hcd : Hid (movesCode l = 3) := by unfold Hid movesCode; rw [if_pos hall, if_pos h30]
        have h30I : (30 : Int) < (l.length : Int) := by omega
        clear hall
        go_wp2
        go_ret
        exact ⟨by rw [hcd.out]; rfl, hb⟩
      · have hcd : Hid (movesCode l = 0) := by unfold Hid movesCode; rw [if_pos hall, if_neg h30]
        have h30I : ¬ (30 : Int) < (l.length : Int) := by omega
        clear hall
        go_wp2
        go_ret
        exact ⟨by rw [hcd.out]; rfl, hb⟩
set_option maxRecDepth 100000 in
set_option maxHeartbeats 400000 in
theorem specCount_c (A : Option Addr) (c : Nat) (l : List Move) (w : World) (hl : l.length ≤ 140737488351232) (hgood : movesCode l = 0) (hs : Sl w w.heap.size 4 A (l.map Move.cells)) :
    Calls Tryz.prog 214 #[.slice A l.length c] w fun e w' => e = .returned (.tuple #[.int .i64 (setTo l l.length), .int .i64 0]) ∧ Below w.heap.size w w' := by
  have HC := l12Code_c A c l w hl hs
  rw [hgood] at HC
  have HC := Lib.hid HC
  clear hgood
  go_enter Tryz.func214, Tryz.ntmps214
  go_wp2_with fail
  refine Calls.mono HC.out ?_; rintro e w1 ⟨rfl, hb0⟩
  go_wp2_with fail
  go_loopw [5, 6] (fun q i wr => ∃ k : Nat, k ≤ l.length ∧ i = .int .i64 k ∧ q = .int .i64 (setTo l k) ∧ Below w.heap.size w wr) (fun _ i _ => l.length - (intOf i).toNat)
  case atStart => exact ⟨0, Nat.zero_le _, rfl, rfl, hb0⟩
  case round =>
    obtain ⟨k, hk, rfl, rfl, hb⟩ := hrel
    by_cases hlt : k < l.length
    · obtain ⟨b, off, rfl, hbB, hc⟩ := hs.at_ (i := k) (by simpa using hlt)
      simp only [List.getElem_map] at hc
      have c0 : wr.cell? ⟨b, off + k * 4, none⟩ = some (.int .i64 l[k].kind) := by rw [hb.cell hbB]; exact hc 0 _ rfl
      clear hc
      have hnx := setTo_succ l hlt
      have hle := setTo_le l k
      have hz := hb.size
      by_cases h2 : l[k].kind ≤ 2
      · rw [if_pos h2] at hnx
        have Hnx := Lib.hid hnx; clear hnx
        generalize setTo l k = u at *
        go_wp2
        go_roundw
        case rel => exact ⟨k + 1, by omega, by go_num, by rw [Hnx.out]; go_num, hb⟩
        case measure => simp [intOf]; omega
      · rw [if_neg h2] at hnx
        have Hnx := Lib.hid hnx; clear hnx
        generalize setTo l k = u at *
        go_wp2
        go_roundw
        case rel => exact ⟨k + 1, by omega, by go_num, by rw [Hnx.out]; rfl, hb⟩
        case measure => simp [intOf]; omega
    · have : k = l.length := by omega
      subst this
      go_wp2
      go_ret2
      exact ⟨rfl, hb⟩
set_option maxRecDepth 100000 in
set_option maxHeartbeats 1000000 in
theorem l15Units_c (L : Int) (A1 : Option Addr) (c1 : Nat) (l1 : List Int) (A2 : Option Addr) (c2 : Nat) (l2 : List Int) (A3 : Option Addr) (c3 : Nat) (l : List Term) (p q r : Int) (w : World) (R : RuleIn w A1 l1 A2 l2)
    (hl : chainB l = true) (hs : Sl w w.heap.size 3 A3 (l.map Term.cells)) (hL : 1 ≤ L ∧ L ≤ 100000) (he : errorsB p q r = true) :
    Calls Tryz.prog 173 #[.agg #[.int .i64 L, .slice A1 l1.length c1, .slice A2 l2.length c2], .slice A3 l.length c3, .agg #[.int .i64 p, .int .i64 q, .int .i64 r]] w fun e w' => e = .returned (.int .i64 (unitsPl L l p q r)) ∧ Below w.heap.size w w' := by
  obtain ⟨k1, k2, k3, _⟩ := chainB_parts hl
  obtain ⟨e1, e2, e3⟩ := errors_bd he
  have hub := unitsC_bd hL e1 e2 e3
  have huk := usual_ok k1 k2 k3
  have hn := huk.2
  have hgood : movesCode (usualP l).ms = 0 := by unfold movesCode; rw [if_pos huk.1.2, if_neg (by omega)]
  have hsl := setTo_le (usualP l).ms (usualP l).ms.length
  have hUp := unitsPl_bd hl hL e1 e2 e3
  unfold unitsPl at hUp ⊢
  have HU := fun (W : World) (hW : Below w.heap.size w W) => Lib.hid (l14Usual_c L A1 c1 l1 A2 c2 l2 A3 c3 l W (R.later hW) k1 k2 k3 ((hs.below hW).more hW.size))
  have HE := fun W => Lib.hid (l10UnitsC_c L p q r W hL e1 e2 e3)
  have HC := fun A c W (hsl : Sl W W.heap.size 4 A ((usualP l).ms.map Move.cells)) => Lib.hid (specCount_c A c (usualP l).ms W (by omega) hgood hsl)
  have hW : Below w.heap.size w ((w.alloc (.cells #[.int .i64 L, .slice A1 l1.length c1, .slice A2 l2.length c2] 32)).alloc (.cells #[.int .i64 p, .int .i64 q, .int .i64 r] 34)) := (by repeat (first | with_reducible exact Below.refl _ _ | with_reducible apply below_drewN' | with_reducible apply Below.drew | (with_reducible refine Below.alloc ?_ (by first | omega | (simp; omega) | simp) _) | (with_reducible refine Below.setCell ?_ (by first | omega | (simp; omega) | simp) _) | exact Below.refl _ _))
  have B3 : Blk ((w.alloc (.cells #[.int .i64 L, .slice A1 l1.length c1, .slice A2 l2.length c2] 32)).alloc (.cells #[.int .i64 p, .int .i64 q, .int .i64 r] 34)) w.heap.size 32 #[.int .i64 L, .slice A1 l1.length c1, .slice A2 l2.length c2] := (Blk.new _ _ _).alloc _
  have B5 : Blk ((w.alloc (.cells #[.int .i64 L, .slice A1 l1.length c1, .slice A2 l2.length c2] 32)).alloc (.cells #[.int .i64 p, .int .i64 q, .int .i64 r] 34)) (w.heap.size + 1) 34 #[.int .i64 p, .int .i64 q, .int .i64 r] := Blk.new' _ _ _ (by simp)
  have hul : (usualP l).ms.length ≤ 19 := hn
  clear hn hl hs R hL e1 e2 e3 k1 k2 k3 he huk hgood
  generalize unitsC L p q r = u at *
  generalize setTo (usualP l).ms (usualP l).ms.length = n at *
  have hn19 : n ≤ 19 := by omega
  go_enter Tryz.func173, Tryz.ntmps173
  go_wp2_with fail
  generalize ((w.alloc (.cells #[.int .i64 L, .slice A1 l1.length c1, .slice A2 l2.length c2] 32)).alloc (.cells #[.int .i64 p, .int .i64 q, .int .i64 r] 34)) = W at *
  refine Calls.mono (HU W hW).out ?_; rintro e w1 ⟨A', c', rfl, hSl, hb1⟩
  have C3 := B3.below hb1 B3.lt
  have C5 := B5.below hb1 B5.lt
  have hW1 := hW.trans (hb1.mono hW.size)
  clear B3 B5 hb1 HU hW
  have hC := HC A' c' w1 hSl
  clear hSl HC
  go_wp2_with fail
  refine Calls.mono hC.out ?_; rintro e w2 ⟨rfl, hb2⟩
  have D3 := C3.below hb2 C3.lt
  have D5 := C5.below hb2 C5.lt
  have hW2 := hW1.trans (hb2.mono hW1.size)
  clear C3 C5 hb2 hC hW1
  have y0 : w2.cell? ⟨w.heap.size, 0, none⟩ = some (.int .i64 L) := D3.cell 0
  have y1 : w2.cell? ⟨w.heap.size + 1, 0, none⟩ = some (.int .i64 p) := D5.cell 0
  have y2 : w2.cell? ⟨w.heap.size + 1, 1, none⟩ = some (.int .i64 q) := D5.cell 1
  have y3 : w2.cell? ⟨w.heap.size + 1, 2, none⟩ = some (.int .i64 r) := D5.cell 2
  go_wp2_with fail
  refine Calls.mono (HE _).out ?_; rintro e w3 ⟨rfl, hb3⟩
  have hW3 := hW2.trans (hb3.mono hW2.size)
  go_wp2
  go_ret
  exact ⟨rfl, (by repeat (first | with_reducible exact hW3 | with_reducible apply below_drewN' | with_reducible apply Below.drew | (with_reducible refine Below.alloc ?_ (by first | omega | (simp; omega) | simp) _) | (with_reducible refine Below.setCell ?_ (by first | omega | (simp; omega) | simp) _) | exact hW3))⟩
end Go.Proofs.YtgkobjpoeajkdaaGreat
