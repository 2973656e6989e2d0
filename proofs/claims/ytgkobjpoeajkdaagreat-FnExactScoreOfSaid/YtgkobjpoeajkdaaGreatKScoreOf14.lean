/- Whether moves are valid, and the number of settings: the reference's. Condition: the list's length. The span of a plan's result: the reference's. Conditions: the chain and the rule are valid. Whether an exercise is valid: the program's. Conditions: the lists' lengths. How a law's row is closed: from a walk that returns true and leaves all old memory as it was. How a law's arguments are opened: structs that hold slices, slices of such structs. No condition of their own. -/
import Derived.Test.YtgkobjpoeajkdaaGreatRows
import Derived.WalkKit
import Derived.ProofKit
import Derived.OpenShut
import Derived.SizedLaws
import Derived.Deep.Slices
import Derived.Deep.Fields
import Derived.Lib.SmallJoins
import Derived.Test.YtgkobjpoeajkdaaGreatKScoreOf1
import Derived.Test.YtgkobjpoeajkdaaGreatKScoreOf10
import Derived.Test.YtgkobjpoeajkdaaGreatKScoreOf13
namespace Go.Proofs.YtgkobjpoeajkdaaGreat
open Go.RowKit
def movesCode (l : List Move) : Int := if l.all moveB then (if 30 < l.length then 3 else 0) else 1
set_option maxRecDepth 100000 in
set_option maxHeartbeats 400000 in
theorem l12Code_c (A : Option Addr) (c : Nat) (l : List Move) (w : World) (hl : l.length ≤ 140737488351232) (hs : Sl w w.heap.size 4 A (l.map Move.cells)) :
    Calls Tryz.prog 186 #[.slice A l.length c] w fun e w' => e = .returned (.int .i64 (movesCode l)) ∧ Below w.heap.size w w' := by
  have HI := fun m W => Lib.hid (l12Is_c (Move.kind m) m.scale m.digits m.tens W)
  go_enter Tryz.func186, Tryz.ntmps186
  go_wp2_with fail
  go_loopw [3] (fun i wr => ∃ k : Nat, k ≤ l.length ∧ i = .int .i64 k ∧ Hid ((l.take k).all moveB = true) ∧ Below w.heap.size w wr) (fun i _ => l.length - (intOf i).toNat)
  case atStart => exact ⟨0, Nat.zero_le _, rfl, (show (l.take 0).all moveB = true by simp), Below.refl _ _⟩
  case round =>
    obtain ⟨k, hk, rfl, hok, hb⟩ := hrel
    by_cases hlt : k < l.length
    · obtain ⟨b, off, rfl, hbB, hc⟩ := hs.at_ (i := k) (by simpa using hlt)
      simp only [List.getElem_map] at hc
      have c0 : wr.cell? ⟨b, off + k * 4, none⟩ = some (.int .i64 l[k].kind) := by rw [hb.cell hbB]; exact hc 0 _ rfl
      have c1 : wr.cell? ⟨b, off + k * 4 + 1, none⟩ = some (.int .i64 l[k].scale) := by rw [hb.cell hbB]; exact hc 1 _ rfl
      have c2 : wr.cell? ⟨b, off + k * 4 + 2, none⟩ = some (.int .i64 l[k].digits) := by rw [hb.cell hbB]; exact hc 2 _ rfl
      have c3 : wr.cell? ⟨b, off + k * 4 + 3, none⟩ = some (.int .i64 l[k].tens) := by rw [hb.cell hbB]; exact hc 3 _ rfl
      clear hc
      have hI := HI l[k]
      have Hnx : Hid ((l.take (k + 1)).all moveB = ((l.take k).all moveB && moveB l[k])) := by unfold Hid; rw [List.take_succ_eq_append_getElem hlt, List.all_append]; simp
      have Hmem : Hid (l[k] ∈ l) := List.getElem_mem hlt
      have HmB : Hid (moveB l[k] = moveB ⟨l[k].kind, l[k].scale, l[k].digits, l[k].tens⟩) := rfl
      cases hm : moveB ⟨l[k].kind, l[k].scale, l[k].digits, l[k].tens⟩ with
      | true =>
        rw [hm] at hI
        have Hm := Lib.hid hm; clear hm
        have hok2 : Hid ((l.take (k + 1)).all moveB = true) := by unfold Hid; rw [Hnx.out, hok.out, HmB.out, Hm.out]; rfl
        go_wp2_with (go_at_call 230; refine Calls.mono (hI _).out ?_; rintro e w1 ⟨rfl, hb1⟩)
        go_roundw
        case rel => exact ⟨k + 1, by omega, by go_num, hok2, hb.trans (hb1.mono hb.size)⟩
        case measure => simp [intOf]; omega
      | false =>
        rw [hm] at hI
        have hbad : Hid (movesCode l = 1) := by
          unfold Hid movesCode
          rw [if_neg]
          intro h
          have := List.all_eq_true.1 h _ Hmem.out
          rw [HmB.out, hm] at this
          cases this
        clear hm
        go_wp2_with (go_at_call 230; refine Calls.mono (hI _).out ?_; rintro e w1 ⟨rfl, hb1⟩)
        go_ret
        exact ⟨by rw [hbad.out]; rfl, hb.trans (hb1.mono hb.size)⟩
    · have : k = l.length := by omega
      subst this
      have hall : l.all moveB = true := by have := hok.out; rwa [List.take_length] at this
      by_cases h30 : 30 < l.length
      · have hcd : Hid (movesCode l = 3) := by unfold Hid movesCode; rw [if_pos hall, if_pos h30]
        have h30I : (30 : Int) < (l.length : Int) := by omega
        clear hall
        go_wp2
        go_ret
        exact ⟨by rw [hcd.out]; rfl, hb⟩
      · have hcd : Hid (movesCode l = 0) := by unfold Hid movesCode; rw [if_pos hall, if_neg h30]
        have h30I : ¬ (30 : Int) < (l.length : Int) := by omega
        clear hall
        go_wp2
        go_ret
        exact ⟨by rw [hcd.out]; rfl, hb⟩
set_option maxRecDepth 100000 in
set_option maxHeartbeats 400000 in
theorem specCount_c (A : Option Addr) (c : Nat) (l : List Move) (w : World) (hl : l.length ≤ 140737488351232) (hgood : movesCode l = 0) (hs : Sl w w.heap.size 4 A (l.map Move.cells)) :
    Calls Tryz.prog 214 #[.slice A l.length c] w fun e w' => e = .returned (.tuple #[.int .i64 (setTo l l.length), .int .i64 0]) ∧ Below w.heap.size w w' := by
  have HC := l12Code_c A c l w hl hs
  rw [hgood] at HC
  have HC := Lib.hid HC
  clear hgood
  go_enter Tryz.func214, Tryz.ntmps214
  go_wp2_with fail
  refine Calls.mono HC.out ?_; rintro e w1 ⟨rfl, hb0⟩
  go_wp2_with fail
  go_loopw [5, 6] (fun q i wr => ∃ k : Nat, k ≤ l.length ∧ i = .int .i64 k ∧ q = .int .i64 (setTo l k) ∧ Below w.heap.size w wr) (fun _ i _ => l.length - (intOf i).toNat)
  case atStart => exact ⟨0, Nat.zero_le _, rfl, rfl, hb0⟩
  case round =>
    obtain ⟨k, hk, rfl, rfl, hb⟩ := hrel
    by_cases hlt : k < l.length
    · obtain ⟨b, off, rfl, hbB, hc⟩ := hs.at_ (i := k) (by simpa using hlt)
      simp only [List.getElem_map] at hc
      have c0 : wr.cell? ⟨b, off + k * 4, none⟩ = some (.int .i64 l[k].kind) := by rw [hb.cell hbB]; exact hc 0 _ rfl
      clear hc
      have hnx := setTo_succ l hlt
      have hle := setTo_le l k
      have hz := hb.size
      by_cases h2 : l[k].kind ≤ 2
      · rw [if_pos h2] at hnx
        have Hnx := Lib.hid hnx; clear hnx
        generalize setTo l k = u at *
        go_wp2
        go_roundw
        case rel => exact ⟨k + 1, by omega, by go_num, by rw [Hnx.out]; go_num, hb⟩
        case measure => simp [intOf]; omega
      · rw [if_neg h2] at hnx
        have Hnx := Lib.hid hnx; clear hnx
        generalize setTo l k = u at *
        go_wp2
        go_roundw
        case rel => exact ⟨k + 1, by omega, by go_num, by rw [Hnx.out]; rfl, hb⟩
        case measure => simp [intOf]; omega
    · have : k = l.length := by omega
      subst this
      go_wp2
      go_ret2
      exact ⟨rfl, hb⟩
set_option maxRecDepth 100000 in
set_option maxHeartbeats 1000000 in
theorem l15Units_c (L : Int) (A1 : Option Addr) (c1 : Nat) (l1 : List Int) (A2 : Option Addr) (c2 : Nat) (l2 : List Int) (A3 : Option Addr) (c3 : Nat) (l : List Term) (p q r : Int) (w : World) (R : RuleIn w A1 l1 A2 l2)
    (hl : chainB l = true) (hs : Sl w w.heap.size 3 A3 (l.map Term.cells)) (hL : 1 ≤ L ∧ L ≤ 100000) (he : errorsB p q r = true) :
    Calls Tryz.prog 173 #[.agg #[.int .i64 L, .slice A1 l1.length c1, .slice A2 l2.length c2], .slice A3 l.length c3, .agg #[.int .i64 p, .int .i64 q, .int .i64 r]] w fun e w' => e = .returned (.int .i64 (unitsPl L l p q r)) ∧ Below w.heap.size w w' := by
  obtain ⟨k1, k2, k3, _⟩ := chainB_parts hl
  obtain ⟨e1, e2, e3⟩ := errors_bd he
  have hub := unitsC_bd hL e1 e2 e3
  have huk := usual_ok k1 k2 k3
  have hn := huk.2
  have hgood : movesCode (usualP l).ms = 0 := by unfold movesCode; rw [if_pos huk.1.2, if_neg (by omega)]
  have hsl := setTo_le (usualP l).ms (usualP l).ms.length
  have hUp := unitsPl_bd hl hL e1 e2 e3
  unfold unitsPl at hUp ⊢
  have HU := fun (W : World) (hW : Below w.heap.size w W) => Lib.hid (l14Usual_c L A1 c1 l1 A2 c2 l2 A3 c3 l W (R.later hW) k1 k2 k3 ((hs.below hW).more hW.size))
  have HE := fun W => Lib.hid (l10UnitsC_c L p q r W hL e1 e2 e3)
  have HC := fun A c W (hsl : Sl W W.heap.size 4 A ((usualP l).ms.map Move.cells)) => Lib.hid (specCount_c A c (usualP l).ms W (by omega) hgood hsl)
  have hW : Below w.heap.size w ((w.alloc (.cells #[.int .i64 L, .slice A1 l1.length c1, .slice A2 l2.length c2] 32)).alloc (.cells #[.int .i64 p, .int .i64 q, .int .i64 r] 34)) := (by repeat (first | with_reducible exact Below.refl _ _ | with_reducible apply below_drewN' | with_reducible apply Below.drew | (with_reducible refine Below.alloc ?_ (by first | omega | (simp; omega) | simp) _) | (with_reducible refine Below.setCell ?_ (by first | omega | (simp; omega) | simp) _) | exact Below.refl _ _))
  have B3 : Blk ((w.alloc (.cells #[.int .i64 L, .slice A1 l1.length c1, .slice A2 l2.length c2] 32)).alloc (.cells #[.int .i64 p, .int .i64 q, .int .i64 r] 34)) w.heap.size 32 #[.int .i64 L, .slice A1 l1.length c1, .slice A2 l2.length c2] := (Blk.new _ _ _).alloc _
  have B5 : Blk ((w.alloc (.cells #[.int .i64 L, .slice A1 l1.length c1, .slice A2 l2.length c2] 32)).alloc (.cells #[.int .i64 p, .int .i64 q, .int .i64 r] 34)) (w.heap.size + 1) 34 #[.int .i64 p, .int .i64 q, .int .i64 r] := Blk.new' _ _ _ (by simp)
  have hul : (usualP l).ms.length ≤ 19 := hn
  clear hn hl hs R hL e1 e2 e3 k1 k2 k3 he huk hgood
  generalize unitsC L p q r = u at *
  generalize setTo (usualP l).ms (usualP l).ms.length = n at *
  have hn19 : n ≤ 19 := by omega
  go_enter Tryz.func173, Tryz.ntmps173
  go_wp2_with fail
  generalize ((w.alloc (.cells #[.int .i64 L, .slice A1 l1.length c1, .slice A2 l2.length c2] 32)).alloc (.cells #[.int .i64 p, .int .i64 q, .int .i64 r] 34)) = W at *
  refine Calls.mono (HU W hW).out ?_; rintro e w1 ⟨A', c', rfl, hSl, hb1⟩
  have C3 := B3.below hb1 B3.lt
  have C5 := B5.below hb1 B5.lt
  have hW1 := hW.trans (hb1.mono hW.size)
  clear B3 B5 hb1 HU hW
  have hC := HC A' c' w1 hSl
  clear hSl HC
  go_wp2_with fail
  refine Calls.mono hC.out ?_; rintro e w2 ⟨rfl, hb2⟩
  have D3 := C3.below hb2 C3.lt
  have D5 := C5.below hb2 C5.lt
  have hW2 := hW1.trans (hb2.mono hW1.size)
  clear C3 C5 hb2 hC hW1
  have y0 : w2.cell? ⟨w.heap.size, 0, none⟩ = some (.int .i64 L) := D3.cell 0
  have y1 : w2.cell? ⟨w.heap.size + 1, 0, none⟩ = some (.int .i64 p) := D5.cell 0
  have y2 : w2.cell? ⟨w.heap.size + 1, 1, none⟩ = some (.int .i64 q) := D5.cell 1
  have y3 : w2.cell? ⟨w.heap.size + 1, 2, none⟩ = some (.int .i64 r) := D5.cell 2
  go_wp2_with fail
  refine Calls.mono (HE _).out ?_; rintro e w3 ⟨rfl, hb3⟩
  have hW3 := hW2.trans (hb3.mono hW2.size)
  go_wp2
  go_ret
  exact ⟨rfl, (by repeat (first | with_reducible exact hW3 | with_reducible apply below_drewN' | with_reducible apply Below.drew | (with_reducible refine Below.alloc ?_ (by first | omega | (simp; omega) | simp) _) | (with_reducible refine Below.setCell ?_ (by first | omega | (simp; omega) | simp) _) | exact hW3))⟩
end Go.Proofs.YtgkobjpoeajkdaaGreat
namespace Go.Proofs.YtgkobjpoeajkdaaGreat
open Go.RowKit
/-- a block of two cells that the region makes (b), and into which it stores x and y (bs) -/
structure AlT (T : TypeId) (w1 : World) (b bs : Bool) (v9 x y : Value) (v : World) : Prop where
  hb : Below w1.heap.size w1 v
  blk : b = true → ∃ gb c0 c1, v9 = .pointer (some ⟨gb, 0, none⟩) ∧ Blk v gb T #[c0, c1] ∧ w1.heap.size ≤ gb ∧ (bs = true → c0 = x ∧ c1 = y)
  dd : bs = true → b = true
section
variable {T : TypeId} {w1 v v' : World} {b bs : Bool} {v9 x y c0 c1 : Value} {gb : Nat}
theorem AlT.init {v9 : Value} : AlT T w1 false false v9 x y w1.drew := ⟨(Below.refl _ _).drew, nofun, nofun⟩
theorem AlT.below (h : AlT T w1 b bs v9 x y v) (hb : Below v.heap.size v v') : AlT T w1 b bs v9 x y v' :=
  ⟨h.hb.trans (hb.mono h.hb.size), fun e => by
    obtain ⟨gb, c0, c1, h1, h2, h3, h4⟩ := h.blk e
    exact ⟨gb, c0, c1, h1, h2.below hb h2.lt, h3, h4⟩, h.dd⟩
theorem AlT.new {z : Value} (h : AlT T w1 b bs v9 x y v) (hb : b = false) : AlT T w1 true bs (.pointer (some ⟨v.heap.size, 0, none⟩)) x y (v.alloc (.cells #[z, z] T)) :=
  ⟨h.hb.alloc h.hb.size _, fun _ => ⟨_, _, _, rfl, Blk.new _ _ _, h.hb.size, fun e => (by have := h.dd e; rw [hb] at this; cases this)⟩, fun _ => rfl⟩
theorem AlT.set (h : AlT T w1 b bs (.pointer (some ⟨gb, 0, none⟩)) x y v) (hb : b = true) (hB : Blk v gb T #[c0, c1]) (hg : w1.heap.size ≤ gb) : AlT T w1 b true (.pointer (some ⟨gb, 0, none⟩)) x y ((v.setCell ⟨gb, 0, none⟩ x).setCell ⟨gb, 1, none⟩ y) :=
  ⟨(h.hb.setCell hg _).setCell hg _, fun _ => ⟨gb, x, y, rfl, (hB.set_ 0 x).set_ 1 y, hg, fun _ => ⟨rfl, rfl⟩⟩, fun _ => hb⟩
end
set_option maxRecDepth 100000 in
set_option maxHeartbeats 1000000 in
theorem l15Span_c (L : Int) (A1 : Option Addr) (c1 : Nat) (l1 : List Int) (A2 : Option Addr) (c2 : Nat) (l2 : List Int) (A3 : Option Addr) (c3 : Nat) (l : List Term) (p q r : Int) (w : World) (R : RuleIn w A1 l1 A2 l2)
    (hl : chainB l = true) (_ : l.length ≤ c3) (hs : Sl w w.heap.size 3 A3 (l.map Term.cells)) (hL : 1 ≤ L ∧ L ≤ 100000) (he : errorsB p q r = true) :
    Calls Tryz.prog 113 #[.agg #[.int .i64 L, .slice A1 l1.length c1, .slice A2 l2.length c2], .slice A3 l.length c3, .agg #[.int .i64 p, .int .i64 q, .int .i64 r]] w fun e w' => e = .returned (spanR (spanLo L l p q r) (spanHi L l p q r)) ∧ Below w.heap.size w w' := by
  obtain ⟨k1, k2, k3, k4⟩ := chainB_parts hl
  obtain ⟨e1, e2, e3⟩ := errors_bd he
  have hUp := unitsPl_bd hl hL e1 e2 e3
  have hcb := chain_bd hl
  have HU := fun (W : World) (hW : Below w.heap.size w W) => Lib.hid (l15Units_c L A1 c1 l1 A2 c2 l2 A3 c3 l p q r W (R.later hW) hl ((hs.below hW).more hW.size) hL he)
  have HC := fun (W : World) (hW : Below w.heap.size w W) => Lib.hid (l13Log_c A3 c3 l W k1 k2 k3 k4 ((hs.below hW).more hW.size))
  unfold spanLo spanHi
  generalize (chainTo l l.length).1 = lo at *
  generalize (chainTo l l.length).2 = hi at *
  generalize unitsPl L l p q r = u at *
  have HSo := fun W => l04Span_c (lo - u) (hi + u) W
  rw [spanR_form] at HSo
  rw [spanR_form]
  generalize spLoF (lo - u) (hi + u) = F1 at *
  generalize spHiF (lo - u) (hi + u) = F2 at *
  generalize spanC (lo - u) (hi + u) = cc at *
  have HSo := fun W => Lib.hid (HSo W)
  obtain ⟨d1, t1⟩ := F1
  obtain ⟨d2, t2⟩ := F2
  simp only at HSo
  have hP0 : PsS w L A1 l1.length c1 A2 l2.length c2 p q r _ := PsS.init
  obtain ⟨hcb1, hcb2⟩ := hcb
  clear hl e1 e2 e3 k1 k2 k3 k4 R hs hL he
  go_enter Tryz.func113, Tryz.ntmps113
  go_wp2_with fail
  generalize ((((w.alloc (.cells #[.int .i64 L, .slice A1 l1.length c1, .slice A2 l2.length c2] 32)).alloc (.cells #[.int .i64 p, .int .i64 q, .int .i64 r] 34)).alloc (.cells #[.int .i64 0, .int .i64 0] 65)).alloc (.cells #[.int .i64 0, .int .i64 0] 65)) = W at *
  refine wp_region_all (fun a0 fL bA v => ∃ v11 v12 v13 v14 v15 v16 v9 v10 : Value, bA = (((((((a0.put (some 11) v11).put (some 12) v12).put (some 13) v13).put (some 14) v14).put (some 15) v15).put (some 16) v16).put (some 9) v9).put (some 10) v10 ∧ (AlT 201 W (fL 6) (fL 7) v9 (.int .i64 lo) (.int .i64 hi) v) ∧ (fL 0 = true → v11 = .slice A3 l.length c3) ∧ (fL 1 = true → v12 = .agg #[.int .i64 lo, .int .i64 hi]) ∧ (fL 2 = true → v13 = .agg #[.int .i64 L, .slice A1 l1.length c1, .slice A2 l2.length c2]) ∧ (fL 3 = true → v14 = .slice A3 l.length c3) ∧ (fL 4 = true → v15 = .agg #[.int .i64 p, .int .i64 q, .int .i64 r]) ∧ (fL 5 = true → v16 = .int .i64 u) ∧ (fL 6 = true → True) ∧ (fL 8 = true → v10 = .int .i64 u)) (by kernel_rfl) (by decide +kernel) ?_ ?_ ?_
  · exact ⟨undef, undef, undef, undef, undef, undef, undef, undef, by simp only [Act.put, List.setIfInBounds_toArray, List.set_cons_zero, List.set_cons_succ], AlT.init, nofun, nofun, nofun, nofun, nofun, nofun, nofun, nofun⟩
  · rintro fL bA v ⟨v11, v12, v13, v14, v15, v16, v9, v10, rfl, hS, q0, q1, q2, q3, q4, q5, q6, q8⟩ i hi hf o ho hall
    simp only [Act.put, List.setIfInBounds_toArray, List.set_cons_zero, List.set_cons_succ]
    simp only [List.length_cons, List.length_nil] at hi
    have hn : i = 0 ∨ i = 1 ∨ i = 2 ∨ i = 3 ∨ i = 4 ∨ i = 5 ∨ i = 6 ∨ i = 7 ∨ i = 8 := by omega
    clear hi
    rcases hn with rfl | rfl | rfl | rfl | rfl | rfl | rfl | rfl | rfl
    · obtain rfl := Option.some.inj ho
      clear hall ho
      refine wpOp_step rfl (fun K hK => ?_)
      go_simp
      exact hK _ _ ⟨_, _, _, _, _, _, _, _, rfl, hS, fun _ => rfl, q1, q2, q3, q4, q5, fun _ => trivial, q8⟩
    · obtain rfl := Option.some.inj ho
      obtain rfl := q0 (hall ⟨0, .data⟩ (by simp) rfl)
      clear hall ho
      refine wpOp_step rfl (fun K hK => ?_)
      go_simp
      refine Calls.mono ((HC _ (hP0.hb.trans (hS.hb.mono hP0.hb.size))).out) ?_; rintro e w1 ⟨rfl, hb1⟩
      go_simp
      exact hK _ _ ⟨_, _, _, _, _, _, _, _, rfl, hS.below hb1, fun _ => rfl, fun _ => rfl, q2, q3, q4, q5, fun _ => trivial, q8⟩
    · obtain rfl := Option.some.inj ho
      have E := hP0.b3.below hS.hb hP0.b3.lt
      have y0 : v.cell? ⟨w.heap.size, 0, none⟩ = some (.int .i64 L) := E.cell 0
      have y1 : v.cell? ⟨w.heap.size, 1, none⟩ = some (.slice A1 l1.length c1) := E.cell 1
      have y2 : v.cell? ⟨w.heap.size, 2, none⟩ = some (.slice A2 l2.length c2) := E.cell 2
      clear hall ho
      refine wpOp_step rfl (fun K hK => ?_)
      go_simp
      exact hK _ _ ⟨_, _, _, _, _, _, _, _, rfl, hS, q0, q1, fun _ => rfl, q3, q4, q5, fun _ => trivial, q8⟩
    · obtain rfl := Option.some.inj ho
      clear hall ho
      refine wpOp_step rfl (fun K hK => ?_)
      go_simp
      exact hK _ _ ⟨_, _, _, _, _, _, _, _, rfl, hS, q0, q1, q2, fun _ => rfl, q4, q5, fun _ => trivial, q8⟩
    · obtain rfl := Option.some.inj ho
      have E := hP0.b5.below hS.hb hP0.b5.lt
      have y0 : v.cell? ⟨w.heap.size + 1, 0, none⟩ = some (.int .i64 p) := E.cell 0
      have y1 : v.cell? ⟨w.heap.size + 1, 1, none⟩ = some (.int .i64 q) := E.cell 1
      have y2 : v.cell? ⟨w.heap.size + 1, 2, none⟩ = some (.int .i64 r) := E.cell 2
      clear hall ho
      refine wpOp_step rfl (fun K hK => ?_)
      go_simp
      exact hK _ _ ⟨_, _, _, _, _, _, _, _, rfl, hS, q0, q1, q2, q3, fun _ => rfl, q5, fun _ => trivial, q8⟩
    · obtain rfl := Option.some.inj ho
      obtain rfl := q2 (hall ⟨2, .data⟩ (by simp) rfl)
      obtain rfl := q3 (hall ⟨3, .data⟩ (by simp) rfl)
      obtain rfl := q4 (hall ⟨4, .data⟩ (by simp) rfl)
      clear hall ho
      refine wpOp_step rfl (fun K hK => ?_)
      go_simp
      refine Calls.mono ((HU _ (hP0.hb.trans (hS.hb.mono hP0.hb.size))).out) ?_; rintro e w1 ⟨rfl, hb1⟩
      go_simp
      exact hK _ _ ⟨_, _, _, _, _, _, _, _, rfl, hS.below hb1, q0, q1, fun _ => rfl, fun _ => rfl, fun _ => rfl, fun _ => rfl, fun _ => trivial, q8⟩
    · obtain rfl := Option.some.inj ho
      clear hall ho
      refine wpOp_step rfl (fun K hK => ?_)
      go_simp
      exact hK _ _ ⟨_, _, _, _, _, _, _, _, rfl, hS.new hf, q0, q1, q2, q3, q4, q5, fun _ => trivial, q8⟩
    · obtain rfl := Option.some.inj ho
      have e6 : fL 6 = true := hall ⟨6, .data⟩ (by simp) rfl
      obtain rfl := q1 (hall ⟨1, .data⟩ (by simp) rfl)
      obtain ⟨gb, x0, x1, rfl, Bb, hgb, _⟩ := hS.blk e6
      have y0 : v.cell? ⟨gb, 0, none⟩ = some x0 := Bb.cell 0
      have y1 : v.cell? ⟨gb, 1, none⟩ = some x1 := Bb.cell 1
      have yf0 := Bb.frozen 0
      have yf1 := Bb.frozen 1
      clear hall ho
      refine wpOp_step rfl (fun K hK => ?_)
      go_simp
      exact hK _ _ ⟨_, _, _, _, _, _, _, _, rfl, hS.set e6 Bb hgb, q0, fun _ => rfl, q2, q3, q4, q5, fun _ => trivial, q8⟩
    · obtain rfl := Option.some.inj ho
      obtain rfl := q5 (hall ⟨5, .data⟩ (by simp) rfl)
      clear hall ho
      refine wpOp_step rfl (fun K hK => ?_)
      go_simp
      exact hK _ _ ⟨_, _, _, _, _, _, _, _, rfl, hS, q0, q1, q2, q3, q4, fun _ => rfl, fun _ => trivial, fun _ => rfl⟩
  · rintro fL bA v ⟨v11, v12, v13, v14, v15, v16, v9, v10, rfl, hS, q0, q1, q2, q3, q4, q5, q6, q8⟩ hall
    simp only [Act.put, List.setIfInBounds_toArray, List.set_cons_zero, List.set_cons_succ]
    simp only [List.length_cons, List.length_nil] at hall
    obtain rfl := q0 (hall 0 (by omega))
    obtain rfl := q1 (hall 1 (by omega))
    obtain rfl := q2 (hall 2 (by omega))
    obtain rfl := q3 (hall 3 (by omega))
    obtain rfl := q4 (hall 4 (by omega))
    obtain rfl := q5 (hall 5 (by omega))
    have e6 : fL 6 = true := hall 6 (by omega)
    obtain rfl := q8 (hall 8 (by omega))
    have e7 : fL 7 = true := hall 7 (by omega)
    clear hall
    obtain ⟨gb, x0, x1, rfl, Bb, hgb, hxy⟩ := hS.blk e6
    obtain ⟨rfl, rfl⟩ := hxy e7
    have hP1 := hP0.below hS.hb
    have y0 : v.cell? ⟨gb, 0, none⟩ = some (.int .i64 lo) := Bb.cell 0
    have y1 : v.cell? ⟨gb, 1, none⟩ = some (.int .i64 hi) := Bb.cell 1
    clear hP0 hS Bb hgb HC HU
    go_wp2_with fail
    refine Calls.mono (HSo v).out ?_; rintro e v2 ⟨rfl, hb2⟩
    have hS := hP1.below hb2
    clear y0 y1 hP1 hb2
    have z0 : v2.cell? ⟨w.heap.size + 1 + 1, 0, none⟩ = some (.int .i64 0) := hS.b6.cell 0
    have z1 : v2.cell? ⟨w.heap.size + 1 + 1, 1, none⟩ = some (.int .i64 0) := hS.b6.cell 1
    have z2 : v2.cell? ⟨w.heap.size + 1 + 1 + 1, 0, none⟩ = some (.int .i64 0) := hS.b7.cell 0
    have z3 : v2.cell? ⟨w.heap.size + 1 + 1 + 1, 1, none⟩ = some (.int .i64 0) := hS.b7.cell 1
    have f0 : v2.frozen? ⟨w.heap.size + 1 + 1, 0, none⟩ = false := hS.b6.frozen 0
    have f1 : v2.frozen? ⟨w.heap.size + 1 + 1, 1, none⟩ = false := hS.b6.frozen 1
    have f2 : v2.frozen? ⟨w.heap.size + 1 + 1 + 1, 0, none⟩ = false := hS.b7.frozen 0
    have f3 : v2.frozen? ⟨w.heap.size + 1 + 1 + 1, 1, none⟩ = false := hS.b7.frozen 1
    have hbv := hS.hb
    go_wp2
    refine bodyPost_ret (v := .tuple #[.agg #[.int .i64 d1, .int .i64 t1], .agg #[.int .i64 d2, .int .i64 t2], .int .i64 cc]) (by simp [results, Tryz.results113, go_sem, z0, z1, z2, z3]) rfl ⟨rfl, (by repeat (first | with_reducible exact hbv | with_reducible apply below_drewN' | with_reducible apply Below.drew | (with_reducible refine Below.alloc ?_ (by first | omega | (simp; omega) | simp) _) | (with_reducible refine Below.setCell ?_ (by first | omega | (simp; omega) | simp) _) | exact hbv))⟩
end Go.Proofs.YtgkobjpoeajkdaaGreat
namespace Go.Proofs.YtgkobjpoeajkdaaGreat
open Go.RowKit
/-- an exercise's lists, as they lie in w -/
structure ExIn (w : World) (A1 : Option Addr) (c1 : Nat) (l1 : List Int) (A2 : Option Addr) (c2 : Nat) (l2 : List Int) (A3 : Option Addr) (c3 : Nat) (l3 : List Term) : Prop where
  h1 : l1.length ≤ 1048576
  h2 : l2.length ≤ 1048576
  h3 : l3.length ≤ 1048576
  k1 : l1.length ≤ c1
  k2 : l2.length ≤ c2
  k3 : l3.length ≤ c3
  s1 : Sl w w.heap.size 1 A1 (l1.map ic)
  s2 : Sl w w.heap.size 1 A2 (l2.map ic)
  s3 : Sl w w.heap.size 3 A3 (l3.map Term.cells)
theorem ExIn.later {w W : World} {A1 : Option Addr} {c1 : Nat} {l1 : List Int} {A2 : Option Addr} {c2 : Nat} {l2 : List Int} {A3 : Option Addr} {c3 : Nat} {l3 : List Term} (E : ExIn w A1 c1 l1 A2 c2 l2 A3 c3 l3) (hW : Below w.heap.size w W) : ExIn W A1 c1 l1 A2 c2 l2 A3 c3 l3 :=
  ⟨E.h1, E.h2, E.h3, E.k1, E.k2, E.k3, (E.s1.below hW).more hW.size, (E.s2.below hW).more hW.size, (E.s3.below hW).more hW.size⟩
theorem ExIn.rule {w : World} {A1 : Option Addr} {c1 : Nat} {l1 : List Int} {A2 : Option Addr} {c2 : Nat} {l2 : List Int} {A3 : Option Addr} {c3 : Nat} {l3 : List Term} (E : ExIn w A1 c1 l1 A2 c2 l2 A3 c3 l3) (m1 : (0 : Int) ∈ l1) (m2 : (0 : Int) ∈ l2) : RuleIn w A1 l1 A2 l2 :=
  ⟨E.h1, E.h2, E.s1, E.s2, m1, m2⟩
theorem ex_ok {L : Int} {l1 l2 : List Int} {l : List Term} {p q r : Int} (h : boundCode L l1 l2 l p q r = 0) : exLoF L l1 l2 l p q r = spLoF (spanLo L l p q r) (spanHi L l p q r) ∧ exHiF L l1 l2 l p q r = spHiF (spanLo L l p q r) (spanHi L l p q r) ∧ exCode L l1 l2 l p q r = spanC (spanLo L l p q r) (spanHi L l p q r) := by
  unfold exLoF exHiF exCode
  rw [if_pos h, if_pos h, if_pos h]
  exact ⟨rfl, rfl, rfl⟩
theorem ex_bad {L : Int} {l1 l2 : List Int} {l : List Term} {p q r : Int} (h : boundCode L l1 l2 l p q r ≠ 0) : exLoF L l1 l2 l p q r = ⟨0, 0⟩ ∧ exHiF L l1 l2 l p q r = ⟨0, 0⟩ ∧ exCode L l1 l2 l p q r = boundCode L l1 l2 l p q r := by
  unfold exLoF exHiF exCode
  rw [if_neg h, if_neg h, if_neg h]
  exact ⟨rfl, rfl, rfl⟩
set_option maxRecDepth 100000 in
set_option maxHeartbeats 1000000 in
theorem implPlanSpan_c (L : Int) (A1 : Option Addr) (c1 : Nat) (l1 : List Int) (A2 : Option Addr) (c2 : Nat) (l2 : List Int) (A3 : Option Addr) (c3 : Nat) (l : List Term) (p q r : Int) (w : World) (E : ExIn w A1 c1 l1 A2 c2 l2 A3 c3 l) :
    Calls Tryz.prog 63 #[.agg #[.int .i64 L, .slice A1 l1.length c1, .slice A2 l2.length c2], .slice A3 l.length c3, .agg #[.int .i64 p, .int .i64 q, .int .i64 r]] w fun e w' =>
      e = .returned (.tuple #[.agg #[.int .i64 (exLoF L l1 l2 l p q r).digits, .int .i64 (exLoF L l1 l2 l p q r).tens], .agg #[.int .i64 (exHiF L l1 l2 l p q r).digits, .int .i64 (exHiF L l1 l2 l p q r).tens], .int .i64 (exCode L l1 l2 l p q r)]) ∧ Below w.heap.size w w' := by
  have HB := fun (W : World) (hW : Below w.heap.size w W) => Lib.hid (checkBound_c L A1 c1 l1 A2 c2 l2 A3 c3 l p q r W E.h1 E.h2 E.h3 E.k1 E.k2 (E.later hW).s1 (E.later hW).s2 (E.later hW).s3)
  have hP0 : PsS w L A1 l1.length c1 A2 l2.length c2 p q r _ := PsS.init
  by_cases hc : boundCode L l1 l2 l p q r = 0
  · obtain ⟨b1, b2, b3, b4, b5⟩ := bound_parts hc
    have hL := ruleB_len b1
    have HS := fun (W : World) (hW : Below w.heap.size w W) => planSpan_c L A1 c1 l1 A2 c2 l2 A3 c3 l p q r W ((E.later hW).rule b3 b4) b2 E.k3 (E.later hW).s3 hL b5
    rw [spanR_form] at HS
    obtain ⟨x1, x2, x3⟩ := ex_ok hc
    rw [x1, x2, x3]
    rw [hc] at HB
    generalize spLoF (spanLo L l p q r) (spanHi L l p q r) = F1 at *
    generalize spHiF (spanLo L l p q r) (spanHi L l p q r) = F2 at *
    generalize spanC (spanLo L l p q r) (spanHi L l p q r) = cc at *
    obtain ⟨d1, t1⟩ := F1
    obtain ⟨d2, t2⟩ := F2
    simp only at HS ⊢
    have HS := fun W hW => Lib.hid (HS W hW)
    clear b1 b2 b3 b4 b5 hL x1 x2 x3 hc E
    go_enter Tryz.func63, Tryz.ntmps63
    go_wp2_with fail
    generalize ((((w.alloc (.cells #[.int .i64 L, .slice A1 l1.length c1, .slice A2 l2.length c2] 32)).alloc (.cells #[.int .i64 p, .int .i64 q, .int .i64 r] 34)).alloc (.cells #[.int .i64 0, .int .i64 0] 65)).alloc (.cells #[.int .i64 0, .int .i64 0] 65)) = W at *
    refine Calls.mono (HB W hP0.hb).out ?_; rintro e w1 ⟨rfl, hb1⟩
    have hP1 := hP0.below hb1
    have y0 : w1.cell? ⟨w.heap.size, 0, none⟩ = some (.int .i64 L) := hP1.b3.cell 0
    have y1 : w1.cell? ⟨w.heap.size, 1, none⟩ = some (.slice A1 l1.length c1) := hP1.b3.cell 1
    have y2 : w1.cell? ⟨w.heap.size, 2, none⟩ = some (.slice A2 l2.length c2) := hP1.b3.cell 2
    have y3 : w1.cell? ⟨w.heap.size + 1, 0, none⟩ = some (.int .i64 p) := hP1.b5.cell 0
    have y4 : w1.cell? ⟨w.heap.size + 1, 1, none⟩ = some (.int .i64 q) := hP1.b5.cell 1
    have y5 : w1.cell? ⟨w.heap.size + 1, 2, none⟩ = some (.int .i64 r) := hP1.b5.cell 2
    clear hP0 hb1
    go_wp2_with fail
    refine Calls.mono (HS w1 hP1.hb).out ?_; rintro e v ⟨rfl, hb2⟩
    have hS := hP1.below hb2
    clear y0 y1 y2 y3 y4 y5 hP1 hb2
    have z0 : v.cell? ⟨w.heap.size + 1 + 1, 0, none⟩ = some (.int .i64 0) := hS.b6.cell 0
    have z1 : v.cell? ⟨w.heap.size + 1 + 1, 1, none⟩ = some (.int .i64 0) := hS.b6.cell 1
    have z2 : v.cell? ⟨w.heap.size + 1 + 1 + 1, 0, none⟩ = some (.int .i64 0) := hS.b7.cell 0
    have z3 : v.cell? ⟨w.heap.size + 1 + 1 + 1, 1, none⟩ = some (.int .i64 0) := hS.b7.cell 1
    have f0 : v.frozen? ⟨w.heap.size + 1 + 1, 0, none⟩ = false := hS.b6.frozen 0
    have f1 : v.frozen? ⟨w.heap.size + 1 + 1, 1, none⟩ = false := hS.b6.frozen 1
    have f2 : v.frozen? ⟨w.heap.size + 1 + 1 + 1, 0, none⟩ = false := hS.b7.frozen 0
    have f3 : v.frozen? ⟨w.heap.size + 1 + 1 + 1, 1, none⟩ = false := hS.b7.frozen 1
    have hbv := hS.hb
    go_wp2
    refine bodyPost_ret (v := .tuple #[.agg #[.int .i64 d1, .int .i64 t1], .agg #[.int .i64 d2, .int .i64 t2], .int .i64 cc]) (by simp [results, Tryz.results63, go_sem, z0, z1, z2, z3]) rfl ⟨rfl, (by repeat (first | with_reducible exact hbv | with_reducible apply below_drewN' | with_reducible apply Below.drew | (with_reducible refine Below.alloc ?_ (by first | omega | (simp; omega) | simp) _) | (with_reducible refine Below.setCell ?_ (by first | omega | (simp; omega) | simp) _) | exact hbv))⟩
  · obtain ⟨x1, x2, x3⟩ := ex_bad hc
    rw [x1, x2, x3]
    generalize boundCode L l1 l2 l p q r = bc at *
    clear x1 x2 x3 E
    simp only
    go_enter Tryz.func63, Tryz.ntmps63
    go_wp2_with fail
    generalize ((((w.alloc (.cells #[.int .i64 L, .slice A1 l1.length c1, .slice A2 l2.length c2] 32)).alloc (.cells #[.int .i64 p, .int .i64 q, .int .i64 r] 34)).alloc (.cells #[.int .i64 0, .int .i64 0] 65)).alloc (.cells #[.int .i64 0, .int .i64 0] 65)) = W at *
    refine Calls.mono (HB W hP0.hb).out ?_; rintro e v ⟨rfl, hb1⟩
    have hS := hP0.below hb1
    have z0 : v.cell? ⟨w.heap.size + 1 + 1, 0, none⟩ = some (.int .i64 0) := hS.b6.cell 0
    have z1 : v.cell? ⟨w.heap.size + 1 + 1, 1, none⟩ = some (.int .i64 0) := hS.b6.cell 1
    have z2 : v.cell? ⟨w.heap.size + 1 + 1 + 1, 0, none⟩ = some (.int .i64 0) := hS.b7.cell 0
    have z3 : v.cell? ⟨w.heap.size + 1 + 1 + 1, 1, none⟩ = some (.int .i64 0) := hS.b7.cell 1
    have f0 : v.frozen? ⟨w.heap.size + 1 + 1, 0, none⟩ = false := hS.b6.frozen 0
    have f1 : v.frozen? ⟨w.heap.size + 1 + 1, 1, none⟩ = false := hS.b6.frozen 1
    have f2 : v.frozen? ⟨w.heap.size + 1 + 1 + 1, 0, none⟩ = false := hS.b7.frozen 0
    have f3 : v.frozen? ⟨w.heap.size + 1 + 1 + 1, 1, none⟩ = false := hS.b7.frozen 1
    have hbv := hS.hb
    clear hP0 hb1
    go_wp2
    refine bodyPost_ret (v := .tuple #[.agg #[.int .i64 0, .int .i64 0], .agg #[.int .i64 0, .int .i64 0], .int .i64 bc]) (by simp [results, Tryz.results63, go_sem, z0, z1, z2, z3]) rfl ⟨rfl, (by repeat (first | with_reducible exact hbv | with_reducible apply below_drewN' | with_reducible apply Below.drew | (with_reducible refine Below.alloc ?_ (by first | omega | (simp; omega) | simp) _) | (with_reducible refine Below.setCell ?_ (by first | omega | (simp; omega) | simp) _) | exact hbv))⟩
set_option maxRecDepth 100000 in
set_option maxHeartbeats 1000000 in
theorem implIsExercise_c (L : Int) (A1 : Option Addr) (c1 : Nat) (l1 : List Int) (A2 : Option Addr) (c2 : Nat) (l2 : List Int) (A3 : Option Addr) (c3 : Nat) (l : List Term) (p q r : Int) (w : World) (E : ExIn w A1 c1 l1 A2 c2 l2 A3 c3 l) :
    Calls Tryz.prog 16 #[.agg #[.int .i64 L, .slice A1 l1.length c1, .slice A2 l2.length c2, .slice A3 l.length c3, .int .i64 p, .int .i64 q, .int .i64 r]] w fun e w' => e = .returned (.bool (exB L l1 l2 l p q r)) ∧ Below w.heap.size w w' := by
  have HS := fun (W : World) (hW : Below w.heap.size w W) => Lib.hid (implPlanSpan_c L A1 c1 l1 A2 c2 l2 A3 c3 l p q r W (E.later hW))
  unfold exB
  generalize exLoF L l1 l2 l p q r = F1 at *
  generalize exHiF L l1 l2 l p q r = F2 at *
  generalize exCode L l1 l2 l p q r = cc at *
  clear E
  have hW : Below w.heap.size w (w.alloc (.cells #[.int .i64 L, .slice A1 l1.length c1, .slice A2 l2.length c2, .slice A3 l.length c3, .int .i64 p, .int .i64 q, .int .i64 r] 36)) := (by repeat (first | with_reducible exact Below.refl _ _ | with_reducible apply below_drewN' | with_reducible apply Below.drew | (with_reducible refine Below.alloc ?_ (by first | omega | (simp; omega) | simp) _) | (with_reducible refine Below.setCell ?_ (by first | omega | (simp; omega) | simp) _) | exact Below.refl _ _))
  go_enter Tryz.func16, Tryz.ntmps16
  go_wp2_with fail
  generalize w.alloc (.cells #[.int .i64 L, .slice A1 l1.length c1, .slice A2 l2.length c2, .slice A3 l.length c3, .int .i64 p, .int .i64 q, .int .i64 r] 36) = W at *
  refine Calls.mono (HS W hW).out ?_; rintro e w1 ⟨rfl, hb1⟩
  have hW1 := hW.trans (hb1.mono hW.size)
  have hs1 := hW1.size
  go_wp2
  go_ret
  exact ⟨rfl, (by repeat (first | with_reducible exact hW1 | with_reducible apply below_drewN' | with_reducible apply Below.drew | (with_reducible refine Below.alloc ?_ (by first | omega | (simp; omega) | simp) _) | (with_reducible refine Below.setCell ?_ (by first | omega | (simp; omega) | simp) _) | exact hW1))⟩
set_option maxRecDepth 100000 in
set_option maxHeartbeats 1000000 in
theorem specPlanSpan_c (L : Int) (A1 : Option Addr) (c1 : Nat) (l1 : List Int) (A2 : Option Addr) (c2 : Nat) (l2 : List Int) (A3 : Option Addr) (c3 : Nat) (l : List Term) (p q r : Int) (w : World) (E : ExIn w A1 c1 l1 A2 c2 l2 A3 c3 l) :
    Calls Tryz.prog 61 #[.agg #[.int .i64 L, .slice A1 l1.length c1, .slice A2 l2.length c2], .slice A3 l.length c3, .agg #[.int .i64 p, .int .i64 q, .int .i64 r]] w fun e w' =>
      e = .returned (.tuple #[.agg #[.int .i64 (exLoF L l1 l2 l p q r).digits, .int .i64 (exLoF L l1 l2 l p q r).tens], .agg #[.int .i64 (exHiF L l1 l2 l p q r).digits, .int .i64 (exHiF L l1 l2 l p q r).tens], .int .i64 (exCode L l1 l2 l p q r)]) ∧ Below w.heap.size w w' := by
  have HB := fun (W : World) (hW : Below w.heap.size w W) => Lib.hid (l15Code_c L A1 c1 l1 A2 c2 l2 A3 c3 l p q r W E.h1 E.h2 E.h3 E.k1 E.k2 (E.later hW).s1 (E.later hW).s2 (E.later hW).s3)
  have hP0 : PsS w L A1 l1.length c1 A2 l2.length c2 p q r _ := PsS.init
  by_cases hc : boundCode L l1 l2 l p q r = 0
  · obtain ⟨b1, b2, b3, b4, b5⟩ := bound_parts hc
    have hL := ruleB_len b1
    have HS := fun (W : World) (hW : Below w.heap.size w W) => l15Span_c L A1 c1 l1 A2 c2 l2 A3 c3 l p q r W ((E.later hW).rule b3 b4) b2 E.k3 (E.later hW).s3 hL b5
    rw [spanR_form] at HS
    obtain ⟨x1, x2, x3⟩ := ex_ok hc
    rw [x1, x2, x3]
    rw [hc] at HB
    generalize spLoF (spanLo L l p q r) (spanHi L l p q r) = F1 at *
    generalize spHiF (spanLo L l p q r) (spanHi L l p q r) = F2 at *
    generalize spanC (spanLo L l p q r) (spanHi L l p q r) = cc at *
    obtain ⟨d1, t1⟩ := F1
    obtain ⟨d2, t2⟩ := F2
    simp only at HS ⊢
    have HS := fun W hW => Lib.hid (HS W hW)
    clear b1 b2 b3 b4 b5 hL x1 x2 x3 hc E
    go_enter Tryz.func61, Tryz.ntmps61
    go_wp2_with fail
    generalize ((((w.alloc (.cells #[.int .i64 L, .slice A1 l1.length c1, .slice A2 l2.length c2] 32)).alloc (.cells #[.int .i64 p, .int .i64 q, .int .i64 r] 34)).alloc (.cells #[.int .i64 0, .int .i64 0] 65)).alloc (.cells #[.int .i64 0, .int .i64 0] 65)) = W at *
    refine Calls.mono (HB W hP0.hb).out ?_; rintro e w1 ⟨rfl, hb1⟩
    have hP1 := hP0.below hb1
    have y0 : w1.cell? ⟨w.heap.size, 0, none⟩ = some (.int .i64 L) := hP1.b3.cell 0
    have y1 : w1.cell? ⟨w.heap.size, 1, none⟩ = some (.slice A1 l1.length c1) := hP1.b3.cell 1
    have y2 : w1.cell? ⟨w.heap.size, 2, none⟩ = some (.slice A2 l2.length c2) := hP1.b3.cell 2
    have y3 : w1.cell? ⟨w.heap.size + 1, 0, none⟩ = some (.int .i64 p) := hP1.b5.cell 0
    have y4 : w1.cell? ⟨w.heap.size + 1, 1, none⟩ = some (.int .i64 q) := hP1.b5.cell 1
    have y5 : w1.cell? ⟨w.heap.size + 1, 2, none⟩ = some (.int .i64 r) := hP1.b5.cell 2
    clear hP0 hb1
    go_wp2_with fail
    refine Calls.mono (HS w1 hP1.hb).out ?_; rintro e v ⟨rfl, hb2⟩
    have hS := hP1.below hb2
    clear y0 y1 y2 y3 y4 y5 hP1 hb2
    have z0 : v.cell? ⟨w.heap.size + 1 + 1, 0, none⟩ = some (.int .i64 0) := hS.b6.cell 0
    have z1 : v.cell? ⟨w.heap.size + 1 + 1, 1, none⟩ = some (.int .i64 0) := hS.b6.cell 1
    have z2 : v.cell? ⟨w.heap.size + 1 + 1 + 1, 0, none⟩ = some (.int .i64 0) := hS.b7.cell 0
    have z3 : v.cell? ⟨w.heap.size + 1 + 1 + 1, 1, none⟩ = some (.int .i64 0) := hS.b7.cell 1
    have f0 : v.frozen? ⟨w.heap.size + 1 + 1, 0, none⟩ = false := hS.b6.frozen 0
    have f1 : v.frozen? ⟨w.heap.size + 1 + 1, 1, none⟩ = false := hS.b6.frozen 1
    have f2 : v.frozen? ⟨w.heap.size + 1 + 1 + 1, 0, none⟩ = false := hS.b7.frozen 0
    have f3 : v.frozen? ⟨w.heap.size + 1 + 1 + 1, 1, none⟩ = false := hS.b7.frozen 1
    have hbv := hS.hb
    go_wp2
    refine bodyPost_ret (v := .tuple #[.agg #[.int .i64 d1, .int .i64 t1], .agg #[.int .i64 d2, .int .i64 t2], .int .i64 cc]) (by simp [results, Tryz.results61, go_sem, z0, z1, z2, z3]) rfl ⟨rfl, (by repeat (first | with_reducible exact hbv | with_reducible apply below_drewN' | with_reducible apply Below.drew | (with_reducible refine Below.alloc ?_ (by first | omega | (simp; omega) | simp) _) | (with_reducible refine Below.setCell ?_ (by first | omega | (simp; omega) | simp) _) | exact hbv))⟩
  · obtain ⟨x1, x2, x3⟩ := ex_bad hc
    rw [x1, x2, x3]
    generalize boundCode L l1 l2 l p q r = bc at *
    clear x1 x2 x3 E
    simp only
    go_enter Tryz.func61, Tryz.ntmps61
    go_wp2_with fail
    generalize ((((w.alloc (.cells #[.int .i64 L, .slice A1 l1.length c1, .slice A2 l2.length c2] 32)).alloc (.cells #[.int .i64 p, .int .i64 q, .int .i64 r] 34)).alloc (.cells #[.int .i64 0, .int .i64 0] 65)).alloc (.cells #[.int .i64 0, .int .i64 0] 65)) = W at *
    refine Calls.mono (HB W hP0.hb).out ?_; rintro e v ⟨rfl, hb1⟩
    have hS := hP0.below hb1
    have z0 : v.cell? ⟨w.heap.size + 1 + 1, 0, none⟩ = some (.int .i64 0) := hS.b6.cell 0
    have z1 : v.cell? ⟨w.heap.size + 1 + 1, 1, none⟩ = some (.int .i64 0) := hS.b6.cell 1
    have z2 : v.cell? ⟨w.heap.size + 1 + 1 + 1, 0, none⟩ = some (.int .i64 0) := hS.b7.cell 0
    have z3 : v.cell? ⟨w.heap.size + 1 + 1 + 1, 1, none⟩ = some (.int .i64 0) := hS.b7.cell 1
    have f0 : v.frozen? ⟨w.heap.size + 1 + 1, 0, none⟩ = false := hS.b6.frozen 0
    have f1 : v.frozen? ⟨w.heap.size + 1 + 1, 1, none⟩ = false := hS.b6.frozen 1
    have f2 : v.frozen? ⟨w.heap.size + 1 + 1 + 1, 0, none⟩ = false := hS.b7.frozen 0
    have f3 : v.frozen? ⟨w.heap.size + 1 + 1 + 1, 1, none⟩ = false := hS.b7.frozen 1
    have hbv := hS.hb
    clear hP0 hb1
    go_wp2
    refine bodyPost_ret (v := .tuple #[.agg #[.int .i64 0, .int .i64 0], .agg #[.int .i64 0, .int .i64 0], .int .i64 bc]) (by simp [results, Tryz.results61, go_sem, z0, z1, z2, z3]) rfl ⟨rfl, (by repeat (first | with_reducible exact hbv | with_reducible apply below_drewN' | with_reducible apply Below.drew | (with_reducible refine Below.alloc ?_ (by first | omega | (simp; omega) | simp) _) | (with_reducible refine Below.setCell ?_ (by first | omega | (simp; omega) | simp) _) | exact hbv))⟩
set_option maxRecDepth 100000 in
set_option maxHeartbeats 1000000 in
theorem specIsExercise_c (L : Int) (A1 : Option Addr) (c1 : Nat) (l1 : List Int) (A2 : Option Addr) (c2 : Nat) (l2 : List Int) (A3 : Option Addr) (c3 : Nat) (l : List Term) (p q r : Int) (w : World) (E : ExIn w A1 c1 l1 A2 c2 l2 A3 c3 l) :
    Calls Tryz.prog 14 #[.agg #[.int .i64 L, .slice A1 l1.length c1, .slice A2 l2.length c2, .slice A3 l.length c3, .int .i64 p, .int .i64 q, .int .i64 r]] w fun e w' => e = .returned (.bool (exB L l1 l2 l p q r)) ∧ Below w.heap.size w w' := by
  have HS := fun (W : World) (hW : Below w.heap.size w W) => Lib.hid (specPlanSpan_c L A1 c1 l1 A2 c2 l2 A3 c3 l p q r W (E.later hW))
  unfold exB
  generalize exLoF L l1 l2 l p q r = F1 at *
  generalize exHiF L l1 l2 l p q r = F2 at *
  generalize exCode L l1 l2 l p q r = cc at *
  clear E
  have hW : Below w.heap.size w (w.alloc (.cells #[.int .i64 L, .slice A1 l1.length c1, .slice A2 l2.length c2, .slice A3 l.length c3, .int .i64 p, .int .i64 q, .int .i64 r] 36)) := (by repeat (first | with_reducible exact Below.refl _ _ | with_reducible apply below_drewN' | with_reducible apply Below.drew | (with_reducible refine Below.alloc ?_ (by first | omega | (simp; omega) | simp) _) | (with_reducible refine Below.setCell ?_ (by first | omega | (simp; omega) | simp) _) | exact Below.refl _ _))
  go_enter Tryz.func14, Tryz.ntmps14
  go_wp2_with fail
  generalize w.alloc (.cells #[.int .i64 L, .slice A1 l1.length c1, .slice A2 l2.length c2, .slice A3 l.length c3, .int .i64 p, .int .i64 q, .int .i64 r] 36) = W at *
  refine Calls.mono (HS W hW).out ?_; rintro e w1 ⟨rfl, hb1⟩
  have hW1 := hW.trans (hb1.mono hW.size)
  have hs1 := hW1.size
  go_wp2
  go_ret
  exact ⟨rfl, (by repeat (first | with_reducible exact hW1 | with_reducible apply below_drewN' | with_reducible apply Below.drew | (with_reducible refine Below.alloc ?_ (by first | omega | (simp; omega) | simp) _) | (with_reducible refine Below.setCell ?_ (by first | omega | (simp; omega) | simp) _) | exact hW1))⟩
end Go.Proofs.YtgkobjpoeajkdaaGreat
namespace Go.Proofs.YtgkobjpoeajkdaaGreat
open Go.ChangeShapes Go.WideShapes Go.ChangeAt Go.RowKit Go.Deep

theorem own : ownKnob Tryz.prog.godebug = none := by kernel_rfl
set_option maxRecDepth 100000 in
theorem laidOut : laidOutB Tryz.prog = true := by kernel_rfl

section
variable {H : Type} {enc : TypeId × Value → H} {P : Program}
theorem trodAll_below (hl : laidOutB P = true) {W W' : World} (hb : Below W.heap.size W W') :
    ∀ (ts : List TypeId) (vs : List Value) (ds : List (DataW H)) (ps : List MemPlace), ts.all (fun t => P.readableRec t && decide (t < P.types.size)) = true →
      (∀ x ∈ ps, x.block < W.heap.size) → DataW.TrodAll enc P W 0 (fun _ => true) true ts vs ds ps → DataW.TrodAll enc P W' 0 (fun b => decide (b < W.heap.size)) true ts vs ds ps := by
  intro ts
  induction ts with
  | nil =>
    intro vs ds ps _ _ h
    obtain ⟨rfl, rfl, rfl⟩ := trodAll_nil h
    exact trodAll_mk0
  | cons t ts ih =>
    intro vs ds ps hr hlt h
    obtain ⟨v, vs', d, ds', p, q, rfl, rfl, rfl, h0, h1⟩ := trodAll_cons h
    simp only [List.all_cons, Bool.and_eq_true, decide_eq_true_eq] at hr
    exact trodAll_cons_mk (Below.trod hl hr.1.1 hr.1.2 h0 hb fun x hx => hlt x (List.mem_append_left _ hx)) (ih vs' ds' q (by simpa using hr.2) (fun x hx => hlt x (List.mem_append_right _ hx)) h1)

theorem trodAll_length {w : World} {base : Nat} {spare : Nat → Bool} {held : Bool} :
    ∀ (ts : List TypeId) (vs : List Value) (ds : List (DataW H)) (ps : List MemPlace), DataW.TrodAll enc P w base spare held ts vs ds ps → ds.length = ts.length := by
  intro ts
  induction ts with
  | nil => intro vs ds ps h; obtain ⟨rfl, rfl, rfl⟩ := trodAll_nil h; rfl
  | cons t ts ih =>
    intro vs ds ps h
    obtain ⟨v, vs', d, ds', p, q, rfl, rfl, rfl, h0, h1⟩ := trodAll_cons h
    simp [ih _ _ _ h1]
end

theorem bounds_i64 {n : Int} (h : (Lit.int .i64 n).wf = true) : -9223372036854775808 ≤ n ∧ n ≤ 9223372036854775807 := by
  simpa [Lit.wf, IntKind.min, IntKind.max, IntKind.signed, IntKind.bits] using h


section
variable {H : Type} {enc : TypeId × Value → H} {P : Program} {w : World} {base : Nat} {spare : Nat → Bool} {held : Bool}
/-- A struct of int64 fields, read as data. -/
theorem struct_ints {t tI : TypeId} {fs : Array Field} {n : Nat} {cs : List Value} {y : DataW H × List MemPlace} (ht : P.underlying t = some (.struct fs)) (hI : P.underlying tI = some (.int .i64)) (hone : oneCellFields P fs = true)
    (hall : fs.all (fun f => f.type == tI) = true) (hC : P.cellsOf t = fs.size) (h : DataW.trod enc P w base spare held n t cs = some y) :
    ∃ ns : List Int, ns.length = fs.size ∧ cs = ns.map (Value.int .i64) ∧ ∀ m ∈ ns, (Lit.int .i64 m).wf = true := by
  obtain ⟨xs, n', _, _, hlen, hxl, hf⟩ := DataW.trod_struct ht h
  rw [hC] at hlen
  have hcell : ∀ i, i < fs.size → ∃ m, cs[i]? = some (Value.int .i64 m) ∧ (Lit.int .i64 m).wf = true := by
    intro i hi
    have hfi : fs[i]? = some fs[i] := Array.getElem?_eq_getElem hi
    obtain ⟨ho, hk⟩ := hone_of hone i _ hfi
    have hty : fs[i].type = tI := by
      have := Array.all_eq_true.1 hall i hi
      simpa using this
    have h1 := hf i _ hfi
    rw [ho, hk, hty] at h1
    have hone' : (cs.drop i).take 1 = [cs[i]'(by omega)] := by
      rw [List.drop_eq_getElem_cons (by omega)]; rfl
    rw [hone', List.getElem?_eq_getElem (show i < xs.length by omega)] at h1
    obtain ⟨m, hm, _, hwf⟩ := DataW.trod_int hI h1
    simp only [List.cons.injEq, and_true] at hm
    exact ⟨m, by rw [List.getElem?_eq_getElem (by omega), hm], hwf⟩
  refine ⟨cs.map intOf, by simpa using hlen, ?_, ?_⟩
  · apply List.ext_getElem?
    intro i
    by_cases hi : i < fs.size
    · obtain ⟨m, hm, _⟩ := hcell i hi
      simp [hm, intOf]
    · rw [List.getElem?_eq_none (by omega), List.getElem?_eq_none (by simp; omega)]
  · intro m hm
    obtain ⟨v, hv, rfl⟩ := List.mem_map.1 hm
    obtain ⟨i, hi, rfl⟩ := List.getElem_of_mem hv
    obtain ⟨m, hm', hwf⟩ := hcell i (by omega)
    rw [List.getElem?_eq_getElem hi] at hm'
    simp only [Option.some.injEq] at hm'
    rw [hm']
    exact hwf

/-- An argument that is a slice of structs: the rows of its cells. -/
theorem open_rowsV {t e : TypeId} {k : Nat} {b0 : Nat} {r : Reach} {v : Value} {d : DataW H} {p : List MemPlace} {ok : List Value → Prop} (ht : P.underlying t = some (.slice e)) (hC : P.cellsOf e = k) (hk : 0 < k) (hby : 0 < P.bytesOf e)
    (hdec : ∀ n cs y, DataW.trod enc P w 0 (fun _ => true) true n e cs = some y → cs.length = k → ok cs)
    (hv : Value.okWide P w r b0 t v) (h : DataW.Trod enc P w 0 (fun _ => true) true t v d p) (hlt : ∀ x ∈ p, x.block < w.heap.size)
    (hsz : ∀ elems spare, d = .slice elems spare → (elems.length + spare.length) * P.bytesOf e ≤ reachBytes) :
    ∃ (A : Option Addr) (n c : Nat) (xs : List (List Value)), v = .slice A n c ∧ xs.length = n ∧ (∀ x ∈ xs, x.length = k ∧ ok x) ∧ Sl w w.heap.size k A xs ∧ n ≤ 140737488351232 := by
  obtain ⟨A, len, cap, rfl⟩ := okWide_slice ht hv
  obtain ⟨fuel, hf⟩ := h
  rcases Go.Deep.open_slice ht hf with ⟨hcs, _⟩ | ⟨a, len', cap', m, n, D, Pl, hcs, hb, hl, hm, hmm, hx, hi⟩
  · simp [Value.cells] at hcs
    obtain ⟨rfl, rfl, rfl⟩ := hcs
    exact ⟨none, 0, 0, [], rfl, rfl, by simp, Sl.nil_, by omega⟩
  · simp [Value.cells] at hcs
    obtain ⟨rfl, rfl, rfl⟩ := hcs
    simp only [if_true] at hmm
    subst hmm
    rw [hC] at hx hi
    have hpl : p = MemPlace.row a (m * k) ++ (List.range m).flatMap Pl := (Prod.mk.inj hx).2
    have hd : d = _ := (Prod.mk.inj hx).1
    have hn : len ≤ 140737488351232 := by
      have h1 := hsz _ _ hd
      simp only [List.length_map, List.length_range] at h1
      have h2 : (len + (m - len)) * 1 ≤ (len + (m - len)) * P.bytesOf e := Nat.mul_le_mul_left _ hby
      unfold reachBytes at h1
      omega
    have hex : ∀ i, ∃ cs' : List Value, i < m → (cs'.length = k ∧ ok cs' ∧ ∀ j u, cs'[j]? = some u → w.cell? (a.add (i * k + j)) = some u) := by
      intro i
      by_cases hi' : i < m
      · obtain ⟨cs', hcs', ht'⟩ := hi i hi'
        obtain ⟨_, hlen, hat⟩ := World.cells?_some hcs'
        refine ⟨cs', fun _ => ⟨hlen, hdec _ _ _ ht' hlen, fun j u hu => ?_⟩⟩
        have hj : j < k := by have := (List.getElem?_eq_some_iff.1 hu).1; omega
        rw [← Go.Deep.add_add, hat j hj, hu]
      · exact ⟨[], fun h => absurd h hi'⟩
    have hex' : ∃ f : Nat → List Value, ∀ i, i < m → ((f i).length = k ∧ ok (f i) ∧ ∀ j u, (f i)[j]? = some u → w.cell? (a.add (i * k + j)) = some u) := ⟨fun i => Classical.choose (hex i), fun i => Classical.choose_spec (hex i)⟩
    obtain ⟨f, hf'⟩ := hex'
    refine ⟨some a, len, m, (List.range len).map f, rfl, by simp, ?_, ?_, hn⟩
    · intro x hx'
      obtain ⟨i, hi', rfl⟩ := List.mem_map.1 hx'
      have := hf' i (by have := List.mem_range.1 hi'; omega)
      exact ⟨this.1, this.2.1⟩
    · intro i x hx'
      rw [List.getElem?_map] at hx'
      by_cases hil : i < len
      · rw [List.getElem?_range hil] at hx'
        simp only [Option.map_some, Option.some.injEq] at hx'
        subst hx'
        obtain ⟨h1, h2, h3⟩ := hf' i (by omega)
        have hf0 := hf' 0 (by omega)
        have hc0 := hf0.2.2 0 ((f 0)[0]'(by omega)) (List.getElem?_eq_getElem (by omega))
        obtain ⟨b, off, spot⟩ := a
        have hspot : spot = none := by
          have := World.cell?_spot hc0
          simpa [Addr.add] using this
        subst hspot
        have hbW : b < w.heap.size := hlt (.cell b off) (by
          rw [hpl]
          exact List.mem_append_left _ (MemPlace.mem_row.2 ⟨0, Nat.mul_pos (by omega) hk, by simp⟩))
        refine ⟨h1, b, off, rfl, hbW, fun j u hu => ?_⟩
        have := h3 j u hu
        rw [add_plain, ← Nat.add_assoc] at this
        exact this
      · rw [List.getElem?_eq_none (by simpa using hil)] at hx'
        cases hx'
theorem sized_at {ts : List TypeId} {ds : List (DataW H)} (h : (DataW.weightsEach P ts ds).all (· ≤ reachBytes) = true) {j : Nat} {t e : TypeId} {d : DataW H} (ht : ts[j]? = some t) (hd : ds[j]? = some d) (hu : P.underlying t = some (.slice e)) :
    ∀ elems spare, d = .slice elems spare → (elems.length + spare.length) * P.bytesOf e ≤ reachBytes := fun elems spare he => sized_slice h ht (hd.trans (by rw [he])) hu
end
/-- the same, the elements structs of int64 fields -/
theorem open_rows {H : Type} {enc : TypeId × Value → H} {P : Program} {w : World} {t e tI : TypeId} {fs : Array Field} {b0 : Nat} {r : Reach} {v : Value} {d : DataW H} {p : List MemPlace} (ht : P.underlying t = some (.slice e)) (he : P.underlying e = some (.struct fs)) (hI : P.underlying tI = some (.int .i64))
    (hone : oneCellFields P fs = true) (hall : fs.all (fun f => f.type == tI) = true) (hC : P.cellsOf e = fs.size) (hk : 0 < fs.size) (hby : 0 < P.bytesOf e)
    (hv : Value.okWide P w r b0 t v) (h : DataW.Trod enc P w 0 (fun _ => true) true t v d p) (hlt : ∀ x ∈ p, x.block < w.heap.size)
    (hsz : ∀ elems spare, d = .slice elems spare → (elems.length + spare.length) * P.bytesOf e ≤ reachBytes) :
    ∃ (A : Option Addr) (c : Nat) (rows : List (List Int)), v = .slice A rows.length c ∧ (∀ x ∈ rows, x.length = fs.size ∧ ∀ m ∈ x, (Lit.int .i64 m).wf = true) ∧ Sl w w.heap.size fs.size A (rows.map (·.map (Value.int .i64))) ∧ rows.length ≤ 140737488351232 := by
  obtain ⟨A, n, c, xs, rfl, hn, hx, hs, hl⟩ := open_rowsV (ok := fun cs => ∃ ns : List Int, ns.length = fs.size ∧ cs = ns.map (Value.int .i64) ∧ ∀ m ∈ ns, (Lit.int .i64 m).wf = true) ht hC hk hby (fun n cs y hy _ => struct_ints he hI hone hall hC hy) hv h hlt hsz
  have hxs : xs = (xs.map (·.map intOf)).map (·.map (Value.int .i64)) := by
    rw [List.map_map]
    conv => lhs; rw [← List.map_id xs]
    apply List.map_congr_left
    intro x hxm
    obtain ⟨_, ns, _, rfl, _⟩ := hx x hxm
    simp [Function.comp_def, intOf]
  refine ⟨A, c, xs.map (·.map intOf), by simp [hn], ?_, ?_, by simpa [hn] using hl⟩
  · intro y hy
    obtain ⟨x, hxm, rfl⟩ := List.mem_map.1 hy
    obtain ⟨_, ns, h1, rfl, h2⟩ := hx x hxm
    simpa [Function.comp_def, intOf] using ⟨h1, h2⟩
  · rw [← hxs]
    exact hs

/-- An argument that is a struct of int64 fields, by value. -/
theorem open_agg_ints {H : Type} {enc : TypeId × Value → H} {P : Program} {w : World} {t tI : TypeId} {fs : Array Field} {b0 base : Nat} {spare : Nat → Bool} {held : Bool} {r : Reach} {v : Value} {d : DataW H} {p : List MemPlace} (ht : P.underlying t = some (.struct fs)) (hI : P.underlying tI = some (.int .i64))
    (hone : oneCellFields P fs = true) (hall : fs.all (fun f => f.type == tI) = true) (hC : P.cellsOf t = fs.size)
    (hv : Value.okWide P w r b0 t v) (h : DataW.Trod enc P w base spare held t v d p) :
    ∃ ns : List Int, ns.length = fs.size ∧ v = .agg (ns.map (Value.int .i64)).toArray ∧ ∀ m ∈ ns, (Lit.int .i64 m).wf = true := by
  obtain ⟨cs, rfl, _⟩ := okWide_struct ht hv
  obtain ⟨fuel, hf⟩ := h
  obtain ⟨ns, h1, h2, h3⟩ := struct_ints ht hI hone hall hC hf
  refine ⟨ns, h1, ?_, h3⟩
  rw [← h2]
  simp [Value.cells]

set_option maxRecDepth 100000 in
/-- The row's step, out of a walk. -/
theorem lifted_of {os : Os} (started : os.Started) {H : Type} {enc : TypeId × Value → H} {K : FuncId} {fn : Func} {s : ChangeSpec}
    (noInit : Tryz.checked.prog.inits.idxOf? K = none) (hfn : Tryz.checked.prog.funcs[K]? = some fn)
    (witness : ∃ (w : World) (tape : Tape) (i : Input), w.os = os ∧ (w.forCall tape i).Shaped Tryz.checked.prog ∧ i.vars = [] ∧ Input.okWide Tryz.checked.prog (w.forCall tape i) .any w.heap.size K i ∧
      s.pre6 enc Tryz.checked.prog fn [] false (w.forCall tape i).memory i.args ∧ ({} : Assume).holds Tryz.checked.prog (lone (Frame.enter Tryz.checked.prog K i.args .normal) [] (w.forCall tape i)))
    (hv : s.vars = []) (hrt : fn.resultTypes = #[4])
    (hs : ∀ ds : List (DataW H), ds.length = fn.params.toList.length → s.fn H (ds ++ []) = { results := [.lit (.bool true)], args := ds })
    (hpr : fn.params.toList.all (fun t => Tryz.prog.readableRec t && decide (t < Tryz.prog.types.size)) = true)
    (walk : ∀ (W : World) (base : Nat) (args : Array Value) (ds : List (DataW H)) (ps : List MemPlace),
      (∀ (j : Nat) t v, fn.params[j]? = some t → args[j]? = some v → Value.okWide Tryz.prog W .any base t v) →
      DataW.TrodAll enc Tryz.prog W 0 (fun _ => true) true fn.params.toList args.toList ds ps → (∀ x ∈ ps, x.block < W.heap.size) →
      (DataW.weightsEach Tryz.prog fn.params.toList ds).all (· ≤ reachBytes) = true →
      Calls Tryz.prog K args W fun e W' => e = .returned (.bool true) ∧ Below W.heap.size W W') :
    ReturnsInHanded {} Tryz.checked os K .any (s.pre6 enc Tryz.prog fn [] false) (s.post enc Tryz.prog fn false true false false) := by
  refine returnsInHanded_of_change_sized (C := Tryz.checked) own started noInit hfn witness ?_
  intro W base args ds gs before hval hW _ hsz _
  have hW' := hW
  obtain ⟨p, q, hA, hV, rfl, hfz, hnd⟩ := hW
  rw [hv] at hV
  obtain ⟨rfl, rfl⟩ := trodVars_none hV
  have hlt : ∀ x ∈ p, x.block < W.heap.size := fun x hx => by simpa using hW'.lt x (List.mem_append_left _ hx)
  have hty : s.plain.varTypes Tryz.checked.prog = [] := by
    unfold DataSpec.varTypes ChangeSpec.plain
    rw [hv]
    rfl
  rw [hty] at hsz
  simp only [List.append_nil] at hsz
  refine (walk W base args ds p hval hA hlt hsz).mono fun e W' ⟨he, hb⟩ => ?_
  subst he
  have hlen := trodAll_length _ _ _ _ hA
  refine ⟨_, rfl, ds, [], p ++ [], [], p ++ [], [], hW', ?_, ?_, ?_, hb.frame _, fun h => by cases h⟩
  · rw [hs ds hlen, hrt]
    exact trodAll_mk1 (shut_bool Tryz.underlying4 _)
  · rw [hs ds hlen]
    have h := trodAll_below laidOut hb _ _ _ _ hpr hlt hA
    rw [List.append_nil]
    exact h
  · rw [hs ds hlen, hv]
    rfl
end Go.Proofs.YtgkobjpoeajkdaaGreat
namespace Go.Proofs.YtgkobjpoeajkdaaGreat
open Go.ChangeShapes Go.WideShapes Go.ChangeAt Go.RowKit Go.Deep
section
variable {H : Type} (enc : TypeId × Value → H) (P : Program) (w : World)
/-- what the cells of a value of type t are -/
def Dec (t : TypeId) (ok : List Value → Prop) : Prop := ∀ (n : Nat) (cs : List Value) (y : DataW H × List MemPlace), DataW.trod enc P w 0 (fun _ => true) true n t cs = some y →
  (∀ x ∈ y.2, x.block < w.heap.size) → (∀ m ∈ y.1.weights P t, m ≤ reachBytes) → ok cs
end
section
variable {H : Type} {enc : TypeId × Value → H} {P : Program} {w : World}
theorem Dec.imp {t : TypeId} {ok ok' : List Value → Prop} (h : Dec enc P w t ok) (hi : ∀ cs, ok cs → ok' cs) : Dec enc P w t ok' := fun n cs y h1 h2 h3 => hi cs (h n cs y h1 h2 h3)
def IntOk (cs : List Value) : Prop := ∃ n : Int, cs = [.int .i64 n] ∧ (-9223372036854775808 ≤ n ∧ n ≤ 9223372036854775807)
def BoolOk (cs : List Value) : Prop := ∃ b : Bool, cs = [.bool b]
theorem dec_int {t : TypeId} (ht : P.underlying t = some (.int .i64)) : Dec enc P w t IntOk := fun n cs y h _ _ => by
  obtain ⟨m, h1, _, h2⟩ := DataW.trod_int ht h
  exact ⟨m, h1, bounds_i64 h2⟩
theorem dec_bool {t : TypeId} (ht : P.underlying t = some .bool) : Dec enc P w t BoolOk := fun n cs y h _ _ => by
  obtain ⟨b, h1, _⟩ := DataW.trod_bool ht h
  exact ⟨b, h1⟩
/-- a slice of rows of k cells -/
def SliceOk (w : World) (k : Nat) (ok : List Value → Prop) (cs : List Value) : Prop := ∃ (A : Option Addr) (c : Nat) (xs : List (List Value)), cs = [.slice A xs.length c] ∧ xs.length ≤ c ∧ xs.length ≤ 140737488351232 ∧ (∀ x ∈ xs, x.length = k ∧ ok x) ∧ Sl w w.heap.size k A xs
theorem weightsAll_mem {e : TypeId} {m : Nat} : ∀ {l : List (DataW H)} {d : DataW H}, d ∈ l → m ∈ d.weights P e → m ∈ DataW.weightsAll P e l
  | d0 :: l, d, hd, hm => by
    unfold DataW.weightsAll
    rcases List.mem_cons.1 hd with rfl | h
    · exact List.mem_append_left _ hm
    · exact List.mem_append_right _ (weightsAll_mem h hm)
theorem dec_slice {t e : TypeId} {k : Nat} {ok : List Value → Prop} (ht : P.underlying t = some (.slice e)) (hC : P.cellsOf e = k) (hk : 0 < k) (hby : 0 < P.bytesOf e) (hd : Dec enc P w e ok) : Dec enc P w t (SliceOk w k ok) := by
  intro fuel cs y hf hlt hwt
  rcases Go.Deep.open_slice ht hf with ⟨hcs, _⟩ | ⟨a, len, cap, m, n, D, Pl, hcs, hb, hl, hm, hmm, hx, hi⟩
  · exact ⟨none, 0, [], by simpa using hcs, Nat.zero_le _, Nat.zero_le _, by simp, Sl.nil_⟩
  · simp only [if_true] at hmm
    subst hmm
    rw [hC] at hx hi
    subst hx
    simp only at hlt hwt
    have hn : len ≤ 140737488351232 := by
      have h1 := hwt ((((List.range len).map D).length + ((List.range (m - len)).map fun j => D (len + j)).length) * P.bytesOf e) (by simp [DataW.weights, ht])
      simp only [List.length_map, List.length_range] at h1
      have h2 : (len + (m - len)) * 1 ≤ (len + (m - len)) * P.bytesOf e := Nat.mul_le_mul_left _ hby
      unfold reachBytes at h1
      omega
    have hex : ∀ i, ∃ cs' : List Value, i < m → (cs'.length = k ∧ (i < len → ok cs') ∧ ∀ j u, cs'[j]? = some u → w.cell? (a.add (i * k + j)) = some u) := by
      intro i
      by_cases hi' : i < m
      · obtain ⟨cs', hcs', ht'⟩ := hi i hi'
        obtain ⟨_, hlen, hat⟩ := World.cells?_some hcs'
        refine ⟨cs', fun _ => ⟨hlen, fun hil => hd n cs' (D i, Pl i) ht' (fun x hx => hlt x (List.mem_append_right _ (List.mem_flatMap.2 ⟨i, List.mem_range.2 hi', hx⟩))) (fun q hq => hwt q ?_), fun j u hu => ?_⟩⟩
        · simp only [DataW.weights, ht, List.mem_cons, List.mem_append]
          exact .inr (.inl (weightsAll_mem (List.mem_map.2 ⟨i, List.mem_range.2 hil, rfl⟩) hq))
        · have hj : j < k := by have := (List.getElem?_eq_some_iff.1 hu).1; omega
          rw [← Go.Deep.add_add, hat j hj, hu]
      · exact ⟨[], fun h => absurd h hi'⟩
    have hex' : ∃ f : Nat → List Value, ∀ i, i < m → ((f i).length = k ∧ (i < len → ok (f i)) ∧ ∀ j u, (f i)[j]? = some u → w.cell? (a.add (i * k + j)) = some u) := ⟨fun i => Classical.choose (hex i), fun i => Classical.choose_spec (hex i)⟩
    obtain ⟨f, hf'⟩ := hex'
    refine ⟨some a, m, (List.range len).map f, by simpa using hcs, by simpa using hl, by simpa using hn, ?_, ?_⟩
    · intro x hx'
      obtain ⟨i, hi', rfl⟩ := List.mem_map.1 hx'
      have hil := List.mem_range.1 hi'
      have := hf' i (by omega)
      exact ⟨this.1, this.2.1 hil⟩
    · intro i x hx'
      rw [List.getElem?_map] at hx'
      by_cases hil : i < len
      · rw [List.getElem?_range hil] at hx'
        simp only [Option.map_some, Option.some.injEq] at hx'
        subst hx'
        obtain ⟨h1, h2, h3⟩ := hf' i (by omega)
        have hf0 := hf' 0 (by omega)
        have hc0 := hf0.2.2 0 ((f 0)[0]'(by omega)) (List.getElem?_eq_getElem (by omega))
        obtain ⟨b, off, spot⟩ := a
        have hspot : spot = none := by
          have := World.cell?_spot hc0
          simpa [Addr.add] using this
        subst hspot
        have hbW : b < w.heap.size := hlt (.cell b off) (List.mem_append_left _ (MemPlace.mem_row.2 ⟨0, Nat.mul_pos (by omega) hk, by simp⟩))
        refine ⟨h1, b, off, rfl, hbW, fun j u hu => ?_⟩
        have := h3 j u hu
        rw [add_plain, ← Nat.add_assoc] at this
        exact this
      · rw [List.getElem?_eq_none (by simpa using hil)] at hx'
        cases hx'
theorem weightsEach_get {m : Nat} : ∀ {ts : List TypeId} {ds : List (DataW H)} {j : Nat} {t : TypeId} {d : DataW H}, ts[j]? = some t → ds[j]? = some d → m ∈ d.weights P t → m ∈ DataW.weightsEach P ts ds := fun ht hd hm => DataW.weights_mem_each ht hd _ hm
theorem dec_struct {t : TypeId} {fs : Array Field} (ht : P.underlying t = some (.struct fs)) (oks : Nat → List Value → Prop) (hd : ∀ i f, fs[i]? = some f → Dec enc P w f.type (oks i)) :
    Dec enc P w t (fun cs => cs.length = P.cellsOf t ∧ ∀ i f, fs[i]? = some f → oks i ((cs.drop f.offset).take (P.cellsOf f.type))) := by
  intro fuel cs y h hlt hwt
  obtain ⟨xs, n', _, rfl, hl, hxl, hf⟩ := DataW.trod_struct ht h
  refine ⟨hl, fun i f hi => ?_⟩
  have hlt' : i < fs.size := (Array.getElem?_eq_some_iff.1 hi).1
  have hx : xs[i]? = some xs[i] := List.getElem?_eq_getElem (by omega)
  have h1 := hf i f hi
  rw [hx] at h1
  refine hd i f hi n' _ _ h1 (fun x hxm => hlt x (List.mem_flatMap.2 ⟨xs[i], List.getElem_mem _, hxm⟩)) (fun m hm => hwt m ?_)
  simp only [DataW.weights, ht]
  refine weightsEach_get (j := i) (t := f.type) (d := xs[i].1) ?_ ?_ hm
  · rw [List.getElem?_map, Array.getElem?_toList, hi]; rfl
  · rw [List.getElem?_map, hx]; rfl
/-- an argument that is a struct, by value -/
theorem dec_arg {t : TypeId} {fs : Array Field} {r : Reach} {b0 : Nat} {v : Value} {d : DataW H} {p : List MemPlace} {ok : List Value → Prop} (ht : P.underlying t = some (.struct fs)) (hd : Dec enc P w t ok) (hv : Value.okWide P w r b0 t v) (h : DataW.Trod enc P w 0 (fun _ => true) true t v d p)
    (hlt : ∀ x ∈ p, x.block < w.heap.size) (hw : ∀ m ∈ d.weights P t, m ≤ reachBytes) : ∃ cs : List Value, v = .agg cs.toArray ∧ ok cs := by
  obtain ⟨cs, rfl, _⟩ := okWide_struct ht hv
  obtain ⟨fuel, hf⟩ := h
  refine ⟨cs.toList, by simp, ?_⟩
  have := hd fuel _ _ hf hlt hw
  simpa [Value.cells] using this
/-- an argument that is a slice -/
theorem dec_argS {t e : TypeId} {r : Reach} {b0 : Nat} {v : Value} {d : DataW H} {p : List MemPlace} {ok : List Value → Prop} (ht : P.underlying t = some (.slice e)) (hd : Dec enc P w t ok) (hv : Value.okWide P w r b0 t v) (h : DataW.Trod enc P w 0 (fun _ => true) true t v d p)
    (hlt : ∀ x ∈ p, x.block < w.heap.size) (hw : ∀ m ∈ d.weights P t, m ≤ reachBytes) : ∃ A n c, v = .slice A n c ∧ ok [.slice A n c] := by
  obtain ⟨A, n, c, rfl⟩ := okWide_slice ht hv
  obtain ⟨fuel, hf⟩ := h
  exact ⟨A, n, c, rfl, by simpa [Value.cells] using hd fuel _ _ hf hlt hw⟩
theorem sized_arg {ts : List TypeId} {ds : List (DataW H)} (h : (DataW.weightsEach P ts ds).all (· ≤ reachBytes) = true) {j : Nat} {t : TypeId} {d : DataW H} (ht : ts[j]? = some t) (hd : ds[j]? = some d) : ∀ m ∈ d.weights P t, m ≤ reachBytes := fun m hm => by
  have := List.all_eq_true.1 h _ (DataW.weights_mem_each ht hd m hm)
  simpa using this
end
/-- rows of one int64 each -/
theorem ints_of_rows : ∀ rows : List (List Value), (∀ x ∈ rows, x.length = 1 ∧ IntOk x) → ∃ l : List Int, rows = l.map fun n => [Value.int .i64 n]
  | [], _ => ⟨[], rfl⟩
  | x :: r, h => by
    obtain ⟨l, hl⟩ := ints_of_rows r fun y hy => h y (by simp [hy])
    obtain ⟨n, hn, _⟩ := (h x (by simp)).2
    exact ⟨n :: l, by rw [List.map_cons, hl, hn]⟩
end Go.Proofs.YtgkobjpoeajkdaaGreat
