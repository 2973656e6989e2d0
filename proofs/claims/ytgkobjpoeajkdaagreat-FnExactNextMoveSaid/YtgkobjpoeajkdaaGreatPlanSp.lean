/- The span of a plan's result, and whether an exercise is valid: the program's. Conditions: the lists' lengths. -/
import Derived.Test.YtgkobjpoeajkdaaGreatUsual
import Derived.Test.YtgkobjpoeajkdaaGreatSpan4
import Derived.Test.YtgkobjpoeajkdaaGreatChLog2
namespace Go.Proofs.YtgkobjpoeajkdaaGreat
open Go.RowKit
/-- the units of a plan -/
def unitsPl (L : Int) (l : List Term) (p q r : Int) : Int := ((setTo (usualP l).ms (usualP l).ms.length : Nat) + 1) * (unitsC L p q r + 2)
theorem unitsC_bd {L p q r : Int} (hL : 1 ≤ L ∧ L ≤ 100000) (h1 : 0 ≤ p ∧ p ≤ 200) (h2 : 0 ≤ q ∧ q ≤ 200) (h3 : 0 ≤ r ∧ r ≤ 200) : 0 ≤ unitsC L p q r ∧ unitsC L p q r ≤ 838860800 := by
  unfold unitsC totE
  have h := mul_div_bd (-((2 * p + q + r) * 1048576)) L (by omega)
  have h4 : 0 ≤ -(-((2 * p + q + r) * 1048576) / L) := by
    have : -((2 * p + q + r) * 1048576) / L ≤ 0 := Int.ediv_nonpos_of_nonpos_of_neg (by omega) (by omega)
    omega
  refine ⟨h4, ?_⟩
  have h5 : -((2 * p + q + r) * 1048576) / L ≥ -((2 * p + q + r) * 1048576) := by
    have hx : -((2 * p + q + r) * 1048576) * 1 ≥ -((2 * p + q + r) * 1048576) * L := by
      have := Int.mul_le_mul_of_nonneg_left (show (1 : Int) ≤ L by omega) (show 0 ≤ (2 * p + q + r) * 1048576 by omega)
      rw [Int.neg_mul, Int.neg_mul]
      omega
    rw [Int.mul_one] at hx
    exact (Int.le_ediv_iff_mul_le (by omega)).2 hx
  omega
theorem unitsPl_bd {L p q r : Int} {l : List Term} (hl : chainB l = true) (hL : 1 ≤ L ∧ L ≤ 100000) (h1 : 0 ≤ p ∧ p ≤ 200) (h2 : 0 ≤ q ∧ q ≤ 200) (h3 : 0 ≤ r ∧ r ≤ 200) : 0 ≤ unitsPl L l p q r ∧ unitsPl L l p q r ≤ 20000000000 := by
  obtain ⟨c1, c2, c3, _⟩ := chainB_parts hl
  have hu := unitsC_bd hL h1 h2 h3
  have hs := setTo_le (usualP l).ms (usualP l).ms.length
  have hn := (usual_ok c1 c2 c3).2
  unfold unitsPl
  generalize unitsC L p q r = u at *
  generalize setTo (usualP l).ms (usualP l).ms.length = n at *
  have h4 : ((n : Int) + 1) * (u + 2) ≤ 20 * (u + 2) := Int.mul_le_mul_of_nonneg_right (by omega) (by omega)
  have h5 : 0 ≤ ((n : Int) + 1) * (u + 2) := Int.mul_nonneg (by omega) (by omega)
  omega
theorem ruleB_len {L : Int} {l1 l2 : List Int} (h : ruleB L l1 l2 = true) : 1 ≤ L ∧ L ≤ 100000 := by
  simp only [ruleB, Bool.and_eq_true] at h
  exact inB_true.1 h.1.1
/-- what a good code says -/
theorem bound_parts {L : Int} {l1 l2 : List Int} {l : List Term} {p q r : Int} (h : boundCode L l1 l2 l p q r = 0) : ruleB L l1 l2 = true ∧ chainB l = true ∧ (0 : Int) ∈ l1 ∧ (0 : Int) ∈ l2 ∧ errorsB p q r = true := by
  unfold boundCode planCode at h
  cases h1 : errorsB p q r with
  | false => rw [h1] at h; simp at h
  | true =>
    rw [h1] at h
    cases h2 : ruleB L l1 l2 && chainB l with
    | false => rw [h2] at h; simp at h
    | true =>
      rw [h2] at h
      rw [Bool.and_eq_true] at h2
      by_cases h3 : (0 : Int) ∈ l1
      · by_cases h4 : (0 : Int) ∈ l2
        · exact ⟨h2.1, h2.2, h3, h4, rfl⟩
        · simp [h3, h4] at h
      · simp [h3] at h
def spanLo (L : Int) (l : List Term) (p q r : Int) : Int := (chainTo l l.length).1 - unitsPl L l p q r
def spanHi (L : Int) (l : List Term) (p q r : Int) : Int := (chainTo l l.length).2 + unitsPl L l p q r
/-- the code of the span of a plan's result -/
def exCode (L : Int) (l1 l2 : List Int) (l : List Term) (p q r : Int) : Int := if boundCode L l1 l2 l p q r = 0 then spanC (spanLo L l p q r) (spanHi L l p q r) else boundCode L l1 l2 l p q r
def exB (L : Int) (l1 l2 : List Int) (l : List Term) (p q r : Int) : Bool := exCode L l1 l2 l p q r == 0
/-- the span's two figures -/
def spLoF (a b : Int) : Figure := if spanC a b = 0 then belF a else ⟨0, 0⟩
def spHiF (a b : Int) : Figure := if spanC a b = 0 then aboF b else ⟨0, 0⟩
theorem spanR_form (a b : Int) : spanR a b = .tuple #[.agg #[.int .i64 (spLoF a b).digits, .int .i64 (spLoF a b).tens], .agg #[.int .i64 (spHiF a b).digits, .int .i64 (spHiF a b).tens], .int .i64 (spanC a b)] := by
  unfold spanR spLoF spHiF
  by_cases h : spanC a b = 0
  · rw [if_pos h, if_pos h, if_pos h, h]
  · rw [if_neg h, if_neg h, if_neg h]
def exLoF (L : Int) (l1 l2 : List Int) (l : List Term) (p q r : Int) : Figure := if boundCode L l1 l2 l p q r = 0 then spLoF (spanLo L l p q r) (spanHi L l p q r) else ⟨0, 0⟩
def exHiF (L : Int) (l1 l2 : List Int) (l : List Term) (p q r : Int) : Figure := if boundCode L l1 l2 l p q r = 0 then spHiF (spanLo L l p q r) (spanHi L l p q r) else ⟨0, 0⟩
set_option maxRecDepth 100000 in
theorem spread_c (a b u : Int) (w : World) (h : -1099511627776 ≤ a ∧ a ≤ 1099511627776) (h2 : -1099511627776 ≤ b ∧ b ≤ 1099511627776) (h3 : 0 ≤ u ∧ u ≤ 1099511627776) :
    Calls Tryz.prog 176 #[.agg #[.int .i64 a, .int .i64 b], .int .i64 u] w fun e w' => e = .returned (.agg #[.int .i64 (a - u), .int .i64 (b + u)]) ∧ Below w.heap.size w w' := by
  obtain ⟨p1, p2⟩ := h
  obtain ⟨p3, p4⟩ := h2
  obtain ⟨p5, p6⟩ := h3
  go_enter Tryz.func176, Tryz.ntmps176
  go_wp2
  refine bodyPost_ret (v := .agg #[.int .i64 (a - u), .int .i64 (b + u)]) (by simp [results, Tryz.results176, go_sem]) rfl ⟨rfl, (by repeat (first | with_reducible exact Below.refl _ _ | with_reducible apply below_drewN' | with_reducible apply Below.drew | (with_reducible refine Below.alloc ?_ (by first | omega | (simp; omega) | simp) _) | (with_reducible refine Below.setCell ?_ (by first | omega | (simp; omega) | simp) _) | exact Below.refl _ _))⟩
theorem held6 {w0 w w1 : World} {b1 b2 : Nat} {u1 u2 u3 u4 : Value} (hb : Below w.heap.size w w1) (h : w.cell? ⟨b1, 0, none⟩ = some u1 ∧ w.cell? ⟨b2, 0, none⟩ = some u2 ∧ w.cell? ⟨b2, 1, none⟩ = some u3 ∧ w.cell? ⟨b2, 2, none⟩ = some u4 ∧ Below w0.heap.size w0 w ∧ b1 < w.heap.size ∧ b2 < w.heap.size) :
    w1.cell? ⟨b1, 0, none⟩ = some u1 ∧ w1.cell? ⟨b2, 0, none⟩ = some u2 ∧ w1.cell? ⟨b2, 1, none⟩ = some u3 ∧ w1.cell? ⟨b2, 2, none⟩ = some u4 ∧ Below w0.heap.size w0 w1 ∧ b1 < w1.heap.size ∧ b2 < w1.heap.size :=
  ⟨(hb.cell (p := ⟨b1, 0, none⟩) h.2.2.2.2.2.1).trans h.1, (hb.cell (p := ⟨b2, 0, none⟩) h.2.2.2.2.2.2).trans h.2.1, (hb.cell (p := ⟨b2, 1, none⟩) h.2.2.2.2.2.2).trans h.2.2.1, (hb.cell (p := ⟨b2, 2, none⟩) h.2.2.2.2.2.2).trans h.2.2.2.1, h.2.2.2.2.1.trans (hb.mono h.2.2.2.2.1.size), Nat.lt_of_lt_of_le h.2.2.2.2.2.1 hb.size, Nat.lt_of_lt_of_le h.2.2.2.2.2.2 hb.size⟩
set_option maxRecDepth 100000 in
set_option maxHeartbeats 1000000 in
theorem planUnits_c (L : Int) (A1 : Option Addr) (c1 : Nat) (l1 : List Int) (A2 : Option Addr) (c2 : Nat) (l2 : List Int) (A3 : Option Addr) (c3 : Nat) (l : List Term) (p q r : Int) (w : World) (R : RuleIn w A1 l1 A2 l2)
    (hl : chainB l = true) (hc3 : l.length ≤ c3) (hs : Sl w w.heap.size 3 A3 (l.map Term.cells)) (hL : 1 ≤ L ∧ L ≤ 100000) (he : errorsB p q r = true) :
    Calls Tryz.prog 178 #[.agg #[.int .i64 L, .slice A1 l1.length c1, .slice A2 l2.length c2], .slice A3 l.length c3, .agg #[.int .i64 p, .int .i64 q, .int .i64 r]] w fun e w' => e = .returned (.int .i64 (unitsPl L l p q r)) ∧ Below w.heap.size w w' := by
  obtain ⟨k1, k2, k3, _⟩ := chainB_parts hl
  obtain ⟨e1, e2, e3⟩ := errors_bd he
  have hub := unitsC_bd hL e1 e2 e3
  have hn := (usual_ok k1 k2 k3).2
  have hsl := setTo_le (usualP l).ms (usualP l).ms.length
  have hUp := unitsPl_bd hl hL e1 e2 e3
  unfold unitsPl at hUp ⊢
  have hR : ∀ W, Below w.heap.size w W → RuleIn W A1 l1 A2 l2 := fun W hW => ⟨R.h1, R.h2, (R.s1.below hW).more hW.size, (R.s2.below hW).more hW.size, R.m1, R.m2⟩
  have HU := fun (W : World) (hW : Below w.heap.size w W) => Lib.hid (usualPlan_c L A1 c1 l1 A2 c2 l2 A3 c3 l W (hR W hW) k1 k2 hc3 k3 ((hs.below hW).more hW.size))
  have HE := fun W => Lib.hid (errorUnitsC_c L p q r W hL e1 e2 e3)
  have HC := fun A c W (hsl : Sl W W.heap.size 4 A ((usualP l).ms.map Move.cells)) => Lib.hid (countSettings_c A c (usualP l).ms W (by omega) hsl)
  have hW : Below w.heap.size w ((w.alloc (.cells #[.int .i64 L, .slice A1 l1.length c1, .slice A2 l2.length c2] 32)).alloc (.cells #[.int .i64 p, .int .i64 q, .int .i64 r] 34)) := (by repeat (first | with_reducible exact Below.refl _ _ | with_reducible apply below_drewN' | with_reducible apply Below.drew | (with_reducible refine Below.alloc ?_ (by first | omega | (simp; omega) | simp) _) | (with_reducible refine Below.setCell ?_ (by first | omega | (simp; omega) | simp) _) | exact Below.refl _ _))
  have B3 : Blk ((w.alloc (.cells #[.int .i64 L, .slice A1 l1.length c1, .slice A2 l2.length c2] 32)).alloc (.cells #[.int .i64 p, .int .i64 q, .int .i64 r] 34)) w.heap.size 32 #[.int .i64 L, .slice A1 l1.length c1, .slice A2 l2.length c2] := (Blk.new _ _ _).alloc _
  have B5 : Blk ((w.alloc (.cells #[.int .i64 L, .slice A1 l1.length c1, .slice A2 l2.length c2] 32)).alloc (.cells #[.int .i64 p, .int .i64 q, .int .i64 r] 34)) (w.heap.size + 1) 34 #[.int .i64 p, .int .i64 q, .int .i64 r] := Blk.new' _ _ _ (by simp)
  have hul : (usualP l).ms.length ≤ 19 := hn
  clear hn hl hs R hR he hL e1 e2 e3 k1 k2 k3
  generalize unitsC L p q r = u at *
  generalize setTo (usualP l).ms (usualP l).ms.length = n at *
  have hn19 : n ≤ 19 := by omega
  go_enter Tryz.func178, Tryz.ntmps178
  go_wp2_with fail
  generalize ((w.alloc (.cells #[.int .i64 L, .slice A1 l1.length c1, .slice A2 l2.length c2] 32)).alloc (.cells #[.int .i64 p, .int .i64 q, .int .i64 r] 34)) = W at *
  refine Calls.mono (HU W hW).out ?_; rintro e w1 ⟨A', c', rfl, hO1, hb1⟩
  have C3 := B3.below hb1 B3.lt
  have C5 := B5.below hb1 B5.lt
  have hW1 := hW.trans (hb1.mono hW.size)
  clear B3 B5 hb1 HU hW
  go_wp2_with fail
  have hba : Below w1.heap.size w1 (w1.alloc (.cells #[.int .i64 (usualP l).sh, .int .i64 (usualP l).cu] 110)) := (Below.refl _ _).alloc (Nat.le_refl _) _
  have D3 := C3.below hba C3.lt
  have D5 := C5.below hba C5.lt
  have hW2 := hW1.trans (hba.mono hW1.size)
  have hSl := (hO1.sl.below hba).more hba.size
  clear C3 C5 hba hO1 hW1
  generalize w1.alloc (.cells #[.int .i64 (usualP l).sh, .int .i64 (usualP l).cu] 110) = w2 at *
  have hI : w2.drew.cell? ⟨w.heap.size, 0, none⟩ = some (.int .i64 L) ∧ w2.drew.cell? ⟨w.heap.size + 1, 0, none⟩ = some (.int .i64 p) ∧ w2.drew.cell? ⟨w.heap.size + 1, 1, none⟩ = some (.int .i64 q) ∧ w2.drew.cell? ⟨w.heap.size + 1, 2, none⟩ = some (.int .i64 r) ∧ Below w.heap.size w w2.drew ∧ w.heap.size < w2.drew.heap.size ∧ w.heap.size + 1 < w2.drew.heap.size :=
    ⟨D3.cell 0, D5.cell 0, D5.cell 1, D5.cell 2, hW2.drew, D3.lt, D5.lt⟩
  have HSl : Hid (Sl w2.drew w2.drew.heap.size 4 A' ((usualP l).ms.map Move.cells)) := hSl
  have hw1 : IntKind.i64.wrap ((n : Int) + 1) = n + 1 := IntWalk.i64_in _ (by omega)
  have hw2 : IntKind.i64.wrap (u + 2) = u + 2 := IntWalk.i64_in _ (by omega)
  have hw3 : IntKind.i64.wrap (((n : Int) + 1) * (u + 2)) = ((n : Int) + 1) * (u + 2) := IntWalk.i64_in _ (by omega)
  have hfin : ∀ w' : World, (w'.cell? ⟨w.heap.size, 0, none⟩ = some (.int .i64 L) ∧ w'.cell? ⟨w.heap.size + 1, 0, none⟩ = some (.int .i64 p) ∧ w'.cell? ⟨w.heap.size + 1, 1, none⟩ = some (.int .i64 q) ∧ w'.cell? ⟨w.heap.size + 1, 2, none⟩ = some (.int .i64 r) ∧ Below w.heap.size w w' ∧ w.heap.size < w'.heap.size ∧ w.heap.size + 1 < w'.heap.size) → Below w.heap.size w w' := fun _ h => h.2.2.2.2.1
  clear D3 D5 hSl hW2
  go_region_held3 (fun w' => w'.cell? ⟨w.heap.size, 0, none⟩ = some (.int .i64 L) ∧ w'.cell? ⟨w.heap.size + 1, 0, none⟩ = some (.int .i64 p) ∧ w'.cell? ⟨w.heap.size + 1, 1, none⟩ = some (.int .i64 q) ∧ w'.cell? ⟨w.heap.size + 1, 2, none⟩ = some (.int .i64 r) ∧ Below w.heap.size w w' ∧ w.heap.size < w'.heap.size ∧ w.heap.size + 1 < w'.heap.size)
    (first | with_reducible exact hI | with_reducible exact held6 (by assumption) (by assumption))
    (first | (go_at_call 223; refine Calls.mono (HC A' c' _ HSl.out).out ?_; rintro e w3 ⟨rfl, hb3⟩) | (go_at_call 224; refine Calls.mono (HE _).out ?_; rintro e w4 ⟨rfl, hb4⟩))
  go_wp2
  go_ret
  exact ⟨rfl, hfin _ (by assumption)⟩
end Go.Proofs.YtgkobjpoeajkdaaGreat
