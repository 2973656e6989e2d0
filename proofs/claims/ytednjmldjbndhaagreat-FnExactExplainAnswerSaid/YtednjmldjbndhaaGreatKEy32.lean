/- Moves made on a rule, and whether they are a plan: the program. Conditions: the rule and the moves are valid. -/
import Derived.Test.YtednjmldjbndhaaGreatKEy23
import Derived.Test.YtednjmldjbndhaaGreatKEy31
set_option linter.unusedSimpArgs false
set_option linter.unusedVariables false
namespace Go.Proofs.YtednjmldjbndhaaGreat
open Go.RowKit
/-- a valid rule, as it lies -/
structure RuOK (w : World) (L : Int) (A1 : Option Addr) (c1 : Nat) (l1 : List Int) (A2 : Option Addr) (c2 : Nat) (l2 : List Int) : Prop where
  r : ruleB L l1 l2 = true
  h1 : l1.length ≤ 1048576
  h2 : l2.length ≤ 1048576
  k1 : l1.length ≤ c1
  k2 : l2.length ≤ c2
  s1 : Sl w w.heap.size 1 A1 (l1.map ic)
  s2 : Sl w w.heap.size 1 A2 (l2.map ic)
theorem RuOK.later {w W : World} {L : Int} {A1 : Option Addr} {c1 : Nat} {l1 : List Int} {A2 : Option Addr} {c2 : Nat} {l2 : List Int} (R : RuOK w L A1 c1 l1 A2 c2 l2) (hW : Below w.heap.size w W) : RuOK W L A1 c1 l1 A2 c2 l2 :=
  ⟨R.r, R.h1, R.h2, R.k1, R.k2, (R.s1.below hW).more hW.size, (R.s2.below hW).more hW.size⟩
/-- valid moves, as they lie -/
structure MvOK (w : World) (A : Option Addr) (l : List Move) : Prop where
  a : l.all moveB = true
  n : l.length ≤ 30
  s : Sl w w.heap.size 4 A (l.map Move.cells)
theorem MvOK.later {w W : World} {A : Option Addr} {l : List Move} (R : MvOK w A l) (hW : Below w.heap.size w W) : MvOK W A l := ⟨R.a, R.n, (R.s.below hW).more hW.size⟩
/-- the sum of a chain's points -/
def ptT (t : Term) : Int := if t.div then -pointC t.digits else pointC t.digits
def sumP (l : List Term) (k : Nat) : Int := ((l.take k).map ptT).sum
theorem sumP_succ (l : List Term) {k : Nat} (hk : k < l.length) : sumP l (k + 1) = sumP l k + ptT l[k] := by
  unfold sumP
  rw [List.take_succ_eq_append_getElem hk, List.map_append, List.sum_append]
  simp
theorem sumP_bd {l : List Term} (hall : l.all termOK = true) : ∀ k : Nat, k ≤ l.length → -(1048576 * (k : Int)) ≤ sumP l k ∧ sumP l k ≤ 1048576 * k := fun k => by
  induction k with
  | zero => intro _; simp [sumP]
  | succ k ih =>
    intro hk
    have h1 := ih (by omega)
    have h2 := (fig_bd (List.all_eq_true.1 hall l[k] (List.getElem_mem (by omega)))).1
    have h3 := pointC_bd h2
    rw [sumP_succ l (by omega)]
    unfold ptT
    simp only [Term.fig] at h3
    split <;> omega
/-- whether moves are a plan of a chain -/
def planB (l1 l2 : List Int) (l3 : List Term) (l : List Move) : Bool := decide ((runR l1 l2 (0, 0) l).2 = l.length) && decide (((runR l1 l2 (0, 0) l).1.2 - sumP l3 l3.length) % 1048576 = 0)
set_option maxRecDepth 100000 in
theorem checkMoves_c (L : Int) (A1 : Option Addr) (c1 : Nat) (l1 : List Int) (A2 : Option Addr) (c2 : Nat) (l2 : List Int) (A : Option Addr) (c : Nat) (l : List Move) (w : World) (R : RuOK w L A1 c1 l1 A2 c2 l2) (M : MvOK w A l) :
    Calls Tryz.prog 131 #[.agg #[.int .i64 L, .slice A1 l1.length c1, .slice A2 l2.length c2], .agg #[.int .i64 0, .int .i64 0], .slice A l.length c] w fun e w' => e = .returned (.int .i64 0) ∧ Below w.heap.size w w' := by
  have hW : Below w.heap.size w ((w.alloc (.cells #[.int .i64 L, .slice A1 l1.length c1, .slice A2 l2.length c2] 26)).alloc (.cells #[.int .i64 0, .int .i64 0] 104)) := (by repeat (first | with_reducible exact Below.refl _ _ | with_reducible apply below_drewN' | with_reducible apply Below.drew | (with_reducible refine Below.alloc ?_ (by first | omega | (simp; omega) | simp | (have := (Below.refl _ _).size; omega) | (have := (Below.refl _ _).size; simp; omega)) _) | (with_reducible refine Below.setCell ?_ (by first | omega | (simp; omega) | simp | (have := (Below.refl _ _).size; omega) | (have := (Below.refl _ _).size; simp; omega)) _) | exact Below.refl _ _))
  have B1 : Blk ((w.alloc (.cells #[.int .i64 L, .slice A1 l1.length c1, .slice A2 l2.length c2] 26)).alloc (.cells #[.int .i64 0, .int .i64 0] 104)) (w.heap.size + 1) 104 #[.int .i64 0, .int .i64 0] := Blk.new' _ _ _ (by simp)
  have HR := Lib.hid (have Q := R.later hW; implIsRule_c L A1 c1 l1 A2 c2 l2 _ Q.h1 Q.h2 Q.k1 Q.k2 Q.s1 Q.s2)
  rw [R.r] at HR
  have HI := fun W => Lib.hid (implIsSetting_c 0 0 W)
  rw [show setB 0 0 = true from by decide] at HI
  have HA := fun W (h : Below w.heap.size w W) => Lib.hid (allMoves_c A c l W (by have := M.n; omega) (M.later h).s)
  rw [M.a] at HA
  have HA := Lib.hid HA
  have hl : ¬ (l.length : Int) > 30 := by have := M.n; omega
  have hl2 : (l.length : Int) ≤ 30 := by have := M.n; omega
  clear R M
  go_enter Tryz.func131, Tryz.ntmps131
  go_wp2_with fail
  generalize ((w.alloc (.cells #[.int .i64 L, .slice A1 l1.length c1, .slice A2 l2.length c2] 26)).alloc (.cells #[.int .i64 0, .int .i64 0] 104)) = W at *
  refine Calls.mono HR.out ?_; rintro e w1 ⟨rfl, hb1⟩
  have hW1 := hW.trans (hb1.mono hW.size)
  have C1 := B1.below hb1 B1.lt
  have y0 : w1.cell? ⟨w.heap.size + 1, 0, none⟩ = some (.int .i64 0) := C1.cell 0
  have y1 : w1.cell? ⟨w.heap.size + 1, 1, none⟩ = some (.int .i64 0) := C1.cell 1
  clear B1 hW hb1 HR
  go_wp2_with fail
  refine Calls.mono (HI w1).out ?_; rintro e w2 ⟨rfl, hb2⟩
  have hW2 := hW1.trans (hb2.mono hW1.size)
  clear y0 y1 C1 hb2
  go_wp2_with fail
  refine Calls.mono (HA.out w2 hW2).out ?_; rintro e w3 ⟨rfl, hb3⟩
  have hW3 := hW2.trans (hb3.mono hW2.size)
  go_wp2
  go_ret
  exact ⟨rfl, hW3⟩
theorem last_cell {w : World} {base : Nat} {A : Option Addr} {n c : Nat} {R : List (Int × Int)} {s0 st : Int × Int} (hL : LastSt R s0 st) (hn : R.length = n + 1) (hO : Own w base 104 2 (.slice A R.length c) (R.map stc)) :
    ∃ g, A = some ⟨g, 0, none⟩ ∧ g < w.heap.size ∧ w.cell? ⟨g, n * 2, none⟩ = some (.int .i64 st.1) ∧ w.cell? ⟨g, n * 2 + 1, none⟩ = some (.int .i64 st.2) := by
  rcases hL with ⟨rfl, _⟩ | ⟨R', rfl⟩
  · simp at hn
  · have hn' : n = R'.length := by simp at hn; omega
    subst hn'
    obtain ⟨g, off, rfl, hg, hc⟩ := hO.sl.at_ (i := R'.length) (by simp)
    obtain rfl := hO.off0 (i := R'.length) (by simp)
    simp only [List.getElem_map] at hc
    refine ⟨g, rfl, hg, ?_, ?_⟩
    · have := hc 0 (.int .i64 st.1) (by simp [stc])
      simpa using this
    · have := hc 1 (.int .i64 st.2) (by simp [stc])
      simpa using this
set_option maxRecDepth 100000 in
set_option maxHeartbeats 1000000 in
theorem runMoves_c (L : Int) (A1 : Option Addr) (c1 : Nat) (l1 : List Int) (A2 : Option Addr) (c2 : Nat) (l2 : List Int) (A : Option Addr) (c : Nat) (l : List Move) (w : World) (R : RuOK w L A1 c1 l1 A2 c2 l2) (M : MvOK w A l) :
    Calls Tryz.prog 85 #[.agg #[.int .i64 L, .slice A1 l1.length c1, .slice A2 l2.length c2], .agg #[.int .i64 0, .int .i64 0], .slice A l.length c] w fun e w' => e = .returned (if (runR l1 l2 (0, 0) l).2 = l.length then .tuple #[.agg #[.int .i64 (runR l1 l2 (0, 0) l).1.1, .int .i64 (runR l1 l2 (0, 0) l).1.2], .int .i64 0] else .tuple #[.agg #[.int .i64 0, .int .i64 0], .int .i64 5]) ∧ Below w.heap.size w w' := by
  have hW : Below w.heap.size w (((w.alloc (.cells #[.int .i64 L, .slice A1 l1.length c1, .slice A2 l2.length c2] 26)).alloc (.cells #[.int .i64 0, .int .i64 0] 104)).alloc (.cells #[.int .i64 0, .int .i64 0] 104)) := (by repeat (first | with_reducible exact Below.refl _ _ | with_reducible apply below_drewN' | with_reducible apply Below.drew | (with_reducible refine Below.alloc ?_ (by first | omega | (simp; omega) | simp | (have := (Below.refl _ _).size; omega) | (have := (Below.refl _ _).size; simp; omega)) _) | (with_reducible refine Below.setCell ?_ (by first | omega | (simp; omega) | simp | (have := (Below.refl _ _).size; omega) | (have := (Below.refl _ _).size; simp; omega)) _) | exact Below.refl _ _))
  have B0 : Blk (((w.alloc (.cells #[.int .i64 L, .slice A1 l1.length c1, .slice A2 l2.length c2] 26)).alloc (.cells #[.int .i64 0, .int .i64 0] 104)).alloc (.cells #[.int .i64 0, .int .i64 0] 104)) w.heap.size 26 #[.int .i64 L, .slice A1 l1.length c1, .slice A2 l2.length c2] := ((Blk.new _ _ _).alloc _).alloc _
  have B1 : Blk (((w.alloc (.cells #[.int .i64 L, .slice A1 l1.length c1, .slice A2 l2.length c2] 26)).alloc (.cells #[.int .i64 0, .int .i64 0] 104)).alloc (.cells #[.int .i64 0, .int .i64 0] 104)) (w.heap.size + 1) 104 #[.int .i64 0, .int .i64 0] := (Blk.new' _ _ _ (by simp)).alloc _
  have B2 : Blk (((w.alloc (.cells #[.int .i64 L, .slice A1 l1.length c1, .slice A2 l2.length c2] 26)).alloc (.cells #[.int .i64 0, .int .i64 0] 104)).alloc (.cells #[.int .i64 0, .int .i64 0] 104)) (w.heap.size + 2) 104 #[.int .i64 0, .int .i64 0] := Blk.new' _ _ _ (by simp)
  have HC := Lib.hid (checkMoves_c L A1 c1 l1 A2 c2 l2 A c l _ (R.later hW) (M.later hW))
  have HS := Lib.hid (fun W (h : Below w.heap.size w W) => have Q := R.later h; settings_c L A1 c1 l1 A2 c2 l2 0 0 A c l W (by decide) M.a M.n Q.h1 Q.h2 Q.s1 Q.s2 (M.later h).s)
  have hle := runR_le l1 l2 l (0, 0)
  have hl := M.n
  have hz0 : l.length = 0 → (runR l1 l2 (0, 0) l).1 = (0, 0) := fun h => by rw [List.eq_nil_of_length_eq_zero h]; rfl
  clear R M
  generalize runR l1 l2 (0, 0) l = rr at *
  obtain ⟨⟨ra, rb⟩, n⟩ := rr
  simp only at HS hle hz0 ⊢
  generalize hres : (if n = l.length then Value.tuple #[.agg #[.int .i64 ra, .int .i64 rb], .int .i64 0] else Value.tuple #[.agg #[.int .i64 0, .int .i64 0], .int .i64 5]) = res
  have hres := Lib.hid hres
  go_enter Tryz.func85, Tryz.ntmps85
  go_wp2_with fail
  generalize (((w.alloc (.cells #[.int .i64 L, .slice A1 l1.length c1, .slice A2 l2.length c2] 26)).alloc (.cells #[.int .i64 0, .int .i64 0] 104)).alloc (.cells #[.int .i64 0, .int .i64 0] 104)) = W at *
  refine Calls.mono HC.out ?_; rintro e w1 ⟨rfl, hb1⟩
  have hW1 := hW.trans (hb1.mono hW.size)
  have C0 := B0.below hb1 B0.lt
  have C1 := B1.below hb1 B1.lt
  have C2 := B2.below hb1 B2.lt
  have r0 : w1.cell? ⟨w.heap.size, 0, none⟩ = some (.int .i64 L) := C0.cell 0
  have r1 : w1.cell? ⟨w.heap.size, 1, none⟩ = some (.slice A1 l1.length c1) := C0.cell 1
  have r2 : w1.cell? ⟨w.heap.size, 2, none⟩ = some (.slice A2 l2.length c2) := C0.cell 2
  have q0 : w1.cell? ⟨w.heap.size + 1, 0, none⟩ = some (.int .i64 0) := C1.cell 0
  have q1 : w1.cell? ⟨w.heap.size + 1, 1, none⟩ = some (.int .i64 0) := C1.cell 1
  clear B0 B1 B2 hW hb1 HC
  go_wp2_with fail
  refine Calls.mono (HS.out w1 hW1) ?_; rintro e w2 ⟨S, A', c', rfl, hSl, hLa, hO, hb2⟩
  have hW2 := hW1.trans (hb2.mono hW1.size)
  have D1 := C1.below hb2 C1.lt
  have D2 := C2.below hb2 C2.lt
  have u0 : w2.cell? ⟨w.heap.size + 1 + 1, 0, none⟩ = some (.int .i64 0) := D2.cell 0
  have u1 : w2.cell? ⟨w.heap.size + 1 + 1, 1, none⟩ = some (.int .i64 0) := D2.cell 1
  have f0 : w2.frozen? ⟨w.heap.size + 1 + 1, 0, none⟩ = false := D2.frozen 0
  have f1 : w2.frozen? ⟨w.heap.size + 1 + 1, 1, none⟩ = false := D2.frozen 1
  have p0 : w2.cell? ⟨w.heap.size + 1, 0, none⟩ = some (.int .i64 0) := D1.cell 0
  have p1 : w2.cell? ⟨w.heap.size + 1, 1, none⟩ = some (.int .i64 0) := D1.cell 1
  clear r0 r1 r2 q0 q1 C0 C1 C2 hb2 HS D1 D2 hW1
  by_cases hn : n = l.length
  · have hrv := hres.out
    rw [if_pos hn] at hrv
    have hrv := Lib.hid hrv
    subst hn
    have hlt : ¬ (S.length : Int) < (l.length : Int) := by omega
    by_cases hz : l.length = 0
    · have hra := hz0 hz
      simp only [Prod.mk.injEq] at hra
      obtain ⟨rfl, rfl⟩ := hra
      have he : ((S.length : Int) == 0) = true := by rw [hSl, hz]; rfl
      clear hSl hz hle hl hz0
      go_wp2
      refine bodyPost_ret (v := .tuple #[.agg #[.int .i64 0, .int .i64 0], .int .i64 0]) (by simp [results, Tryz.results85, go_sem, u0, u1]) rfl ⟨by rw [← hrv.out], (by repeat (first | with_reducible exact hW2 | with_reducible apply below_drewN' | with_reducible apply Below.drew | (with_reducible refine Below.alloc ?_ (by first | omega | (simp; omega) | simp | (have := (hW2).size; omega) | (have := (hW2).size; simp; omega)) _) | (with_reducible refine Below.setCell ?_ (by first | omega | (simp; omega) | simp | (have := (hW2).size; omega) | (have := (hW2).size; simp; omega)) _) | exact hW2))⟩
    · obtain ⟨m, hm⟩ : ∃ m, S.length = m + 1 := ⟨S.length - 1, by omega⟩
      obtain ⟨g, rfl, hg, x0, x1⟩ := last_cell hLa hm hO
      simp only at x0 x1
      have hne : ((S.length : Int) == 0) = false := by simpa using (by omega : ¬ (S.length : Int) = 0)
      have hi1 : (S.length : Int) - 1 = (m : Int) := by omega
      have hi2 : IntKind.i64.wrap (m : Int) = m := IntWalk.i64_in _ (by omega)
      have hi3 : (m : Int) < (S.length : Int) := by omega
      clear hSl hm hle hl hz0 hO hLa hz
      go_wp2
      refine bodyPost_ret (v := .tuple #[.agg #[.int .i64 ra, .int .i64 rb], .int .i64 0]) (by simp [results, Tryz.results85, go_sem, u0, u1]) rfl ⟨by rw [← hrv.out], (by repeat (first | with_reducible exact hW2 | with_reducible apply below_drewN' | with_reducible apply Below.drew | (with_reducible refine Below.alloc ?_ (by first | omega | (simp; omega) | simp | (have := (hW2).size; omega) | (have := (hW2).size; simp; omega)) _) | (with_reducible refine Below.setCell ?_ (by first | omega | (simp; omega) | simp | (have := (hW2).size; omega) | (have := (hW2).size; simp; omega)) _) | exact hW2))⟩
  · have hrv := hres.out
    rw [if_neg hn] at hrv
    have hrv := Lib.hid hrv
    have hlt : (S.length : Int) < (l.length : Int) := by omega
    clear hSl hn hle hl hz0
    go_wp2
    refine bodyPost_ret (v := .tuple #[.agg #[.int .i64 0, .int .i64 0], .int .i64 5]) (by simp [results, Tryz.results85, go_sem, u0, u1]) rfl ⟨by rw [← hrv.out], (by repeat (first | with_reducible exact hW2 | with_reducible apply below_drewN' | with_reducible apply Below.drew | (with_reducible refine Below.alloc ?_ (by first | omega | (simp; omega) | simp | (have := (hW2).size; omega) | (have := (hW2).size; simp; omega)) _) | (with_reducible refine Below.setCell ?_ (by first | omega | (simp; omega) | simp | (have := (hW2).size; omega) | (have := (hW2).size; simp; omega)) _) | exact hW2))⟩
set_option maxRecDepth 100000 in
set_option maxHeartbeats 1000000 in
theorem firstImp_c (L : Int) (A1 : Option Addr) (c1 : Nat) (l1 : List Int) (A2 : Option Addr) (c2 : Nat) (l2 : List Int) (A : Option Addr) (c : Nat) (l : List Move) (w : World) (R : RuOK w L A1 c1 l1 A2 c2 l2) (M : MvOK w A l) :
    Calls Tryz.prog 74 #[.agg #[.int .i64 L, .slice A1 l1.length c1, .slice A2 l2.length c2], .agg #[.int .i64 0, .int .i64 0], .slice A l.length c] w fun e w' => e = .returned (if (runR l1 l2 (0, 0) l).2 = l.length then .tuple #[.int .i64 0, .int .i64 4] else .tuple #[.int .i64 ((runR l1 l2 (0, 0) l).2 : Int), .int .i64 0]) ∧ Below w.heap.size w w' := by
  have hW : Below w.heap.size w ((w.alloc (.cells #[.int .i64 L, .slice A1 l1.length c1, .slice A2 l2.length c2] 26)).alloc (.cells #[.int .i64 0, .int .i64 0] 104)) := (by repeat (first | with_reducible exact Below.refl _ _ | with_reducible apply below_drewN' | with_reducible apply Below.drew | (with_reducible refine Below.alloc ?_ (by first | omega | (simp; omega) | simp | (have := (Below.refl _ _).size; omega) | (have := (Below.refl _ _).size; simp; omega)) _) | (with_reducible refine Below.setCell ?_ (by first | omega | (simp; omega) | simp | (have := (Below.refl _ _).size; omega) | (have := (Below.refl _ _).size; simp; omega)) _) | exact Below.refl _ _))
  have B0 : Blk ((w.alloc (.cells #[.int .i64 L, .slice A1 l1.length c1, .slice A2 l2.length c2] 26)).alloc (.cells #[.int .i64 0, .int .i64 0] 104)) w.heap.size 26 #[.int .i64 L, .slice A1 l1.length c1, .slice A2 l2.length c2] := (Blk.new _ _ _).alloc _
  have B1 : Blk ((w.alloc (.cells #[.int .i64 L, .slice A1 l1.length c1, .slice A2 l2.length c2] 26)).alloc (.cells #[.int .i64 0, .int .i64 0] 104)) (w.heap.size + 1) 104 #[.int .i64 0, .int .i64 0] := Blk.new' _ _ _ (by simp)
  have HC := Lib.hid (checkMoves_c L A1 c1 l1 A2 c2 l2 A c l _ (R.later hW) (M.later hW))
  have HS := Lib.hid (fun W (h : Below w.heap.size w W) => have Q := R.later h; settings_c L A1 c1 l1 A2 c2 l2 0 0 A c l W (by decide) M.a M.n Q.h1 Q.h2 Q.s1 Q.s2 (M.later h).s)
  have hle := runR_le l1 l2 l (0, 0)
  have hl := M.n
  clear R M
  generalize runR l1 l2 (0, 0) l = rr at *
  obtain ⟨⟨ra, rb⟩, n⟩ := rr
  simp only at HS hle ⊢
  generalize hres : (if n = l.length then Value.tuple #[.int .i64 0, .int .i64 4] else Value.tuple #[.int .i64 (n : Int), .int .i64 0]) = res
  have hres := Lib.hid hres
  go_enter Tryz.func74, Tryz.ntmps74
  go_wp2_with fail
  generalize ((w.alloc (.cells #[.int .i64 L, .slice A1 l1.length c1, .slice A2 l2.length c2] 26)).alloc (.cells #[.int .i64 0, .int .i64 0] 104)) = W at *
  refine Calls.mono HC.out ?_; rintro e w1 ⟨rfl, hb1⟩
  have hW1 := hW.trans (hb1.mono hW.size)
  have C0 := B0.below hb1 B0.lt
  have C1 := B1.below hb1 B1.lt
  have r0 : w1.cell? ⟨w.heap.size, 0, none⟩ = some (.int .i64 L) := C0.cell 0
  have r1 : w1.cell? ⟨w.heap.size, 1, none⟩ = some (.slice A1 l1.length c1) := C0.cell 1
  have r2 : w1.cell? ⟨w.heap.size, 2, none⟩ = some (.slice A2 l2.length c2) := C0.cell 2
  have q0 : w1.cell? ⟨w.heap.size + 1, 0, none⟩ = some (.int .i64 0) := C1.cell 0
  have q1 : w1.cell? ⟨w.heap.size + 1, 1, none⟩ = some (.int .i64 0) := C1.cell 1
  clear B0 B1 hW hb1 HC
  go_wp2_with fail
  refine Calls.mono (HS.out w1 hW1) ?_; rintro e w2 ⟨S, A', c', rfl, hSl, hLa, hO, hb2⟩
  have hW2 := hW1.trans (hb2.mono hW1.size)
  clear r0 r1 r2 q0 q1 C0 C1 hb2 HS hO hLa hW1
  have hwr : IntKind.i64.wrap (S.length : Int) = S.length := IntWalk.i64_in _ (by omega)
  by_cases hn : n = l.length
  · have hrv := hres.out
    rw [if_pos hn] at hrv
    have hrv := Lib.hid hrv
    have he : ((S.length : Int) == (l.length : Int)) = true := by rw [hSl, hn]; simp
    clear hSl hn hle hl
    go_wp2
    go_ret2
    exact ⟨by rw [← hrv.out]; rfl, hW2⟩
  · have hrv := hres.out
    rw [if_neg hn] at hrv
    have hrv := Lib.hid hrv
    have he : ((S.length : Int) == (l.length : Int)) = false := by simpa using (by omega : ¬ (S.length : Int) = (l.length : Int))
    have hSl' := Lib.hid hSl
    clear hSl hn hle hl
    go_wp2
    go_ret2
    exact ⟨by rw [← hrv.out, ← hSl'.out]; rfl, hW2⟩
end Go.Proofs.YtednjmldjbndhaaGreat
