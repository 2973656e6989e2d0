/- FnExactIsExercise's walk: for every exercise the law returns true. Conditions: what an argument always is. -/
import Derived.Test.YtgkobjpoeajkdaaGreatExer
import Derived.Test.YtgkobjpoeajkdaaGreatOpen2
namespace Go.Proofs.YtgkobjpoeajkdaaGreat
open Go.RowKit
/-- what is left of the law's size: below nought, or the lists are short -/
def SzPost (left : Int) (ok : Prop) (w : World) (e : Ending) (w' : World) : Prop := (∃ v : Int, e = .returned (.int .i64 v) ∧ (v < 0 ∨ (0 ≤ v ∧ v ≤ left ∧ ok))) ∧ Below w.heap.size w w'
set_option maxRecDepth 100000 in
theorem szExercise_c (L : Int) (A1 : Option Addr) (n1 c1 : Nat) (A2 : Option Addr) (n2 c2 : Nat) (A3 : Option Addr) (n3 c3 : Nat) (p q r : Int) (left : Int) (w : World) (h1 : n1 ≤ 140737488351232) (h2 : n2 ≤ 140737488351232) (h3 : n3 ≤ 140737488351232) (hl : 0 ≤ left ∧ left ≤ 1048576) :
    Calls Tryz.prog 13 #[.agg #[.int .i64 L, .slice A1 n1 c1, .slice A2 n2 c2, .slice A3 n3 c3, .int .i64 p, .int .i64 q, .int .i64 r], .int .i64 left] w (SzPost left (n1 ≤ 1048576 ∧ n2 ≤ 1048576 ∧ n3 ≤ 1048576) w) := by
  have HR := fun W => Lib.hid (szRule_c L A1 n1 c1 A2 n2 c2 left W h1 h2 hl)
  have HS := fun left W h' => Lib.hid (szTermS_c A3 n3 c3 left W h3 h')
  have hW : Below w.heap.size w (w.alloc (.cells #[.int .i64 L, .slice A1 n1 c1, .slice A2 n2 c2, .slice A3 n3 c3, .int .i64 p, .int .i64 q, .int .i64 r] 29)) := (by repeat (first | with_reducible exact Below.refl _ _ | with_reducible apply below_drewN' | with_reducible apply Below.drew | (with_reducible refine Below.alloc ?_ (by first | omega | (simp; omega) | simp) _) | (with_reducible refine Below.setCell ?_ (by first | omega | (simp; omega) | simp) _) | exact Below.refl _ _))
  have B2 := Blk.new w 29 #[.int .i64 L, .slice A1 n1 c1, .slice A2 n2 c2, .slice A3 n3 c3, .int .i64 p, .int .i64 q, .int .i64 r]
  go_enter Tryz.func13, Tryz.ntmps13
  go_wp2_with fail
  generalize w.alloc (.cells #[.int .i64 L, .slice A1 n1 c1, .slice A2 n2 c2, .slice A3 n3 c3, .int .i64 p, .int .i64 q, .int .i64 r] 29) = W at *
  refine Calls.mono (HR W).out ?_; rintro e w1 ⟨⟨v, rfl, hv⟩, hb1⟩
  have hW1 := hW.trans (hb1.mono hW.size)
  have C2 := B2.below hb1 B2.lt
  have y0 : w1.cell? ⟨w.heap.size, 3, none⟩ = some (.slice A3 n3 c3) := C2.cell 3
  clear hW B2 hb1 C2 HR
  rcases hv with hv | ⟨hv0, hvl, hv1, hv2⟩
  · go_wp2
    go_ret
    exact ⟨⟨-1, rfl, .inl (by omega)⟩, (by repeat (first | with_reducible exact hW1 | with_reducible apply below_drewN' | with_reducible apply Below.drew | (with_reducible refine Below.alloc ?_ (by first | omega | (simp; omega) | simp) _) | (with_reducible refine Below.setCell ?_ (by first | omega | (simp; omega) | simp) _) | exact hW1))⟩
  · have hvn : ¬ v < 0 := by omega
    by_cases h : v < n3
    · have H := HS v
      rw [if_pos h] at H
      go_wp2_with (go_at_call 60; refine Calls.mono (H _ (by omega)).out ?_; rintro e w2 ⟨rfl, rfl⟩)
      go_ret
      exact ⟨⟨-1, rfl, .inl (by omega)⟩, (by repeat (first | with_reducible exact hW1 | with_reducible apply below_drewN' | with_reducible apply Below.drew | (with_reducible refine Below.alloc ?_ (by first | omega | (simp; omega) | simp) _) | (with_reducible refine Below.setCell ?_ (by first | omega | (simp; omega) | simp) _) | exact hW1))⟩
    · have H := HS v
      rw [if_neg h] at H
      have hm : ¬ v - n3 < 0 := by omega
      go_wp2_with (go_at_call 60; refine Calls.mono (H _ (by omega)).out ?_; rintro e w2 ⟨rfl, rfl⟩)
      go_ret
      exact ⟨⟨v - n3, rfl, .inr ⟨by omega, by omega, hv1, hv2, by omega⟩⟩, (by repeat (first | with_reducible exact hW1 | with_reducible apply below_drewN' | with_reducible apply Below.drew | (with_reducible refine Below.alloc ?_ (by first | omega | (simp; omega) | simp) _) | (with_reducible refine Below.setCell ?_ (by first | omega | (simp; omega) | simp) _) | exact hW1))⟩
/-- the exercise that a copy made -/
def exAgg (L : Int) (B1 : Option Addr) (n1 d1 : Nat) (B2 : Option Addr) (n2 d2 : Nat) (B3 : Option Addr) (n3 d3 : Nat) (p q r : Int) : Value := .agg #[.int .i64 L, .slice B1 n1 d1, .slice B2 n2 d2, .slice B3 n3 d3, .int .i64 p, .int .i64 q, .int .i64 r]
theorem ExLaid.ex {w : World} {A1 : Option Addr} {c1 : Nat} {l1 : List Int} {A2 : Option Addr} {c2 : Nat} {l2 : List Int} {A3 : Option Addr} {c3 : Nat} {l3 : List Term} (X : ExLaid w A1 c1 l1 A2 c2 l2 A3 c3 l3) (h : l1.length ≤ 1048576 ∧ l2.length ≤ 1048576 ∧ l3.length ≤ 1048576) : ExIn w A1 c1 l1 A2 c2 l2 A3 c3 l3 :=
  ⟨h.1, h.2.1, h.2.2, X.k1, X.k2, X.k3, X.s1, X.s2, X.s3⟩
/-- a copy of an exercise: new memory, the same lists -/
def ExCopy (L : Int) (l1 l2 : List Int) (l3 : List Term) (p q r : Int) (v : Value) (w : World) (base : Nat) : Prop := ∃ B1 d1 B2 d2 B3 d3, v = exAgg L B1 l1.length d1 B2 l2.length d2 B3 l3.length d3 p q r ∧ ExIn w B1 d1 l1 B2 d2 l2 B3 d3 l3 ∧
  Own w base 2 1 (.slice B1 l1.length d1) (l1.map ic) ∧ Own w base 2 1 (.slice B2 l2.length d2) (l2.map ic) ∧ Own w base 118 3 (.slice B3 l3.length d3) (l3.map Term.cells)
theorem own_le {w : World} {base n c : Nat} {A : Option Addr} {e : TypeId} {k : Nat} {xs : List (List Value)} (h : Own w base e k (.slice A n c) xs) : n ≤ c := h.le_cap
theorem ExPost.copy {L : Int} {l1 l2 : List Int} {l3 : List Term} {p q r : Int} {w : World} {e : Ending} {w' : World} (h : ExPost L l1 l2 l3 p q r w e w') (hh : l1.length ≤ 1048576 ∧ l2.length ≤ 1048576 ∧ l3.length ≤ 1048576) : (∃ v, e = .returned v ∧ ExCopy L l1 l2 l3 p q r v w' w.heap.size) ∧ Below w.heap.size w w' := by
  obtain ⟨B1, d1, B2, d2, B3, d3, rfl, o1, o2, o3, hb⟩ := h
  exact ⟨⟨_, rfl, B1, d1, B2, d2, B3, d3, rfl, ⟨hh.1, hh.2.1, hh.2.2, o1.le_cap, o2.le_cap, o3.le_cap, o1.sl, o2.sl, o3.sl⟩, o1, o2, o3⟩, hb⟩
theorem ExCopy.below {L : Int} {l1 l2 : List Int} {l3 : List Term} {p q r : Int} {v : Value} {w w' : World} {base : Nat} (h : ExCopy L l1 l2 l3 p q r v w base) (hb : Below w.heap.size w w') : ExCopy L l1 l2 l3 p q r v w' base := by
  obtain ⟨B1, d1, B2, d2, B3, d3, h1, h2, o1, o2, o3⟩ := h
  exact ⟨B1, d1, B2, d2, B3, d3, h1, h2.later hb, o1.below hb, o2.below hb, o3.below hb⟩
theorem ExCopy.weak {L : Int} {l1 l2 : List Int} {l3 : List Term} {p q r : Int} {v : Value} {w : World} {base base' : Nat} (h : ExCopy L l1 l2 l3 p q r v w base) (hb : base' ≤ base) : ExCopy L l1 l2 l3 p q r v w base' := by
  obtain ⟨B1, d1, B2, d2, B3, d3, h1, h2, o1, o2, o3⟩ := h
  exact ⟨B1, d1, B2, d2, B3, d3, h1, h2, o1.mono hb, o2.mono hb, o3.mono hb⟩
theorem toEx_c (L : Int) (A1 : Option Addr) (c1 : Nat) (l1 : List Int) (A2 : Option Addr) (c2 : Nat) (l2 : List Int) (A3 : Option Addr) (c3 : Nat) (l3 : List Term) (p q r : Int) (w : World) (E : ExIn w A1 c1 l1 A2 c2 l2 A3 c3 l3) :
    Calls Tryz.prog 15 #[exAgg L A1 l1.length c1 A2 l2.length c2 A3 l3.length c3 p q r] w fun e w' => (∃ v, e = .returned v ∧ ExCopy L l1 l2 l3 p q r v w' w.heap.size) ∧ Below w.heap.size w w' :=
  (toExercise_c L A1 c1 l1 A2 c2 l2 A3 c3 l3 p q r w E.h1 E.h2 E.h3 E.s1 E.s2 E.s3).mono fun _ _ h => h.copy ⟨E.h1, E.h2, E.h3⟩
theorem eqEx_c (L : Int) (A1 : Option Addr) (c1 : Nat) (A1' : Option Addr) (c1' : Nat) (l1 : List Int) (A2 : Option Addr) (c2 : Nat) (A2' : Option Addr) (c2' : Nat) (l2 : List Int) (A3 : Option Addr) (c3 : Nat) (A3' : Option Addr) (c3' : Nat) (l3 : List Term) (p q r : Int) (w : World)
    (E : ExIn w A1 c1 l1 A2 c2 l2 A3 c3 l3) (E' : ExIn w A1' c1' l1 A2' c2' l2 A3' c3' l3) :
    Calls Tryz.prog 17 #[exAgg L A1 l1.length c1 A2 l2.length c2 A3 l3.length c3 p q r, exAgg L A1' l1.length c1' A2' l2.length c2' A3' l3.length c3' p q r] w fun e w' => e = .returned (.bool true) ∧ Below w.heap.size w w' :=
  eqExercise_c L A1 c1 A1' c1' l1 A2 c2 A2' c2' l2 A3 c3 A3' c3' l3 p q r w E.h1 E.h2 E.h3 E.s1 E'.s1 E.s2 E'.s2 E.s3 E'.s3
/-- while '!eqExercise(x0, toExercise(aX))' runs -/
structure EqS (w1 : World) (b : Bool) (Q : Value → World → Prop) (x : Value) (v : World) : Prop where
  hb : Below w1.heap.size w1 v
  q : b = true → Q x v
set_option maxRecDepth 100000 in
set_option maxHeartbeats 2000000 in
theorem lawIsExercise_c (L : Int) (A1 : Option Addr) (c1 : Nat) (l1 : List Int) (A2 : Option Addr) (c2 : Nat) (l2 : List Int) (A3 : Option Addr) (c3 : Nat) (l3 : List Term) (p q r : Int) (w : World) (X : ExLaid w A1 c1 l1 A2 c2 l2 A3 c3 l3) :
    Calls Tryz.prog 3 #[exAgg L A1 l1.length c1 A2 l2.length c2 A3 l3.length c3 p q r] w fun e w' => e = .returned (.bool true) ∧ Below w.heap.size w w' := by
  have HZ := fun W => Lib.hid (szExercise_c L A1 l1.length c1 A2 l2.length c2 A3 l3.length c3 p q r 1048576 W X.z1 X.z2 X.z3 (by omega))
  have hW : Below w.heap.size w (w.alloc (.cells #[.int .i64 L, .slice A1 l1.length c1, .slice A2 l2.length c2, .slice A3 l3.length c3, .int .i64 p, .int .i64 q, .int .i64 r] 29)) := (by repeat (first | with_reducible exact Below.refl _ _ | with_reducible apply below_drewN' | with_reducible apply Below.drew | (with_reducible refine Below.alloc ?_ (by first | omega | (simp; omega) | simp) _) | (with_reducible refine Below.setCell ?_ (by first | omega | (simp; omega) | simp) _) | exact Below.refl _ _))
  have B1 := Blk.new w 29 #[.int .i64 L, .slice A1 l1.length c1, .slice A2 l2.length c2, .slice A3 l3.length c3, .int .i64 p, .int .i64 q, .int .i64 r]
  have X := Lib.hid X
  unfold exAgg
  go_enter Tryz.func3, Tryz.ntmps3
  go_wp2_with fail
  generalize w.alloc (.cells #[.int .i64 L, .slice A1 l1.length c1, .slice A2 l2.length c2, .slice A3 l3.length c3, .int .i64 p, .int .i64 q, .int .i64 r] 29) = W at *
  refine Calls.mono (HZ W).out ?_; rintro e w1 ⟨⟨v, rfl, hv⟩, hb1⟩
  have hW1 := hW.trans (hb1.mono hW.size)
  have C1 := B1.below hb1 B1.lt
  clear hW B1 hb1 HZ
  rcases hv with hv | ⟨hv0, _, hlen⟩
  · clear C1
    go_wp2
    go_ret
    exact ⟨rfl, (by repeat (first | with_reducible exact hW1 | with_reducible apply below_drewN' | with_reducible apply Below.drew | (with_reducible refine Below.alloc ?_ (by first | omega | (simp; omega) | simp) _) | (with_reducible refine Below.setCell ?_ (by first | omega | (simp; omega) | simp) _) | exact hW1))⟩
  have hvn : ¬ v < 0 := by omega
  have E := Lib.hid (X.out.ex hlen)
  clear X hlen
  have HT := fun (W : World) (hW : Below w.heap.size w W) => Lib.hid (toEx_c L A1 c1 l1 A2 c2 l2 A3 c3 l3 p q r W (E.out.later hW))
  unfold exAgg at HT
  have HT := Lib.hid HT
  have HSp := fun (B1 : Option Addr) d1 B2 d2 B3 d3 W (E' : ExIn W B1 d1 l1 B2 d2 l2 B3 d3 l3) => Lib.hid (specIsExercise_c L B1 d1 l1 B2 d2 l2 B3 d3 l3 p q r W E')
  have HIm := fun (B1 : Option Addr) d1 B2 d2 B3 d3 W (E' : ExIn W B1 d1 l1 B2 d2 l2 B3 d3 l3) => Lib.hid (implIsExercise_c L B1 d1 l1 B2 d2 l2 B3 d3 l3 p q r W E')
  have HSp := Lib.hid HSp
  have HIm := Lib.hid HIm
  generalize exB L l1 l2 l3 p q r = exb at *
  have y0 : w1.cell? ⟨w.heap.size, 0, none⟩ = some (.int .i64 L) := C1.cell 0
  have y1 : w1.cell? ⟨w.heap.size, 1, none⟩ = some (.slice A1 l1.length c1) := C1.cell 1
  have y2 : w1.cell? ⟨w.heap.size, 2, none⟩ = some (.slice A2 l2.length c2) := C1.cell 2
  have y3 : w1.cell? ⟨w.heap.size, 3, none⟩ = some (.slice A3 l3.length c3) := C1.cell 3
  have y4 : w1.cell? ⟨w.heap.size, 4, none⟩ = some (.int .i64 p) := C1.cell 4
  have y5 : w1.cell? ⟨w.heap.size, 5, none⟩ = some (.int .i64 q) := C1.cell 5
  have y6 : w1.cell? ⟨w.heap.size, 6, none⟩ = some (.int .i64 r) := C1.cell 6
  go_wp2_with fail
  refine Calls.mono (HT.out w1 hW1).out ?_; rintro e w2 ⟨⟨v2, rfl, B1, d1, B2, d2, B3, d3, rfl, E2, _, _, _⟩, hb2⟩
  have hW2 := hW1.trans (hb2.mono hW1.size)
  have C2 := C1.below hb2 C1.lt
  clear y0 y1 y2 y3 y4 y5 y6 hb2 C1 hW1
  have hcall := HSp.out B1 d1 B2 d2 B3 d3 w2 E2
  clear E2
  unfold exAgg
  go_wp2_with fail
  refine Calls.mono hcall.out ?_; rintro e w3 ⟨rfl, hb3⟩
  have hW3 := hW2.trans (hb3.mono hW2.size)
  have C3 := C2.below hb3 C2.lt
  clear hb3 C2 hW2 hcall HSp
  have y0 : w3.cell? ⟨w.heap.size, 0, none⟩ = some (.int .i64 L) := C3.cell 0
  have y1 : w3.cell? ⟨w.heap.size, 1, none⟩ = some (.slice A1 l1.length c1) := C3.cell 1
  have y2 : w3.cell? ⟨w.heap.size, 2, none⟩ = some (.slice A2 l2.length c2) := C3.cell 2
  have y3 : w3.cell? ⟨w.heap.size, 3, none⟩ = some (.slice A3 l3.length c3) := C3.cell 3
  have y4 : w3.cell? ⟨w.heap.size, 4, none⟩ = some (.int .i64 p) := C3.cell 4
  have y5 : w3.cell? ⟨w.heap.size, 5, none⟩ = some (.int .i64 q) := C3.cell 5
  have y6 : w3.cell? ⟨w.heap.size, 6, none⟩ = some (.int .i64 r) := C3.cell 6
  go_wp2_with fail
  refine Calls.mono (HT.out w3 hW3).out ?_; rintro e w4 ⟨⟨v4, rfl, G1, g1, G2, g2, G3, g3, rfl, E4, _, _, _⟩, hb4⟩
  have hW4 := hW3.trans (hb4.mono hW3.size)
  have C4 := C3.below hb4 C3.lt
  clear y0 y1 y2 y3 y4 y5 y6 hb4 C3 hW3
  unfold exAgg
  have hba : Below w4.heap.size w4 (w4.alloc (.cells #[.int .i64 L, .slice G1 l1.length g1, .slice G2 l2.length g2, .slice G3 l3.length g3, .int .i64 p, .int .i64 q, .int .i64 r] 36)) := (Below.refl _ _).alloc (Nat.le_refl _) _
  have hcall := HIm.out G1 g1 G2 g2 G3 g3 _ (E4.later hba)
  go_wp2_with fail
  have E5 := E4.later hba
  have C5 := C4.below hba C4.lt
  have D5 := Blk.new w4 36 #[.int .i64 L, .slice G1 l1.length g1, .slice G2 l2.length g2, .slice G3 l3.length g3, .int .i64 p, .int .i64 q, .int .i64 r]
  have hW5 := hW4.trans (hba.mono hW4.size)
  clear E4 C4 hW4 hba
  generalize w4.alloc (.cells #[.int .i64 L, .slice G1 l1.length g1, .slice G2 l2.length g2, .slice G3 l3.length g3, .int .i64 p, .int .i64 q, .int .i64 r] 36) = w5 at *
  generalize w4.heap.size = gx at *
  refine Calls.mono hcall.out ?_; rintro e w6 ⟨rfl, hb6⟩
  have E6 := Lib.hid (E5.later hb6)
  have C6 := C5.below hb6 C5.lt
  have D6 := D5.below hb6 D5.lt
  have hW6 := hW5.trans (hb6.mono hW5.size)
  clear E5 C5 D5 hW5 hb6 hcall HIm
  cases exb
  all_goals
    go_wp2_with fail
    refine wp_region_sink 4 (fun a0 fL bA v => ∃ v22 v23 v24 v25 : Value, bA = (((a0.put (some 22) v22).put (some 23) v23).put (some 24) v24).put (some 25) v25 ∧ (EqS w6 (fL 2) (fun x v => ExCopy L l1 l2 l3 p q r x v w6.heap.size) v24 v) ∧ (fL 0 = true → v22 = .agg #[.int .i64 L, .slice G1 l1.length g1, .slice G2 l2.length g2, .slice G3 l3.length g3, .int .i64 p, .int .i64 q, .int .i64 r]) ∧ (fL 1 = true → v23 = .agg #[.int .i64 L, .slice A1 l1.length c1, .slice A2 l2.length c2, .slice A3 l3.length c3, .int .i64 p, .int .i64 q, .int .i64 r]) ∧ (fL 2 = true → True) ∧ (fL 3 = true → v25 = .bool true)) (by kernel_rfl) (by decide +kernel) ?_ ?_ ?_
    · exact ⟨undef, undef, undef, undef, by simp only [Act.put, List.setIfInBounds_toArray, List.set_cons_zero, List.set_cons_succ], ⟨(Below.refl _ _).drew, nofun⟩, nofun, nofun, nofun, nofun⟩
    · rintro fL bA v ⟨v22, v23, v24, v25, rfl, hS, q0, q1, q2, q3⟩ i hi hf o ho hall
      simp only [Act.put, List.setIfInBounds_toArray, List.set_cons_zero, List.set_cons_succ]
      have hn : i = 0 ∨ i = 1 ∨ i = 2 ∨ i = 3 := by omega
      clear hi
      rcases hn with rfl | rfl | rfl | rfl
      · obtain rfl := Option.some.inj ho
        have F := D6.below hS.hb D6.lt
        have y0 : v.cell? ⟨gx, 0, none⟩ = some (.int .i64 L) := F.cell 0
        have y1 : v.cell? ⟨gx, 1, none⟩ = some (.slice G1 l1.length g1) := F.cell 1
        have y2 : v.cell? ⟨gx, 2, none⟩ = some (.slice G2 l2.length g2) := F.cell 2
        have y3 : v.cell? ⟨gx, 3, none⟩ = some (.slice G3 l3.length g3) := F.cell 3
        have y4 : v.cell? ⟨gx, 4, none⟩ = some (.int .i64 p) := F.cell 4
        have y5 : v.cell? ⟨gx, 5, none⟩ = some (.int .i64 q) := F.cell 5
        have y6 : v.cell? ⟨gx, 6, none⟩ = some (.int .i64 r) := F.cell 6
        clear hall ho
        refine wpOp_step rfl (fun K hK => ?_)
        go_simp
        exact hK _ _ ⟨_, _, _, _, rfl, hS, fun _ => rfl, q1, fun _ => trivial, q3⟩
      · obtain rfl := Option.some.inj ho
        have F := C6.below hS.hb C6.lt
        have y0 : v.cell? ⟨w.heap.size, 0, none⟩ = some (.int .i64 L) := F.cell 0
        have y1 : v.cell? ⟨w.heap.size, 1, none⟩ = some (.slice A1 l1.length c1) := F.cell 1
        have y2 : v.cell? ⟨w.heap.size, 2, none⟩ = some (.slice A2 l2.length c2) := F.cell 2
        have y3 : v.cell? ⟨w.heap.size, 3, none⟩ = some (.slice A3 l3.length c3) := F.cell 3
        have y4 : v.cell? ⟨w.heap.size, 4, none⟩ = some (.int .i64 p) := F.cell 4
        have y5 : v.cell? ⟨w.heap.size, 5, none⟩ = some (.int .i64 q) := F.cell 5
        have y6 : v.cell? ⟨w.heap.size, 6, none⟩ = some (.int .i64 r) := F.cell 6
        clear hall ho
        refine wpOp_step rfl (fun K hK => ?_)
        go_simp
        exact hK _ _ ⟨_, _, _, _, rfl, hS, q0, fun _ => rfl, fun _ => trivial, q3⟩
      · obtain rfl := Option.some.inj ho
        obtain rfl := q1 (hall ⟨1, .data⟩ (by simp) rfl)
        clear hall ho
        refine wpOp_step rfl (fun K hK => ?_)
        go_simp
        refine Calls.mono (HT.out v (hW6.trans (hS.hb.mono hW6.size))).out ?_; rintro e w7 ⟨⟨u, rfl, hu⟩, hb7⟩
        go_simp
        exact hK _ _ ⟨_, _, _, _, rfl, ⟨hS.hb.trans (hb7.mono hS.hb.size), fun _ => hu.weak hS.hb.size⟩, q0, fun _ => rfl, fun _ => trivial, q3⟩
      · obtain rfl := Option.some.inj ho
        obtain rfl := q0 (hall ⟨0, .data⟩ (by simp) rfl)
        have e2 : fL 2 = true := hall ⟨2, .data⟩ (by simp) rfl
        clear hall ho
        refine wpOp_step rfl (fun K hK => ?_)
        obtain ⟨H1, h1, H2, h2, H3, h3, rfl, EH, _, _, _⟩ := hS.q e2
        go_simp
        refine Calls.mono (eqEx_c L G1 g1 H1 h1 l1 G2 g2 H2 h2 l2 G3 g3 H3 h3 l3 p q r v (E6.out.later hS.hb) EH) ?_; rintro e w7 ⟨rfl, hb7⟩
        go_simp
        exact hK _ _ ⟨_, _, _, _, rfl, ⟨hS.hb.trans (hb7.mono hS.hb.size), fun e => (hS.q e).below hb7⟩, fun _ => rfl, q1, fun _ => trivial, fun _ => rfl⟩
    · rintro fL bA v ⟨v22, v23, v24, v25, rfl, hS, q0, q1, q2, q3⟩ hall
      simp only [Act.put, List.setIfInBounds_toArray, List.set_cons_zero, List.set_cons_succ]
      obtain rfl := q0 (hall 0 (by omega))
      obtain rfl := q1 (hall 1 (by omega))
      have e2 : fL 2 = true := hall 2 (by omega)
      obtain rfl := q3 (hall 3 (by omega))
      clear hall
      simp only [List.drop_succ_cons, List.drop_zero]
      have hbv := hW6.trans (hS.hb.mono hW6.size)
      go_wp2
      go_ret
      exact ⟨rfl, (by repeat (first | with_reducible exact hbv | with_reducible apply below_drewN' | with_reducible apply Below.drew | (with_reducible refine Below.alloc ?_ (by first | omega | (simp; omega) | simp) _) | (with_reducible refine Below.setCell ?_ (by first | omega | (simp; omega) | simp) _) | exact hbv))⟩
end Go.Proofs.YtgkobjpoeajkdaaGreat
