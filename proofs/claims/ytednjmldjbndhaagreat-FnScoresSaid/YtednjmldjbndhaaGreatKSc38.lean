/- ScoreOf of the program and of the reference. Conditions: the lists' lengths. -/
import Derived.Test.YtednjmldjbndhaaGreatKSc33
import Derived.Test.YtednjmldjbndhaaGreatKSc37
set_option linter.unusedSimpArgs false
set_option linter.unusedVariables false
namespace Go.Proofs.YtednjmldjbndhaaGreat
open Go.RowKit
def AnR.fig (e : AnR) : Figure := ⟨e.a, e.b⟩
/-- the score of the first k figures -/
def scTo (G : Figure → Int) (l : List Figure) (k : Nat) : Int := ((l.take k).map fun f => 3 - G f).sum
theorem scTo_zero (G : Figure → Int) (l : List Figure) : scTo G l 0 = 0 := by simp [scTo]
theorem scTo_succ (G : Figure → Int) {l : List Figure} {k : Nat} (h : k < l.length) : scTo G l (k + 1) = scTo G l k + (3 - G l[k]) := by
 unfold scTo
 rw [List.take_succ_eq_append_getElem h, List.map_append, List.sum_append]
 simp
theorem scTo_bd {G : Figure → Int} (hG : ∀ f, 0 ≤ G f ∧ G f ≤ 3) (l : List Figure) : ∀ {k : Nat}, k ≤ l.length → 0 ≤ scTo G l k ∧ scTo G l k ≤ 3 * k
 | 0, _ => by rw [scTo_zero]; omega
 | k + 1, h => by
  have h1 := scTo_bd hG l (k := k) (by omega)
  have h2 := hG (l[k]'(by omega))
  rw [scTo_succ G (by omega)]
  omega
def scC (ok : Bool) (n : Nat) : Int := if ok = true then (if 20 < n then 3 else 0) else 1
def scV (G : Figure → Int) (ok : Bool) (l : List Figure) : Int := if scC ok l.length = 0 then scTo G l l.length else 0
set_option maxRecDepth 100000 in
set_option maxHeartbeats 2000000 in
theorem implScoreOf_c (L : Int) (A1 : Option Addr) (c1 : Nat) (l1 : List Int) (A2 : Option Addr) (c2 : Nat) (l2 : List Int) (A3 : Option Addr) (c3 : Nat) (l3 : List Term) (p q r : Int) (A : Option Addr) (c : Nat) (es : List AnR) (w : World) (E : ExIn w A1 c1 l1 A2 c2 l2 A3 c3 l3) (F : AnsIn w A es) :
  Calls Tryz.prog 8 #[.agg #[.int .i64 L, .slice A1 l1.length c1, .slice A2 l2.length c2, .slice A3 l3.length c3, .int .i64 p, .int .i64 q, .int .i64 r], .slice A es.length c] w fun e w' => e = .returned (.tuple #[.int .i64 (scV (gradeP L l1 l2 l3 p q r) (exB L l1 l2 l3 p q r && es.all AnR.ok) (es.map AnR.fig)), .int .i64 (scC (exB L l1 l2 l3 p q r && es.all AnR.ok) es.length)]) ∧ Below w.heap.size w w' := by
 have hW : Below w.heap.size w (w.alloc (.cells #[.int .i64 L, .slice A1 l1.length c1, .slice A2 l2.length c2, .slice A3 l3.length c3, .int .i64 p, .int .i64 q, .int .i64 r] 31)) := (by repeat first | with_reducible (first | exact Below.refl _ _ | apply below_drewN' | apply Below.drew | refine Below.alloc ?_ ?_ _ | refine Below.setCell ?_ ?_ _) | exact Below.refl _ _ | omega | (simp <;> omega) | (have := (Below.refl _ _).size; first | omega | (simp <;> omega)))
 have X0 := Blk.new w 31 #[.int .i64 L, .slice A1 l1.length c1, .slice A2 l2.length c2, .slice A3 l3.length c3, .int .i64 p, .int .i64 q, .int .i64 r]
 have hK := checkAnswer_c L A1 c1 l1 A2 c2 l2 A3 c3 l3 p q r A c es _ (E.later hW) (F.later hW)
 have hG := gradeP_bd L l1 l2 l3 p q r
 have HG : Hid ((exB L l1 l2 l3 p q r && es.all AnR.ok) = true → ∀ e ∈ es, ∀ W, Below w.heap.size w W → _) := fun h e he W hW => gradeOf_c L A1 c1 l1 A2 c2 l2 A3 c3 l3 p q r e.A e.l.length e.c e.a e.b W (E.later hW) (Bool.and_eq_true _ _ ▸ h : _ ∧ _).1 (ans_fig (List.all_eq_true.1 (Bool.and_eq_true _ _ ▸ h : _ ∧ _).2 e he))
 have hs := F.s
 have hn := F.n
 clear E F
 generalize (exB L l1 l2 l3 p q r && es.all AnR.ok) = ok at *
 generalize hGG : gradeP L l1 l2 l3 p q r = G at *
 cases ok with
 | false =>
  simp only [Bool.false_eq_true, if_false] at hK
  have HK := Lib.hid hK
  clear hK HG
  go_enter Tryz.func8, Tryz.ntmps8
  go_wp2_with fail
  refine Calls.mono HK.out ?_; rintro e w1 ⟨rfl, hb1⟩
  have hW1 := hW.trans (hb1.mono hW.size)
  go_wp2
  refine bodyPost_ret (v := .tuple #[.int .i64 0, .int .i64 1]) (by simp [results, Tryz.results8, go_sem]) rfl ⟨rfl, (by repeat first | with_reducible (first | exact hW1 | apply below_drewN' | apply Below.drew | refine Below.alloc ?_ ?_ _ | refine Below.setCell ?_ ?_ _) | exact hW1 | omega | (simp <;> omega) | (have := (hW1).size; first | omega | (simp <;> omega)))⟩
 | true =>
  simp only [if_true] at hK
  have HK := Lib.hid hK
  have HG2 := Lib.hid (HG.out rfl)
  clear hK HG
  by_cases h20 : 20 < es.length
  ·have hc : scC true es.length = 3 := by unfold scC; rw [if_pos rfl, if_pos h20]
   have hv : scV G true (es.map AnR.fig) = 0 := by unfold scV; rw [List.length_map, hc]; rfl
   rw [hc, hv]
   clear hc hv hG hGG
   have hi : (20 : Int) < (es.length : Int) := by omega
   go_enter Tryz.func8, Tryz.ntmps8
   go_wp2_with fail
   refine Calls.mono HK.out ?_; rintro e w1 ⟨rfl, hb1⟩
   have hW1 := hW.trans (hb1.mono hW.size)
   go_wp2
   refine bodyPost_ret (v := .tuple #[.int .i64 0, .int .i64 3]) (by simp [results, Tryz.results8, go_sem]) rfl ⟨rfl, (by repeat first | with_reducible (first | exact hW1 | apply below_drewN' | apply Below.drew | refine Below.alloc ?_ ?_ _ | refine Below.setCell ?_ ?_ _) | exact hW1 | omega | (simp <;> omega) | (have := (hW1).size; first | omega | (simp <;> omega)))⟩
  ·have hc : scC true es.length = 0 := by unfold scC; rw [if_pos rfl, if_neg h20]
   have hv : scV G true (es.map AnR.fig) = scTo G (es.map AnR.fig) es.length := by unfold scV; rw [List.length_map, hc]; rfl
   rw [hc, hv]
   clear hc hv
   have hi : ¬ (20 : Int) < (es.length : Int) := by omega
   have hG := Lib.hid hG
   have hGG := Lib.hid hGG
   go_enter Tryz.func8, Tryz.ntmps8
   go_wp2_with fail
   generalize w.alloc (.cells #[.int .i64 L, .slice A1 l1.length c1, .slice A2 l2.length c2, .slice A3 l3.length c3, .int .i64 p, .int .i64 q, .int .i64 r] 31) = W at *
   refine Calls.mono HK.out ?_; rintro e w1 ⟨rfl, hb1⟩
   have hW1 := hW.trans (hb1.mono hW.size)
   have X1 := X0.below hb1 X0.lt
   clear HK X0 hW hb1
   go_wp2_with fail
   go_loopw [7, 21] (fun s i wr => ∃ k : Nat, k ≤ es.length ∧ i = .int .i64 k ∧ s = .int .i64 (scTo G (es.map AnR.fig) k) ∧ Below w1.heap.size w1 wr) (fun _ i _ => es.length - (intOf i).toNat)
   case atStart => exact ⟨0, Nat.zero_le _, rfl, by rw [scTo_zero], Below.refl _ _⟩
   case round =>
    obtain ⟨k, hk, rfl, rfl, hb⟩ := hrel
    have hWr := hW1.trans (hb.mono hW1.size)
    have Xr := X1.below hb X1.lt
    by_cases hlt : k < es.length
    ·obtain ⟨b, off, rfl, hbB, hc⟩ := hs.at_ (i := k) (by simpa using hlt)
     simp only [List.getElem_map] at hc
     have c0 : wr.cell? ⟨b, off + k * 3, none⟩ = some (.slice es[k].A es[k].l.length es[k].c) := by rw [hWr.cell hbB]; exact hc 0 _ rfl
     have c1' : wr.cell? ⟨b, off + k * 3 + 1, none⟩ = some (.int .i64 es[k].a) := by rw [hWr.cell hbB]; exact hc 1 _ rfl
     have c2' : wr.cell? ⟨b, off + k * 3 + 2, none⟩ = some (.int .i64 es[k].b) := by rw [hWr.cell hbB]; exact hc 2 _ rfl
     clear hc
     have hcall := HG2.out es[k] (List.getElem_mem hlt)
     have hnx := Lib.hid (scTo_succ G (l := es.map AnR.fig) (k := k) (by simpa using hlt))
     have hg3 := hG.out ((es.map AnR.fig)[k]'(by simpa using hlt))
     have hbd := scTo_bd hG.out (es.map AnR.fig) (k := k) (by simpa using hk)
     have hek : (es.map AnR.fig)[k]'(by simpa using hlt) = ⟨es[k].a, es[k].b⟩ := by rw [List.getElem_map]; rfl
     rw [hek] at hnx hg3
     clear hek
     generalize scTo G (es.map AnR.fig) k = s at *
     generalize es[k] = ek at *
     obtain ⟨A, d, l, a, b'⟩ := ek
     simp only at *
     generalize G ⟨a, b'⟩ = gr at *
     have hcall := Lib.hid hcall
     have BT := Blk.new wr 53 #[.slice A l.length d, .int .i64 a, .int .i64 b']
     have hba : Below wr.heap.size wr (wr.alloc (.cells #[.slice A l.length d, .int .i64 a, .int .i64 b'] 53)) := (by repeat first | with_reducible (first | exact Below.refl _ _ | apply below_drewN' | apply Below.drew | refine Below.alloc ?_ ?_ _ | refine Below.setCell ?_ ?_ _) | exact Below.refl _ _ | omega | (simp <;> omega) | (have := (Below.refl _ _).size; first | omega | (simp <;> omega)))
     have hb3 := hb.trans (hba.mono hb.size)
     have hW3 := hWr.trans (hba.mono hWr.size)
     have X3 := Xr.below hba Xr.lt
     have y0 : (wr.alloc (.cells #[.slice A l.length d, .int .i64 a, .int .i64 b'] 53)).cell? ⟨w.heap.size, 0, none⟩ = some (.int .i64 L) := X3.cell 0
     have y1 : (wr.alloc (.cells #[.slice A l.length d, .int .i64 a, .int .i64 b'] 53)).cell? ⟨w.heap.size, 1, none⟩ = some (.slice A1 l1.length c1) := X3.cell 1
     have y2 : (wr.alloc (.cells #[.slice A l.length d, .int .i64 a, .int .i64 b'] 53)).cell? ⟨w.heap.size, 2, none⟩ = some (.slice A2 l2.length c2) := X3.cell 2
     have y3 : (wr.alloc (.cells #[.slice A l.length d, .int .i64 a, .int .i64 b'] 53)).cell? ⟨w.heap.size, 3, none⟩ = some (.slice A3 l3.length c3) := X3.cell 3
     have y4 : (wr.alloc (.cells #[.slice A l.length d, .int .i64 a, .int .i64 b'] 53)).cell? ⟨w.heap.size, 4, none⟩ = some (.int .i64 p) := X3.cell 4
     have y5 : (wr.alloc (.cells #[.slice A l.length d, .int .i64 a, .int .i64 b'] 53)).cell? ⟨w.heap.size, 5, none⟩ = some (.int .i64 q) := X3.cell 5
     have y6 : (wr.alloc (.cells #[.slice A l.length d, .int .i64 a, .int .i64 b'] 53)).cell? ⟨w.heap.size, 6, none⟩ = some (.int .i64 r) := X3.cell 6
     have z0 : (wr.alloc (.cells #[.slice A l.length d, .int .i64 a, .int .i64 b'] 53)).cell? ⟨wr.heap.size, 0, none⟩ = some (.slice A l.length d) := BT.cell 0
     have z1 : (wr.alloc (.cells #[.slice A l.length d, .int .i64 a, .int .i64 b'] 53)).cell? ⟨wr.heap.size, 1, none⟩ = some (.int .i64 a) := BT.cell 1
     have z2 : (wr.alloc (.cells #[.slice A l.length d, .int .i64 a, .int .i64 b'] 53)).cell? ⟨wr.heap.size, 2, none⟩ = some (.int .i64 b') := BT.cell 2
     clear hs HG2 X1 Xr X3 BT
     go_wp2_with fail
     generalize wr.alloc (.cells #[.slice A l.length d, .int .i64 a, .int .i64 b'] 53) = w3 at *
     refine Calls.mono (hcall.out w3 hW3) ?_; rintro e w5 ⟨rfl, hb5⟩
     have hb6 := hb3.trans (hb5.mono hb3.size)
     go_wp2
     go_roundw
     case rel => exact ⟨k + 1, by omega, by go_num, by rw [hnx.out], (by repeat first | with_reducible (first | exact hb6 | apply below_drewN' | apply Below.drew | refine Below.alloc ?_ ?_ _ | refine Below.setCell ?_ ?_ _) | exact hb6 | omega | (simp <;> omega) | (have := (hb6).size; first | omega | (simp <;> omega)))⟩
     case measure => simp [intOf]; omega
    ·have : k = es.length := by omega
     subst this
     go_wp2
     refine bodyPost_ret (v := .tuple #[.int .i64 (scTo G (es.map AnR.fig) es.length), .int .i64 0]) (by simp [results, Tryz.results8, go_sem]) rfl ⟨rfl, (by repeat first | with_reducible (first | exact hWr | apply below_drewN' | apply Below.drew | refine Below.alloc ?_ ?_ _ | refine Below.setCell ?_ ?_ _) | exact hWr | omega | (simp <;> omega) | (have := (hWr).size; first | omega | (simp <;> omega)))⟩
set_option maxRecDepth 100000 in
set_option maxHeartbeats 2000000 in
theorem specScoreOf_c (L : Int) (A1 : Option Addr) (c1 : Nat) (l1 : List Int) (A2 : Option Addr) (c2 : Nat) (l2 : List Int) (A3 : Option Addr) (c3 : Nat) (l3 : List Term) (p q r : Int) (A : Option Addr) (c : Nat) (es : List AnR) (w : World) (E : ExIn w A1 c1 l1 A2 c2 l2 A3 c3 l3) (F : AnsIn w A es) :
  Calls Tryz.prog 9 #[.agg #[.int .i64 L, .slice A1 l1.length c1, .slice A2 l2.length c2, .slice A3 l3.length c3, .int .i64 p, .int .i64 q, .int .i64 r], .slice A es.length c] w fun e w' => e = .returned (.tuple #[.int .i64 (scV (gradeP L l1 l2 l3 p q r) (exB L l1 l2 l3 p q r && es.all AnR.ok) (es.map AnR.fig)), .int .i64 (scC (exB L l1 l2 l3 p q r && es.all AnR.ok) es.length)]) ∧ Below w.heap.size w w' := by
 have hW : Below w.heap.size w (w.alloc (.cells #[.int .i64 L, .slice A1 l1.length c1, .slice A2 l2.length c2, .slice A3 l3.length c3, .int .i64 p, .int .i64 q, .int .i64 r] 31)) := (by repeat first | with_reducible (first | exact Below.refl _ _ | apply below_drewN' | apply Below.drew | refine Below.alloc ?_ ?_ _ | refine Below.setCell ?_ ?_ _) | exact Below.refl _ _ | omega | (simp <;> omega) | (have := (Below.refl _ _).size; first | omega | (simp <;> omega)))
 have X0 := Blk.new w 31 #[.int .i64 L, .slice A1 l1.length c1, .slice A2 l2.length c2, .slice A3 l3.length c3, .int .i64 p, .int .i64 q, .int .i64 r]
 have HX := Lib.hid (specIsExercise_c L A1 c1 l1 A2 c2 l2 A3 c3 l3 p q r _ (E.later hW))
 have HA : Hid (∀ e ∈ es, ∀ W, Below w.heap.size w W → Calls Tryz.prog 45 #[.agg #[.slice e.A e.l.length e.c, .int .i64 e.a, .int .i64 e.b]] W fun x w' => x = .returned (.bool e.ok) ∧ Below W.heap.size W w') := fun e he W hW => l31Answer_c e.A e.c e.l e.a e.b W (AnIn.later (F.i e he) hW)
 have hG := gradeP_bd L l1 l2 l3 p q r
 have HG : Hid ((exB L l1 l2 l3 p q r && es.all AnR.ok) = true → ∀ e ∈ es, ∀ W, Below w.heap.size w W → _) := fun h e he W hW => l31Grade_c L A1 c1 l1 A2 c2 l2 A3 c3 l3 p q r e.A e.l.length e.c e.a e.b W (E.later hW) (Bool.and_eq_true _ _ ▸ h : _ ∧ _).1 (ans_fig (List.all_eq_true.1 (Bool.and_eq_true _ _ ▸ h : _ ∧ _).2 e he))
 have hs := F.s
 have hn := F.n
 clear E F
 generalize exB L l1 l2 l3 p q r = xb at *
 generalize hGG : gradeP L l1 l2 l3 p q r = G at *
 have hGG := Lib.hid hGG
 have hG := Lib.hid hG
 go_enter Tryz.func9, Tryz.ntmps9
 go_wp2_with fail
 generalize w.alloc (.cells #[.int .i64 L, .slice A1 l1.length c1, .slice A2 l2.length c2, .slice A3 l3.length c3, .int .i64 p, .int .i64 q, .int .i64 r] 31) = W at *
 refine Calls.mono HX.out ?_; rintro e w1 ⟨rfl, hb1⟩
 have hW1 := hW.trans (hb1.mono hW.size)
 have X1 := X0.below hb1 X0.lt
 clear HX X0 hW hb1
 go_wp2_with fail
 go_loopw [6, 7] (fun u i wr => ∃ k : Nat, k ≤ es.length ∧ i = .int .i64 k ∧ u = .bool (xb && (es.take k).all AnR.ok) ∧ Below w1.heap.size w1 wr) (fun _ i _ => es.length - (intOf i).toNat)
 case atStart => exact ⟨0, Nat.zero_le _, rfl, by simp, Below.refl _ _⟩
 case round =>
  obtain ⟨k, hk, rfl, hu, hb⟩ := hrel
  have hWr := hW1.trans (hb.mono hW1.size)
  have Xr := X1.below hb X1.lt
  by_cases hlt : k < es.length
  ·obtain ⟨b, off, rfl, hbB, hc⟩ := hs.at_ (i := k) (by simpa using hlt)
   simp only [List.getElem_map] at hc
   have c0 : wr.cell? ⟨b, off + k * 3, none⟩ = some (.slice es[k].A es[k].l.length es[k].c) := by rw [hWr.cell hbB]; exact hc 0 _ rfl
   have c1' : wr.cell? ⟨b, off + k * 3 + 1, none⟩ = some (.int .i64 es[k].a) := by rw [hWr.cell hbB]; exact hc 1 _ rfl
   have c2' : wr.cell? ⟨b, off + k * 3 + 2, none⟩ = some (.int .i64 es[k].b) := by rw [hWr.cell hbB]; exact hc 2 _ rfl
   clear hc
   have hcall := HA.out es[k] (List.getElem_mem hlt) wr hWr
   have hnx : (xb && (es.take (k + 1)).all AnR.ok) = ((xb && (es.take k).all AnR.ok) && es[k].ok) := by rw [List.take_succ_eq_append_getElem hlt, List.all_append, ← Bool.and_assoc]; simp
   have hnx := Lib.hid hnx
   subst hu
   generalize (xb && (es.take k).all AnR.ok) = u at *
   generalize es[k].ok = o at *
   generalize es[k] = ek at *
   have hcall := Lib.hid hcall
   clear hs HA HG X1 Xr
   cases u with
   | true =>
    go_wp2_with (go_at_call 45; refine Calls.mono hcall.out ?_; rintro e w5 ⟨rfl, hb5⟩; have hb6 := hb.trans (hb5.mono hb.size))
    go_roundw
    case rel => exact ⟨k + 1, by omega, by go_num, by rw [hnx.out]; rfl, (by repeat first | with_reducible (first | exact hb6 | apply below_drewN' | apply Below.drew | refine Below.alloc ?_ ?_ _ | refine Below.setCell ?_ ?_ _) | exact hb6 | omega | (simp <;> omega) | (have := (hb6).size; first | omega | (simp <;> omega)))⟩
    case measure => simp [intOf]; omega
   | false =>
    go_wp2
    go_roundw
    case rel => exact ⟨k + 1, by omega, by go_num, by rw [hnx.out]; rfl, (by repeat first | with_reducible (first | exact hb | apply below_drewN' | apply Below.drew | refine Below.alloc ?_ ?_ _ | refine Below.setCell ?_ ?_ _) | exact hb | omega | (simp <;> omega) | (have := (hb).size; first | omega | (simp <;> omega)))⟩
    case measure => simp [intOf]; omega
  ·have : k = es.length := by omega
   subst this
   rw [List.take_length] at hu
   clear HA
   cases hok : (xb && es.all AnR.ok) with
   | false =>
    rw [hok] at hu
    subst hu
    have HOK := Lib.hid hok
    clear hok HG
    go_wp2
    refine bodyPost_ret (v := .tuple #[.int .i64 0, .int .i64 1]) (by simp [results, Tryz.results9, go_sem]) rfl ⟨by rw [HOK.out]; rfl, (by repeat first | with_reducible (first | exact hWr | apply below_drewN' | apply Below.drew | refine Below.alloc ?_ ?_ _ | refine Below.setCell ?_ ?_ _) | exact hWr | omega | (simp <;> omega) | (have := (hWr).size; first | omega | (simp <;> omega)))⟩
   | true =>
    rw [hok] at hu
    subst hu
    have HG2 := Lib.hid (HG.out hok)
    have HOK := Lib.hid hok
    clear hok HG
    by_cases h20 : 20 < es.length
    ·have hc : Hid (scC true es.length = 3) := by unfold Hid scC; rw [if_pos rfl, if_pos h20]
     have hv : Hid (scV G true (es.map AnR.fig) = 0) := by unfold Hid scV; rw [List.length_map, hc.out]; rfl
     have hi : (20 : Int) < (es.length : Int) := by omega
     go_wp2
     refine bodyPost_ret (v := .tuple #[.int .i64 0, .int .i64 3]) (by simp [results, Tryz.results9, go_sem]) rfl ⟨by rw [HOK.out, hc.out, hv.out], (by repeat first | with_reducible (first | exact hWr | apply below_drewN' | apply Below.drew | refine Below.alloc ?_ ?_ _ | refine Below.setCell ?_ ?_ _) | exact hWr | omega | (simp <;> omega) | (have := (hWr).size; first | omega | (simp <;> omega)))⟩
    ·have hc : Hid (scC true es.length = 0) := by unfold Hid scC; rw [if_pos rfl, if_neg h20]
     have hv : Hid (scV G true (es.map AnR.fig) = scTo G (es.map AnR.fig) es.length) := by unfold Hid scV; rw [List.length_map, hc.out]; rfl
     have hi : ¬ (20 : Int) < (es.length : Int) := by omega
     have hW2 := hWr
     have X2 := Xr
     generalize wr = w2 at *
     clear hb hWr Xr X1 hW1
     go_wp2_with fail
     go_loopw [8, 9] (fun s i wr => ∃ k : Nat, k ≤ es.length ∧ i = .int .i64 k ∧ s = .int .i64 (scTo G (es.map AnR.fig) k) ∧ Below w2.heap.size w2 wr) (fun _ i _ => es.length - (intOf i).toNat)
     case atStart => exact ⟨0, Nat.zero_le _, rfl, by rw [scTo_zero], Below.refl _ _⟩
     case round =>
      obtain ⟨k, hk, rfl, rfl, hb⟩ := hrel
      have hWr := hW2.trans (hb.mono hW2.size)
      have Xr := X2.below hb X2.lt
      by_cases hlt : k < es.length
      ·obtain ⟨b, off, rfl, hbB, hc'⟩ := hs.at_ (i := k) (by simpa using hlt)
       simp only [List.getElem_map] at hc'
       have HCE : ∀ (v : World), Below wr.heap.size wr v → ∀ j u, es[k].cells[j]? = some u → v.cell? ⟨b, off + k * 3 + j, none⟩ = some u := fun v hv j u h => by rw [hv.cell (Nat.lt_of_lt_of_le hbB hWr.size), hWr.cell hbB]; exact hc' j u h
       clear hc'
       have hcall := HG2.out es[k] (List.getElem_mem hlt)
       have hnx := Lib.hid (scTo_succ G (l := es.map AnR.fig) (k := k) (by simpa using hlt))
       have hg3 := hG.out ((es.map AnR.fig)[k]'(by simpa using hlt))
       have hbd := scTo_bd hG.out (es.map AnR.fig) (k := k) (by simpa using hk)
       have hek : (es.map AnR.fig)[k]'(by simpa using hlt) = ⟨es[k].a, es[k].b⟩ := by rw [List.getElem_map]; rfl
       rw [hek] at hnx hg3
       clear hek
       generalize scTo G (es.map AnR.fig) k = s at *
       generalize es[k] = ek at *
       obtain ⟨A, d, l, a, b'⟩ := ek
       simp only at *
       generalize G ⟨a, b'⟩ = gr at *
       obtain ⟨hg1, hg2⟩ := hg3
       obtain ⟨hd1, hd2⟩ := hbd
       have k0 : (0 : Int) ≤ (k : Int) := by omega
       have kl : (k : Int) < (es.length : Int) := by omega
       have hcall := Lib.hid hcall
       have HCE := Lib.hid HCE
       clear hs HG2
       have hw : IntKind.i64.wrap (s + 3) = s + 3 := IntWalk.i64_in _ (by omega)
       go_wp2_with fail
       refine wp_region_sink 8 (fun a0 fL bA v => ∃ v37 v38 v39 v40 v41 v42 v43 v44 : Value, bA = (((((((a0.put (some 37) v37).put (some 38) v38).put (some 39) v39).put (some 40) v40).put (some 41) v41).put (some 42) v42).put (some 43) v43).put (some 44) v44 ∧ (Below wr.heap.size wr v) ∧ (fL 0 = true → v37 = .int .i64 s) ∧ (fL 1 = true → v38 = .int .i64 (s + 3)) ∧ (fL 2 = true → v39 = .agg #[.int .i64 L, .slice A1 l1.length c1, .slice A2 l2.length c2, .slice A3 l3.length c3, .int .i64 p, .int .i64 q, .int .i64 r]) ∧ (fL 3 = true → v40 = .slice (some ⟨b, off, none⟩) es.length c) ∧ (fL 4 = true → v41 = .int .i64 k) ∧ (fL 5 = true → v42 = .pointer (some ⟨b, off + k * 3, none⟩)) ∧ (fL 6 = true → v43 = .agg #[.slice A l.length d, .int .i64 a, .int .i64 b']) ∧ (fL 7 = true → v44 = .int .i64 gr)) (by kernel_rfl) (by decide +kernel) ?_ ?_ ?_
       ·exact ⟨_, _, _, _, _, _, _, _, put_more (put_more (put_more (put_more (put_more (put_more (put_more (put_more (rfl) 37) 38) 39) 40) 41) 42) 43) 44, (Below.refl _ _).drew, nofun, nofun, nofun, nofun, nofun, nofun, nofun, nofun⟩
       ·rintro fL bA v ⟨v37, v38, v39, v40, v41, v42, v43, v44, rfl, hS, q0, q1, q2, q3, q4, q5, q6, q7⟩ i hi hf o ho hall
        simp only [Act.put, List.setIfInBounds_toArray, List.set_cons_zero, List.set_cons_succ]
        have hn : i = 0 ∨ i = 1 ∨ i = 2 ∨ i = 3 ∨ i = 4 ∨ i = 5 ∨ i = 6 ∨ i = 7 := by omega
        clear hi
        rcases hn with rfl | rfl | rfl | rfl | rfl | rfl | rfl | rfl
        ·obtain rfl := Option.some.inj ho
         clear hall ho
         refine wpOp_step rfl (fun K hK => ?_)
         go_simp
         exact hK _ _ ⟨_, _, _, _, _, _, _, _, rfl, hS, fun _ => rfl, q1, q2, q3, q4, q5, q6, q7⟩
        ·obtain rfl := Option.some.inj ho
         obtain rfl := q0 (hall ⟨0, .data⟩ (by simp) rfl)
         clear hall ho
         refine wpOp_step rfl (fun K hK => ?_)
         go_simp
         exact hK _ _ ⟨_, _, _, _, _, _, _, _, rfl, hS, fun _ => rfl, fun _ => rfl, q2, q3, q4, q5, q6, q7⟩
        ·obtain rfl := Option.some.inj ho
         have FF := Xr.below hS Xr.lt
         have y0 : v.cell? ⟨w.heap.size, 0, none⟩ = some (.int .i64 L) := FF.cell 0
         have y1 : v.cell? ⟨w.heap.size, 1, none⟩ = some (.slice A1 l1.length c1) := FF.cell 1
         have y2 : v.cell? ⟨w.heap.size, 2, none⟩ = some (.slice A2 l2.length c2) := FF.cell 2
         have y3 : v.cell? ⟨w.heap.size, 3, none⟩ = some (.slice A3 l3.length c3) := FF.cell 3
         have y4 : v.cell? ⟨w.heap.size, 4, none⟩ = some (.int .i64 p) := FF.cell 4
         have y5 : v.cell? ⟨w.heap.size, 5, none⟩ = some (.int .i64 q) := FF.cell 5
         have y6 : v.cell? ⟨w.heap.size, 6, none⟩ = some (.int .i64 r) := FF.cell 6
         clear hall ho
         refine wpOp_step rfl (fun K hK => ?_)
         go_simp
         exact hK _ _ ⟨_, _, _, _, _, _, _, _, rfl, hS, q0, q1, fun _ => rfl, q3, q4, q5, q6, q7⟩
        ·obtain rfl := Option.some.inj ho
         clear hall ho
         refine wpOp_step rfl (fun K hK => ?_)
         go_simp
         exact hK _ _ ⟨_, _, _, _, _, _, _, _, rfl, hS, q0, q1, q2, fun _ => rfl, q4, q5, q6, q7⟩
        ·obtain rfl := Option.some.inj ho
         clear hall ho
         refine wpOp_step rfl (fun K hK => ?_)
         go_simp
         exact hK _ _ ⟨_, _, _, _, _, _, _, _, rfl, hS, q0, q1, q2, q3, fun _ => rfl, q5, q6, q7⟩
        ·obtain rfl := Option.some.inj ho
         obtain rfl := q3 (hall ⟨3, .data⟩ (by simp) rfl)
         obtain rfl := q4 (hall ⟨4, .data⟩ (by simp) rfl)
         clear hall ho
         refine wpOp_step rfl (fun K hK => ?_)
         go_simp
         exact hK _ _ ⟨_, _, _, _, _, _, _, _, rfl, hS, q0, q1, q2, fun _ => rfl, fun _ => rfl, fun _ => rfl, q6, q7⟩
        ·obtain rfl := Option.some.inj ho
         obtain rfl := q5 (hall ⟨5, .data⟩ (by simp) rfl)
         have y0 : v.cell? ⟨b, off + k * 3, none⟩ = some (.slice A l.length d) := HCE.out v hS 0 _ rfl
         have y1 : v.cell? ⟨b, off + k * 3 + 1, none⟩ = some (.int .i64 a) := HCE.out v hS 1 _ rfl
         have y2 : v.cell? ⟨b, off + k * 3 + 2, none⟩ = some (.int .i64 b') := HCE.out v hS 2 _ rfl
         clear hall ho
         refine wpOp_step rfl (fun K hK => ?_)
         go_simp
         exact hK _ _ ⟨_, _, _, _, _, _, _, _, rfl, hS, q0, q1, q2, q3, q4, fun _ => rfl, fun _ => rfl, q7⟩
        ·obtain rfl := Option.some.inj ho
         obtain rfl := q2 (hall ⟨2, .data⟩ (by simp) rfl)
         obtain rfl := q6 (hall ⟨6, .data⟩ (by simp) rfl)
         clear hall ho
         refine wpOp_step rfl (fun K hK => ?_)
         go_simp
         refine Calls.mono (hcall.out v (hWr.trans (hS.mono hWr.size))) ?_; rintro e w1 ⟨rfl, hb1⟩
         go_simp
         exact hK _ _ ⟨_, _, _, _, _, _, _, _, rfl, hS.trans (hb1.mono hS.size), q0, q1, fun _ => rfl, q3, q4, q5, fun _ => rfl, fun _ => rfl⟩
       ·rintro fL bA v ⟨v37, v38, v39, v40, v41, v42, v43, v44, rfl, hS, q0, q1, q2, q3, q4, q5, q6, q7⟩ hall
        simp only [Act.put, List.setIfInBounds_toArray, List.set_cons_zero, List.set_cons_succ]
        obtain rfl := q0 (hall 0 (by omega))
        obtain rfl := q1 (hall 1 (by omega))
        obtain rfl := q2 (hall 2 (by omega))
        obtain rfl := q3 (hall 3 (by omega))
        obtain rfl := q4 (hall 4 (by omega))
        obtain rfl := q5 (hall 5 (by omega))
        obtain rfl := q6 (hall 6 (by omega))
        obtain rfl := q7 (hall 7 (by omega))
        clear hall
        simp only [List.drop_succ_cons, List.drop_zero]
        have hbv := hb.trans (hS.mono hb.size)
        go_wp2
        go_roundw
        case rel => exact ⟨k + 1, by omega, by go_num, by rw [hnx.out]; exact congrArg (Value.int .i64) (by omega), (by repeat first | with_reducible (first | exact hbv | apply below_drewN' | apply Below.drew | refine Below.alloc ?_ ?_ _ | refine Below.setCell ?_ ?_ _) | exact hbv | omega | (simp <;> omega) | (have := (hbv).size; first | omega | (simp <;> omega)))⟩
        case measure => simp [intOf]; omega
      ·have : k = es.length := by omega
       subst this
       go_wp2
       refine bodyPost_ret (v := .tuple #[.int .i64 (scTo G (es.map AnR.fig) es.length), .int .i64 0]) (by simp [results, Tryz.results9, go_sem]) rfl ⟨by rw [HOK.out, hc.out, hv.out], (by repeat first | with_reducible (first | exact hWr | apply below_drewN' | apply Below.drew | refine Below.alloc ?_ ?_ _ | refine Below.setCell ?_ ?_ _) | exact hWr | omega | (simp <;> omega) | (have := (hWr).size; first | omega | (simp <;> omega)))⟩
end Go.Proofs.YtednjmldjbndhaaGreat
