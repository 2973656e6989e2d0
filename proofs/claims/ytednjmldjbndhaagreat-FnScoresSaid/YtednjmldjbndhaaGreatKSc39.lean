/- slices.ContainsFunc at []impl.Exercise; HardestOf of the program and of the reference. Conditions: the lists' lengths. -/
import Derived.Shelf.Abstract
import Derived.Test.YtednjmldjbndhaaGreatKSc31
set_option linter.unusedSimpArgs false
set_option linter.unusedVariables false
namespace Go.Proofs.YtednjmldjbndhaaGreat
open Go.RowKit
/-- the function value computes o in every world that keeps all that lies in w, at the exercises of a list -/
def PredEx (g : FuncId) (lb : Array Value) (o : ExR → Bool) (es : List ExR) (w : World) : Prop :=
 ∀ (x : ExR) (W : World), x ∈ es → Below w.heap.size w W → Calls Tryz.prog g (#[exAgg x.L x.A1 x.l1.length x.c1 x.A2 x.l2.length x.c2 x.A3 x.l3.length x.c3 x.p x.q x.r] ++ lb) W fun e w' => e = .returned (.bool (o x)) ∧ Below W.heap.size W w'
def IdxPostEx (o : ExR → Bool) (l : List ExR) (w : World) (e : Ending) (w' : World) : Prop :=
 ∃ r : Int, e = .returned (.int .i64 r) ∧ decide (0 ≤ r) = l.any o ∧ Below w.heap.size w w'
set_option maxRecDepth 100000 in
theorem indexFuncEx_c (A : Option Addr) (c : Nat) (l : List ExR) (g : FuncId) (lb : Array Value) (o : ExR → Bool) (w : World)
  (eg : ∀ args w, (callFunc g args).run Tryz.prog w = .ok (.enter g args) w) (hp : PredEx g lb o l w) (E : ExsIn w A l) :
  Calls Tryz.prog 114 #[.slice A l.length c, .func (.func g) #[] lb] w (IdxPostEx o l w) := by
 have hl := E.n
 have hs := E.s
 clear E
 go_enter Tryz.func114, Tryz.ntmps114
 go_wp2_with fail
 go_loopw [8] (fun i wr => ∃ k : Nat, k ≤ l.length ∧ i = .int .i64 k ∧ Below w.heap.size w wr ∧ Hid ((l.take k).any o = false)) (fun i _ => l.length - (intOf i).toNat)
 case atStart => exact ⟨0, Nat.zero_le _, rfl, Below.refl _ _, (show (l.take 0).any o = false from by simp)⟩
 case round =>
  obtain ⟨k, hk, rfl, hb, hn⟩ := hrel
  by_cases hlt : k < l.length
  ·obtain ⟨b, off, rfl, hbB, hc⟩ := hs.at_ (i := k) (by simpa using hlt)
   simp only [List.getElem_map] at hc
   have c0 : wr.cell? ⟨b, off + k * 7, none⟩ = some (.int .i64 l[k].L) := by rw [hb.cell hbB]; exact hc 0 _ rfl
   have c1 : wr.cell? ⟨b, off + k * 7 + 1, none⟩ = some (.slice l[k].A1 l[k].l1.length l[k].c1) := by rw [hb.cell hbB]; exact hc 1 _ rfl
   have c2 : wr.cell? ⟨b, off + k * 7 + 2, none⟩ = some (.slice l[k].A2 l[k].l2.length l[k].c2) := by rw [hb.cell hbB]; exact hc 2 _ rfl
   have c3 : wr.cell? ⟨b, off + k * 7 + 3, none⟩ = some (.slice l[k].A3 l[k].l3.length l[k].c3) := by rw [hb.cell hbB]; exact hc 3 _ rfl
   have c4 : wr.cell? ⟨b, off + k * 7 + 4, none⟩ = some (.int .i64 l[k].p) := by rw [hb.cell hbB]; exact hc 4 _ rfl
   have c5 : wr.cell? ⟨b, off + k * 7 + 5, none⟩ = some (.int .i64 l[k].q) := by rw [hb.cell hbB]; exact hc 5 _ rfl
   have c6 : wr.cell? ⟨b, off + k * 7 + 6, none⟩ = some (.int .i64 l[k].r) := by rw [hb.cell hbB]; exact hc 6 _ rfl
   clear hc
   have hcall := hp l[k] wr (List.getElem_mem hlt) hb
   unfold exAgg at hcall
   have hnx : (l.take (k + 1)).any o = ((l.take k).any o || o l[k]) := by rw [List.take_succ_eq_append_getElem hlt, List.any_append]; simp
   have hnx := Lib.hid hnx
   have hmem : Hid (l[k] ∈ l) := List.getElem_mem hlt
   clear hp
   generalize l[k] = ek at *
   cases hq : o ek with
   | true =>
    have hq' := Lib.hid hq
    rw [hq] at hcall
    have hcall := Lib.hid hcall
    clear hq
    go_wp2_with (go_at_fn g; refine hcall.out.mono ?_; rintro e w1 ⟨rfl, hb1⟩)
    go_ret
    refine ⟨k, rfl, ?_, hb.trans (hb1.mono hb.size)⟩
    rw [show l.any o = true from List.any_eq_true.2 ⟨ek, hmem.out, hq'.out⟩]
    simp
   | false =>
    have hq' := Lib.hid hq
    rw [hq] at hcall
    have hcall := Lib.hid hcall
    clear hq
    go_wp2_with (go_at_fn g; refine hcall.out.mono ?_; rintro e w1 ⟨rfl, hb1⟩)
    go_roundw
    case rel => exact ⟨k + 1, by omega, by go_num, hb.trans (hb1.mono hb.size), (show _ = false from by rw [hnx.out, hn.out, hq'.out]; rfl)⟩
    case measure => simp [intOf]; omega
  ·have : k = l.length := by omega
   subst this
   go_wp2
   go_ret
   refine ⟨-1, rfl, ?_, hb⟩
   have := hn.out
   rw [List.take_length] at this
   rw [this]
   rfl
theorem containsFuncEx_c (A : Option Addr) (c : Nat) (l : List ExR) (g : FuncId) (lb : Array Value) (o : ExR → Bool) (w : World)
  (eg : ∀ args w, (callFunc g args).run Tryz.prog w = .ok (.enter g args) w) (hp : PredEx g lb o l w) (E : ExsIn w A l) :
  Calls Tryz.prog 58 #[.slice A l.length c, .func (.func g) #[] lb] w fun e w' => e = .returned (.bool (l.any o)) ∧ Below w.heap.size w w' := by
 have H := Lib.hid (indexFuncEx_c A c l g lb o w eg hp E)
 clear hp E eg
 go_enter Tryz.func58, Tryz.ntmps58
 go_wp2_with fail
 refine H.out.mono ?_
 rintro e w1 ⟨r, rfl, hr, hb⟩
 go_wp2
 go_ret
 exact ⟨rfl, hb⟩
/-- all that HardestOf asks of an exercise -/
def ExR.ok (e : ExR) : Bool := exB e.L e.l1 e.l2 e.l3 e.p e.q e.r
def ExR.key (e : ExR) : Bool × Nat := (e.ok, (usualP e.l3).ms.length)
/-- the best so far: its place and its moves -/
def bst (K : List (Bool × Nat)) : Nat → Int × Int
 | 0 => (0, -1)
 | k + 1 => match K[k]? with
  | some x => if (bst K k).2 < x.2 then ((k : Int), (x.2 : Int)) else bst K k
  | none => bst K k
def hardCode (K : List (Bool × Nat)) : Int := if K.all (·.1) = true then (if 20 < K.length then 3 else if K.length = 0 then 4 else 0) else 1
def hardIx (K : List (Bool × Nat)) : Int := if hardCode K = 0 then (bst K K.length).1 else 0
theorem bst_next {es : List ExR} {k : Nat} (hk : k < es.length) : bst (es.map ExR.key) (k + 1) = if (bst (es.map ExR.key) k).2 < ((usualP es[k].l3).ms.length : Int) then ((k : Int), ((usualP es[k].l3).ms.length : Int)) else bst (es.map ExR.key) k := by
 conv => lhs; unfold bst
 rw [List.getElem?_eq_getElem (by simpa using hk)]
 simp only [List.getElem_map]
 rfl
theorem bst_bd (K : List (Bool × Nat)) (k : Nat) : 0 ≤ (bst K k).1 ∧ (bst K k).1 ≤ k ∧ -1 ≤ (bst K k).2 := by
 induction k with
 | zero => simp [bst]
 | succ k ih =>
  unfold bst
  split
  ·split
   ·simp; omega
   ·omega
  ·omega
theorem keys_all {es : List ExR} : (es.map ExR.key).all (·.1) = es.all ExR.ok := by
 rw [List.all_map]
 rfl
theorem ok_parts {e : ExR} {w : World} (h : e.ok = true) (E : e.In w) : RuleIn w e.A1 e.l1 e.A2 e.l2 ∧ 0 < e.l3.length ∧ e.l3.length ≤ 6 ∧ e.l3.all termOK = true := by
 unfold ExR.ok exB at h
 have hc : exCode e.L e.l1 e.l2 e.l3 e.p e.q e.r = 0 := by simpa using h
 by_cases hb : boundCode e.L e.l1 e.l2 e.l3 e.p e.q e.r = 0
 ·obtain ⟨b1, b2, b3, b4, b5⟩ := bound_parts hb
  obtain ⟨k1, k2, k3, k4⟩ := chainB_parts b2
  exact ⟨ExIn.rule E b3 b4, k1, k2, k3⟩
 ·rw [(ex_bad hb).2.2] at hc
  exact absurd hc hb
set_option maxRecDepth 100000 in
theorem hardPred (es : List ExR) (w : World) (hi : ∀ e ∈ es, e.In w) : PredEx 59 #[] (fun e => !e.ok) es w := by
 intro x W hx hW
 have HX := fun (W' : World) (h : Below W.heap.size W W') => Lib.hid (implIsExercise_c x.L x.A1 x.c1 x.l1 x.A2 x.c2 x.l2 x.A3 x.c3 x.l3 x.p x.q x.r W' (ExIn.later (ExIn.later (hi x hx) hW) h))
 clear hi hx hW
 obtain ⟨L, A1, c1, l1, A2, c2, l2, A3, c3, l3, p, q, r⟩ := x
 show Calls _ _ _ _ _
 unfold exAgg ExR.ok
 simp only at HX ⊢
 have hW : Below W.heap.size W (W.alloc (.cells #[.int .i64 L, .slice A1 l1.length c1, .slice A2 l2.length c2, .slice A3 l3.length c3, .int .i64 p, .int .i64 q, .int .i64 r] 31)) := (by repeat first | with_reducible (first | exact Below.refl _ _ | apply below_drewN' | apply Below.drew | refine Below.alloc ?_ ?_ _ | refine Below.setCell ?_ ?_ _) | exact Below.refl _ _ | omega | (simp <;> omega) | (have := (Below.refl _ _).size; first | omega | (simp <;> omega)))
 generalize exB L l1 l2 l3 p q r = bb at *
 go_enter Tryz.func59, Tryz.ntmps59
 go_wp2_with fail
 generalize W.alloc (.cells #[.int .i64 L, .slice A1 l1.length c1, .slice A2 l2.length c2, .slice A3 l3.length c3, .int .i64 p, .int .i64 q, .int .i64 r] 31) = W1 at *
 refine Calls.mono (HX W1 hW).out ?_; rintro e w1 ⟨rfl, hb1⟩
 have hv := hW.trans (hb1.mono hW.size)
 go_wp2
 go_ret
 exact ⟨rfl, (by repeat first | with_reducible (first | exact hv | apply below_drewN' | apply Below.drew | refine Below.alloc ?_ ?_ _ | refine Below.setCell ?_ ?_ _) | exact hv | omega | (simp <;> omega) | (have := (hv).size; first | omega | (simp <;> omega)))⟩
set_option maxRecDepth 100000 in
set_option maxHeartbeats 1000000 in
theorem implHard_c (A : Option Addr) (c : Nat) (es : List ExR) (w : World) (E : ExsIn w A es) :
  Calls Tryz.prog 14 #[.slice A es.length c] w fun e w' => e = .returned (.tuple #[.int .i64 (hardIx (es.map ExR.key)), .int .i64 (hardCode (es.map ExR.key))]) ∧ Below w.heap.size w w' := by
 have hcall := containsFuncEx_c A c es 59 #[] (fun e => !e.ok) w (enters_of Tryz.func59 (by kernel_rfl) rfl) (hardPred es w E.i) E
 have hall : es.any (fun e => !e.ok) = !(es.all ExR.ok) := by rw [List.any_eq_not_all_not]; simp
 rw [hall] at hcall
 have HC := Lib.hid hcall
 clear hcall hall
 have hl := E.n
 cases hok : es.all ExR.ok with
 | false =>
  have hcd : hardCode (es.map ExR.key) = 1 := by unfold hardCode; rw [keys_all, hok]; simp
  have hix : hardIx (es.map ExR.key) = 0 := by unfold hardIx; rw [hcd]; simp
  rw [hcd, hix]
  rw [hok] at HC
  clear hcd hix hok E
  go_enter Tryz.func14, Tryz.ntmps14
  go_wp2_with (go_at_call 58; refine Calls.mono HC.out ?_; rintro e w1 ⟨rfl, hb1⟩)
  refine bodyPost_ret (v := .tuple #[.int .i64 (0), .int .i64 (1)]) (by simp [results, Tryz.results14, go_sem]) rfl ⟨rfl, (by repeat first | with_reducible (first | exact hb1 | apply below_drewN' | apply Below.drew | refine Below.alloc ?_ ?_ _ | refine Below.setCell ?_ ?_ _) | exact hb1 | omega | (simp <;> omega) | (have := (hb1).size; first | omega | (simp <;> omega)))⟩
 | true =>
  have hcd : hardCode (es.map ExR.key) = if 20 < es.length then 3 else if es.length = 0 then 4 else 0 := by unfold hardCode; rw [keys_all, hok]; simp
  have Hok := Lib.hid (fun k (hk : k < es.length) => List.all_eq_true.1 hok es[k] (List.getElem_mem hk))
  rw [hok] at HC
  clear hok
  by_cases h20 : 20 < es.length
  ·have h20' : (20 : Int) < es.length := by omega
   rw [if_pos h20] at hcd
   have hix : hardIx (es.map ExR.key) = 0 := by unfold hardIx; rw [hcd]; simp
   rw [hcd, hix]
   clear hcd hix E Hok
   go_enter Tryz.func14, Tryz.ntmps14
   go_wp2_with (go_at_call 58; refine Calls.mono HC.out ?_; rintro e w1 ⟨rfl, hb1⟩)
   refine bodyPost_ret (v := .tuple #[.int .i64 (0), .int .i64 (3)]) (by simp [results, Tryz.results14, go_sem]) rfl ⟨rfl, (by repeat first | with_reducible (first | exact hb1 | apply below_drewN' | apply Below.drew | refine Below.alloc ?_ ?_ _ | refine Below.setCell ?_ ?_ _) | exact hb1 | omega | (simp <;> omega) | (have := (hb1).size; first | omega | (simp <;> omega)))⟩
  ·have h20' : ¬ (20 : Int) < es.length := by omega
   have hd20 : decide ((20 : Int) < es.length) = false := by simp; omega
   rw [if_neg h20] at hcd
   by_cases h0 : es.length = 0
   ·rw [if_pos h0] at hcd
    have hix : hardIx (es.map ExR.key) = 0 := by unfold hardIx; rw [hcd]; simp
    rw [hcd, hix]
    obtain rfl := List.length_eq_zero_iff.1 h0
    have HC0 := HC.out
    simp only [List.length_nil] at HC0
    have HC := Lib.hid HC0
    clear HC0 hcd hix E Hok h0 h20 h20' hd20 hl
    go_enter Tryz.func14, Tryz.ntmps14
    go_wp2_with (go_at_call 58; refine Calls.mono HC.out ?_; rintro e w1 ⟨rfl, hb1⟩)
    refine bodyPost_ret (v := .tuple #[.int .i64 (0), .int .i64 (4)]) (by simp [results, Tryz.results14, go_sem]) rfl ⟨rfl, (by repeat first | with_reducible (first | exact hb1 | apply below_drewN' | apply Below.drew | refine Below.alloc ?_ ?_ _ | refine Below.setCell ?_ ?_ _) | exact hb1 | omega | (simp <;> omega) | (have := (hb1).size; first | omega | (simp <;> omega)))⟩
   ·rw [if_neg h0] at hcd
    have hix : hardIx (es.map ExR.key) = (bst (es.map ExR.key) es.length).1 := by unfold hardIx; rw [hcd]; simp
    rw [hcd, hix]
    have h0' : ¬ (es.length : Int) = 0 := by omega
    have hd0 : ((es.length : Int) == 0) = false := beq_eq_false_iff_ne.2 h0'
    have hs := E.s
    have hin := Lib.hid E.i
    clear hcd hix E
    go_enter Tryz.func14, Tryz.ntmps14
    go_wp2_with (go_at_call 58; refine Calls.mono HC.out ?_; rintro e w1 ⟨rfl, hb1⟩)
    go_loopw [4, 5, 23] (fun bv mv i wr => ∃ k : Nat, k ≤ es.length ∧ i = .int .i64 k ∧ bv = .int .i64 (bst (es.map ExR.key) k).1 ∧ mv = .int .i64 (bst (es.map ExR.key) k).2 ∧ Below w.heap.size w wr) (fun _ _ i _ => es.length - (intOf i).toNat)
    case atStart => exact ⟨0, Nat.zero_le _, rfl, rfl, rfl, hb1⟩
    case round =>
     clear hb1
     obtain ⟨k, hk, rfl, rfl, rfl, hb⟩ := hrel
     by_cases hlt : k < es.length
     ·obtain ⟨b, off, rfl, hbB, hc⟩ := hs.at_ (i := k) (by simpa using hlt)
      simp only [List.getElem_map] at hc
      have c0 : wr.cell? ⟨b, off + k * 7, none⟩ = some (.int .i64 es[k].L) := by rw [hb.cell hbB]; exact hc 0 _ rfl
      have c1 : wr.cell? ⟨b, off + k * 7 + 1, none⟩ = some (.slice es[k].A1 es[k].l1.length es[k].c1) := by rw [hb.cell hbB]; exact hc 1 _ rfl
      have c2 : wr.cell? ⟨b, off + k * 7 + 2, none⟩ = some (.slice es[k].A2 es[k].l2.length es[k].c2) := by rw [hb.cell hbB]; exact hc 2 _ rfl
      have c3 : wr.cell? ⟨b, off + k * 7 + 3, none⟩ = some (.slice es[k].A3 es[k].l3.length es[k].c3) := by rw [hb.cell hbB]; exact hc 3 _ rfl
      have c4 : wr.cell? ⟨b, off + k * 7 + 4, none⟩ = some (.int .i64 es[k].p) := by rw [hb.cell hbB]; exact hc 4 _ rfl
      have c5 : wr.cell? ⟨b, off + k * 7 + 5, none⟩ = some (.int .i64 es[k].q) := by rw [hb.cell hbB]; exact hc 5 _ rfl
      have c6 : wr.cell? ⟨b, off + k * 7 + 6, none⟩ = some (.int .i64 es[k].r) := by rw [hb.cell hbB]; exact hc 6 _ rfl
      clear hc
      have EI : es[k].In wr := ExIn.later (hin.out es[k] (List.getElem_mem hlt)) hb
      obtain ⟨R, r1, r2, r3⟩ := ok_parts (Hok.out k hlt) EI
      have HU := fun (W : World) (hW : Below wr.heap.size wr W) => Lib.hid (usualPlan_c es[k].L es[k].A1 es[k].c1 es[k].l1 es[k].A2 es[k].c2 es[k].l2 es[k].A3 es[k].c3 es[k].l3 W (R.later hW) r1 r2 EI.k3 r3 (ExIn.later EI hW).s3)
      have hnx := bst_next hlt
      have hbd := bst_bd (es.map ExR.key) k
      have hms : ((usualP es[k].l3).ms.length : Int) ≤ 19 := by have := (usual_ok r1 r2 r3).2; omega
      clear EI R r1 r2 r3
      generalize bst (es.map ExR.key) k = B at *
      generalize es[k] = ek at *
      obtain ⟨L, A1, d1, l1, A2, d2, l2, A3, d3, l3, p, q, r⟩ := ek
      simp only at *
      generalize (usualP l3).ms = ms at *
      generalize (usualP l3).sh = sh at *
      generalize (usualP l3).cu = cu at *
      obtain ⟨B1, B2⟩ := B
      simp only at *
      have hW : Below wr.heap.size wr (wr.alloc (.cells #[.int .i64 L, .slice A1 l1.length d1, .slice A2 l2.length d2, .slice A3 l3.length d3, .int .i64 p, .int .i64 q, .int .i64 r] 31)) := (by repeat first | with_reducible (first | exact Below.refl _ _ | apply below_drewN' | apply Below.drew | refine Below.alloc ?_ ?_ _ | refine Below.setCell ?_ ?_ _) | exact Below.refl _ _ | omega | (simp <;> omega) | (have := (Below.refl _ _).size; first | omega | (simp <;> omega)))
      have hcall := HU _ hW
      have hWs := hb.trans (hW.mono hb.size)
      clear HU
      by_cases hm : B2 < (ms.length : Int)
      ·rw [if_pos hm] at hnx
       have hnx := Lib.hid hnx
       go_wp2_with (go_at_call 60; refine Calls.mono hcall.out ?_; rintro e w1 ⟨A', c', rfl, _, hb1⟩; have hW1 := hWs.trans (hb1.mono hWs.size))
       go_roundw
       case rel => exact ⟨k + 1, by omega, by go_num, by rw [hnx.out], by rw [hnx.out], hW1.alloc hW1.size _⟩
       case measure => simp [intOf]; omega
      ·rw [if_neg hm] at hnx
       have hnx := Lib.hid hnx
       go_wp2_with (go_at_call 60; refine Calls.mono hcall.out ?_; rintro e w1 ⟨A', c', rfl, _, hb1⟩; have hW1 := hWs.trans (hb1.mono hWs.size))
       go_roundw
       case rel => exact ⟨k + 1, by omega, by go_num, by rw [hnx.out], by rw [hnx.out], hW1.alloc hW1.size _⟩
       case measure => simp [intOf]; omega
     ·have : k = es.length := by omega
      subst this
      go_wp2
      refine bodyPost_ret (v := .tuple #[.int .i64 ((bst (es.map ExR.key) es.length).1), .int .i64 (0)]) (by simp [results, Tryz.results14, go_sem]) rfl ⟨rfl, (by repeat first | with_reducible (first | exact hb | apply below_drewN' | apply Below.drew | refine Below.alloc ?_ ?_ _ | refine Below.setCell ?_ ?_ _) | exact hb | omega | (simp <;> omega) | (have := (hb).size; first | omega | (simp <;> omega)))⟩
set_option maxRecDepth 100000 in
set_option maxHeartbeats 1000000 in
theorem specHard_c (A : Option Addr) (c : Nat) (es : List ExR) (w : World) (E : ExsIn w A es) :
  Calls Tryz.prog 15 #[.slice A es.length c] w fun e w' => e = .returned (.tuple #[.int .i64 (hardIx (es.map ExR.key)), .int .i64 (hardCode (es.map ExR.key))]) ∧ Below w.heap.size w w' := by
 have hl := E.n
 have hs := E.s
 have hin := Lib.hid E.i
 have Hcd : Hid (hardCode (es.map ExR.key) = if es.all ExR.ok = true then (if 20 < es.length then 3 else if es.length = 0 then 4 else 0) else 1) := by unfold hardCode; rw [keys_all]; simp only [List.length_map]; exact trivial
 clear E
 go_enter Tryz.func15, Tryz.ntmps15
 go_wp2_with fail
 go_loopw [4] (fun i wr => ∃ k : Nat, k ≤ es.length ∧ i = .int .i64 k ∧ Below w.heap.size w wr ∧ Hid (∀ j (h : j < es.length), j < k → es[j].ok = true)) (fun i _ => es.length - (intOf i).toNat)
 case atStart => exact ⟨0, Nat.zero_le _, rfl, Below.refl _ _, fun j _ h => by omega⟩
 case round =>
  obtain ⟨k, hk, rfl, hb, hn⟩ := hrel
  by_cases hlt : k < es.length
  ·obtain ⟨b, off, rfl, hbB, hc⟩ := hs.at_ (i := k) (by simpa using hlt)
   simp only [List.getElem_map] at hc
   have c0 : wr.cell? ⟨b, off + k * 7, none⟩ = some (.int .i64 es[k].L) := by rw [hb.cell hbB]; exact hc 0 _ rfl
   have c1 : wr.cell? ⟨b, off + k * 7 + 1, none⟩ = some (.slice es[k].A1 es[k].l1.length es[k].c1) := by rw [hb.cell hbB]; exact hc 1 _ rfl
   have c2 : wr.cell? ⟨b, off + k * 7 + 2, none⟩ = some (.slice es[k].A2 es[k].l2.length es[k].c2) := by rw [hb.cell hbB]; exact hc 2 _ rfl
   have c3 : wr.cell? ⟨b, off + k * 7 + 3, none⟩ = some (.slice es[k].A3 es[k].l3.length es[k].c3) := by rw [hb.cell hbB]; exact hc 3 _ rfl
   have c4 : wr.cell? ⟨b, off + k * 7 + 4, none⟩ = some (.int .i64 es[k].p) := by rw [hb.cell hbB]; exact hc 4 _ rfl
   have c5 : wr.cell? ⟨b, off + k * 7 + 5, none⟩ = some (.int .i64 es[k].q) := by rw [hb.cell hbB]; exact hc 5 _ rfl
   have c6 : wr.cell? ⟨b, off + k * 7 + 6, none⟩ = some (.int .i64 es[k].r) := by rw [hb.cell hbB]; exact hc 6 _ rfl
   clear hc
   have hcall := Lib.hid (specIsExercise_c es[k].L es[k].A1 es[k].c1 es[k].l1 es[k].A2 es[k].c2 es[k].l2 es[k].A3 es[k].c3 es[k].l3 es[k].p es[k].q es[k].r wr (ExIn.later (hin.out es[k] (List.getElem_mem hlt)) hb))
   have hm : Hid (∀ b, es[k].ok = b → exB es[k].L es[k].l1 es[k].l2 es[k].l3 es[k].p es[k].q es[k].r = b) := fun b h => h
   cases hq : es[k].ok with
   | false =>
    have hx := hm.out _ hq
    rw [hx] at hcall
    have hcd : hardCode (es.map ExR.key) = 1 := by rw [Hcd.out, if_neg]; intro h; have := List.all_eq_true.1 h _ (List.getElem_mem hlt); rw [hq] at this; cases this
    have hix : hardIx (es.map ExR.key) = 0 := by unfold hardIx; rw [hcd]; simp
    have hcd := Lib.hid hcd
    have hix := Lib.hid hix
    have hcall := Lib.hid hcall
    clear hx hm hq hn Hcd hin
    generalize es[k] = ek at *
    go_wp2_with (go_at_call 35; refine Calls.mono hcall.out ?_; rintro e w1 ⟨rfl, hb1⟩)
    have hbv := hb.trans (hb1.mono hb.size)
    refine bodyPost_ret (v := .tuple #[.int .i64 0, .int .i64 1]) (by simp [results, Tryz.results15, go_sem]) rfl ⟨by rw [hcd.out, hix.out], (by repeat first | with_reducible (first | exact hbv | apply below_drewN' | apply Below.drew | refine Below.alloc ?_ ?_ _ | refine Below.setCell ?_ ?_ _) | exact hbv | omega | (simp <;> omega) | (have := (hbv).size; first | omega | (simp <;> omega)))⟩
   | true =>
    have hx := hm.out _ hq
    rw [hx] at hcall
    have hnx : Hid (∀ j (h : j < es.length), j < k + 1 → es[j].ok = true) := fun j h hj => by
     by_cases hjk : j < k
     ·exact hn.out j h hjk
     ·obtain rfl : j = k := by omega
      exact hq
    have hcall := Lib.hid hcall
    clear hx hm hq hn Hcd hin
    generalize es[k] = ek at *
    go_wp2_with (go_at_call 35; refine Calls.mono hcall.out ?_; rintro e w1 ⟨rfl, hb1⟩)
    go_roundw
    case rel => exact ⟨k + 1, by omega, by go_num, hb.trans (hb1.mono hb.size), hnx⟩
    case measure => simp [intOf]; omega
  ·have hkl : k = es.length := by omega
   subst hkl
   have Hok : Hid (∀ k (h : k < es.length), es[k].ok = true) := fun j h => hn.out j h h
   clear hn hk hlt
   have hall : es.all ExR.ok = true := List.all_eq_true.2 fun x hx => by
    obtain ⟨j, hj, rfl⟩ := List.getElem_of_mem hx
    exact Hok.out j hj
   have hcd := Hcd.out
   rw [if_pos hall] at hcd
   clear hall Hcd
   by_cases h20 : 20 < es.length
   ·have h20' : (20 : Int) < es.length := by omega
    rw [if_pos h20] at hcd
    have hix : hardIx (es.map ExR.key) = 0 := by unfold hardIx; rw [hcd]; simp
    have hcd := Lib.hid hcd
    have hix := Lib.hid hix
    clear Hok hin
    go_wp2
    refine bodyPost_ret (v := .tuple #[.int .i64 0, .int .i64 3]) (by simp [results, Tryz.results15, go_sem]) rfl ⟨by rw [hcd.out, hix.out], (by repeat first | with_reducible (first | exact hb | apply below_drewN' | apply Below.drew | refine Below.alloc ?_ ?_ _ | refine Below.setCell ?_ ?_ _) | exact hb | omega | (simp <;> omega) | (have := (hb).size; first | omega | (simp <;> omega)))⟩
   ·have h20' : ¬ (20 : Int) < es.length := by omega
    have hd20 : decide ((20 : Int) < es.length) = false := by simp; omega
    rw [if_neg h20] at hcd
    by_cases h0 : es.length = 0
    ·rw [if_pos h0] at hcd
     have hix : hardIx (es.map ExR.key) = 0 := by unfold hardIx; rw [hcd]; simp
     have hcd := Lib.hid hcd
     have hix := Lib.hid hix
     obtain rfl := List.length_eq_zero_iff.1 h0
     clear Hok hin h0 h20 h20' hd20 hl
     go_wp2
     refine bodyPost_ret (v := .tuple #[.int .i64 0, .int .i64 4]) (by simp [results, Tryz.results15, go_sem]) rfl ⟨by rw [hcd.out, hix.out], (by repeat first | with_reducible (first | exact hb | apply below_drewN' | apply Below.drew | refine Below.alloc ?_ ?_ _ | refine Below.setCell ?_ ?_ _) | exact hb | omega | (simp <;> omega) | (have := (hb).size; first | omega | (simp <;> omega)))⟩
    ·rw [if_neg h0] at hcd
     have hix : hardIx (es.map ExR.key) = (bst (es.map ExR.key) es.length).1 := by unfold hardIx; rw [hcd]; simp
     have hcd := Lib.hid hcd
     have hix := Lib.hid hix
     have h0' : ¬ (es.length : Int) = 0 := by omega
     have hd0 : ((es.length : Int) == 0) = false := beq_eq_false_iff_ne.2 h0'
     have hb1 := hb
     clear hb
     go_wp2_with fail
     go_loopw [5, 6, 7] (fun bv mv i wr => ∃ k : Nat, k ≤ es.length ∧ i = .int .i64 k ∧ bv = .int .i64 (bst (es.map ExR.key) k).1 ∧ mv = .int .i64 (bst (es.map ExR.key) k).2 ∧ Below w.heap.size w wr) (fun _ _ i _ => es.length - (intOf i).toNat)
     case atStart => exact ⟨0, Nat.zero_le _, rfl, rfl, rfl, hb1⟩
     case round =>
      clear hb1
      obtain ⟨k, hk, rfl, rfl, rfl, hb⟩ := hrel
      by_cases hlt : k < es.length
      ·obtain ⟨b, off, rfl, hbB, hc⟩ := hs.at_ (i := k) (by simpa using hlt)
       simp only [List.getElem_map] at hc
       have HCE : ∀ (v : World), Below wr.heap.size wr v → ∀ j u, es[k].cells[j]? = some u → v.cell? ⟨b, off + k * 7 + j, none⟩ = some u := fun v hv j u h => by rw [hv.cell (Nat.lt_of_lt_of_le hbB hb.size), hb.cell hbB]; exact hc j u h
       clear hc
       have EI : es[k].In wr := ExIn.later (hin.out es[k] (List.getElem_mem hlt)) hb
       obtain ⟨R, r1, r2, r3⟩ := ok_parts (Hok.out k hlt) EI
       have HU := fun (W : World) (hW : Below wr.heap.size wr W) => Lib.hid (l14Usual_c es[k].L es[k].A1 es[k].c1 es[k].l1 es[k].A2 es[k].c2 es[k].l2 es[k].A3 es[k].c3 es[k].l3 W (R.later hW) r1 r2 r3 (ExIn.later EI hW).s3)
       have hnx := bst_next hlt
       have hbd := bst_bd (es.map ExR.key) k
       have hms : ((usualP es[k].l3).ms.length : Int) ≤ 19 := by have := (usual_ok r1 r2 r3).2; omega
       clear EI R r1 r2 r3
       have HCE := Lib.hid HCE
       generalize bst (es.map ExR.key) k = B at *
       generalize es[k] = ek at *
       obtain ⟨L, A1, d1, l1, A2, d2, l2, A3, d3, l3, p, q, r⟩ := ek
       simp only at HU hnx hbd hms HCE
       generalize (usualP l3).ms = ms at *
       obtain ⟨B1, B2⟩ := B
       simp only at hnx hbd
       have HU := Lib.hid HU
       have hnx := Lib.hid hnx
       go_wp2_with fail
       refine wp_region_sink 12 (fun a0 fL bA v => ∃ v33 v34 v35 v36 v37 v38 v39 v40 v41 v42 v43 v44 : Value, bA = (((((((((((a0.put (some 33) v33).put (some 34) v34).put (some 35) v35).put (some 36) v36).put (some 37) v37).put (some 38) v38).put (some 39) v39).put (some 40) v40).put (some 41) v41).put (some 42) v42).put (some 43) v43).put (some 44) v44 ∧ ((Below wr.heap.size wr v) ∧ (fL 10 = true → ∃ A' c', v43 = Value.slice A' ms.length c')) ∧ (fL 0 = true → v33 = .slice (some ⟨b, off, none⟩) es.length c) ∧ (fL 1 = true → v34 = .int .i64 k) ∧ (fL 2 = true → v35 = .pointer (some ⟨b, off + k * 7, none⟩)) ∧ (fL 3 = true → v36 = .pointer (some ⟨b, off + k * 7, none⟩)) ∧ (fL 4 = true → v37 = .agg #[.int .i64 L, .slice A1 l1.length d1, .slice A2 l2.length d2]) ∧ (fL 5 = true → v38 = .slice (some ⟨b, off, none⟩) es.length c) ∧ (fL 6 = true → v39 = .int .i64 k) ∧ (fL 7 = true → v40 = .pointer (some ⟨b, off + k * 7, none⟩)) ∧ (fL 8 = true → v41 = .pointer (some ⟨b, off + k * 7 + 3, none⟩)) ∧ (fL 9 = true → v42 = .slice A3 l3.length d3) ∧ (fL 10 = true → True) ∧ (fL 11 = true → v44 = .int .i64 ms.length)) (by kernel_rfl) (by decide +kernel) ?_ ?_ ?_
       ·exact ⟨_, _, _, _, _, _, _, _, _, _, _, _, put_more (put_more (put_more (put_more (put_more (put_more (put_more (put_more (put_more (put_more (put_more (put_more (rfl) 33) 34) 35) 36) 37) 38) 39) 40) 41) 42) 43) 44, ⟨(Below.refl _ _).drew, nofun⟩, nofun, nofun, nofun, nofun, nofun, nofun, nofun, nofun, nofun, nofun, nofun, nofun⟩
       ·rintro fL bA v ⟨v33, v34, v35, v36, v37, v38, v39, v40, v41, v42, v43, v44, rfl, hS, q0, q1, q2, q3, q4, q5, q6, q7, q8, q9, q10, q11⟩ i hi hf o ho hall
        simp only [Act.put, List.setIfInBounds_toArray, List.set_cons_zero, List.set_cons_succ]
        have hn : i = 0 ∨ i = 1 ∨ i = 2 ∨ i = 3 ∨ i = 4 ∨ i = 5 ∨ i = 6 ∨ i = 7 ∨ i = 8 ∨ i = 9 ∨ i = 10 ∨ i = 11 := by omega
        clear hi
        rcases hn with rfl | rfl | rfl | rfl | rfl | rfl | rfl | rfl | rfl | rfl | rfl | rfl
        ·obtain rfl := Option.some.inj ho
         clear hall ho
         refine wpOp_step rfl (fun K hK => ?_)
         go_simp
         exact hK _ _ ⟨_, _, _, _, _, _, _, _, _, _, _, _, rfl, hS, fun _ => rfl, q1, q2, q3, q4, q5, q6, q7, q8, q9, fun _ => trivial, q11⟩
        ·obtain rfl := Option.some.inj ho
         clear hall ho
         refine wpOp_step rfl (fun K hK => ?_)
         go_simp
         exact hK _ _ ⟨_, _, _, _, _, _, _, _, _, _, _, _, rfl, hS, q0, fun _ => rfl, q2, q3, q4, q5, q6, q7, q8, q9, fun _ => trivial, q11⟩
        ·obtain rfl := Option.some.inj ho
         obtain rfl := q0 (hall ⟨0, .data⟩ (by simp) rfl)
         obtain rfl := q1 (hall ⟨1, .data⟩ (by simp) rfl)
         clear hall ho
         refine wpOp_step rfl (fun K hK => ?_)
         go_simp
         exact hK _ _ ⟨_, _, _, _, _, _, _, _, _, _, _, _, rfl, hS, fun _ => rfl, fun _ => rfl, fun _ => rfl, q3, q4, q5, q6, q7, q8, q9, fun _ => trivial, q11⟩
        ·obtain rfl := Option.some.inj ho
         obtain rfl := q2 (hall ⟨2, .data⟩ (by simp) rfl)
         clear hall ho
         refine wpOp_step rfl (fun K hK => ?_)
         go_simp
         exact hK _ _ ⟨_, _, _, _, _, _, _, _, _, _, _, _, rfl, hS, q0, q1, fun _ => rfl, fun _ => rfl, q4, q5, q6, q7, q8, q9, fun _ => trivial, q11⟩
        ·obtain rfl := Option.some.inj ho
         obtain rfl := q3 (hall ⟨3, .data⟩ (by simp) rfl)
         have y0 : v.cell? ⟨b, off + k * 7, none⟩ = some (.int .i64 L) := HCE.out v hS.1 0 _ rfl
         have y1 : v.cell? ⟨b, off + k * 7 + 1, none⟩ = some (.slice A1 l1.length d1) := HCE.out v hS.1 1 _ rfl
         have y2 : v.cell? ⟨b, off + k * 7 + 2, none⟩ = some (.slice A2 l2.length d2) := HCE.out v hS.1 2 _ rfl
         clear hall ho
         refine wpOp_step rfl (fun K hK => ?_)
         go_simp
         exact hK _ _ ⟨_, _, _, _, _, _, _, _, _, _, _, _, rfl, hS, q0, q1, q2, fun _ => rfl, fun _ => rfl, q5, q6, q7, q8, q9, fun _ => trivial, q11⟩
        ·obtain rfl := Option.some.inj ho
         clear hall ho
         refine wpOp_step rfl (fun K hK => ?_)
         go_simp
         exact hK _ _ ⟨_, _, _, _, _, _, _, _, _, _, _, _, rfl, hS, q0, q1, q2, q3, q4, fun _ => rfl, q6, q7, q8, q9, fun _ => trivial, q11⟩
        ·obtain rfl := Option.some.inj ho
         clear hall ho
         refine wpOp_step rfl (fun K hK => ?_)
         go_simp
         exact hK _ _ ⟨_, _, _, _, _, _, _, _, _, _, _, _, rfl, hS, q0, q1, q2, q3, q4, q5, fun _ => rfl, q7, q8, q9, fun _ => trivial, q11⟩
        ·obtain rfl := Option.some.inj ho
         obtain rfl := q5 (hall ⟨5, .data⟩ (by simp) rfl)
         obtain rfl := q6 (hall ⟨6, .data⟩ (by simp) rfl)
         clear hall ho
         refine wpOp_step rfl (fun K hK => ?_)
         go_simp
         exact hK _ _ ⟨_, _, _, _, _, _, _, _, _, _, _, _, rfl, hS, q0, q1, q2, q3, q4, fun _ => rfl, fun _ => rfl, fun _ => rfl, q8, q9, fun _ => trivial, q11⟩
        ·obtain rfl := Option.some.inj ho
         obtain rfl := q7 (hall ⟨7, .data⟩ (by simp) rfl)
         clear hall ho
         refine wpOp_step rfl (fun K hK => ?_)
         go_simp
         exact hK _ _ ⟨_, _, _, _, _, _, _, _, _, _, _, _, rfl, hS, q0, q1, q2, q3, q4, q5, q6, fun _ => rfl, fun _ => rfl, q9, fun _ => trivial, q11⟩
        ·obtain rfl := Option.some.inj ho
         obtain rfl := q8 (hall ⟨8, .data⟩ (by simp) rfl)
         have y3 : v.cell? ⟨b, off + k * 7 + 3, none⟩ = some (.slice A3 l3.length d3) := HCE.out v hS.1 3 _ rfl
         clear hall ho
         refine wpOp_step rfl (fun K hK => ?_)
         go_simp
         exact hK _ _ ⟨_, _, _, _, _, _, _, _, _, _, _, _, rfl, hS, q0, q1, q2, q3, q4, q5, q6, q7, fun _ => rfl, fun _ => rfl, fun _ => trivial, q11⟩
        ·obtain rfl := Option.some.inj ho
         obtain rfl := q4 (hall ⟨4, .data⟩ (by simp) rfl)
         obtain rfl := q9 (hall ⟨9, .data⟩ (by simp) rfl)
         clear hall ho
         refine wpOp_step rfl (fun K hK => ?_)
         go_simp
         refine Calls.mono (HU.out v hS.1).out ?_; rintro e w1 ⟨A', c', rfl, _, hb1⟩
         go_simp
         exact hK _ _ ⟨_, _, _, _, _, _, _, _, _, _, _, _, rfl, ⟨hS.1.trans (hb1.mono hS.1.size), fun _ => ⟨_, _, rfl⟩⟩, q0, q1, q2, q3, fun _ => rfl, q5, q6, q7, q8, fun _ => rfl, fun _ => trivial, q11⟩
        ·obtain rfl := Option.some.inj ho
         have e10 : fL 10 = true := hall ⟨10, .data⟩ (by simp) rfl
         obtain ⟨A', c', rfl⟩ := hS.2 e10
         clear hall ho
         refine wpOp_step rfl (fun K hK => ?_)
         go_simp
         exact hK _ _ ⟨_, _, _, _, _, _, _, _, _, _, _, _, rfl, hS, q0, q1, q2, q3, q4, q5, q6, q7, q8, q9, fun _ => trivial, fun _ => rfl⟩
       ·rintro fL bA v ⟨v33, v34, v35, v36, v37, v38, v39, v40, v41, v42, v43, v44, rfl, hS, q0, q1, q2, q3, q4, q5, q6, q7, q8, q9, q10, q11⟩ hall
        simp only [Act.put, List.setIfInBounds_toArray, List.set_cons_zero, List.set_cons_succ]
        obtain rfl := q0 (hall 0 (by omega))
        obtain rfl := q1 (hall 1 (by omega))
        obtain rfl := q2 (hall 2 (by omega))
        obtain rfl := q3 (hall 3 (by omega))
        obtain rfl := q4 (hall 4 (by omega))
        obtain rfl := q5 (hall 5 (by omega))
        obtain rfl := q6 (hall 6 (by omega))
        obtain rfl := q7 (hall 7 (by omega))
        obtain rfl := q8 (hall 8 (by omega))
        obtain rfl := q9 (hall 9 (by omega))
        have e10 : fL 10 = true := hall 10 (by omega)
        obtain rfl := q11 (hall 11 (by omega))
        clear hall
        simp only [List.drop_succ_cons, List.drop_zero]
        have hbv := hb.trans (hS.1.mono hb.size)
        have hnx := hnx.out
        by_cases hm : B2 < (ms.length : Int)
        ·rw [if_pos hm] at hnx
         have hnx := Lib.hid hnx
         go_wp2
         go_roundw
         case rel => exact ⟨k + 1, by omega, by go_num, by rw [hnx.out], by rw [hnx.out], (by repeat first | with_reducible (first | exact hbv | apply below_drewN' | apply Below.drew | refine Below.alloc ?_ ?_ _ | refine Below.setCell ?_ ?_ _) | exact hbv | omega | (simp <;> omega) | (have := (hbv).size; first | omega | (simp <;> omega)))⟩
         case measure => simp [intOf]; omega
        ·rw [if_neg hm] at hnx
         have hnx := Lib.hid hnx
         go_wp2
         go_roundw
         case rel => exact ⟨k + 1, by omega, by go_num, by rw [hnx.out], by rw [hnx.out], (by repeat first | with_reducible (first | exact hbv | apply below_drewN' | apply Below.drew | refine Below.alloc ?_ ?_ _ | refine Below.setCell ?_ ?_ _) | exact hbv | omega | (simp <;> omega) | (have := (hbv).size; first | omega | (simp <;> omega)))⟩
         case measure => simp [intOf]; omega
      ·have : k = es.length := by omega
       subst this
       go_wp2
       refine bodyPost_ret (v := .tuple #[.int .i64 (bst (es.map ExR.key) es.length).1, .int .i64 0]) (by simp [results, Tryz.results15, go_sem]) rfl ⟨by rw [hcd.out, hix.out], (by repeat first | with_reducible (first | exact hb | apply below_drewN' | apply Below.drew | refine Below.alloc ?_ ?_ _ | refine Below.setCell ?_ ?_ _) | exact hb | omega | (simp <;> omega) | (have := (hb).size; first | omega | (simp <;> omega)))⟩
end Go.Proofs.YtednjmldjbndhaaGreat
