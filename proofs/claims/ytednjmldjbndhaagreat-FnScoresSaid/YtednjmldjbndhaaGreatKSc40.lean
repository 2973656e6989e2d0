/- slices.Clone and the reference's copy at []int64. An exercise's rule in new memory, and the chain that MakeExercise makes: plain, and the program's ownRule. Conditions: the lists' lengths. -/
import Derived.Lib.SliceRun
import Derived.Test.YtednjmldjbndhaaGreatKSc1
import Derived.Test.YtednjmldjbndhaaGreatKSc22
import Derived.Test.YtednjmldjbndhaaGreatKSc24
set_option linter.unusedSimpArgs false
set_option linter.unusedVariables false
namespace Go.Proofs.YtednjmldjbndhaaGreat
open Go.RowKit
set_option maxRecDepth 100000 in
theorem cloneInt_c (A : Option Addr) (c : Nat) (l : List Int) (w : World) (hl : l.length ≤ 4000000000) (hs : Sl w w.heap.size 1 A (l.map ic)) :
  Calls Tryz.prog 110 #[.slice A l.length c] w fun e w' => ∃ A' c', e = .returned (.slice A' l.length c') ∧ Own w' w.heap.size 2 1 (.slice A' l.length c') (l.map ic) ∧ Below w.heap.size w w' := by
 obtain ⟨i0, hi, hz0, hz1, hz2⟩ := info_parts info_Int64
 have qT : ∀ (w : World) (a : Option Addr) (n c n' c' : Nat), (binOp .eql 24 (.slice a n c) (.slice none n' c')).run Tryz.prog w = .ok (.bool a.isNone) w := fun w a n c n' c' => Lib.run_eql_slice_nil w _ _ a n c n' c' Tryz.underlying24
 cases A with
 | none =>
  have hl0 : l = [] := by
   cases l with
   | nil => rfl
   | cons y r => obtain ⟨_, b, off, h, _⟩ := hs 0 _ rfl; cases h
  subst hl0
  go_enter Tryz.func110, Tryz.ntmps110
  go_wp2
  go_ret
  exact ⟨none, 0, rfl, Own.nil_, Below.refl _ _⟩
 | some a =>
  go_enter Tryz.func110, Tryz.ntmps110
  go_wp2_with (at_builtin; refine wpList_append_rows _ rfl (.tmp 5) (.tmp 6) _ rfl w.heap.size 2 i0 _ 1 8 Tryz.underlying24 hi hz0 hz1 hz2 rfl (by omega) _ [] rfl (Own.empty (Nat.le_refl _)) w.heap.size (some a) l.length c (l.map ic) rfl (by simp) (hs.alloc (Nat.le_refl _) _) ic_one (by simp [maxLen]; omega) (by simp; omega) (by simp) ?_; intro v1 w1 hO hg hat)
  go_ret
  obtain ⟨A', c', rfl, _⟩ := hO.form
  refine ⟨A', c', by simp, by simpa using hO, ?_⟩
  exact below_app (((Below.refl _ _).alloc (Nat.le_refl _) _)) hg (by simp) (fun g hg' => Nat.le_of_eq (Option.some.inj hg'))
set_option maxRecDepth 100000 in
theorem l01Own_c (A : Option Addr) (c : Nat) (l : List Int) (w : World) (hl : l.length ≤ 4000000000) (hs : Sl w w.heap.size 1 A (l.map ic)) :
  Calls Tryz.prog 57 #[.slice A l.length c] w fun e w' => ∃ A' c', e = .returned (.slice A' l.length c') ∧ Own w' w.heap.size 2 1 (.slice A' l.length c') (l.map ic) ∧ Below w.heap.size w w' := by
 obtain ⟨i0, hi, hz0, hz1, hz2⟩ := info_parts info_Int64
 go_enter Tryz.func57, Tryz.ntmps57
 go_wp2_with (at_builtin; refine wpList_append_rows _ rfl (.tmp 3) (.tmp 4) _ rfl w.heap.size 2 i0 _ 1 8 Tryz.underlying24 hi hz0 hz1 hz2 rfl (by omega) _ [] rfl (Own.empty (Nat.le_refl _)) w.heap.size A l.length c (l.map ic) rfl (by simp) (hs.alloc (Nat.le_refl _) _) ic_one (by simp [maxLen]; omega) (by simp; omega) (by simp) ?_; intro v1 w1 hO hg hat)
 go_ret
 obtain ⟨A', c', rfl, _⟩ := hO.form
 refine ⟨A', c', by simp, by simpa using hO, ?_⟩
 exact below_app (((Below.refl _ _).alloc (Nat.le_refl _) _)) hg (by simp) (fun g hg' => Nat.le_of_eq (Option.some.inj hg'))
end Go.Proofs.YtednjmldjbndhaaGreat
namespace Go.Proofs.YtednjmldjbndhaaGreat
open Go.RowKit
def nextX (x : Int) : Int := (x * 1103 + 12345) % 1000003
def xsMk (seed : Int) : Nat → Int
 | 0 => seed
 | k + 1 => nextX (xsMk seed k)
def termX (x : Int) (k : Nat) : Term := ⟨1000 + x % 9000, 0, decide (0 < k) && decide (x / 9000 % 2 = 1)⟩
def mkTo (seed : Int) (k : Nat) : List Term := (List.range k).map fun i => termX (xsMk seed (i + 1)) i
theorem mkTo_succ (seed : Int) (k : Nat) : mkTo seed (k + 1) = mkTo seed k ++ [termX (nextX (xsMk seed k)) k] := by
 unfold mkTo
 rw [List.range_succ, List.map_append]
 rfl
theorem mkTo_length (seed : Int) (k : Nat) : (mkTo seed k).length = k := by simp [mkTo]
theorem nextX_bd (x : Int) : 0 ≤ nextX x ∧ nextX x ≤ 1000002 := by unfold nextX; omega
theorem xsMk_bd {seed : Int} (h : 0 ≤ seed ∧ seed ≤ 1000000) : ∀ k, 0 ≤ xsMk seed k ∧ xsMk seed k ≤ 1000002
 | 0 => ⟨h.1, by have := h.2; unfold xsMk; omega⟩
 | k + 1 => nextX_bd (xsMk seed k)
theorem apart_two {x y : Value} {N : Nat} (h1 : ∀ r, x.ownBlock = some r → r < N) (h2 : ∀ r, y.ownBlock = some r → N ≤ r) : Apart x y ∧ Apart y x := by
 unfold Apart
 cases hx : x.ownBlock with
 | none => cases hy : y.ownBlock with
  | none => exact ⟨.inl rfl, .inl rfl⟩
  | some b => exact ⟨.inr (by simp), .inl rfl⟩
 | some a => cases hy : y.ownBlock with
  | none => exact ⟨.inl rfl, .inr (by simp)⟩
  | some b =>
   have := h1 a hx
   have := h2 b hy
   exact ⟨.inr (by simp; omega), .inr (by simp; omega)⟩
/-- while the rule's lists are copied: what is read, copied, stored so far -/
structure OwR (w0 : World) (L : Int) (l1 l2 : List Int) (A1 A2 : Value) (r1 b1 s1 r2 b2 s2 : Bool) (v5 v8 : Value) (v : World) : Prop where
 hb : Below w0.heap.size w0 v
 br : Blk v w0.heap.size 26 #[.int .i64 L, bif s1 then v5 else A1, bif s2 then v8 else A2]
 bo : Blk v (w0.heap.size + 1) 26 #[.int .i64 0, .slice none 0 0, .slice none 0 0]
 c1 : b1 = true → r1 = true
 c2 : b2 = true → r2 = true
 d1 : s1 = true → b1 = true
 d2 : s2 = true → b2 = true
 o1 : b1 = true → ∃ B d, v5 = .slice B l1.length d ∧ Own v (w0.heap.size + 2) 2 1 (.slice B l1.length d) (l1.map ic)
 o2 : b2 = true → ∃ B d, v8 = .slice B l2.length d ∧ Own v (w0.heap.size + 2) 2 1 (.slice B l2.length d) (l2.map ic)
 ap : b1 = true → b2 = true → Apart v5 v8
section
variable {w0 v v' : World} {L : Int} {l1 l2 : List Int} {A1 A2 v5 v8 : Value} {r1 b1 s1 r2 b2 s2 : Bool}
theorem OwR.rd1 (h : OwR w0 L l1 l2 A1 A2 r1 b1 s1 r2 b2 s2 v5 v8 v) : OwR w0 L l1 l2 A1 A2 true b1 s1 r2 b2 s2 v5 v8 v := ⟨h.hb, h.br, h.bo, fun _ => rfl, h.c2, h.d1, h.d2, h.o1, h.o2, h.ap⟩
theorem OwR.rd2 (h : OwR w0 L l1 l2 A1 A2 r1 b1 s1 r2 b2 s2 v5 v8 v) : OwR w0 L l1 l2 A1 A2 r1 b1 s1 true b2 s2 v5 v8 v := ⟨h.hb, h.br, h.bo, h.c1, fun _ => rfl, h.d1, h.d2, h.o1, h.o2, h.ap⟩
theorem OwR.size (h : OwR w0 L l1 l2 A1 A2 r1 b1 s1 r2 b2 s2 v5 v8 v) : w0.heap.size + 2 ≤ v.heap.size := h.bo.lt
theorem OwR.old1 (h : OwR w0 L l1 l2 A1 A2 r1 b1 s1 r2 b2 s2 v5 v8 v) (hr : r1 = false) : v.cell? ⟨w0.heap.size, 1, none⟩ = some A1 := by
 have hs : s1 = false := by cases hs : s1 with
  | false => rfl
  | true => have := h.c1 (h.d1 hs); rw [hr] at this; cases this
 have := h.br.cell 1
 rw [hs] at this
 exact this
theorem OwR.old2 (h : OwR w0 L l1 l2 A1 A2 r1 b1 s1 r2 b2 s2 v5 v8 v) (hr : r2 = false) : v.cell? ⟨w0.heap.size, 2, none⟩ = some A2 := by
 have hs : s2 = false := by cases hs : s2 with
  | false => rfl
  | true => have := h.c2 (h.d2 hs); rw [hr] at this; cases this
 have := h.br.cell 2
 rw [hs] at this
 exact this
theorem own_ltS {w : World} {base : Nat} {e : TypeId} {k : Nat} {u : Value} {xs : List (List Value)} (h : Own w base e k u xs) : ∀ r, u.ownBlock = some r → r < w.heap.size := fun r hr => (h.1.lt r hr).2
theorem OwR.put1 (h : OwR w0 L l1 l2 A1 A2 true b1 s1 r2 b2 s2 v5 v8 v) (hf : b1 = false) {B : Option Addr} {d : Nat} (ho : Own v' v.heap.size 2 1 (.slice B l1.length d) (l1.map ic)) (hb : Below v.heap.size v v') :
  OwR w0 L l1 l2 A1 A2 true true s1 r2 b2 s2 (.slice B l1.length d) v8 v' := by
 have hs : s1 = false := by cases hs : s1 with
  | false => rfl
  | true => have := h.d1 hs; rw [hf] at this; cases this
 subst hs
 exact ⟨h.hb.trans (hb.mono h.hb.size), h.br.below hb h.br.lt, h.bo.below hb h.bo.lt, fun _ => rfl, h.c2, nofun, h.d2, fun _ => ⟨B, d, rfl, ho.mono h.size⟩, fun e => by
  obtain ⟨B', d', h1, h2⟩ := h.o2 e
  exact ⟨B', d', h1, h2.below hb⟩, fun _ e => by
  obtain ⟨B', d', rfl, h2⟩ := h.o2 e
  exact (apart_two (own_ltS h2) ho.ownGe).2⟩
theorem OwR.put2 (h : OwR w0 L l1 l2 A1 A2 r1 b1 s1 true b2 s2 v5 v8 v) (hf : b2 = false) {B : Option Addr} {d : Nat} (ho : Own v' v.heap.size 2 1 (.slice B l2.length d) (l2.map ic)) (hb : Below v.heap.size v v') :
  OwR w0 L l1 l2 A1 A2 r1 b1 s1 true true s2 v5 (.slice B l2.length d) v' := by
 have hs : s2 = false := by cases hs : s2 with
  | false => rfl
  | true => have := h.d2 hs; rw [hf] at this; cases this
 subst hs
 exact ⟨h.hb.trans (hb.mono h.hb.size), h.br.below hb h.br.lt, h.bo.below hb h.bo.lt, h.c1, fun _ => rfl, h.d1, nofun, fun e => by
  obtain ⟨B', d', h1, h2⟩ := h.o1 e
  exact ⟨B', d', h1, h2.below hb⟩, fun _ => ⟨B, d, rfl, ho.mono h.size⟩, fun e _ => by
  obtain ⟨B', d', rfl, h2⟩ := h.o1 e
  exact (apart_two (own_ltS h2) ho.ownGe).1⟩
theorem OwR.put1' (h : OwR w0 L l1 l2 A1 A2 r1 b1 s1 r2 b2 s2 v5 v8 v) (hr : r1 = true) (hf : b1 = false) {B : Option Addr} {d : Nat} (ho : Own v' v.heap.size 2 1 (.slice B l1.length d) (l1.map ic)) (hb : Below v.heap.size v v') :
  OwR w0 L l1 l2 A1 A2 r1 true s1 r2 b2 s2 (.slice B l1.length d) v8 v' := by
 subst hr
 exact h.put1 hf ho hb
theorem OwR.put2' (h : OwR w0 L l1 l2 A1 A2 r1 b1 s1 r2 b2 s2 v5 v8 v) (hr : r2 = true) (hf : b2 = false) {B : Option Addr} {d : Nat} (ho : Own v' v.heap.size 2 1 (.slice B l2.length d) (l2.map ic)) (hb : Below v.heap.size v v') :
  OwR w0 L l1 l2 A1 A2 r1 b1 s1 r2 true s2 v5 (.slice B l2.length d) v' := by
 subst hr
 exact h.put2 hf ho hb
theorem OwR.st1 (h : OwR w0 L l1 l2 A1 A2 r1 b1 s1 r2 b2 s2 v5 v8 v) (e : b1 = true) : OwR w0 L l1 l2 A1 A2 r1 b1 true r2 b2 s2 v5 v8 (v.setCell ⟨w0.heap.size, 1, none⟩ v5) :=
 ⟨h.hb.setCell (Nat.le_refl _) _, h.br.set_ 1 v5, h.bo.far (by simp) _, h.c1, h.c2, fun _ => e, h.d2, fun e => by
  obtain ⟨B, d, h1, h2⟩ := h.o1 e
  exact ⟨B, d, h1, own_far h2 (by omega)⟩, fun e => by
  obtain ⟨B, d, h1, h2⟩ := h.o2 e
  exact ⟨B, d, h1, own_far h2 (by omega)⟩, h.ap⟩
theorem OwR.st2 (h : OwR w0 L l1 l2 A1 A2 r1 b1 s1 r2 b2 s2 v5 v8 v) (e : b2 = true) : OwR w0 L l1 l2 A1 A2 r1 b1 s1 r2 b2 true v5 v8 (v.setCell ⟨w0.heap.size, 2, none⟩ v8) :=
 ⟨h.hb.setCell (Nat.le_refl _) _, h.br.set_ 2 v8, h.bo.far (by simp) _, h.c1, h.c2, h.d1, fun _ => e, fun e => by
  obtain ⟨B, d, h1, h2⟩ := h.o1 e
  exact ⟨B, d, h1, own_far h2 (by omega)⟩, fun e => by
  obtain ⟨B, d, h1, h2⟩ := h.o2 e
  exact ⟨B, d, h1, own_far h2 (by omega)⟩, h.ap⟩
end
set_option maxRecDepth 100000 in
set_option maxHeartbeats 1000000 in
theorem ownRule_c (L : Int) (A1 : Option Addr) (c1 : Nat) (l1 : List Int) (A2 : Option Addr) (c2 : Nat) (l2 : List Int) (w : World) (h1 : l1.length ≤ 1048576) (h2 : l2.length ≤ 1048576) (hs1 : Sl w w.heap.size 1 A1 (l1.map ic)) (hs2 : Sl w w.heap.size 1 A2 (l2.map ic)) :
  Calls Tryz.prog 53 #[.agg #[.int .i64 L, .slice A1 l1.length c1, .slice A2 l2.length c2]] w fun e w' => RulePost L l1 l2 w e w' := by
 have H1 := Lib.hid (fun (W : World) (hW : Below w.heap.size w W) => cloneInt_c A1 c1 l1 W (by omega) ((hs1.below hW).more hW.size))
 have H2 := Lib.hid (fun (W : World) (hW : Below w.heap.size w W) => cloneInt_c A2 c2 l2 W (by omega) ((hs2.below hW).more hW.size))
 have hb0 : Below w.heap.size w ((w.alloc (.cells #[.int .i64 L, .slice A1 l1.length c1, .slice A2 l2.length c2] 26)).alloc (.cells #[.int .i64 0, .slice none 0 0, .slice none 0 0] 26)) := (by repeat first | with_reducible (first | exact Below.refl _ _ | apply below_drewN' | apply Below.drew | refine Below.alloc ?_ ?_ _ | refine Below.setCell ?_ ?_ _) | exact Below.refl _ _ | omega | (simp <;> omega) | (have := (Below.refl _ _).size; first | omega | (simp <;> omega)))
 have br0 := (Blk.new w 26 #[.int .i64 L, .slice A1 l1.length c1, .slice A2 l2.length c2]).alloc (.cells #[.int .i64 0, .slice none 0 0, .slice none 0 0] 26)
 have bo0 := Blk.new' (w.alloc (.cells #[.int .i64 L, .slice A1 l1.length c1, .slice A2 l2.length c2] 26)) 26 #[.int .i64 0, .slice none 0 0, .slice none 0 0] (g := w.heap.size + 1) (by simp)
 clear hs1 hs2
 go_enter Tryz.func53, Tryz.ntmps53
 go_wp2_with fail
 generalize ((w.alloc (.cells #[.int .i64 L, .slice A1 l1.length c1, .slice A2 l2.length c2] 26)).alloc (.cells #[.int .i64 0, .slice none 0 0, .slice none 0 0] 26)) = W at *
 refine wp_region_all (fun a0 fL bA v => ∃ v3 v4 v5 v6 v7 v8 v9 v10 : Value, bA = (((((((a0.put (some 3) v3).put (some 4) v4).put (some 5) v5).put (some 6) v6).put (some 7) v7).put (some 8) v8).put (some 9) v9).put (some 10) v10 ∧ (OwR w L l1 l2 (.slice A1 l1.length c1) (.slice A2 l2.length c2) (fL 1) (fL 2) (fL 7) (fL 4) (fL 5) (fL 9) v5 v8 v) ∧ (fL 0 = true → v3 = .pointer (some ⟨w.heap.size, 1, none⟩)) ∧ (fL 1 = true → v4 = .slice A1 l1.length c1) ∧ (fL 2 = true → True) ∧ (fL 3 = true → v6 = .pointer (some ⟨w.heap.size, 2, none⟩)) ∧ (fL 4 = true → v7 = .slice A2 l2.length c2) ∧ (fL 5 = true → True) ∧ (fL 6 = true → v9 = .pointer (some ⟨w.heap.size, 1, none⟩)) ∧ (fL 8 = true → v10 = .pointer (some ⟨w.heap.size, 2, none⟩))) (by kernel_rfl) (by decide +kernel) ?_ ?_ ?_
 ·exact ⟨undef, undef, undef, undef, undef, undef, undef, undef, by simp only [Act.put, List.setIfInBounds_toArray, List.set_cons_zero, List.set_cons_succ], ⟨hb0.drew, br0, bo0, nofun, nofun, nofun, nofun, nofun, nofun, nofun⟩, nofun, nofun, nofun, nofun, nofun, nofun, nofun, nofun⟩
 ·rintro fL bA v ⟨v3, v4, v5, v6, v7, v8, v9, v10, rfl, hS, q0, q1, q2, q3, q4, q5, q6, q8⟩ i hi hf o ho hall
  simp only [Act.put, List.setIfInBounds_toArray, List.set_cons_zero, List.set_cons_succ]
  simp only [List.length_cons, List.length_nil] at hi
  have hn : i = 0 ∨ i = 1 ∨ i = 2 ∨ i = 3 ∨ i = 4 ∨ i = 5 ∨ i = 6 ∨ i = 7 ∨ i = 8 ∨ i = 9 := by omega
  clear hi
  rcases hn with rfl | rfl | rfl | rfl | rfl | rfl | rfl | rfl | rfl | rfl
  ·obtain rfl := Option.some.inj ho
   clear hall ho
   refine wpOp_step rfl (fun K hK => ?_)
   go_simp
   exact hK _ _ ⟨_, _, _, _, _, _, _, _, rfl, hS, fun _ => rfl, q1, fun _ => trivial, q3, q4, fun _ => trivial, q6, q8⟩
  ·obtain rfl := Option.some.inj ho
   obtain rfl := q0 (hall ⟨0, .data⟩ (by simp) rfl)
   have y0 := hS.old1 hf
   clear hall ho
   refine wpOp_step rfl (fun K hK => ?_)
   go_simp
   exact hK _ _ ⟨_, _, _, _, _, _, _, _, rfl, hS.rd1, fun _ => rfl, fun _ => rfl, fun _ => trivial, q3, q4, fun _ => trivial, q6, q8⟩
  ·obtain rfl := Option.some.inj ho
   obtain rfl := q1 (hall ⟨1, .data⟩ (by simp) rfl)
   have r1 : fL 1 = true := hall ⟨1, .data⟩ (by simp) rfl
   clear hall ho
   refine wpOp_step rfl (fun K hK => ?_)
   go_simp
   refine Calls.mono (H1.out v hS.hb) ?_; rintro e w7 ⟨B, d, rfl, ho, hb7⟩
   go_simp
   exact hK _ _ ⟨_, _, _, _, _, _, _, _, rfl, by have h := hS.put1' r1 hf ho hb7; exact h, q0, fun _ => rfl, fun _ => trivial, q3, q4, fun _ => trivial, q6, q8⟩
  ·obtain rfl := Option.some.inj ho
   clear hall ho
   refine wpOp_step rfl (fun K hK => ?_)
   go_simp
   exact hK _ _ ⟨_, _, _, _, _, _, _, _, rfl, hS, q0, q1, fun _ => trivial, fun _ => rfl, q4, fun _ => trivial, q6, q8⟩
  ·obtain rfl := Option.some.inj ho
   obtain rfl := q3 (hall ⟨3, .data⟩ (by simp) rfl)
   have y0 := hS.old2 hf
   clear hall ho
   refine wpOp_step rfl (fun K hK => ?_)
   go_simp
   exact hK _ _ ⟨_, _, _, _, _, _, _, _, rfl, hS.rd2, q0, q1, fun _ => trivial, fun _ => rfl, fun _ => rfl, fun _ => trivial, q6, q8⟩
  ·obtain rfl := Option.some.inj ho
   obtain rfl := q4 (hall ⟨4, .data⟩ (by simp) rfl)
   have r2 : fL 4 = true := hall ⟨4, .data⟩ (by simp) rfl
   clear hall ho
   refine wpOp_step rfl (fun K hK => ?_)
   go_simp
   refine Calls.mono (H2.out v hS.hb) ?_; rintro e w7 ⟨B, d, rfl, ho, hb7⟩
   go_simp
   exact hK _ _ ⟨_, _, _, _, _, _, _, _, rfl, by have h := hS.put2' r2 hf ho hb7; exact h, q0, q1, fun _ => trivial, q3, fun _ => rfl, fun _ => trivial, q6, q8⟩
  ·obtain rfl := Option.some.inj ho
   clear hall ho
   refine wpOp_step rfl (fun K hK => ?_)
   go_simp
   exact hK _ _ ⟨_, _, _, _, _, _, _, _, rfl, hS, q0, q1, fun _ => trivial, q3, q4, fun _ => trivial, fun _ => rfl, q8⟩
  ·obtain rfl := Option.some.inj ho
   obtain rfl := q6 (hall ⟨6, .data⟩ (by simp) rfl)
   have e2 : fL 2 = true := hall ⟨2, .data⟩ (by simp) rfl
   obtain ⟨B, d, rfl, _⟩ := hS.o1 e2
   have y0 := hS.br.cell 1
   have yf := hS.br.frozen 1
   clear hall ho
   refine wpOp_step rfl (fun K hK => ?_)
   go_simp
   exact hK _ _ ⟨_, _, _, _, _, _, _, _, rfl, hS.st1 e2, q0, q1, fun _ => trivial, q3, q4, fun _ => trivial, fun _ => rfl, q8⟩
  ·obtain rfl := Option.some.inj ho
   clear hall ho
   refine wpOp_step rfl (fun K hK => ?_)
   go_simp
   exact hK _ _ ⟨_, _, _, _, _, _, _, _, rfl, hS, q0, q1, fun _ => trivial, q3, q4, fun _ => trivial, q6, fun _ => rfl⟩
  ·obtain rfl := Option.some.inj ho
   obtain rfl := q8 (hall ⟨8, .data⟩ (by simp) rfl)
   have e5 : fL 5 = true := hall ⟨5, .data⟩ (by simp) rfl
   obtain ⟨B, d, rfl, _⟩ := hS.o2 e5
   have y0 := hS.br.cell 2
   have yf := hS.br.frozen 2
   clear hall ho
   refine wpOp_step rfl (fun K hK => ?_)
   go_simp
   exact hK _ _ ⟨_, _, _, _, _, _, _, _, rfl, hS.st2 e5, q0, q1, fun _ => trivial, q3, q4, fun _ => trivial, q6, fun _ => rfl⟩
 ·rintro fL bA v ⟨v3, v4, v5, v6, v7, v8, v9, v10, rfl, hS, q0, q1, q2, q3, q4, q5, q6, q8⟩ hall
  simp only [Act.put, List.setIfInBounds_toArray, List.set_cons_zero, List.set_cons_succ]
  simp only [List.length_cons, List.length_nil] at hall
  obtain rfl := q0 (hall 0 (by omega))
  obtain rfl := q1 (hall 1 (by omega))
  have e2 : fL 2 = true := hall 2 (by omega)
  obtain rfl := q3 (hall 3 (by omega))
  obtain rfl := q4 (hall 4 (by omega))
  have e5 : fL 5 = true := hall 5 (by omega)
  obtain rfl := q6 (hall 6 (by omega))
  obtain rfl := q8 (hall 8 (by omega))
  have e7 : fL 7 = true := hall 7 (by omega)
  have e9 : fL 9 = true := hall 9 (by omega)
  clear hall
  obtain ⟨B1, d1, rfl, o1⟩ := hS.o1 e2
  obtain ⟨B2, d2, rfl, o2⟩ := hS.o2 e5
  have hap := hS.ap e2 e5
  have hb := hS.hb
  have br := hS.br
  have bo := hS.bo
  rw [e7, e9] at br
  have y0 : v.cell? ⟨w.heap.size, 0, none⟩ = some (.int .i64 L) := br.cell 0
  have y1 : v.cell? ⟨w.heap.size, 1, none⟩ = some (.slice B1 l1.length d1) := br.cell 1
  have y2 : v.cell? ⟨w.heap.size, 2, none⟩ = some (.slice B2 l2.length d2) := br.cell 2
  have z0 : v.cell? ⟨w.heap.size + 1, 0, none⟩ = some (.int .i64 0) := bo.cell 0
  have z1 : v.cell? ⟨w.heap.size + 1, 1, none⟩ = some (.slice none 0 0) := bo.cell 1
  have z2 : v.cell? ⟨w.heap.size + 1, 2, none⟩ = some (.slice none 0 0) := bo.cell 2
  have zf0 := bo.frozen 0
  have zf1 := bo.frozen 1
  have zf2 := bo.frozen 2
  clear hS
  go_wp2
  refine bodyPost_ret (v := .agg #[.int .i64 L, .slice B1 l1.length d1, .slice B2 l2.length d2]) (by simp [results, Tryz.results53, go_sem, z0, z1, z2]) rfl ⟨B1, d1, B2, d2, rfl, ?_, ?_, hap, (by repeat first | with_reducible (first | exact hb | apply below_drewN' | apply Below.drew | refine Below.alloc ?_ ?_ _ | refine Below.setCell ?_ ?_ _) | exact hb | omega | (simp <;> omega) | (have := (hb).size; first | omega | (simp <;> omega)))⟩
  ·exact own_mono (own_far (own_far (own_far o1 (by omega)) (by omega)) (by omega)) (by omega)
  ·exact own_mono (own_far (own_far (own_far o2 (by omega)) (by omega)) (by omega)) (by omega)
end Go.Proofs.YtednjmldjbndhaaGreat
