/- The reference's draw of an exercise and its answers. Condition: the code has at most 4096 bytes. -/
import Derived.Test.YtednjmldjbndhaaGreatKSc29
set_option linter.unusedSimpArgs false
set_option linter.unusedVariables false
namespace Go.Proofs.YtednjmldjbndhaaGreat
open Go.RowKit
theorem MvN.lt_ {v : World} {lo : Nat} {A : Option Addr} {l : List Move} (h : MvN v lo A l) (hl : l ≠ []) {b off : Nat} (e : A = some ⟨b, off, none⟩) : b < v.heap.size := by
 cases l with
 | nil => exact absurd rfl hl
 | cons x t =>
  obtain ⟨_, b', off', hA, hb, _⟩ := h.s 0 x.cells (by simp)
  rw [e] at hA
  cases hA
  exact hb
theorem MvN.app {v v' : World} {lo : Nat} {A : Option Addr} {l : List Move} {o : Option Nat} (h : MvN v lo A l) (hg : v.grownBy v' o) (hne : l ≠ [] → ∀ b off, A = some ⟨b, off, none⟩ → some b ≠ o) : MvN v' lo A l :=
 ⟨fun i x hx => by
  have hl0 : l ≠ [] := by rintro rfl; simp at hx
  obtain ⟨hl, b, off, rfl, hb, hc⟩ := h.s i x hx
  exact ⟨hl, b, off, rfl, Nat.lt_of_lt_of_le hb hg.size, fun j v hv => (World.cell?_of_block (a := ⟨b, off + i * 4 + j, none⟩) (hg.block b hb (hne hl0 b off rfl))).trans (hc j v hv)⟩, h.nb⟩
/-- an answer's moves lie apart from the block ow -/
def MvO (v : World) (lo : Nat) (ow : Option Nat) (e : AnR) : Prop := MvN v lo e.A e.l ∧ (e.l.length ≤ 100 ∧ e.l.length ≤ e.c) ∧ (e.l ≠ [] → ∀ b off, e.A = some ⟨b, off, none⟩ → some b ≠ ow)
/-- a list of answers that grows; the answers of ex are held besides -/
structure AsS (A : Option Addr) (n c g : Nat) (w4 : World) (ex es : List AnR) (Al : Option Addr) (cl : Nat) (v : World) : Prop where
 s : Src v A n c g
 gr : w4.grownBy v (some g)
 gl : g < w4.heap.size
 o : Own v w4.heap.size 53 3 (.slice Al es.length cl) (es.map AnR.cells)
 m : ∀ e ∈ ex ++ es, MvO v w4.heap.size (Value.slice Al es.length cl).ownBlock e
section
variable {A : Option Addr} {n c g : Nat} {w4 v v' : World} {ex es : List AnR} {Al : Option Addr} {cl : Nat} {u : Value}
theorem AsS.start (hS : Src w4 A n c g) : AsS A n c g w4 [] [] (some ⟨w4.heap.size, 0, none⟩) 0 (w4.alloc (.cells #[] 53)) :=
 ⟨hS.alloc _, grown_alloc _ _, hS.lt, Own.empty (Nat.le_refl _), fun e he => by simp at he⟩
theorem AsS.src (h : AsS A n c g w4 ex es Al cl v) (hS : Src v' A n c g) (hg : v.grownBy v' (some g)) : AsS A n c g w4 ex es Al cl v' :=
 ⟨hS, h.gr.trans hg, h.gl, h.o.src hg h.gl, fun e he => ⟨(h.m e he).1.src hg h.gl, (h.m e he).2⟩⟩
theorem AsS.below (h : AsS A n c g w4 ex es Al cl v) (hb : Below v.heap.size v v') : AsS A n c g w4 ex es Al cl v' :=
 ⟨h.s.below hb, h.gr.trans (grown_below hb), h.gl, h.o.below hb, fun e he => ⟨(h.m e he).1.below hb, (h.m e he).2⟩⟩
theorem AsS.alloc (h : AsS A n c g w4 ex es Al cl v) (ob : Obj) : AsS A n c g w4 ex es Al cl (v.alloc ob) := h.below ((Below.refl _ _).alloc (Nat.le_refl _) ob)
theorem AsS.held (h : AsS A n c g w4 ex es Al cl v) {e : AnR} (he : MvO v w4.heap.size (Value.slice Al es.length cl).ownBlock e) : AsS A n c g w4 (e :: ex) es Al cl v :=
 ⟨h.s, h.gr, h.gl, h.o, fun e' he' => by
  rcases List.mem_cons.1 he' with rfl | he'
  ·exact he
  ·exact h.m e' he'⟩
/-- an answer just drawn lies apart from the list -/
theorem AsS.new (h : AsS A n c g w4 ex es Al cl v) {A' : Option Addr} {c' : Nat} {l : List Move} {a b : Int} (hM : MvN v' v.heap.size A' l) (hl : l.length ≤ 100 ∧ l.length ≤ c') : MvO v' w4.heap.size (Value.slice Al es.length cl).ownBlock ⟨A', c', l, a, b⟩ :=
 ⟨hM.weak h.gr.size, hl, fun _ x off e hx => by
  have h1 := hM.nb x off e
  have h2 := (h.o.1.lt x hx.symm).2
  omega⟩
theorem AsS.push (h : AsS A n c g w4 ex es Al cl v) {e : AnR} (he : MvO v w4.heap.size (Value.slice Al es.length cl).ownBlock e) (ob : Obj) (hO : Own v' w4.heap.size 53 3 u (es.map AnR.cells ++ [e.cells])) (hg : (v.alloc ob).grownBy v' (Value.slice Al es.length cl).ownBlock) (hat : u.ownBlock = (Value.slice Al es.length cl).ownBlock ∨ u.ownBlock = some (v.alloc ob).heap.size) :
  ∃ Al' cl', u = .slice Al' (es ++ [e]).length cl' ∧ AsS A n c g w4 ex (es ++ [e]) Al' cl' v' := by
 obtain ⟨Al', cl', rfl, hc⟩ := hO.form
 have hl : (es.map AnR.cells ++ [e.cells]).length = (es ++ [e]).length := by simp
 have hrow : es.map AnR.cells ++ [e.cells] = (es ++ [e]).map AnR.cells := by simp
 rw [hl] at hO hat
 rw [hl]
 rw [hrow] at hO
 have h1 := h.alloc ob
 have ho := h.o.ownGe
 have hz : v.heap.size < (v.alloc ob).heap.size := by simp
 refine ⟨Al', cl', rfl, h1.s.grown hg (fun r hr => Nat.lt_of_lt_of_le h.gl (ho r hr)), grown_app h1.gr hg ho, h.gl, hO, fun e' he' => ?_⟩
 have he2 : MvO v w4.heap.size (Value.slice Al es.length cl).ownBlock e' := by
  rcases List.mem_append.1 he' with h2 | h2
  ·exact h.m e' (List.mem_append.2 (.inl h2))
  ·rcases List.mem_append.1 h2 with h3 | h3
   ·exact h.m e' (List.mem_append.2 (.inr h3))
   ·rw [List.mem_singleton.1 h3]; exact he
 refine ⟨(he2.1.alloc ob).app hg he2.2.2, he2.2.1, fun hl b off hA => ?_⟩
 rcases hat with h2 | h2
 ·rw [h2]; exact he2.2.2 hl b off hA
 ·rw [h2]
  have := he2.1.lt_ hl hA
  simp only [ne_eq, Option.some.injEq]
  omega
/-- the list alone -/
structure AsW (w4 : World) (es : List AnR) (Al : Option Addr) (cl : Nat) (v : World) : Prop where
 o : Own v w4.heap.size 53 3 (.slice Al es.length cl) (es.map AnR.cells)
 m : ∀ e ∈ es, MvN v w4.heap.size e.A e.l ∧ (e.l.length ≤ 100 ∧ e.l.length ≤ e.c)
theorem Own.setLt {base : Nat} {e : TypeId} {k b j : Nat} {xs : List (List Value)} {x : Value} (h : Own v base e k u xs) (hb : b < base) : Own (v.setCell ⟨b, j, none⟩ x) base e k u xs :=
 h.setNe (fun e => by have := (h.1.lt _ e).1; omega) _ _
theorem AsW.set {b j : Nat} {x : Value} (h : AsW w4 es Al cl v) (hb : b < w4.heap.size) : AsW w4 es Al cl (v.setCell ⟨b, j, none⟩ x) :=
 ⟨h.o.setLt hb, fun e he => ⟨(h.m e he).1.set hb _, (h.m e he).2⟩⟩
theorem AsW.in_ (h : AsW w4 es Al cl v) (hn : es.length ≤ 1048576) : AnsIn v Al es :=
 ⟨hn, h.o.sl, fun e he => have q := h.m e he; ⟨by have := q.2.1; omega, q.2.2, q.1.s⟩⟩
theorem AsS.weak (h : AsS A n c g w4 ex es Al cl v) : AsW w4 es Al cl v := ⟨h.o, fun e he => have q := h.m e (List.mem_append.2 (.inr he)); ⟨q.1, q.2.1⟩⟩
theorem AsS.in_ (h : AsS A n c g w4 ex es Al cl v) (hn : es.length ≤ 1048576) : AnsIn v Al es :=
 ⟨hn, h.o.sl, fun e he => have q := h.m e (List.mem_append.2 (.inr he)); ⟨by have := q.2.1; omega, q.2.1.2, q.1.s⟩⟩
end
theorem AnR.one {l : List AnR} : ∀ y ∈ l.map AnR.cells, ∀ u ∈ y, u.oneCell' = true := fun y hy u hu => by
 obtain ⟨s, _, rfl⟩ := List.mem_map.1 hy
 simp [AnR.cells] at hu
 repeat (first | (rcases hu with rfl | hu; rfl) | (subst hu; rfl))
theorem info_AnswerX : (Tryz.prog.info? 53).map (fun i => (i.zero, i.size, i.bytes)) = some (some (.agg #[.slice none 0 0, .int .i64 0, .int .i64 0]), 3, 40) := by kernel_rfl
/-- an exercise and answers, drawn -/
def DSo (w : World) (e : Ending) (w' : World) : Prop := ∃ (L : Int) (l1 l2 : List Int) (l3 : List Term) (A1 A2 A3 : Option Addr) (c1 c2 c3 : Nat) (p q r : Int) (es : List AnR) (Al : Option Addr) (cl : Nat), e = .returned (.tuple #[.agg #[.int .i64 L, .slice A1 l1.length c1, .slice A2 l2.length c2, .slice A3 l3.length c3, .int .i64 p, .int .i64 q, .int .i64 r], .slice Al es.length cl]) ∧
 ExIn w' A1 c1 l1 A2 c2 l2 A3 c3 l3 ∧ AnsIn w' Al es ∧ (es.length ≤ 100 ∧ es.length ≤ cl) ∧ Below w.heap.size w w'
set_option maxRecDepth 100000 in
set_option maxHeartbeats 1000000 in
theorem drawScoreOf_c (A : Option Addr) (n c : Nat) (w : World) (hn : n ≤ 4096) (hb : Bytes w A n w.heap.size) : Calls Tryz.prog 7 #[.slice A n c] w (DSo w) := by
 obtain ⟨i0, hi, hz0, hz1, hz2⟩ := info_parts info_AnswerX
 have hF := Lib.hid (l01From_c A n c (w.alloc (.cells #[.int .i64 0, .slice none 0 0, .slice none 0 0, .slice none 0 0, .int .i64 0, .int .i64 0, .int .i64 0] 31)) hn ((hb.keep fun p hp => World.cell?_alloc_lt w _ p hp).more (by simp)))
 have BN := Blk.new w 31 #[.int .i64 0, .slice none 0 0, .slice none 0 0, .slice none 0 0, .int .i64 0, .int .i64 0, .int .i64 0]
 have hB0 : Below w.heap.size w (w.alloc (.cells #[.int .i64 0, .slice none 0 0, .slice none 0 0, .slice none 0 0, .int .i64 0, .int .i64 0, .int .i64 0] 31)) := (by repeat first | with_reducible (first | exact Below.refl _ _ | apply below_drewN' | apply Below.drew | refine Below.alloc ?_ ?_ _ | refine Below.setCell ?_ ?_ _) | exact Below.refl _ _ | omega | (simp <;> omega) | (have := (Below.refl _ _).size; first | omega | (simp <;> omega)))
 have hz9 : (w.alloc (.cells #[.int .i64 0, .slice none 0 0, .slice none 0 0, .slice none 0 0, .int .i64 0, .int .i64 0, .int .i64 0] 31)).heap.size = w.heap.size + 1 := by simp
 clear hb
 unfold DSo
 go_enter Tryz.func7, Tryz.ntmps7
 go_wp2_with fail
 generalize w.alloc (.cells #[.int .i64 0, .slice none 0 0, .slice none 0 0, .slice none 0 0, .int .i64 0, .int .i64 0, .int .i64 0] 31) = w0 at *
 refine hF.out.mono ?_; rintro e w1 ⟨rfl, hS, hb1⟩
 have BN := BN.below hb1 BN.lt
 have hB := hB0.trans (hb1.mono hB0.size)
 have hbz := hb1.size
 clear hF hb1 hB0
 rw [hz9] at hS
 go_wp2_with fail
 generalize hgw : w.heap.size + 1 = g at *
 have hgl : g < w1.heap.size := hS.lt
 have hgw2 : w.heap.size ≠ g ∧ w.heap.size ≤ g := by omega
 refine (l31Draw_c A n c g _ hS).mono ?_; rintro e w2 ⟨L, l1, l2, l3, A1, A2, A3, c1, c2, c3, p, q, r, rfl, hll, hO1, hO2, hO3, hS, hg⟩
 have BN := BN.src hg hgw2.1
 have hB := below_src hB hg hB.size hgw2.2
 have hsz := hg.size
 have hO1 := hO1.alloc (.cells #[.int .i64 L, .slice A1 l1.length c1, .slice A2 l2.length c2, .slice A3 l3.length c3, .int .i64 p, .int .i64 q, .int .i64 r] 31)
 have hO2 := hO2.alloc (.cells #[.int .i64 L, .slice A1 l1.length c1, .slice A2 l2.length c2, .slice A3 l3.length c3, .int .i64 p, .int .i64 q, .int .i64 r] 31)
 have hO3 := hO3.alloc (.cells #[.int .i64 L, .slice A1 l1.length c1, .slice A2 l2.length c2, .slice A3 l3.length c3, .int .i64 p, .int .i64 q, .int .i64 r] 31)
 have BN := BN.alloc (.cells #[.int .i64 L, .slice A1 l1.length c1, .slice A2 l2.length c2, .slice A3 l3.length c3, .int .i64 p, .int .i64 q, .int .i64 r] 31)
 have BX := Blk.new w2 31 #[.int .i64 L, .slice A1 l1.length c1, .slice A2 l2.length c2, .slice A3 l3.length c3, .int .i64 p, .int .i64 q, .int .i64 r]
 have hS := hS.alloc (.cells #[.int .i64 L, .slice A1 l1.length c1, .slice A2 l2.length c2, .slice A3 l3.length c3, .int .i64 p, .int .i64 q, .int .i64 r] 31)
 have hB := hB.alloc (by omega) (.cells #[.int .i64 L, .slice A1 l1.length c1, .slice A2 l2.length c2, .slice A3 l3.length c3, .int .i64 p, .int .i64 q, .int .i64 r] 31)
 have hsz2 : (w2.alloc (.cells #[.int .i64 L, .slice A1 l1.length c1, .slice A2 l2.length c2, .slice A3 l3.length c3, .int .i64 p, .int .i64 q, .int .i64 r] 31)).heap.size = w2.heap.size + 1 := by simp
 clear hg
 have hL := AsS.start hS
 have hxx : w2.heap.size ≠ g := by omega
 have hxn : w2.heap.size ≠ w.heap.size := by omega
 go_wp2_with fail
 generalize w2.alloc (.cells #[.int .i64 L, .slice A1 l1.length c1, .slice A2 l2.length c2, .slice A3 l3.length c3, .int .i64 p, .int .i64 q, .int .i64 r] 31) = w4 at *
 rw [← hsz2]
 have hsz5 : (w4.alloc (.cells #[] 53)).heap.size = w4.heap.size + 1 := by simp
 generalize w4.alloc (.cells #[] 53) = w5 at *
 generalize hb2 : w2.heap.size = b2 at *
 clear hS
 refine (l01Next_c A n c g _ _ hL.s).mono ?_; rintro e w6 ⟨x, rfl, ⟨xa, xb⟩, xd, hS, hg⟩
 have hL := hL.src hS hg
 clear hS hg
 obtain ⟨k, rfl⟩ := Int.eq_ofNat_of_zero_le xa
 have hk : k ≤ 4 := by omega
 clear xa xb xd
 have hV : ∃ (es : List AnR) (Al : Option Addr) (cl : Nat), (Value.slice (some ⟨w4.heap.size, 0, none⟩) 0 0) = .slice Al es.length cl ∧ es.length + k ≤ 4 ∧ AsS A n c g w4 [] es Al cl w6 := ⟨[], some ⟨w4.heap.size, 0, none⟩, 0, rfl, by simp; omega, hL⟩
 clear hL
 have HX5 := Lib.hid hsz5
 go_wp2_with fail
 go_loopg [6, 7] 4 (fun gx s6 s7 wr => ∃ (es : List AnR) (Al : Option Addr) (cl k : Nat), s6 = .slice Al es.length cl ∧ s7 = .int .i64 (k : Int) ∧ k ≤ gx ∧ es.length + k ≤ 4 ∧ AsS A n c g w4 [] es Al cl wr)
 case atStart =>
  obtain ⟨es, Al, cl, h1, h2, h3⟩ := hV
  rw [hsz2] at h1
  exact ⟨es, Al, cl, k, h1, rfl, by omega, h2, h3⟩
 case round =>
  clear hV hk
  obtain ⟨es, Al, cl, k, hs6, hs7, hkg, hke, hL⟩ := hrel
  subst hs6; subst hs7
  by_cases hk0 : (0 : Int) < (k : Int)
  ·have hw1 : IntKind.i64.wrap ((k : Int) - 1) = ((k - 1 : Nat) : Int) := by rw [IntWalk.i64_in _ (by omega)]; omega
   have BX1 := BX.src hL.gr hxx
   have x0_ : World.cell? _ ⟨b2, 0, none⟩ = some (.int .i64 L) := BX1.cell 0
   have x1_ : World.cell? _ ⟨b2, 1, none⟩ = some (.slice A1 l1.length c1) := BX1.cell 1
   have x2_ : World.cell? _ ⟨b2, 2, none⟩ = some (.slice A2 l2.length c2) := BX1.cell 2
   have x3_ : World.cell? _ ⟨b2, 3, none⟩ = some (.slice A3 l3.length c3) := BX1.cell 3
   have x4_ : World.cell? _ ⟨b2, 4, none⟩ = some (.int .i64 p) := BX1.cell 4
   have x5_ : World.cell? _ ⟨b2, 5, none⟩ = some (.int .i64 q) := BX1.cell 5
   have x6_ : World.cell? _ ⟨b2, 6, none⟩ = some (.int .i64 r) := BX1.cell 6
   have HH := Lib.hid (And.intro hkg hke)
   clear BX1 hkg hke
   go_wp2_with fail
   refine (l31DrawAnswer_c A n c g _ hL.s L l1 l2 l3 A1 A2 A3 c1 c2 c3 w1.heap.size p q r hgl (hO1.src hL.gr hgl) (hO2.src hL.gr hgl) (hO3.src hL.gr hgl) hll.1 hll.2.1 hll.2.2).mono ?_; rintro e w7 ⟨ml, A', c', a, b, rfl, hml, hM, hS, hg⟩
   have he := hL.new (a := a) (b := b) hM hml
   have hL := hL.src hS hg
   obtain ⟨hkg, hke⟩ := HH.out
   have hzz := hL.gr.size
   clear hM hS hg x0_ x1_ x2_ x3_ x4_ x5_ x6_
   go_wp2_with (at_builtin; refine wpList_append_rows _ rfl _ _ _ rfl w4.heap.size 53 i0 _ 3 40 Tryz.underlying32 hi hz0 hz1 hz2 rfl (by omega) _ _ rfl (hL.o.alloc _) _ _ _ _ [AnR.cells ⟨A', c', ml, a, b⟩] rfl rfl (Sl.of_blk (Blk.new' _ _ _ (by first | rfl | simp)) _ rfl (by simp [AnR.cells])) (AnR.one (l := [⟨A', c', ml, a, b⟩])) (by simp; unfold maxLen; omega) (by simp; omega) (by first | omega | (simp; omega)) ?_; intro v1 w8 hO3' hg3 hat3)
   obtain ⟨Al', cl', hv1, hL'⟩ := hL.push he _ hO3' hg3 hat3
   go_roundg (k - 1)
   case measure => omega
   case rel => exact ⟨es ++ [⟨A', c', ml, a, b⟩], Al', cl', k - 1, hv1, rfl, by omega, by simp; omega, hL'⟩
  ·have hes : es.length ≤ 4 := by omega
   have hkz : k = 0 := by omega
   clear hkg hke hk0
   subst hkz
   go_wp2_with fail
   refine (l01Next_c A n c g _ _ hL.s).mono ?_; rintro e w8 ⟨x8, rfl, _, _, hS, hg⟩
   have hL := hL.src hS hg
   clear hS hg
   by_cases x80 : x8 = 0
   ·subst x80
    have BX1 := BX.src hL.gr hxx
    have x0_ : World.cell? _ ⟨b2, 0, none⟩ = some (.int .i64 L) := BX1.cell 0
    have x1_ : World.cell? _ ⟨b2, 1, none⟩ = some (.slice A1 l1.length c1) := BX1.cell 1
    have x2_ : World.cell? _ ⟨b2, 2, none⟩ = some (.slice A2 l2.length c2) := BX1.cell 2
    have x3_ : World.cell? _ ⟨b2, 3, none⟩ = some (.slice A3 l3.length c3) := BX1.cell 3
    have x4_ : World.cell? _ ⟨b2, 4, none⟩ = some (.int .i64 p) := BX1.cell 4
    have x5_ : World.cell? _ ⟨b2, 5, none⟩ = some (.int .i64 q) := BX1.cell 5
    have x6_ : World.cell? _ ⟨b2, 6, none⟩ = some (.int .i64 r) := BX1.cell 6
    clear BX1
    go_wp2_with fail
    refine (l31DrawAnswer_c A n c g _ hL.s L l1 l2 l3 A1 A2 A3 c1 c2 c3 w1.heap.size p q r hgl (hO1.src hL.gr hgl) (hO2.src hL.gr hgl) (hO3.src hL.gr hgl) hll.1 hll.2.1 hll.2.2).mono ?_; rintro e w9 ⟨ml, A', c', a, b, rfl, hml, hM, hS, hg⟩
    have he := hL.new (a := a) (b := b) hM hml
    have hL2 := hL.src hS hg
    have hL := (hL2.held he).alloc (.cells #[.slice A' ml.length c', .int .i64 a, .int .i64 b] 53)
    have B8 := Blk.new w9 53 #[.slice A' ml.length c', .int .i64 a, .int .i64 b]
    have hx8 : w9.heap.size ≠ g := by have := hS.lt; omega
    have hz10 : (w9.alloc (.cells #[.slice A' ml.length c', .int .i64 a, .int .i64 b] 53)).heap.size = w9.heap.size + 1 := by simp
    clear hM hS x0_ x1_ x2_ x3_ x4_ x5_ x6_ he
    have hne8 : some w9.heap.size ≠ (Value.slice Al es.length cl).ownBlock := fun e => by have := (hL2.o.1.lt _ e.symm).2; omega
    clear hL2
    go_wp2_with fail
    generalize w9.alloc (.cells #[.slice A' ml.length c', .int .i64 a, .int .i64 b] 53) = w10 at *
    generalize w9.heap.size = b8 at *
    have hV : ∃ (es9 : List AnR) (Al9 : Option Addr) (cl9 : Nat), (Value.slice Al es.length cl) = .slice Al9 es9.length cl9 ∧ es9.length ≤ 40 ∧ AsS A n c g w4 [⟨A', c', ml, a, b⟩] es9 Al9 cl9 w10 ∧ Blk w10 b8 53 #[.slice A' ml.length c', .int .i64 a, .int .i64 b] ∧ some b8 ≠ (Value.slice Al9 es9.length cl9).ownBlock := ⟨es, Al, cl, rfl, by omega, hL, B8, hne8⟩
    clear hL B8 hne8 hes hz10
    go_loopg [6] 40 (fun gx s6 wr => ∃ (es : List AnR) (Al : Option Addr) (cl : Nat), s6 = .slice Al es.length cl ∧ (es.length ≤ 40 ∧ 40 - es.length ≤ gx) ∧ AsS A n c g w4 [⟨A', c', ml, a, b⟩] es Al cl wr ∧ Blk wr b8 53 #[.slice A' ml.length c', .int .i64 a, .int .i64 b] ∧ some b8 ≠ (Value.slice Al es.length cl).ownBlock)
    case atStart =>
     obtain ⟨es9, Al9, cl9, h1, h2, h3, h4, h5⟩ := hV
     exact ⟨es9, Al9, cl9, h1, by omega, h3, h4, h5⟩
    case round =>
     clear hV
     obtain ⟨es, Al, cl, hs6, hes9, hL, B8, hne8⟩ := hrel
     subst hs6
     go_wp2_with fail
     refine (l01Next_c A n c g _ _ hL.s).mono ?_; rintro e w11 ⟨r1, rfl, ⟨r1a, r1b⟩, r1d, hS, hg⟩
     have hL := hL.src hS hg
     have B8 := B8.src hg hx8
     clear hS hg
     have hlI : (es.length : Int) ≤ 40 := by omega
     by_cases hlt2 : (es.length : Int) < 20 + r1
     ·have y0_ : w11.cell? ⟨b8, 0, none⟩ = some (.slice A' ml.length c') := B8.cell 0
      have y1_ : w11.cell? ⟨b8, 1, none⟩ = some (.int .i64 a) := B8.cell 1
      have y2_ : w11.cell? ⟨b8, 2, none⟩ = some (.int .i64 b) := B8.cell 2
      have hbl := B8.lt
      have hzz := hL.gr.size
      have he := hL.m ⟨A', c', ml, a, b⟩ (by simp)
      go_wp2_with (at_builtin; refine wpList_append_rows _ rfl _ _ _ rfl w4.heap.size 53 i0 _ 3 40 Tryz.underlying32 hi hz0 hz1 hz2 rfl (by omega) _ _ rfl (hL.o.alloc _) _ _ _ _ [AnR.cells ⟨A', c', ml, a, b⟩] rfl rfl (Sl.of_blk (Blk.new' _ _ _ (by first | rfl | simp)) _ rfl (by simp [AnR.cells])) (AnR.one (l := [⟨A', c', ml, a, b⟩])) (by simp; unfold maxLen; omega) (by simp; omega) (by first | omega | (simp; omega)) ?_; intro v1 w8' hO3' hg3 hat3)
      obtain ⟨Al', cl', hv1, hL'⟩ := hL.push he _ hO3' hg3 hat3
      have B8' : Blk w8' b8 53 #[.slice A' ml.length c', .int .i64 a, .int .i64 b] := (hg3.block b8 (by simp; omega) hne8).trans (B8.alloc _)
      have hne8' : some b8 ≠ (Value.slice Al' (es ++ [(⟨A', c', ml, a, b⟩ : AnR)]).length cl').ownBlock := by
       rw [← hv1]
       rcases hat3 with h2 | h2
       ·rw [h2]; exact hne8
       ·rw [h2]; simp; omega
      go_roundg (40 - (es.length + 1))
      case measure => omega
      case rel => exact ⟨es ++ [⟨A', c', ml, a, b⟩], Al', cl', hv1, by simp; omega, hL', B8', hne8'⟩
     ·have hes : es.length ≤ 40 := hes9.1
      clear hlI
      have hltd : decide ((es.length : Int) < 20 + r1) = false := decide_eq_false hlt2
      clear B8
      have BN1 := BN.src hL.gr hgw2.1
      have BX1 := BX.src hL.gr hxx
      have x0_ : World.cell? _ ⟨b2, 0, none⟩ = some (.int .i64 L) := BX1.cell 0
      have x1_ : World.cell? _ ⟨b2, 1, none⟩ = some (.slice A1 l1.length c1) := BX1.cell 1
      have x2_ : World.cell? _ ⟨b2, 2, none⟩ = some (.slice A2 l2.length c2) := BX1.cell 2
      have x3_ : World.cell? _ ⟨b2, 3, none⟩ = some (.slice A3 l3.length c3) := BX1.cell 3
      have x4_ : World.cell? _ ⟨b2, 4, none⟩ = some (.int .i64 p) := BX1.cell 4
      have x5_ : World.cell? _ ⟨b2, 5, none⟩ = some (.int .i64 q) := BX1.cell 5
      have x6_ : World.cell? _ ⟨b2, 6, none⟩ = some (.int .i64 r) := BX1.cell 6
      have yd0 : World.cell? _ ⟨w.heap.size, 0, none⟩ = some (.int .i64 0) := BN1.cell 0
      have fd0 := BN1.frozen 0
      have yd1 : World.cell? _ ⟨w.heap.size, 1, none⟩ = some (.slice none 0 0) := BN1.cell 1
      have fd1 := BN1.frozen 1
      have yd2 : World.cell? _ ⟨w.heap.size, 2, none⟩ = some (.slice none 0 0) := BN1.cell 2
      have fd2 := BN1.frozen 2
      have yd3 : World.cell? _ ⟨w.heap.size, 3, none⟩ = some (.slice none 0 0) := BN1.cell 3
      have fd3 := BN1.frozen 3
      have yd4 : World.cell? _ ⟨w.heap.size, 4, none⟩ = some (.int .i64 0) := BN1.cell 4
      have fd4 := BN1.frozen 4
      have yd5 : World.cell? _ ⟨w.heap.size, 5, none⟩ = some (.int .i64 0) := BN1.cell 5
      have fd5 := BN1.frozen 5
      have yd6 : World.cell? _ ⟨w.heap.size, 6, none⟩ = some (.int .i64 0) := BN1.cell 6
      have fd6 := BN1.frozen 6
      have hbn := BN1.lt
      have hW := hL.weak
      have hP1 := hO1.src hL.gr hgl
      have hP2 := hO2.src hL.gr hgl
      have hP3 := hO3.src hL.gr hgl
      have hBf := below_src hB hL.gr hB.size hgw2.2
      have hb4 : w.heap.size < w4.heap.size := by omega
      have hb1' : w.heap.size < w1.heap.size := by omega
      clear BN1 BX1
      go_wp2
      refine bodyPost_ret (v := .tuple #[.agg #[.int .i64 L, .slice A1 l1.length c1, .slice A2 l2.length c2, .slice A3 l3.length c3, .int .i64 p, .int .i64 q, .int .i64 r], .slice Al es.length cl]) (by simp [results, Tryz.results7, go_sem, yd0, yd1, yd2, yd3, yd4, yd5, yd6]) rfl ?_
      have q1 := (((((((hP1.setLt hb1' (j := 0) (x := .int .i64 L)).setLt hb1' (j := 1) (x := .slice A1 l1.length c1)).setLt hb1' (j := 2) (x := .slice A2 l2.length c2)).setLt hb1' (j := 3) (x := .slice A3 l3.length c3)).setLt hb1' (j := 4) (x := .int .i64 p)).setLt hb1' (j := 5) (x := .int .i64 q)).setLt hb1' (j := 6) (x := .int .i64 r))
      have q2 := (((((((hP2.setLt hb1' (j := 0) (x := .int .i64 L)).setLt hb1' (j := 1) (x := .slice A1 l1.length c1)).setLt hb1' (j := 2) (x := .slice A2 l2.length c2)).setLt hb1' (j := 3) (x := .slice A3 l3.length c3)).setLt hb1' (j := 4) (x := .int .i64 p)).setLt hb1' (j := 5) (x := .int .i64 q)).setLt hb1' (j := 6) (x := .int .i64 r))
      have q3 := (((((((hP3.setLt hb1' (j := 0) (x := .int .i64 L)).setLt hb1' (j := 1) (x := .slice A1 l1.length c1)).setLt hb1' (j := 2) (x := .slice A2 l2.length c2)).setLt hb1' (j := 3) (x := .slice A3 l3.length c3)).setLt hb1' (j := 4) (x := .int .i64 p)).setLt hb1' (j := 5) (x := .int .i64 q)).setLt hb1' (j := 6) (x := .int .i64 r))
      have qw := (((((((hW.set hb4 (j := 0) (x := .int .i64 L)).set hb4 (j := 1) (x := .slice A1 l1.length c1)).set hb4 (j := 2) (x := .slice A2 l2.length c2)).set hb4 (j := 3) (x := .slice A3 l3.length c3)).set hb4 (j := 4) (x := .int .i64 p)).set hb4 (j := 5) (x := .int .i64 q)).set hb4 (j := 6) (x := .int .i64 r))
      exact ⟨L, l1, l2, l3, A1, A2, A3, c1, c2, c3, p, q, r, es, Al, cl, rfl, ⟨by omega, by omega, by omega, by simpa using q1.le_cap, by simpa using q2.le_cap, by simpa using q3.le_cap, q1.sl, q2.sl, q3.sl⟩, qw.in_ (by omega), ⟨by omega, qw.o.le_cap⟩, (by repeat first | with_reducible (first | exact hBf | apply below_drewN' | apply Below.drew | refine Below.alloc ?_ ?_ _ | refine Below.setCell ?_ ?_ _) | exact hBf | omega | (simp <;> omega) | (have := (hBf).size; first | omega | (simp <;> omega)))⟩
   ·have x80' : (x8 == 0) = false := by simpa using x80
    have BN1 := BN.src hL.gr hgw2.1
    have BX1 := BX.src hL.gr hxx
    have x0_ : World.cell? _ ⟨b2, 0, none⟩ = some (.int .i64 L) := BX1.cell 0
    have x1_ : World.cell? _ ⟨b2, 1, none⟩ = some (.slice A1 l1.length c1) := BX1.cell 1
    have x2_ : World.cell? _ ⟨b2, 2, none⟩ = some (.slice A2 l2.length c2) := BX1.cell 2
    have x3_ : World.cell? _ ⟨b2, 3, none⟩ = some (.slice A3 l3.length c3) := BX1.cell 3
    have x4_ : World.cell? _ ⟨b2, 4, none⟩ = some (.int .i64 p) := BX1.cell 4
    have x5_ : World.cell? _ ⟨b2, 5, none⟩ = some (.int .i64 q) := BX1.cell 5
    have x6_ : World.cell? _ ⟨b2, 6, none⟩ = some (.int .i64 r) := BX1.cell 6
    have yd0 : World.cell? _ ⟨w.heap.size, 0, none⟩ = some (.int .i64 0) := BN1.cell 0
    have fd0 := BN1.frozen 0
    have yd1 : World.cell? _ ⟨w.heap.size, 1, none⟩ = some (.slice none 0 0) := BN1.cell 1
    have fd1 := BN1.frozen 1
    have yd2 : World.cell? _ ⟨w.heap.size, 2, none⟩ = some (.slice none 0 0) := BN1.cell 2
    have fd2 := BN1.frozen 2
    have yd3 : World.cell? _ ⟨w.heap.size, 3, none⟩ = some (.slice none 0 0) := BN1.cell 3
    have fd3 := BN1.frozen 3
    have yd4 : World.cell? _ ⟨w.heap.size, 4, none⟩ = some (.int .i64 0) := BN1.cell 4
    have fd4 := BN1.frozen 4
    have yd5 : World.cell? _ ⟨w.heap.size, 5, none⟩ = some (.int .i64 0) := BN1.cell 5
    have fd5 := BN1.frozen 5
    have yd6 : World.cell? _ ⟨w.heap.size, 6, none⟩ = some (.int .i64 0) := BN1.cell 6
    have fd6 := BN1.frozen 6
    have hbn := BN1.lt
    have hW := hL.weak
    have hP1 := hO1.src hL.gr hgl
    have hP2 := hO2.src hL.gr hgl
    have hP3 := hO3.src hL.gr hgl
    have hBf := below_src hB hL.gr hB.size hgw2.2
    have hb4 : w.heap.size < w4.heap.size := by omega
    have hb1' : w.heap.size < w1.heap.size := by omega
    clear BN1 BX1
    go_wp2
    refine bodyPost_ret (v := .tuple #[.agg #[.int .i64 L, .slice A1 l1.length c1, .slice A2 l2.length c2, .slice A3 l3.length c3, .int .i64 p, .int .i64 q, .int .i64 r], .slice Al es.length cl]) (by simp [results, Tryz.results7, go_sem, yd0, yd1, yd2, yd3, yd4, yd5, yd6]) rfl ?_
    have q1 := (((((((hP1.setLt hb1' (j := 0) (x := .int .i64 L)).setLt hb1' (j := 1) (x := .slice A1 l1.length c1)).setLt hb1' (j := 2) (x := .slice A2 l2.length c2)).setLt hb1' (j := 3) (x := .slice A3 l3.length c3)).setLt hb1' (j := 4) (x := .int .i64 p)).setLt hb1' (j := 5) (x := .int .i64 q)).setLt hb1' (j := 6) (x := .int .i64 r))
    have q2 := (((((((hP2.setLt hb1' (j := 0) (x := .int .i64 L)).setLt hb1' (j := 1) (x := .slice A1 l1.length c1)).setLt hb1' (j := 2) (x := .slice A2 l2.length c2)).setLt hb1' (j := 3) (x := .slice A3 l3.length c3)).setLt hb1' (j := 4) (x := .int .i64 p)).setLt hb1' (j := 5) (x := .int .i64 q)).setLt hb1' (j := 6) (x := .int .i64 r))
    have q3 := (((((((hP3.setLt hb1' (j := 0) (x := .int .i64 L)).setLt hb1' (j := 1) (x := .slice A1 l1.length c1)).setLt hb1' (j := 2) (x := .slice A2 l2.length c2)).setLt hb1' (j := 3) (x := .slice A3 l3.length c3)).setLt hb1' (j := 4) (x := .int .i64 p)).setLt hb1' (j := 5) (x := .int .i64 q)).setLt hb1' (j := 6) (x := .int .i64 r))
    have qw := (((((((hW.set hb4 (j := 0) (x := .int .i64 L)).set hb4 (j := 1) (x := .slice A1 l1.length c1)).set hb4 (j := 2) (x := .slice A2 l2.length c2)).set hb4 (j := 3) (x := .slice A3 l3.length c3)).set hb4 (j := 4) (x := .int .i64 p)).set hb4 (j := 5) (x := .int .i64 q)).set hb4 (j := 6) (x := .int .i64 r))
    exact ⟨L, l1, l2, l3, A1, A2, A3, c1, c2, c3, p, q, r, es, Al, cl, rfl, ⟨by omega, by omega, by omega, by simpa using q1.le_cap, by simpa using q2.le_cap, by simpa using q3.le_cap, q1.sl, q2.sl, q3.sl⟩, qw.in_ (by omega), ⟨by omega, qw.o.le_cap⟩, (by repeat first | with_reducible (first | exact hBf | apply below_drewN' | apply Below.drew | refine Below.alloc ?_ ?_ _ | refine Below.setCell ?_ ?_ _) | exact hBf | omega | (simp <;> omega) | (have := (hBf).size; first | omega | (simp <;> omega)))⟩
end Go.Proofs.YtednjmldjbndhaaGreat
