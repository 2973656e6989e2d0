/- MakeExercise of the program. Conditions: the lists' lengths. -/
import Derived.Test.YtednjmldjbndhaaGreatKSc40
set_option linter.unusedSimpArgs false
set_option linter.unusedVariables false
namespace Go.Proofs.YtednjmldjbndhaaGreat
open Go.RowKit
def mkCode (seed terms L : Int) (l1 l2 : List Int) (p q r : Int) : Int :=
 if (ruleB L l1 l2 && errorsB p q r) = true then (if (inB seed 0 1000000 && inB terms 1 6) = true then (if exB L l1 l2 (mkTo seed terms.toNat) p q r = true then 0 else 5) else 2) else 1
theorem mkCode_eq (seed terms L : Int) (l1 l2 : List Int) (p q r : Int) : mkCode seed terms L l1 l2 p q r = if (ruleB L l1 l2 && errorsB p q r) = true then (if (inB seed 0 1000000 && inB terms 1 6) = true then (if exB L l1 l2 (mkTo seed terms.toNat) p q r = true then 0 else 5) else 2) else 1 := rfl
/-- a made exercise, in new memory; or none -/
def MkPost (code L : Int) (l1 l2 : List Int) (l3 : List Term) (p q r : Int) (w : World) (e : Ending) (w' : World) : Prop :=
 if code = 0 then ∃ B1 d1 B2 d2 B3 d3, e = .returned (.tuple #[.agg #[.int .i64 L, .slice B1 l1.length d1, .slice B2 l2.length d2, .slice B3 l3.length d3, .int .i64 p, .int .i64 q, .int .i64 r], .int .i64 0]) ∧
  Own w' w.heap.size 2 1 (.slice B1 l1.length d1) (l1.map ic) ∧ Own w' w.heap.size 2 1 (.slice B2 l2.length d2) (l2.map ic) ∧ Own w' w.heap.size 100 3 (.slice B3 l3.length d3) (l3.map Term.cells) ∧
  Apart (.slice B1 l1.length d1) (.slice B2 l2.length d2) ∧ Apart (.slice B1 l1.length d1) (.slice B3 l3.length d3) ∧ Apart (.slice B2 l2.length d2) (.slice B3 l3.length d3) ∧ Below w.heap.size w w'
 else e = .returned (.tuple #[.agg #[.int .i64 0, .slice none 0 0, .slice none 0 0, .slice none 0 0, .int .i64 0, .int .i64 0, .int .i64 0], .int .i64 code]) ∧ Below w.heap.size w w'
def exOf (p q r : Int) : Value → Value
 | .agg cs => .agg (cs ++ #[.slice none 0 0, .int .i64 p, .int .i64 q, .int .i64 r])
 | v => v
def cellsV : Value → Array Value
 | .agg cs => cs
 | _ => #[]
def ruV (L : Int) (l1 l2 : List Int) (B1 : Option Addr) (d1 : Nat) (B2 : Option Addr) (d2 : Nat) : Value := .agg #[.int .i64 L, .slice B1 l1.length d1, .slice B2 l2.length d2]
theorem ruV_inj {L : Int} {l1 l2 : List Int} {B1 B2 C1 C2 : Option Addr} {d1 d2 f1 f2 : Nat} (h : ruV L l1 l2 B1 d1 B2 d2 = ruV L l1 l2 C1 f1 C2 f2) : B1 = C1 ∧ d1 = f1 ∧ B2 = C2 ∧ d2 = f2 := by
 unfold ruV at h
 simpa [and_assoc] using h
theorem own_ne {w : World} {base : Nat} {e : TypeId} {k g j : Nat} {u x : Value} {xs : List (List Value)} (h : Own w base e k u xs) (hne : u.ownBlock ≠ some g) : Own (w.setCell ⟨g, j, none⟩ x) base e k u xs :=
 h.kept (row := some g) (grownBy_stores [x] j (World.grownBy.refl _ _)) (.inr hne)
abbrev exZ : Array Value := #[.int .i64 0, .slice none 0 0, .slice none 0 0, .slice none 0 0, .int .i64 0, .int .i64 0, .int .i64 0]
/-- while 'out := Exercise{Rule: ownRule(r), Errors: e}' runs -/
structure MkS (w1 : World) (L : Int) (l1 l2 : List Int) (p q r : Int) (b1 b3 b4 b5 : Bool) (v34 v36 v10 : Value) (v : World) : Prop where
 hb : Below w1.heap.size w1 v
 ow : b1 = true → ∃ B1 d1 B2 d2, v34 = ruV L l1 l2 B1 d1 B2 d2 ∧ Own v w1.heap.size 2 1 (.slice B1 l1.length d1) (l1.map ic) ∧ Own v w1.heap.size 2 1 (.slice B2 l2.length d2) (l2.map ic) ∧ Apart (.slice B1 l1.length d1) (.slice B2 l2.length d2)
 c3 : b3 = true → b1 = true ∧ v36 = exOf p q r v34
 blk : b4 = true → ∃ gb, v10 = .pointer (some ⟨gb, 0, none⟩) ∧ w1.heap.size ≤ gb ∧ gb < v.heap.size ∧ (b5 = false → Blk v gb 31 exZ) ∧ (b5 = true → Blk v gb 31 (cellsV v36))
 ne : b1 = true → b4 = true → ∀ gb, v10 = .pointer (some ⟨gb, 0, none⟩) → ∀ B1 d1 B2 d2, v34 = ruV L l1 l2 B1 d1 B2 d2 → (Value.slice B1 l1.length d1).ownBlock ≠ some gb ∧ (Value.slice B2 l2.length d2).ownBlock ≠ some gb
 c5 : b5 = true → b3 = true ∧ b4 = true
section
variable {w1 v v' : World} {L : Int} {l1 l2 : List Int} {p q r : Int} {b1 b3 b4 b5 : Bool} {v34 v36 v10 : Value}
theorem MkS.own (h : MkS w1 L l1 l2 p q r b1 b3 b4 b5 v34 v36 v10 v) (hf : b1 = false) {B1 : Option Addr} {d1 : Nat} {B2 : Option Addr} {d2 : Nat} (o1 : Own v' v.heap.size 2 1 (.slice B1 l1.length d1) (l1.map ic)) (o2 : Own v' v.heap.size 2 1 (.slice B2 l2.length d2) (l2.map ic)) (ap : Apart (.slice B1 l1.length d1) (.slice B2 l2.length d2)) (hb : Below v.heap.size v v') :
  MkS w1 L l1 l2 p q r true b3 b4 b5 (ruV L l1 l2 B1 d1 B2 d2) v36 v10 v' :=
 ⟨h.hb.trans (hb.mono h.hb.size), fun _ => ⟨B1, d1, B2, d2, rfl, o1.mono h.hb.size, o2.mono h.hb.size, ap⟩, fun e => (by have := (h.c3 e).1; rw [hf] at this; cases this), fun e => by
  obtain ⟨gb, h1, h2, h3, h4, h5⟩ := h.blk e
  exact ⟨gb, h1, h2, Nat.lt_of_lt_of_le h3 hb.size, fun e => (h4 e).below hb h3, fun e => (h5 e).below hb h3⟩, fun _ e gb hg C1 f1 C2 f2 hv => by
  obtain ⟨rfl, rfl, rfl, rfl⟩ := ruV_inj hv
  obtain ⟨gb', h1, _, h3, _⟩ := h.blk e
  rw [h1] at hg
  simp only [Value.pointer.injEq, Option.some.injEq, Addr.mk.injEq, and_true] at hg
  subst hg
  exact ⟨fun e => (by have := o1.ownGe _ e; omega), fun e => (by have := o2.ownGe _ e; omega)⟩, h.c5⟩
theorem MkS.new (h : MkS w1 L l1 l2 p q r b1 b3 b4 b5 v34 v36 v10 v) (hf : b4 = false) : MkS w1 L l1 l2 p q r b1 b3 true b5 v34 v36 (.pointer (some ⟨v.heap.size, 0, none⟩)) (v.alloc (.cells exZ 31)) := by
 have h5 : b5 = false := by cases h5 : b5 with
  | false => rfl
  | true => have := (h.c5 h5).2; rw [hf] at this; cases this
 subst h5
 refine ⟨h.hb.alloc h.hb.size _, fun e => ?_, h.c3, fun _ => ⟨_, rfl, h.hb.size, by simp, fun _ => Blk.new _ _ _, nofun⟩, fun e _ gb hg B1 d1 B2 d2 hv => ?_, nofun⟩
 ·obtain ⟨B1, d1, B2, d2, h1, h2, h3, h4⟩ := h.ow e
  exact ⟨B1, d1, B2, d2, h1, h2.alloc _, h3.alloc _, h4⟩
 ·simp only [Value.pointer.injEq, Option.some.injEq, Addr.mk.injEq, and_true] at hg
  subst hg
  obtain ⟨C1, f1, C2, f2, h1, h2, h3, _⟩ := h.ow e
  rw [h1] at hv
  obtain ⟨rfl, rfl, rfl, rfl⟩ := ruV_inj hv
  exact ⟨fun e => (by have := own_ltS h2 _ e; omega), fun e => (by have := own_ltS h3 _ e; omega)⟩
theorem MkS.mk3 (h : MkS w1 L l1 l2 p q r b1 b3 b4 b5 v34 v36 v10 v) (hf : b3 = false) (e : b1 = true) : MkS w1 L l1 l2 p q r b1 true b4 b5 v34 (exOf p q r v34) v10 v := by
 have h5 : b5 = false := by cases h5 : b5 with
  | false => rfl
  | true => have := (h.c5 h5).1; rw [hf] at this; cases this
 subst h5
 exact ⟨h.hb, h.ow, fun _ => ⟨e, rfl⟩, fun e => by
  obtain ⟨gb, h1, h2, h3, h4, _⟩ := h.blk e
  exact ⟨gb, h1, h2, h3, h4, nofun⟩, h.ne, nofun⟩
theorem MkS.st {gb : Nat} {B1 : Option Addr} {d1 : Nat} {B2 : Option Addr} {d2 : Nat} (h : MkS w1 L l1 l2 p q r b1 b3 b4 b5 (ruV L l1 l2 B1 d1 B2 d2) v36 (.pointer (some ⟨gb, 0, none⟩)) v) (hf : b5 = false) (e3 : b3 = true) (e4 : b4 = true) :
  MkS w1 L l1 l2 p q r b1 b3 b4 true (ruV L l1 l2 B1 d1 B2 d2) v36 (.pointer (some ⟨gb, 0, none⟩)) (((((((v.setCell ⟨gb, 0, none⟩ (.int .i64 L)).setCell ⟨gb, 1, none⟩ (.slice B1 l1.length d1)).setCell ⟨gb, 2, none⟩ (.slice B2 l2.length d2)).setCell ⟨gb, 3, none⟩ (.slice none 0 0)).setCell ⟨gb, 4, none⟩ (.int .i64 p)).setCell ⟨gb, 5, none⟩ (.int .i64 q)).setCell ⟨gb, 6, none⟩ (.int .i64 r)) := by
 obtain ⟨gb', h1, h2, h3, h4, _⟩ := h.blk e4
 simp only [Value.pointer.injEq, Option.some.injEq, Addr.mk.injEq, and_true] at h1
 subst h1
 have hB := h4 hf
 obtain ⟨e1, h6⟩ := h.c3 e3
 have hn := h.ne e1 e4 gb rfl B1 d1 B2 d2 rfl
 refine ⟨(((((((h.hb.setCell h2 _).setCell h2 _).setCell h2 _).setCell h2 _).setCell h2 _).setCell h2 _).setCell h2 _), fun e => ?_, h.c3, fun _ => ⟨gb, rfl, h2, by simpa using h3, nofun, fun _ => ?_⟩, h.ne, fun _ => ⟨e3, e4⟩⟩
 ·obtain ⟨C1, f1, C2, f2, g1, g2, g3, g4⟩ := h.ow e
  obtain ⟨rfl, rfl, rfl, rfl⟩ := ruV_inj g1
  exact ⟨_, _, _, _, rfl, own_ne (own_ne (own_ne (own_ne (own_ne (own_ne (own_ne g2 hn.1) hn.1) hn.1) hn.1) hn.1) hn.1) hn.1, own_ne (own_ne (own_ne (own_ne (own_ne (own_ne (own_ne g3 hn.2) hn.2) hn.2) hn.2) hn.2) hn.2) hn.2, g4⟩
 ·rw [h6]
  exact ((((((hB.set_ 0 (.int .i64 L)).set_ 1 (.slice B1 l1.length d1)).set_ 2 (.slice B2 l2.length d2)).set_ 3 (.slice none 0 0)).set_ 4 (.int .i64 p)).set_ 5 (.int .i64 q)).set_ 6 (.int .i64 r)
end
/-- in the loop over the terms -/
structure MkL (w : World) (N0 gb : Nat) (L : Int) (l1 l2 : List Int) (p q r : Int) (B1 : Option Addr) (d1 : Nat) (B2 : Option Addr) (d2 : Nat) (V3 : Value) (l3 : List Term) (wr : World) : Prop where
 hb : Below w.heap.size w wr
 sz : N0 ≤ wr.heap.size
 bg : Blk wr gb 31 #[.int .i64 L, .slice B1 l1.length d1, .slice B2 l2.length d2, V3, .int .i64 p, .int .i64 q, .int .i64 r]
 br : Blk wr (w.heap.size + 1 + 1) 31 exZ
 o1 : Own wr (w.heap.size + 3) 2 1 (.slice B1 l1.length d1) (l1.map ic)
 o2 : Own wr (w.heap.size + 3) 2 1 (.slice B2 l2.length d2) (l2.map ic)
 o3 : Own wr N0 100 3 V3 (l3.map Term.cells)
theorem Blk.grown {w w' : World} {g : Nat} {t : TypeId} {cs : Array Value} {row : Option Nat} (h : Blk w g t cs) (hg : w.grownBy w' row) (hne : some g ≠ row) : Blk w' g t cs := (hg.block g h.lt hne).trans h
/-- what does not change in the loop -/
structure MkC (w : World) (N0 gb : Nat) (u1 u2 : Value) : Prop where
 g1 : w.heap.size + 1 + 1 < gb
 g2 : gb < N0
 n1 : u1.ownBlock ≠ some gb ∧ ∀ x, u1.ownBlock = some x → x < N0
 n2 : u2.ownBlock ≠ some gb ∧ ∀ x, u2.ownBlock = some x → x < N0
section
variable {w wr wa w2 : World} {N0 gb : Nat} {L : Int} {l1 l2 : List Int} {p q r : Int} {B1 : Option Addr} {d1 : Nat} {B2 : Option Addr} {d2 : Nat} {V3 V4 : Value} {l3 l4 : List Term}
/-- a block made -/
theorem MkL.alloc (h : MkL w N0 gb L l1 l2 p q r B1 d1 B2 d2 V3 l3 wr) (o : Obj) : MkL w N0 gb L l1 l2 p q r B1 d1 B2 d2 V3 l3 (wr.alloc o) :=
 ⟨h.hb.alloc h.hb.size _, by simp; have := h.sz; omega, h.bg.alloc _, h.br.alloc _, h.o1.alloc _, h.o2.alloc _, h.o3.alloc _⟩
theorem MkL.below (h : MkL w N0 gb L l1 l2 p q r B1 d1 B2 d2 V3 l3 wr) (hb : Below wr.heap.size wr w2) : MkL w N0 gb L l1 l2 p q r B1 d1 B2 d2 V3 l3 w2 :=
 ⟨h.hb.trans (hb.mono h.hb.size), Nat.le_trans h.sz hb.size, h.bg.below hb h.bg.lt, h.br.below hb h.br.lt, h.o1.below hb, h.o2.below hb, h.o3.below hb⟩
/-- the chain appended to, and stored -/
theorem MkL.app (h : MkL w N0 gb L l1 l2 p q r B1 d1 B2 d2 V3 l3 wr) (C : MkC w N0 gb (.slice B1 l1.length d1) (.slice B2 l2.length d2)) (hg : wr.grownBy w2 V3.ownBlock) (ho : Own w2 N0 100 3 V4 (l4.map Term.cells)) :
  MkL w N0 gb L l1 l2 p q r B1 d1 B2 d2 V4 l4 (w2.setCell ⟨gb, 3, none⟩ V4) := by
 have hge := h.o3.ownGe
 have hwN : w.heap.size ≤ wr.heap.size := h.hb.size
 have hg1 := C.g1
 have hg2 := C.g2
 have ne : ∀ x, x < N0 → some x ≠ V3.ownBlock := fun x hx e => by have := hge x e.symm; omega
 have kn : ∀ u : Value, (∀ x, u.ownBlock = some x → x < N0) → u.ownBlock = none ∨ u.ownBlock ≠ V3.ownBlock := fun u hu => by
  cases hx : u.ownBlock with
  | none => exact .inl rfl
  | some x => exact .inr (ne x (hu x hx))
 have hb2 : Below w.heap.size w w2 := below_app h.hb hg hwN (fun g e => by have := hge g e; omega)
 refine ⟨hb2.setCell (by simp only; omega) _, by have := h.sz; have := hg.size; simp; omega, (h.bg.grown hg (ne _ hg2)).set_ 3 V4, (h.br.grown hg (ne _ (by omega))).far (by simp only; omega) _, own_ne (h.o1.kept hg (kn _ C.n1.2)) C.n1.1, own_ne (h.o2.kept hg (kn _ C.n2.2)) C.n2.1, ?_⟩
 exact own_ne ho (fun e => by have := ho.ownGe _ e; omega)
end
set_option maxRecDepth 100000 in
set_option maxHeartbeats 4000000 in
theorem implMakeExercise_c (seed terms L : Int) (A1 : Option Addr) (c1 : Nat) (l1 : List Int) (A2 : Option Addr) (c2 : Nat) (l2 : List Int) (p q r : Int) (w : World) (h1 : l1.length ≤ 1048576) (h2 : l2.length ≤ 1048576) (k1 : l1.length ≤ c1) (k2 : l2.length ≤ c2) (hs1 : Sl w w.heap.size 1 A1 (l1.map ic)) (hs2 : Sl w w.heap.size 1 A2 (l2.map ic)) :
  Calls Tryz.prog 11 #[.int .i64 seed, .int .i64 terms, .agg #[.int .i64 L, .slice A1 l1.length c1, .slice A2 l2.length c2], .agg #[.int .i64 p, .int .i64 q, .int .i64 r]] w (MkPost (mkCode seed terms L l1 l2 p q r) L l1 l2 (mkTo seed terms.toNat) p q r w) := by
 have HR := Lib.hid (fun W (hW : Below w.heap.size w W) => implIsRule_c L A1 c1 l1 A2 c2 l2 W h1 h2 k1 k2 ((hs1.below hW).more hW.size) ((hs2.below hW).more hW.size))
 have HE := Lib.hid (fun W => implAreErrors_c p q r W)
 have HN := Lib.hid (fun x lo hi W => within_c x lo hi W)
 have HO := Lib.hid (fun W (hW : Below w.heap.size w W) => ownRule_c L A1 c1 l1 A2 c2 l2 W h1 h2 ((hs1.below hW).more hW.size) ((hs2.below hW).more hW.size))
 have hC := Lib.hid (mkCode_eq seed terms L l1 l2 p q r)
 have hW : Below w.heap.size w (((w.alloc (.cells #[.int .i64 L, .slice A1 l1.length c1, .slice A2 l2.length c2] 26)).alloc (.cells #[.int .i64 p, .int .i64 q, .int .i64 r] 29)).alloc (.cells exZ 31)) := (by repeat first | with_reducible (first | exact Below.refl _ _ | apply below_drewN' | apply Below.drew | refine Below.alloc ?_ ?_ _ | refine Below.setCell ?_ ?_ _) | exact Below.refl _ _ | omega | (simp <;> omega) | (have := (Below.refl _ _).size; first | omega | (simp <;> omega)))
 have U0 := ((Blk.new w 26 #[.int .i64 L, .slice A1 l1.length c1, .slice A2 l2.length c2]).alloc (.cells #[.int .i64 p, .int .i64 q, .int .i64 r] 29)).alloc (.cells exZ 31)
 have E0 := (Blk.new' (w.alloc (.cells #[.int .i64 L, .slice A1 l1.length c1, .slice A2 l2.length c2] 26)) 29 #[.int .i64 p, .int .i64 q, .int .i64 r] (g := w.heap.size + 1) (by simp)).alloc (.cells exZ 31)
 have R0 := Blk.new' ((w.alloc (.cells #[.int .i64 L, .slice A1 l1.length c1, .slice A2 l2.length c2] 26)).alloc (.cells #[.int .i64 p, .int .i64 q, .int .i64 r] 29)) 31 exZ (g := w.heap.size + 1 + 1) (by simp)
 clear hs1 hs2 k1 k2
 generalize hru : ruleB L l1 l2 = ru at *
 generalize her : errorsB p q r = er at *
 generalize hcode : mkCode seed terms L l1 l2 p q r = code at *
 clear hcode hru her
 go_enter Tryz.func11, Tryz.ntmps11
 go_wp2_with fail
 generalize (((w.alloc (.cells #[.int .i64 L, .slice A1 l1.length c1, .slice A2 l2.length c2] 26)).alloc (.cells #[.int .i64 p, .int .i64 q, .int .i64 r] 29)).alloc (.cells exZ 31)) = W at *
 refine Calls.mono (HR.out W hW) ?_; rintro e w1 ⟨rfl, hb1⟩
 have hW1 := hW.trans (hb1.mono hW.size)
 have U1 := U0.below hb1 U0.lt
 have E1 := E0.below hb1 E0.lt
 have R1 := R0.below hb1 R0.lt
 clear U0 E0 R0 hW hb1 HR
 have hbad : ∀ (v : World), Below w.heap.size w v → Blk v (w.heap.size + 1 + 1) 31 exZ → True := fun _ _ _ => trivial
 clear hbad
 cases ru with
 | false =>
  have hC : Hid (code = 1) := hC.out
  have r0 : w1.cell? ⟨w.heap.size + 1 + 1, 0, none⟩ = some (.int .i64 0) := R1.cell 0
  have r1 : w1.cell? ⟨w.heap.size + 1 + 1, 1, none⟩ = some (.slice none 0 0) := R1.cell 1
  have r2 : w1.cell? ⟨w.heap.size + 1 + 1, 2, none⟩ = some (.slice none 0 0) := R1.cell 2
  have r3 : w1.cell? ⟨w.heap.size + 1 + 1, 3, none⟩ = some (.slice none 0 0) := R1.cell 3
  have r4 : w1.cell? ⟨w.heap.size + 1 + 1, 4, none⟩ = some (.int .i64 0) := R1.cell 4
  have r5 : w1.cell? ⟨w.heap.size + 1 + 1, 5, none⟩ = some (.int .i64 0) := R1.cell 5
  have r6 : w1.cell? ⟨w.heap.size + 1 + 1, 6, none⟩ = some (.int .i64 0) := R1.cell 6
  have f0 := R1.frozen 0
  have f1 := R1.frozen 1
  have f2 := R1.frozen 2
  have f3 := R1.frozen 3
  have f4 := R1.frozen 4
  have f5 := R1.frozen 5
  have f6 := R1.frozen 6
  go_wp2
  refine bodyPost_ret (v := .tuple #[.agg #[.int .i64 0, .slice none 0 0, .slice none 0 0, .slice none 0 0, .int .i64 0, .int .i64 0, .int .i64 0], .int .i64 1]) (by simp [results, Tryz.results11, go_sem, r0, r1, r2, r3, r4, r5, r6]) rfl ?_
  unfold MkPost
  rw [hC.out]
  exact ⟨rfl, (by repeat first | with_reducible (first | exact hW1 | apply below_drewN' | apply Below.drew | refine Below.alloc ?_ ?_ _ | refine Below.setCell ?_ ?_ _) | exact hW1 | omega | (simp <;> omega) | (have := (hW1).size; first | omega | (simp <;> omega)))⟩
 | true =>
  have hC1 := Lib.hid hC.out
  clear hC
  have e0 : w1.cell? ⟨w.heap.size + 1, 0, none⟩ = some (.int .i64 p) := E1.cell 0
  have e1 : w1.cell? ⟨w.heap.size + 1, 1, none⟩ = some (.int .i64 q) := E1.cell 1
  have e2 : w1.cell? ⟨w.heap.size + 1, 2, none⟩ = some (.int .i64 r) := E1.cell 2
  go_wp2_with fail
  refine Calls.mono (HE.out w1) ?_; rintro e w2 ⟨rfl, hb2⟩
  have hW2 := hW1.trans (hb2.mono hW1.size)
  have U2 := U1.below hb2 U1.lt
  have E2 := E1.below hb2 E1.lt
  have R2 := R1.below hb2 R1.lt
  clear e0 e1 e2 U1 E1 R1 hW1 hb2 HE
  cases er with
  | false =>
   have hC : Hid (code = 1) := hC1.out
   have r0 : w2.cell? ⟨w.heap.size + 1 + 1, 0, none⟩ = some (.int .i64 0) := R2.cell 0
   have r1 : w2.cell? ⟨w.heap.size + 1 + 1, 1, none⟩ = some (.slice none 0 0) := R2.cell 1
   have r2 : w2.cell? ⟨w.heap.size + 1 + 1, 2, none⟩ = some (.slice none 0 0) := R2.cell 2
   have r3 : w2.cell? ⟨w.heap.size + 1 + 1, 3, none⟩ = some (.slice none 0 0) := R2.cell 3
   have r4 : w2.cell? ⟨w.heap.size + 1 + 1, 4, none⟩ = some (.int .i64 0) := R2.cell 4
   have r5 : w2.cell? ⟨w.heap.size + 1 + 1, 5, none⟩ = some (.int .i64 0) := R2.cell 5
   have r6 : w2.cell? ⟨w.heap.size + 1 + 1, 6, none⟩ = some (.int .i64 0) := R2.cell 6
   have f0 := R2.frozen 0
   have f1 := R2.frozen 1
   have f2 := R2.frozen 2
   have f3 := R2.frozen 3
   have f4 := R2.frozen 4
   have f5 := R2.frozen 5
   have f6 := R2.frozen 6
   go_wp2
   refine bodyPost_ret (v := .tuple #[.agg #[.int .i64 0, .slice none 0 0, .slice none 0 0, .slice none 0 0, .int .i64 0, .int .i64 0, .int .i64 0], .int .i64 1]) (by simp [results, Tryz.results11, go_sem, r0, r1, r2, r3, r4, r5, r6]) rfl ?_
   unfold MkPost
   rw [hC.out]
   exact ⟨rfl, (by repeat first | with_reducible (first | exact hW2 | apply below_drewN' | apply Below.drew | refine Below.alloc ?_ ?_ _ | refine Below.setCell ?_ ?_ _) | exact hW2 | omega | (simp <;> omega) | (have := (hW2).size; first | omega | (simp <;> omega)))⟩
  | true =>
   have hN1 := fun W => HN.out seed 0 1000000 W
   have hN2 := fun W => HN.out terms 1 6 W
   cases ha : inB seed 0 1000000 with
   | false =>
    have hC : Hid (code = 2) := by unfold Hid; rw [hC1.out, ha]; rfl
    rw [ha] at hN1
    have HN1 := fun W => Lib.hid (hN1 W)
    clear hN1 hN2 ha
    have r0 : w2.cell? ⟨w.heap.size + 1 + 1, 0, none⟩ = some (.int .i64 0) := R2.cell 0
    have r1 : w2.cell? ⟨w.heap.size + 1 + 1, 1, none⟩ = some (.slice none 0 0) := R2.cell 1
    have r2 : w2.cell? ⟨w.heap.size + 1 + 1, 2, none⟩ = some (.slice none 0 0) := R2.cell 2
    have r3 : w2.cell? ⟨w.heap.size + 1 + 1, 3, none⟩ = some (.slice none 0 0) := R2.cell 3
    have r4 : w2.cell? ⟨w.heap.size + 1 + 1, 4, none⟩ = some (.int .i64 0) := R2.cell 4
    have r5 : w2.cell? ⟨w.heap.size + 1 + 1, 5, none⟩ = some (.int .i64 0) := R2.cell 5
    have r6 : w2.cell? ⟨w.heap.size + 1 + 1, 6, none⟩ = some (.int .i64 0) := R2.cell 6
    have f0 := R2.frozen 0
    have f1 := R2.frozen 1
    have f2 := R2.frozen 2
    have f3 := R2.frozen 3
    have f4 := R2.frozen 4
    have f5 := R2.frozen 5
    have f6 := R2.frozen 6
    go_wp2_with (go_at_call 52; refine Calls.mono (HN1 _).out ?_; rintro e w9 ⟨rfl, rfl⟩)
    refine bodyPost_ret (v := .tuple #[.agg #[.int .i64 0, .slice none 0 0, .slice none 0 0, .slice none 0 0, .int .i64 0, .int .i64 0, .int .i64 0], .int .i64 2]) (by simp [results, Tryz.results11, go_sem, r0, r1, r2, r3, r4, r5, r6]) rfl ?_
    unfold MkPost
    rw [hC.out]
    exact ⟨rfl, (by repeat first | with_reducible (first | exact hW2 | apply below_drewN' | apply Below.drew | refine Below.alloc ?_ ?_ _ | refine Below.setCell ?_ ?_ _) | exact hW2 | omega | (simp <;> omega) | (have := (hW2).size; first | omega | (simp <;> omega)))⟩
   | true =>
    rw [ha] at hN1
    have HN1 := fun W => Lib.hid (hN1 W)
    cases hb : inB terms 1 6 with
    | false =>
     have hC : Hid (code = 2) := by unfold Hid; rw [hC1.out, ha, hb]; rfl
     rw [hb] at hN2
     have HN2 := fun W => Lib.hid (hN2 W)
     clear hN1 hN2 ha hb
     have r0 : w2.cell? ⟨w.heap.size + 1 + 1, 0, none⟩ = some (.int .i64 0) := R2.cell 0
     have r1 : w2.cell? ⟨w.heap.size + 1 + 1, 1, none⟩ = some (.slice none 0 0) := R2.cell 1
     have r2 : w2.cell? ⟨w.heap.size + 1 + 1, 2, none⟩ = some (.slice none 0 0) := R2.cell 2
     have r3 : w2.cell? ⟨w.heap.size + 1 + 1, 3, none⟩ = some (.slice none 0 0) := R2.cell 3
     have r4 : w2.cell? ⟨w.heap.size + 1 + 1, 4, none⟩ = some (.int .i64 0) := R2.cell 4
     have r5 : w2.cell? ⟨w.heap.size + 1 + 1, 5, none⟩ = some (.int .i64 0) := R2.cell 5
     have r6 : w2.cell? ⟨w.heap.size + 1 + 1, 6, none⟩ = some (.int .i64 0) := R2.cell 6
     have f0 := R2.frozen 0
     have f1 := R2.frozen 1
     have f2 := R2.frozen 2
     have f3 := R2.frozen 3
     have f4 := R2.frozen 4
     have f5 := R2.frozen 5
     have f6 := R2.frozen 6
     go_wp2_with (first | (go_at_call 52; with_reducible refine Calls.mono (HN1 _).out ?_; rintro e w9 ⟨rfl, rfl⟩) | (go_at_call 52; with_reducible refine Calls.mono (HN2 _).out ?_; rintro e w9 ⟨rfl, rfl⟩))
     refine bodyPost_ret (v := .tuple #[.agg #[.int .i64 0, .slice none 0 0, .slice none 0 0, .slice none 0 0, .int .i64 0, .int .i64 0, .int .i64 0], .int .i64 2]) (by simp [results, Tryz.results11, go_sem, r0, r1, r2, r3, r4, r5, r6]) rfl ?_
     unfold MkPost
     rw [hC.out]
     exact ⟨rfl, (by repeat first | with_reducible (first | exact hW2 | apply below_drewN' | apply Below.drew | refine Below.alloc ?_ ?_ _ | refine Below.setCell ?_ ?_ _) | exact hW2 | omega | (simp <;> omega) | (have := (hW2).size; first | omega | (simp <;> omega)))⟩
    | true =>
     rw [hb] at hN2
     have HN2 := fun W => Lib.hid (hN2 W)
     have hsd := inB_true.1 ha
     have htm := inB_true.1 hb
     have hC2 : Hid (code = if exB L l1 l2 (mkTo seed terms.toNat) p q r = true then 0 else 5) := by unfold Hid; rw [hC1.out, ha, hb]; rfl
     clear hN1 hN2 ha hb hC1
     obtain ⟨n, rfl⟩ := Int.eq_ofNat_of_zero_le (a := terms) (by omega)
     rw [Int.toNat_natCast] at hC2 ⊢
     have hn6 : n ≤ 6 := by omega
     have hn1 : 1 ≤ n := by omega
     clear htm
     go_wp2_with (first | (go_at_call 52; with_reducible refine Calls.mono (HN1 _).out ?_; rintro e w9 ⟨rfl, rfl⟩) | (go_at_call 52; with_reducible refine Calls.mono (HN2 _).out ?_; rintro e w9 ⟨rfl, rfl⟩))
     have hz2 : w.heap.size + 3 ≤ w2.heap.size := R2.lt
     refine wp_region_all (fun a0 fL bA v => ∃ v33 v34 v35 v36 v10 : Value, bA = ((((a0.put (some 33) v33).put (some 34) v34).put (some 35) v35).put (some 36) v36).put (some 10) v10 ∧ (MkS w2 L l1 l2 p q r (fL 1) (fL 3) (fL 4) (fL 5) v34 v36 v10 v) ∧ (fL 0 = true → v33 = .agg #[.int .i64 L, .slice A1 l1.length c1, .slice A2 l2.length c2]) ∧ (fL 1 = true → True) ∧ (fL 2 = true → v35 = .agg #[.int .i64 p, .int .i64 q, .int .i64 r]) ∧ (fL 3 = true → True) ∧ (fL 4 = true → True)) (by kernel_rfl) (by decide +kernel) ?_ ?_ ?_
     ·exact ⟨undef, undef, undef, undef, undef, by simp only [Act.put, List.setIfInBounds_toArray, List.set_cons_zero, List.set_cons_succ], ⟨(Below.refl _ _).drew, nofun, nofun, nofun, nofun, nofun⟩, nofun, nofun, nofun, nofun, nofun⟩
     ·rintro fL bA v ⟨v33, v34, v35, v36, v10, rfl, hS, q0, q1, q2, q3, q4⟩ i hi hf o ho hall
      simp only [Act.put, List.setIfInBounds_toArray, List.set_cons_zero, List.set_cons_succ]
      simp only [List.length_cons, List.length_nil] at hi
      have hn : i = 0 ∨ i = 1 ∨ i = 2 ∨ i = 3 ∨ i = 4 ∨ i = 5 := by omega
      clear hi
      rcases hn with rfl | rfl | rfl | rfl | rfl | rfl
      ·obtain rfl := Option.some.inj ho
       have F := U2.below hS.hb U2.lt
       have y0 : v.cell? ⟨w.heap.size, 0, none⟩ = some (.int .i64 L) := F.cell 0
       have y1 : v.cell? ⟨w.heap.size, 1, none⟩ = some (.slice A1 l1.length c1) := F.cell 1
       have y2 : v.cell? ⟨w.heap.size, 2, none⟩ = some (.slice A2 l2.length c2) := F.cell 2
       clear hall ho
       refine wpOp_step rfl (fun K hK => ?_)
       go_simp
       exact hK _ _ ⟨_, _, _, _, _, rfl, hS, fun _ => rfl, fun _ => trivial, q2, fun _ => trivial, fun _ => trivial⟩
      ·obtain rfl := Option.some.inj ho
       obtain rfl := q0 (hall ⟨0, .data⟩ (by simp) rfl)
       clear hall ho
       refine wpOp_step rfl (fun K hK => ?_)
       go_simp
       refine Calls.mono (HO.out v (hW2.trans (hS.hb.mono hW2.size))) ?_; rintro e w7 ⟨B1, d1, B2, d2, rfl, o1, o2, hap, hb7⟩
       go_simp
       exact hK _ _ ⟨_, _, _, _, _, rfl, hS.own hf o1 o2 hap hb7, fun _ => rfl, fun _ => trivial, q2, fun _ => trivial, fun _ => trivial⟩
      ·obtain rfl := Option.some.inj ho
       have F := E2.below hS.hb E2.lt
       have y0 : v.cell? ⟨w.heap.size + 1, 0, none⟩ = some (.int .i64 p) := F.cell 0
       have y1 : v.cell? ⟨w.heap.size + 1, 1, none⟩ = some (.int .i64 q) := F.cell 1
       have y2 : v.cell? ⟨w.heap.size + 1, 2, none⟩ = some (.int .i64 r) := F.cell 2
       clear hall ho
       refine wpOp_step rfl (fun K hK => ?_)
       go_simp
       exact hK _ _ ⟨_, _, _, _, _, rfl, hS, q0, fun _ => trivial, fun _ => rfl, fun _ => trivial, fun _ => trivial⟩
      ·obtain rfl := Option.some.inj ho
       have e1 : fL 1 = true := hall ⟨1, .data⟩ (by simp) rfl
       obtain rfl := q2 (hall ⟨2, .data⟩ (by simp) rfl)
       obtain ⟨B1, d1, B2, d2, rfl, _⟩ := hS.ow e1
       unfold ruV at *
       clear hall ho
       refine wpOp_step rfl (fun K hK => ?_)
       go_simp
       exact hK _ _ ⟨_, _, _, _, _, rfl, hS.mk3 hf e1, q0, fun _ => trivial, fun _ => rfl, fun _ => trivial, fun _ => trivial⟩
      ·obtain rfl := Option.some.inj ho
       clear hall ho
       refine wpOp_step rfl (fun K hK => ?_)
       go_simp
       exact hK _ _ ⟨_, _, _, _, _, rfl, hS.new hf, q0, fun _ => trivial, q2, fun _ => trivial, fun _ => trivial⟩
      ·obtain rfl := Option.some.inj ho
       have e4 : fL 4 = true := hall ⟨4, .data⟩ (by simp) rfl
       have e3 : fL 3 = true := hall ⟨3, .data⟩ (by simp) rfl
       obtain ⟨e1, rfl⟩ := hS.c3 e3
       obtain ⟨B1, d1, B2, d2, rfl, _⟩ := hS.ow e1
       obtain ⟨gb, rfl, _, _, hZ, _⟩ := hS.blk e4
       have hZ := hZ hf
       have y0 : v.cell? ⟨gb, 0, none⟩ = some (.int .i64 0) := hZ.cell 0
       have y1 : v.cell? ⟨gb, 1, none⟩ = some (.slice none 0 0) := hZ.cell 1
       have y2 : v.cell? ⟨gb, 2, none⟩ = some (.slice none 0 0) := hZ.cell 2
       have y3 : v.cell? ⟨gb, 3, none⟩ = some (.slice none 0 0) := hZ.cell 3
       have y4 : v.cell? ⟨gb, 4, none⟩ = some (.int .i64 0) := hZ.cell 4
       have y5 : v.cell? ⟨gb, 5, none⟩ = some (.int .i64 0) := hZ.cell 5
       have y6 : v.cell? ⟨gb, 6, none⟩ = some (.int .i64 0) := hZ.cell 6
       have yf0 := hZ.frozen 0
       have yf1 := hZ.frozen 1
       have yf2 := hZ.frozen 2
       have yf3 := hZ.frozen 3
       have yf4 := hZ.frozen 4
       have yf5 := hZ.frozen 5
       have yf6 := hZ.frozen 6
       rw [show exOf p q r (ruV L l1 l2 B1 d1 B2 d2) = .agg #[.int .i64 L, .slice B1 l1.length d1, .slice B2 l2.length d2, .slice none 0 0, .int .i64 p, .int .i64 q, .int .i64 r] from rfl]
       clear hall ho
       refine wpOp_step rfl (fun K hK => ?_)
       go_simp
       exact hK _ _ ⟨_, _, _, _, _, rfl, hS.st hf e3 e4, q0, fun _ => trivial, q2, fun _ => trivial, fun _ => trivial⟩
     ·rintro fL bA v ⟨v33, v34, v35, v36, v10, rfl, hS, q0, q1, q2, q3, q4⟩ hall
      simp only [Act.put, List.setIfInBounds_toArray, List.set_cons_zero, List.set_cons_succ]
      simp only [List.length_cons, List.length_nil] at hall
      obtain rfl := q0 (hall 0 (by omega))
      have e1 : fL 1 = true := hall 1 (by omega)
      obtain rfl := q2 (hall 2 (by omega))
      have e3 : fL 3 = true := hall 3 (by omega)
      have e4 : fL 4 = true := hall 4 (by omega)
      have e5 : fL 5 = true := hall 5 (by omega)
      clear hall
      obtain ⟨e1', rfl⟩ := hS.c3 e3
      obtain ⟨B1, d1, B2, d2, rfl, o1, o2, hap⟩ := hS.ow e1
      obtain ⟨gb, rfl, hg1, hg2, _, hB⟩ := hS.blk e4
      have Bg : Blk v gb 31 #[.int .i64 L, .slice B1 l1.length d1, .slice B2 l2.length d2, .slice none 0 0, .int .i64 p, .int .i64 q, .int .i64 r] := hB e5
      have hne := hS.ne e1 e4 gb rfl B1 d1 B2 d2 rfl
      have hbv := hW2.trans (hS.hb.mono hW2.size)
      have Rv := R2.below hS.hb R2.lt
      have hx1 := fun W (E : ExIn W B1 d1 l1 B2 d2 l2 none 0 []) => E.k1
      clear hx1
      have hL0 : MkL w v.heap.size gb L l1 l2 p q r B1 d1 B2 d2 (.slice none 0 0) (mkTo seed 0) v := ⟨hbv, Nat.le_refl _, Bg, Rv, o1.mono hz2, o2.mono hz2, Own.nil_⟩
      have hCC : MkC w v.heap.size gb (.slice B1 l1.length d1) (.slice B2 l2.length d2) := ⟨by omega, hg2, ⟨hne.1, own_ltS o1⟩, ⟨hne.2, own_ltS o2⟩⟩
      have hCC := Lib.hid hCC
      obtain ⟨i0, hi, hz0, hz1, hzb⟩ := info_parts info_Term
      clear hS Bg hB hne hbv Rv o1 o2 U2 E2 R2 HO hW2 HN HN1 HN2 hg2 e1'
      generalize v.heap.size = N0 at *
      go_wp2_with fail
      go_loopw [11, 39] (fun x i wr => ∃ (k : Nat) (V3 : Value), k ≤ n ∧ i = .int .i64 k ∧ x = .int .i64 (xsMk seed k) ∧ MkL w N0 gb L l1 l2 p q r B1 d1 B2 d2 V3 (mkTo seed k) wr) (fun _ i _ => n - (intOf i).toNat)
      case atStart => exact ⟨0, _, Nat.zero_le _, rfl, rfl, hL0⟩
      case round =>
       clear hL0
       obtain ⟨k, V3, hk, rfl, rfl, hM⟩ := hrel
       obtain ⟨A3, c3, rfl, hc3⟩ := hM.o3.form
       simp only [List.length_map, mkTo_length] at hM hc3
       by_cases hlt : k < n
       ·have hxb := xsMk_bd hsd k
        have hsc := Lib.hid (mkTo_succ seed k)
        have hxs : Hid (xsMk seed (k + 1) = nextX (xsMk seed k)) := rfl
        generalize xsMk seed k = x at *
        obtain ⟨hx0, hx1⟩ := hxb
        obtain ⟨y, hy⟩ : ∃ y, (x * 1103 + 12345) % 1000003 = y := ⟨_, rfl⟩
        have hyb : 0 ≤ y ∧ y ≤ 1000002 := by omega
        obtain ⟨hy0, hy1⟩ := hyb
        have hny : Hid (nextX x = y) := hy
        have bg := hM.bg
        have z3 : wr.cell? ⟨gb, 3, none⟩ = some (.slice A3 k c3) := bg.cell 3
        have hMsz := hM.sz
        have hg9 := hCC.out.g2
        have hrest : ∀ d : Bool, d = (decide (0 < k) && decide (y / 9000 % 2 = 1)) → Hid ((mkTo seed (k + 1)).map Term.cells = (mkTo seed k).map Term.cells ++ [[.int .i64 (1000 + y % 9000), .int .i64 0, .bool d]]) := fun d hd => by
         unfold Hid
         rw [hsc.out, hny.out, List.map_append, hd]
         rfl
        have hrest := Lib.hid hrest
        by_cases hk0 : k = 0
        ·skip
         have hi0 : decide ((0 : Int) < (k : Int)) = false := decide_eq_false (by omega)
         have hik : ¬ (0 : Int) < (k : Int) := by omega
         have hr := hrest.out false (by simp [hk0])
         clear hrest hk0
         go_wp2_with (at_builtin; refine wpList_append_rows _ rfl _ _ _ rfl N0 100 i0 _ 3 24 Tryz.underlying27 hi hz0 hz1 hzb rfl (by omega) _ _ rfl (hM.o3.alloc _) _ _ _ _ [[.int .i64 (1000 + y % 9000), .int .i64 0, .bool false]] rfl rfl (Sl.of_blk (Blk.new' _ _ _ rfl) _ rfl (by simp)) (by simp [Value.oneCell']) (by simp [mkTo_length]; unfold maxLen; omega) (by simp [mkTo_length]; omega) (by simp; omega) ?_; intro v1 w2 hO2 hg hat; rw [← hr.out] at hO2; have hM2 := (hM.alloc _).app hCC.out hg hO2; obtain ⟨A9, c9, rfl, _⟩ := hO2.form; simp only [List.length_map, mkTo_length] at hM2; have b2 := (bg.alloc _).grown hg (fun e => by have := hM.o3.ownGe _ e.symm; omega); have q3 : w2.cell? ⟨gb, 3, none⟩ = some (.slice A3 k c3) := b2.cell 3; have qf := b2.frozen 3)
         go_roundw
         case rel => exact ⟨k + 1, .slice A9 (k + 1) c9, by omega, by go_num, by rw [hxs.out, hny.out], by rw [mkTo_length]; exact hM2⟩
         case measure => simp [intOf]; omega
        ·have hi0 : decide ((0 : Int) < (k : Int)) = true := decide_eq_true (by omega)
         have hik : (0 : Int) < (k : Int) := by omega
         by_cases hq : y / 9000 % 2 = 1
         ·have hqb : (y / 9000 % 2 == 1) = true := by simp [hq]
          have hr := hrest.out true (by simp [hq]; omega)
          clear hrest hk0 hq
          go_wp2_with (at_builtin; refine wpList_append_rows _ rfl _ _ _ rfl N0 100 i0 _ 3 24 Tryz.underlying27 hi hz0 hz1 hzb rfl (by omega) _ _ rfl (hM.o3.alloc _) _ _ _ _ [[.int .i64 (1000 + y % 9000), .int .i64 0, .bool true]] rfl rfl (Sl.of_blk (Blk.new' _ _ _ rfl) _ rfl (by simp)) (by simp [Value.oneCell']) (by simp [mkTo_length]; unfold maxLen; omega) (by simp [mkTo_length]; omega) (by simp; omega) ?_; intro v1 w2 hO2 hg hat; rw [← hr.out] at hO2; have hM2 := (hM.alloc _).app hCC.out hg hO2; obtain ⟨A9, c9, rfl, _⟩ := hO2.form; simp only [List.length_map, mkTo_length] at hM2; have b2 := (bg.alloc _).grown hg (fun e => by have := hM.o3.ownGe _ e.symm; omega); have q3 : w2.cell? ⟨gb, 3, none⟩ = some (.slice A3 k c3) := b2.cell 3; have qf := b2.frozen 3)
          go_roundw
          case rel => exact ⟨k + 1, .slice A9 (k + 1) c9, by omega, by go_num, by rw [hxs.out, hny.out], by rw [mkTo_length]; exact hM2⟩
          case measure => simp [intOf]; omega
         ·have hqb : (y / 9000 % 2 == 1) = false := by simp [hq]
          have hr := hrest.out false (by simp [hq])
          clear hrest hk0 hq
          go_wp2_with (at_builtin; refine wpList_append_rows _ rfl _ _ _ rfl N0 100 i0 _ 3 24 Tryz.underlying27 hi hz0 hz1 hzb rfl (by omega) _ _ rfl (hM.o3.alloc _) _ _ _ _ [[.int .i64 (1000 + y % 9000), .int .i64 0, .bool false]] rfl rfl (Sl.of_blk (Blk.new' _ _ _ rfl) _ rfl (by simp)) (by simp [Value.oneCell']) (by simp [mkTo_length]; unfold maxLen; omega) (by simp [mkTo_length]; omega) (by simp; omega) ?_; intro v1 w2 hO2 hg hat; rw [← hr.out] at hO2; have hM2 := (hM.alloc _).app hCC.out hg hO2; obtain ⟨A9, c9, rfl, _⟩ := hO2.form; simp only [List.length_map, mkTo_length] at hM2; have b2 := (bg.alloc _).grown hg (fun e => by have := hM.o3.ownGe _ e.symm; omega); have q3 : w2.cell? ⟨gb, 3, none⟩ = some (.slice A3 k c3) := b2.cell 3; have qf := b2.frozen 3)
          go_roundw
          case rel => exact ⟨k + 1, .slice A9 (k + 1) c9, by omega, by go_num, by rw [hxs.out, hny.out], by rw [mkTo_length]; exact hM2⟩
          case measure => simp [intOf]; omega
       ·have : k = n := by omega
        subst this
        have hE : ExIn wr B1 d1 l1 B2 d2 l2 A3 c3 (mkTo seed k) := ⟨h1, h2, by rw [mkTo_length]; omega, hM.o1.le_cap, hM.o2.le_cap, by rw [mkTo_length]; exact hc3, hM.o1.sl, hM.o2.sl, hM.o3.sl⟩
        have hcall := implIsExercise_c L B1 d1 l1 B2 d2 l2 A3 c3 (mkTo seed k) p q r wr hE
        rw [mkTo_length] at hcall
        have bg := hM.bg
        have y0 : wr.cell? ⟨gb, 0, none⟩ = some (.int .i64 L) := bg.cell 0
        have y1 : wr.cell? ⟨gb, 1, none⟩ = some (.slice B1 l1.length d1) := bg.cell 1
        have y2 : wr.cell? ⟨gb, 2, none⟩ = some (.slice B2 l2.length d2) := bg.cell 2
        have y3 : wr.cell? ⟨gb, 3, none⟩ = some (.slice A3 k c3) := bg.cell 3
        have y4 : wr.cell? ⟨gb, 4, none⟩ = some (.int .i64 p) := bg.cell 4
        have y5 : wr.cell? ⟨gb, 5, none⟩ = some (.int .i64 q) := bg.cell 5
        have y6 : wr.cell? ⟨gb, 6, none⟩ = some (.int .i64 r) := bg.cell 6
        generalize exB L l1 l2 (mkTo seed k) p q r = xb at *
        have hcall := Lib.hid hcall
        go_wp2_with fail
        refine Calls.mono hcall.out ?_; rintro e w5 ⟨rfl, hb5⟩
        have hM5 := hM.below hb5
        clear y0 y1 y2 y3 y4 y5 y6 bg hcall hb5
        have R5 := hM5.br
        have hb5 := hM5.hb
        cases xb with
        | false =>
         have hC : Hid (code = 5) := hC2.out
         have r0 : w5.cell? ⟨w.heap.size + 1 + 1, 0, none⟩ = some (.int .i64 0) := R5.cell 0
         have r1 : w5.cell? ⟨w.heap.size + 1 + 1, 1, none⟩ = some (.slice none 0 0) := R5.cell 1
         have r2 : w5.cell? ⟨w.heap.size + 1 + 1, 2, none⟩ = some (.slice none 0 0) := R5.cell 2
         have r3 : w5.cell? ⟨w.heap.size + 1 + 1, 3, none⟩ = some (.slice none 0 0) := R5.cell 3
         have r4 : w5.cell? ⟨w.heap.size + 1 + 1, 4, none⟩ = some (.int .i64 0) := R5.cell 4
         have r5 : w5.cell? ⟨w.heap.size + 1 + 1, 5, none⟩ = some (.int .i64 0) := R5.cell 5
         have r6 : w5.cell? ⟨w.heap.size + 1 + 1, 6, none⟩ = some (.int .i64 0) := R5.cell 6
         have f0 := R5.frozen 0
         have f1 := R5.frozen 1
         have f2 := R5.frozen 2
         have f3 := R5.frozen 3
         have f4 := R5.frozen 4
         have f5 := R5.frozen 5
         have f6 := R5.frozen 6
         go_wp2
         refine bodyPost_ret (v := .tuple #[.agg #[.int .i64 0, .slice none 0 0, .slice none 0 0, .slice none 0 0, .int .i64 0, .int .i64 0, .int .i64 0], .int .i64 5]) (by simp [results, Tryz.results11, go_sem, r0, r1, r2, r3, r4, r5, r6]) rfl ?_
         unfold MkPost
         rw [hC.out]
         exact ⟨rfl, (by repeat first | with_reducible (first | exact hb5 | apply below_drewN' | apply Below.drew | refine Below.alloc ?_ ?_ _ | refine Below.setCell ?_ ?_ _) | exact hb5 | omega | (simp <;> omega) | (have := (hb5).size; first | omega | (simp <;> omega)))⟩
        | true =>
         have hC : Hid (code = 0) := hC2.out
         have bg := hM5.bg
         have y0 : w5.cell? ⟨gb, 0, none⟩ = some (.int .i64 L) := bg.cell 0
         have y1 : w5.cell? ⟨gb, 1, none⟩ = some (.slice B1 l1.length d1) := bg.cell 1
         have y2 : w5.cell? ⟨gb, 2, none⟩ = some (.slice B2 l2.length d2) := bg.cell 2
         have y3 : w5.cell? ⟨gb, 3, none⟩ = some (.slice A3 k c3) := bg.cell 3
         have y4 : w5.cell? ⟨gb, 4, none⟩ = some (.int .i64 p) := bg.cell 4
         have y5 : w5.cell? ⟨gb, 5, none⟩ = some (.int .i64 q) := bg.cell 5
         have y6 : w5.cell? ⟨gb, 6, none⟩ = some (.int .i64 r) := bg.cell 6
         have r0 : w5.cell? ⟨w.heap.size + 1 + 1, 0, none⟩ = some (.int .i64 0) := R5.cell 0
         have r1 : w5.cell? ⟨w.heap.size + 1 + 1, 1, none⟩ = some (.slice none 0 0) := R5.cell 1
         have r2 : w5.cell? ⟨w.heap.size + 1 + 1, 2, none⟩ = some (.slice none 0 0) := R5.cell 2
         have r3 : w5.cell? ⟨w.heap.size + 1 + 1, 3, none⟩ = some (.slice none 0 0) := R5.cell 3
         have r4 : w5.cell? ⟨w.heap.size + 1 + 1, 4, none⟩ = some (.int .i64 0) := R5.cell 4
         have r5 : w5.cell? ⟨w.heap.size + 1 + 1, 5, none⟩ = some (.int .i64 0) := R5.cell 5
         have r6 : w5.cell? ⟨w.heap.size + 1 + 1, 6, none⟩ = some (.int .i64 0) := R5.cell 6
         have f0 := R5.frozen 0
         have f1 := R5.frozen 1
         have f2 := R5.frozen 2
         have f3 := R5.frozen 3
         have f4 := R5.frozen 4
         have f5 := R5.frozen 5
         have f6 := R5.frozen 6
         have hgb := hCC.out.g1
         go_wp2
         refine bodyPost_ret (v := .tuple #[.agg #[.int .i64 L, .slice B1 l1.length d1, .slice B2 l2.length d2, .slice A3 k c3, .int .i64 p, .int .i64 q, .int .i64 r], .int .i64 0]) (by simp [results, Tryz.results11, go_sem, r0, r1, r2, r3, r4, r5, r6]) rfl ?_
         unfold MkPost
         rw [hC.out, if_pos rfl]
         simp only [Int.toNat_natCast, mkTo_length]
         refine ⟨B1, d1, B2, d2, A3, c3, rfl, ?_, ?_, ?_, hap, ?_, ?_, (by repeat first | with_reducible (first | exact hb5 | apply below_drewN' | apply Below.drew | refine Below.alloc ?_ ?_ _ | refine Below.setCell ?_ ?_ _) | exact hb5 | omega | (simp <;> omega) | (have := (hb5).size; first | omega | (simp <;> omega)))⟩
         ·exact own_mono (base := w.heap.size + 3) (by repeat (first | with_reducible exact hM5.o1 | (with_reducible refine own_far ?_ (by omega)))) (by omega)
         ·exact own_mono (base := w.heap.size + 3) (by repeat (first | with_reducible exact hM5.o2 | (with_reducible refine own_far ?_ (by omega)))) (by omega)
         ·skip
          exact own_mono (base := N0) (by repeat (first | with_reducible exact hM5.o3 | (with_reducible refine own_far ?_ (by have := hCC.out.g2; omega)))) (by have := hCC.out.g2; omega)
         ·skip
          exact (apart_two hCC.out.n1.2 hM5.o3.ownGe).1
         ·skip
          exact (apart_two hCC.out.n2.2 hM5.o3.ownGe).1
end Go.Proofs.YtednjmldjbndhaaGreat
