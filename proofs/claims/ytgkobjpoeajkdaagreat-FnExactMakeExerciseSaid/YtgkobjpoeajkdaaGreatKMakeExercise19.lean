/- FnExactMakeExercise: what its walk carries. Plain lemmas on memory, and MakeExercise of both sides in one form. -/
import Derived.Test.YtgkobjpoeajkdaaGreatKMakeExercise17
import Derived.Test.YtgkobjpoeajkdaaGreatKMakeExercise18
namespace Go.Proofs.YtgkobjpoeajkdaaGreat
open Go.RowKit
/-- what a call may have changed: the blocks that are bad, and new ones -/
structure Kb (bad : Nat → Prop) (w w' : World) : Prop where
  os : w'.os = w.os
  tape : w'.tape = w.tape
  output : w'.output = w.output
  size : w.heap.size ≤ w'.heap.size
  block : ∀ k, k < w.heap.size → ¬ bad k → w'.heap[k]? = w.heap[k]?
section
variable {bad : Nat → Prop} {w w' w1 w2 a : World} {B g base k : Nat} {t e : TypeId} {cs : Array Value} {u : Value} {xs : List (List Value)} {r : Option Nat}
theorem Kb.of_grown (h : w.grownBy w' r) (hr : ∀ k, some k = r → bad k) : Kb bad w w' := ⟨h.os, h.tape, h.output, h.size, fun k hk hn => h.block k hk (fun e => hn (hr k e))⟩
theorem Kb.trans (h1 : Kb bad w w1) (h2 : Kb bad w1 w2) : Kb bad w w2 := ⟨h2.os.trans h1.os, h2.tape.trans h1.tape, h2.output.trans h1.output, Nat.le_trans h1.size h2.size, fun k hk hn => (h2.block k (Nat.lt_of_lt_of_le hk h1.size) hn).trans (h1.block k hk hn)⟩
theorem below_kb (h : Below B a w) (hk : Kb bad w w') (hB : B ≤ w.heap.size) (hn : ∀ k, k < B → ¬ bad k) : Below B a w' :=
  ⟨hk.os.trans h.os, hk.tape.trans h.tape, hk.output.trans h.output, Nat.le_trans h.size hk.size, fun k hkB => (hk.block k (by omega) (hn k hkB)).trans (h.block k hkB)⟩
theorem Blk.kb (h : Blk w g t cs) (hk : Kb bad w w') (hn : ¬ bad g) : Blk w' g t cs := (hk.block g h.lt hn).trans h
theorem Own.kb (h : Own w base e k u xs) (hk : Kb bad w w') (hn : ∀ x, u.ownBlock = some x → ¬ bad x) : Own w' base e k u xs := by
  obtain ⟨⟨h1, h2⟩, h3⟩ := h
  refine ⟨⟨h1, ?_⟩, h3⟩
  rcases h2 with h2 | ⟨g, cap, cur, hv, hg, hh, r⟩
  · exact Or.inl h2
  · refine Or.inr ⟨g, cap, cur, hv, hg, ?_, r⟩
    have hlt : g < w.heap.size := by
      rcases Nat.lt_or_ge g w.heap.size with hlt | hge
      · exact hlt
      · rw [Array.getElem?_eq_none hge] at hh; cases hh
    rw [hk.block g hlt (hn g (by rw [hv]; rfl))]
    exact hh
end
/-- what MakeExercise returns -/
structure Res where
  L : Int
  l1 : List Int
  l2 : List Int
  l3 : List Term
  p : Int
  q : Int
  r : Int
  code : Int
def mkRes (seed terms L : Int) (l1 l2 : List Int) (p q r : Int) : Res := if mkCode seed terms L l1 l2 p q r = 0 then ⟨L, l1, l2, mkTo seed terms.toNat, p, q, r, 0⟩ else ⟨0, [], [], [], 0, 0, 0, mkCode seed terms L l1 l2 p q r⟩
def Res.ex (R : Res) (B1 : Option Addr) (d1 : Nat) (B2 : Option Addr) (d2 : Nat) (B3 : Option Addr) (d3 : Nat) : Array Value := #[.int .i64 R.L, .slice B1 R.l1.length d1, .slice B2 R.l2.length d2, .slice B3 R.l3.length d3, .int .i64 R.p, .int .i64 R.q, .int .i64 R.r]
def Res.tup (R : Res) (B1 : Option Addr) (d1 : Nat) (B2 : Option Addr) (d2 : Nat) (B3 : Option Addr) (d3 : Nat) : Value := .tuple #[.agg (R.ex B1 d1 B2 d2 B3 d3), .int .i64 R.code]
theorem Res.tup_inj {R : Res} {B1 B2 B3 C1 C2 C3 : Option Addr} {d1 d2 d3 f1 f2 f3 : Nat} (h : R.tup B1 d1 B2 d2 B3 d3 = R.tup C1 f1 C2 f2 C3 f3) : B1 = C1 ∧ d1 = f1 ∧ B2 = C2 ∧ d2 = f2 ∧ B3 = C3 ∧ d3 = f3 := by
  unfold Res.tup Res.ex at h
  simpa [and_assoc] using h
/-- three slices of one's own -/
structure Own3 (w : World) (base : Nat) (R : Res) (B1 : Option Addr) (d1 : Nat) (B2 : Option Addr) (d2 : Nat) (B3 : Option Addr) (d3 : Nat) : Prop where
  o1 : Own w base 2 1 (.slice B1 R.l1.length d1) (R.l1.map ic)
  o2 : Own w base 2 1 (.slice B2 R.l2.length d2) (R.l2.map ic)
  o3 : Own w base 118 3 (.slice B3 R.l3.length d3) (R.l3.map Term.cells)
theorem Own3.below {w w' : World} {base : Nat} {R : Res} {B1 : Option Addr} {d1 : Nat} {B2 : Option Addr} {d2 : Nat} {B3 : Option Addr} {d3 : Nat} (h : Own3 w base R B1 d1 B2 d2 B3 d3) (hb : Below w.heap.size w w') : Own3 w' base R B1 d1 B2 d2 B3 d3 := ⟨h.o1.below hb, h.o2.below hb, h.o3.below hb⟩
theorem Own3.mono {w : World} {base base' : Nat} {R : Res} {B1 : Option Addr} {d1 : Nat} {B2 : Option Addr} {d2 : Nat} {B3 : Option Addr} {d3 : Nat} (h : Own3 w base R B1 d1 B2 d2 B3 d3) (hb : base' ≤ base) : Own3 w base' R B1 d1 B2 d2 B3 d3 := ⟨h.o1.mono hb, h.o2.mono hb, h.o3.mono hb⟩
theorem Own3.alloc {w : World} {base : Nat} {R : Res} {B1 : Option Addr} {d1 : Nat} {B2 : Option Addr} {d2 : Nat} {B3 : Option Addr} {d3 : Nat} (h : Own3 w base R B1 d1 B2 d2 B3 d3) (o : Obj) : Own3 (w.alloc o) base R B1 d1 B2 d2 B3 d3 := ⟨h.o1.alloc o, h.o2.alloc o, h.o3.alloc o⟩
/-- no slice lies in block g -/
def Res.off (R : Res) (B1 : Option Addr) (d1 : Nat) (B2 : Option Addr) (d2 : Nat) (B3 : Option Addr) (d3 : Nat) (g : Nat) : Prop := (Value.slice B1 R.l1.length d1).ownBlock ≠ some g ∧ (Value.slice B2 R.l2.length d2).ownBlock ≠ some g ∧ (Value.slice B3 R.l3.length d3).ownBlock ≠ some g
theorem Own3.set_ {w : World} {base g j : Nat} {x : Value} {R : Res} {B1 : Option Addr} {d1 : Nat} {B2 : Option Addr} {d2 : Nat} {B3 : Option Addr} {d3 : Nat} (h : Own3 w base R B1 d1 B2 d2 B3 d3) (hn : R.off B1 d1 B2 d2 B3 d3 g) : Own3 (w.setCell ⟨g, j, none⟩ x) base R B1 d1 B2 d2 B3 d3 := ⟨own_ne h.o1 hn.1, own_ne h.o2 hn.2.1, own_ne h.o3 hn.2.2⟩
theorem Own3.kb {w w' : World} {bad : Nat → Prop} {base : Nat} {R : Res} {B1 : Option Addr} {d1 : Nat} {B2 : Option Addr} {d2 : Nat} {B3 : Option Addr} {d3 : Nat} (h : Own3 w base R B1 d1 B2 d2 B3 d3) (hk : Kb bad w w') (hn : ∀ x, base ≤ x → x < w.heap.size → ¬ bad x) : Own3 w' base R B1 d1 B2 d2 B3 d3 :=
  ⟨h.o1.kb hk fun x hx => hn x (h.o1.ownGe x hx) (own_ltS h.o1 x hx), h.o2.kb hk fun x hx => hn x (h.o2.ownGe x hx) (own_ltS h.o2 x hx), h.o3.kb hk fun x hx => hn x (h.o3.ownGe x hx) (own_ltS h.o3 x hx)⟩
theorem Own3.in_ {w : World} {base : Nat} {R : Res} {B1 : Option Addr} {d1 : Nat} {B2 : Option Addr} {d2 : Nat} {B3 : Option Addr} {d3 : Nat} (h : Own3 w base R B1 d1 B2 d2 B3 d3) (hl : R.l1.length ≤ 1048576 ∧ R.l2.length ≤ 1048576 ∧ R.l3.length ≤ 1048576) : ExIn w B1 d1 R.l1 B2 d2 R.l2 B3 d3 R.l3 := ⟨hl.1, hl.2.1, hl.2.2, h.o1.le_cap, h.o2.le_cap, h.o3.le_cap, h.o1.sl, h.o2.sl, h.o3.sl⟩
def AP3 (a b c : Value) : Prop := Apart a b ∧ Apart a c ∧ Apart b c
def APn (_ _ _ : Value) : Prop := True
def RsU (R : Res) (AP : Value → Value → Value → Prop) (w : World) (e : Ending) (w' : World) : Prop :=
  ∃ B1 d1 B2 d2 B3 d3, e = .returned (R.tup B1 d1 B2 d2 B3 d3) ∧ Own3 w' w.heap.size R B1 d1 B2 d2 B3 d3 ∧ AP (.slice B1 R.l1.length d1) (.slice B2 R.l2.length d2) (.slice B3 R.l3.length d3) ∧ Below w.heap.size w w'
theorem apart_none {v : Value} : Apart v (.slice none 0 0) := .inl rfl
theorem MkPost.u {seed terms L : Int} {l1 l2 : List Int} {p q r : Int} {w : World} {e : Ending} {w' : World} (h : MkPost (mkCode seed terms L l1 l2 p q r) L l1 l2 (mkTo seed terms.toNat) p q r w e w') : RsU (mkRes seed terms L l1 l2 p q r) AP3 w e w' := by
  unfold MkPost at h
  unfold mkRes
  split at h
  · rename_i h0
    rw [if_pos h0]
    obtain ⟨B1, d1, B2, d2, B3, d3, h1, o1, o2, o3, a1, a2, a3, hb⟩ := h
    exact ⟨B1, d1, B2, d2, B3, d3, h1, ⟨o1, o2, o3⟩, ⟨a1, a2, a3⟩, hb⟩
  · rename_i h0
    rw [if_neg h0]
    exact ⟨none, 0, none, 0, none, 0, h.1, ⟨Own.nil_, Own.nil_, Own.nil_⟩, ⟨apart_none, apart_none, apart_none⟩, h.2⟩
theorem SpMk.u {seed terms L : Int} {l1 l2 : List Int} {p q r : Int} {w : World} {e : Ending} {w' : World} (h : SpMk (mkCode seed terms L l1 l2 p q r) L l1 l2 (mkTo seed terms.toNat) p q r w e w') : RsU (mkRes seed terms L l1 l2 p q r) APn w e w' := by
  unfold SpMk at h
  unfold mkRes
  split at h
  · rename_i h0
    rw [if_pos h0]
    obtain ⟨B1, d1, B2, d2, B3, d3, h1, o1, o2, o3, hb⟩ := h
    exact ⟨B1, d1, B2, d2, B3, d3, h1, ⟨o1, o2, o3⟩, trivial, hb⟩
  · rename_i h0
    rw [if_neg h0]
    exact ⟨none, 0, none, 0, none, 0, h.1, ⟨Own.nil_, Own.nil_, Own.nil_⟩, trivial, h.2⟩
theorem mkCode_terms {seed terms L : Int} {l1 l2 : List Int} {p q r : Int} (h : mkCode seed terms L l1 l2 p q r = 0) : 1 ≤ terms ∧ terms ≤ 6 := by
  unfold mkCode at h
  split at h
  · split at h
    · rename_i h1
      rw [Bool.and_eq_true, inB_true, inB_true] at h1
      exact h1.2
    · cases h
  · cases h
theorem mkRes_bd {seed terms L : Int} {l1 l2 : List Int} {p q r : Int} (h1 : l1.length ≤ 1048576) (h2 : l2.length ≤ 1048576) : (mkRes seed terms L l1 l2 p q r).l1.length ≤ 1048576 ∧ (mkRes seed terms L l1 l2 p q r).l2.length ≤ 1048576 ∧ (mkRes seed terms L l1 l2 p q r).l3.length ≤ 1048576 := by
  unfold mkRes
  split
  · rename_i h0
    have := mkCode_terms h0
    exact ⟨h1, h2, by simp only [mkTo_length]; omega⟩
  · simp
def fstV : Value → Value
  | .tuple cs => cs.getD 0 undef
  | v => v
/-- while 'x0, x1 := MakeExercise(..)' runs; x0's block is made at any time -/
structure RmS (w1 : World) (R : Res) (AP : Value → Value → Value → Prop) (Q : Value → World → Prop) (b3 b6 b7 b8 b10 b11 : Bool) (v29 v32 v25 v33 v10 : Value) (v : World) : Prop where
  hb : Below w1.heap.size w1 v
  q3 : b3 = true → b6 = false → Q v29 v
  d6 : b6 = true → ∃ B1 d1 B2 d2 B3 d3, v32 = R.tup B1 d1 B2 d2 B3 d3 ∧ AP (.slice B1 R.l1.length d1) (.slice B2 R.l2.length d2) (.slice B3 R.l3.length d3) ∧ Own3 v w1.heap.size R B1 d1 B2 d2 B3 d3
  d7 : b7 = true → b6 = true ∧ v25 = v32
  d8 : b8 = true → b7 = true ∧ v33 = fstV v25
  blk : b10 = true → ∃ g, v10 = .pointer (some ⟨g, 0, none⟩) ∧ w1.heap.size ≤ g ∧ g < v.heap.size ∧ (b11 = false → Blk v g 36 exZ) ∧ (b11 = true → Blk v g 36 (cellsV v33))
  ne : b6 = true → b10 = true → ∀ g, v10 = .pointer (some ⟨g, 0, none⟩) → ∀ B1 d1 B2 d2 B3 d3, v32 = R.tup B1 d1 B2 d2 B3 d3 → R.off B1 d1 B2 d2 B3 d3 g
  d11 : b11 = true → b8 = true ∧ b10 = true
section
variable {w1 v v' : World} {R : Res} {AP : Value → Value → Value → Prop} {Q : Value → World → Prop} {b3 b6 b7 b8 b10 b11 : Bool} {v29 v32 v25 v33 v10 u : Value}
theorem RmS.init : RmS w1 R AP Q false false false false false false v29 v32 v25 v33 v10 w1.drew := ⟨(Below.refl _ _).drew, nofun, nofun, nofun, nofun, nofun, nofun, nofun⟩
theorem RmS.b11_6 (h : RmS w1 R AP Q b3 b6 b7 b8 b10 b11 v29 v32 v25 v33 v10 v) (hf : b6 = false) : b7 = false ∧ b8 = false ∧ b11 = false := by
  have h7 : b7 = false := by cases h7 : b7 with
    | false => rfl
    | true => have := (h.d7 h7).1; rw [hf] at this; cases this
  have h8 : b8 = false := by cases h8 : b8 with
    | false => rfl
    | true => have := (h.d8 h8).1; rw [h7] at this; cases this
  refine ⟨h7, h8, ?_⟩
  cases h11 : b11 with
  | false => rfl
  | true => have := (h.d11 h11).1; rw [h8] at this; cases this
/-- a call that only makes new memory, ahead of the call that counts or behind it -/
theorem RmS.below (h : RmS w1 R AP Q b3 b6 b7 b8 b10 b11 v29 v32 v25 v33 v10 v) (hq : Q v29 v → Q v29 v') (hb : Below v.heap.size v v') : RmS w1 R AP Q b3 b6 b7 b8 b10 b11 v29 v32 v25 v33 v10 v' :=
  ⟨h.hb.trans (hb.mono h.hb.size), fun e f => hq (h.q3 e f), fun e => by
    obtain ⟨B1, d1, B2, d2, B3, d3, h1, h2, h3⟩ := h.d6 e
    exact ⟨B1, d1, B2, d2, B3, d3, h1, h2, h3.below hb⟩, h.d7, h.d8, fun e => by
    obtain ⟨g, h1, h2, h3, h4, h5⟩ := h.blk e
    exact ⟨g, h1, h2, Nat.lt_of_lt_of_le h3 hb.size, fun e => (h4 e).below hb h3, fun e => (h5 e).below hb h3⟩, h.ne, h.d11⟩
theorem RmS.c3 (h : RmS w1 R AP Q b3 b6 b7 b8 b10 b11 v29 v32 v25 v33 v10 v) (hu : Q u v') (hb : Below v.heap.size v v') : RmS w1 R AP Q true b6 b7 b8 b10 b11 u v32 v25 v33 v10 v' :=
  ⟨h.hb.trans (hb.mono h.hb.size), fun _ _ => hu, fun e => by
    obtain ⟨B1, d1, B2, d2, B3, d3, h1, h2, h3⟩ := h.d6 e
    exact ⟨B1, d1, B2, d2, B3, d3, h1, h2, h3.below hb⟩, h.d7, h.d8, fun e => by
    obtain ⟨g, h1, h2, h3, h4, h5⟩ := h.blk e
    exact ⟨g, h1, h2, Nat.lt_of_lt_of_le h3 hb.size, fun e => (h4 e).below hb h3, fun e => (h5 e).below hb h3⟩, h.ne, h.d11⟩
theorem RmS.c6 (h : RmS w1 R AP Q b3 b6 b7 b8 b10 b11 v29 v32 v25 v33 v10 v) (hf : b6 = false) {B1 : Option Addr} {d1 : Nat} {B2 : Option Addr} {d2 : Nat} {B3 : Option Addr} {d3 : Nat} (ho : Own3 v' v.heap.size R B1 d1 B2 d2 B3 d3) (ha : AP (.slice B1 R.l1.length d1) (.slice B2 R.l2.length d2) (.slice B3 R.l3.length d3)) (hb : Below v.heap.size v v') :
    RmS w1 R AP Q b3 true b7 b8 b10 b11 v29 (R.tup B1 d1 B2 d2 B3 d3) v25 v33 v10 v' := by
  obtain ⟨h7, h8, h11⟩ := h.b11_6 hf
  subst h7 h8 h11
  exact ⟨h.hb.trans (hb.mono h.hb.size), nofun, fun _ => ⟨B1, d1, B2, d2, B3, d3, rfl, ha, ho.mono h.hb.size⟩, nofun, nofun, fun e => by
    obtain ⟨g, h1, h2, h3, h4, _⟩ := h.blk e
    exact ⟨g, h1, h2, Nat.lt_of_lt_of_le h3 hb.size, fun e => (h4 e).below hb h3, nofun⟩, fun _ e g hg C1 f1 C2 f2 C3 f3 hv => by
    obtain ⟨rfl, rfl, rfl, rfl, rfl, rfl⟩ := Res.tup_inj hv
    obtain ⟨g', h1, _, h3, _⟩ := h.blk e
    rw [h1] at hg
    simp only [Value.pointer.injEq, Option.some.injEq, Addr.mk.injEq, and_true] at hg
    subst hg
    exact ⟨fun e => (by have := ho.o1.ownGe _ e; omega), fun e => (by have := ho.o2.ownGe _ e; omega), fun e => (by have := ho.o3.ownGe _ e; omega)⟩, nofun⟩
theorem RmS.s7 (h : RmS w1 R AP Q b3 b6 b7 b8 b10 b11 v29 v32 v25 v33 v10 v) (hf : b7 = false) (e : b6 = true) : RmS w1 R AP Q b3 b6 true b8 b10 b11 v29 v32 v32 v33 v10 v := by
  have h8 : b8 = false := by cases h8 : b8 with
    | false => rfl
    | true => have := (h.d8 h8).1; rw [hf] at this; cases this
  have h11 : b11 = false := by cases h11 : b11 with
    | false => rfl
    | true => have := (h.d11 h11).1; rw [h8] at this; cases this
  subst h8 h11
  exact ⟨h.hb, h.q3, h.d6, fun _ => ⟨e, rfl⟩, nofun, h.blk, h.ne, nofun⟩
theorem RmS.s8 (h : RmS w1 R AP Q b3 b6 b7 b8 b10 b11 v29 v32 v25 v33 v10 v) (hf : b8 = false) (e : b7 = true) : RmS w1 R AP Q b3 b6 b7 true b10 b11 v29 v32 v25 (fstV v25) v10 v := by
  have h11 : b11 = false := by cases h11 : b11 with
    | false => rfl
    | true => have := (h.d11 h11).1; rw [hf] at this; cases this
  subst h11
  exact ⟨h.hb, h.q3, h.d6, h.d7, fun _ => ⟨e, rfl⟩, fun e => by
    obtain ⟨g, h1, h2, h3, h4, _⟩ := h.blk e
    exact ⟨g, h1, h2, h3, h4, nofun⟩, h.ne, nofun⟩
theorem RmS.a10 (h : RmS w1 R AP Q b3 b6 b7 b8 b10 b11 v29 v32 v25 v33 v10 v) (hf : b10 = false) (hq : Q v29 v → Q v29 (v.alloc (.cells exZ 36))) : RmS w1 R AP Q b3 b6 b7 b8 true b11 v29 v32 v25 v33 (.pointer (some ⟨v.heap.size, 0, none⟩)) (v.alloc (.cells exZ 36)) := by
  have h11 : b11 = false := by cases h11 : b11 with
    | false => rfl
    | true => have := (h.d11 h11).2; rw [hf] at this; cases this
  subst h11
  refine ⟨h.hb.alloc h.hb.size _, fun e f => hq (h.q3 e f), fun e => ?_, h.d7, h.d8, fun _ => ⟨_, rfl, h.hb.size, by simp, fun _ => Blk.new _ _ _, nofun⟩, fun e _ g hg B1 d1 B2 d2 B3 d3 hv => ?_, nofun⟩
  · obtain ⟨B1, d1, B2, d2, B3, d3, h1, h2, h3⟩ := h.d6 e
    exact ⟨B1, d1, B2, d2, B3, d3, h1, h2, h3.alloc _⟩
  · simp only [Value.pointer.injEq, Option.some.injEq, Addr.mk.injEq, and_true] at hg
    subst hg
    obtain ⟨C1, f1, C2, f2, C3, f3, h1, _, h3⟩ := h.d6 e
    rw [h1] at hv
    obtain ⟨rfl, rfl, rfl, rfl, rfl, rfl⟩ := Res.tup_inj hv
    exact ⟨fun e => (by have := own_ltS h3.o1 _ e; omega), fun e => (by have := own_ltS h3.o2 _ e; omega), fun e => (by have := own_ltS h3.o3 _ e; omega)⟩
theorem RmS.st {g : Nat} {B1 : Option Addr} {d1 : Nat} {B2 : Option Addr} {d2 : Nat} {B3 : Option Addr} {d3 : Nat} (h : RmS w1 R AP Q b3 b6 b7 b8 b10 b11 v29 (R.tup B1 d1 B2 d2 B3 d3) v25 v33 (.pointer (some ⟨g, 0, none⟩)) v) (hf : b11 = false) (e8 : b8 = true) (e10 : b10 = true) :
    RmS w1 R AP Q b3 b6 b7 b8 b10 true v29 (R.tup B1 d1 B2 d2 B3 d3) v25 v33 (.pointer (some ⟨g, 0, none⟩)) (((((((v.setCell ⟨g, 0, none⟩ (.int .i64 R.L)).setCell ⟨g, 1, none⟩ (.slice B1 R.l1.length d1)).setCell ⟨g, 2, none⟩ (.slice B2 R.l2.length d2)).setCell ⟨g, 3, none⟩ (.slice B3 R.l3.length d3)).setCell ⟨g, 4, none⟩ (.int .i64 R.p)).setCell ⟨g, 5, none⟩ (.int .i64 R.q)).setCell ⟨g, 6, none⟩ (.int .i64 R.r)) := by
  obtain ⟨g', g1, g2, g3, g4, _⟩ := h.blk e10
  simp only [Value.pointer.injEq, Option.some.injEq, Addr.mk.injEq, and_true] at g1
  subst g1
  have hB := g4 hf
  obtain ⟨e7, h33⟩ := h.d8 e8
  obtain ⟨e6, h25⟩ := h.d7 e7
  have hn := h.ne e6 e10 g rfl B1 d1 B2 d2 B3 d3 rfl
  refine ⟨((((((h.hb.setCell g2 _).setCell g2 _).setCell g2 _).setCell g2 _).setCell g2 _).setCell g2 _).setCell g2 _, fun _ f => (by rw [e6] at f; cases f), fun e => ?_, h.d7, h.d8, fun _ => ⟨g, rfl, g2, by simpa using g3, nofun, fun _ => ?_⟩, h.ne, fun _ => ⟨e8, e10⟩⟩
  · obtain ⟨C1, f1, C2, f2, C3, f3, k1, k2, k3⟩ := h.d6 e
    obtain ⟨rfl, rfl, rfl, rfl, rfl, rfl⟩ := Res.tup_inj k1
    exact ⟨_, _, _, _, _, _, rfl, k2, ((((((k3.set_ hn).set_ hn).set_ hn).set_ hn).set_ hn).set_ hn).set_ hn⟩
  · rw [h33, h25]
    exact ((((((hB.set_ 0 (.int .i64 R.L)).set_ 1 (.slice B1 R.l1.length d1)).set_ 2 (.slice B2 R.l2.length d2)).set_ 3 (.slice B3 R.l3.length d3)).set_ 4 (.int .i64 R.p)).set_ 5 (.int .i64 R.q)).set_ 6 (.int .i64 R.r)
/-- behind the region -/
theorem RmS.done (h : RmS w1 R AP Q b3 b6 b7 b8 b10 b11 v29 v32 v25 v33 v10 v) (e : b11 = true) : ∃ g B1 d1 B2 d2 B3 d3, v10 = .pointer (some ⟨g, 0, none⟩) ∧ w1.heap.size ≤ g ∧ Blk v g 36 (R.ex B1 d1 B2 d2 B3 d3) ∧ AP (.slice B1 R.l1.length d1) (.slice B2 R.l2.length d2) (.slice B3 R.l3.length d3) ∧ Own3 v w1.heap.size R B1 d1 B2 d2 B3 d3 ∧ R.off B1 d1 B2 d2 B3 d3 g := by
  obtain ⟨e8, e10⟩ := h.d11 e
  obtain ⟨e7, h33⟩ := h.d8 e8
  obtain ⟨e6, h25⟩ := h.d7 e7
  obtain ⟨g, g1, g2, _, _, g5⟩ := h.blk e10
  obtain ⟨C1, f1, C2, f2, C3, f3, k1, k2, k3⟩ := h.d6 e6
  have hB := g5 e
  rw [h33, h25, k1] at hB
  exact ⟨g, C1, f1, C2, f2, C3, f3, g1, g2, hB, k2, k3, h.ne e6 e10 g g1 _ _ _ _ _ _ k1⟩
end
end Go.Proofs.YtgkobjpoeajkdaaGreat
