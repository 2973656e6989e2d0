/- Marks in rules, chains and exercises: written and found again. Conditions: the lists' lengths. FnExactMakeExercise: what its walk carries. Plain lemmas on memory, and MakeExercise of both sides in one form. The size test of the laws on drawn arguments. No condition beyond the length. Plain facts for the law on scores. No condition. -/
import Derived.Test.YtednjmldjbndhaaGreatKSc1
import Derived.Test.YtednjmldjbndhaaGreatKSc30
import Derived.Test.YtednjmldjbndhaaGreatKSc31
import Derived.Test.YtednjmldjbndhaaGreatKSc32
import Derived.Test.YtednjmldjbndhaaGreatKSc33
import Derived.Test.YtednjmldjbndhaaGreatKSc38
import Derived.Test.YtednjmldjbndhaaGreatKSc39
import Derived.Test.YtednjmldjbndhaaGreatKSc41
import Derived.Test.YtednjmldjbndhaaGreatKSc42
set_option linter.unusedSimpArgs false
set_option linter.unusedVariables false
namespace Go.Proofs.YtednjmldjbndhaaGreat
open Go.RowKit
end Go.Proofs.YtednjmldjbndhaaGreat
namespace Go.Proofs.YtednjmldjbndhaaGreat
open Go.RowKit
/-- what a call may have changed: the blocks that are bad, and new ones -/
structure Kb (bad : Nat → Prop) (w w' : World) : Prop where
 os : w'.os = w.os
 tape : w'.tape = w.tape
 output : w'.output = w.output
 size : w.heap.size ≤ w'.heap.size
 block : ∀ k, k < w.heap.size → ¬ bad k → w'.heap[k]? = w.heap[k]?
section
variable {bad : Nat → Prop} {w w' w1 w2 a : World} {B g base k : Nat} {t e : TypeId} {cs : Array Value} {u : Value} {xs : List (List Value)} {r : Option Nat}
theorem Kb.trans (h1 : Kb bad w w1) (h2 : Kb bad w1 w2) : Kb bad w w2 := ⟨h2.os.trans h1.os, h2.tape.trans h1.tape, h2.output.trans h1.output, Nat.le_trans h1.size h2.size, fun k hk hn => (h2.block k (Nat.lt_of_lt_of_le hk h1.size) hn).trans (h1.block k hk hn)⟩
end
/-- what MakeExercise returns -/
structure Res where
 L : Int
 l1 : List Int
 l2 : List Int
 l3 : List Term
 p : Int
 q : Int
 r : Int
 code : Int
def mkRes (seed terms L : Int) (l1 l2 : List Int) (p q r : Int) : Res := if mkCode seed terms L l1 l2 p q r = 0 then ⟨L, l1, l2, mkTo seed terms.toNat, p, q, r, 0⟩ else ⟨0, [], [], [], 0, 0, 0, mkCode seed terms L l1 l2 p q r⟩
def Res.ex (R : Res) (B1 : Option Addr) (d1 : Nat) (B2 : Option Addr) (d2 : Nat) (B3 : Option Addr) (d3 : Nat) : Array Value := #[.int .i64 R.L, .slice B1 R.l1.length d1, .slice B2 R.l2.length d2, .slice B3 R.l3.length d3, .int .i64 R.p, .int .i64 R.q, .int .i64 R.r]
def Res.tup (R : Res) (B1 : Option Addr) (d1 : Nat) (B2 : Option Addr) (d2 : Nat) (B3 : Option Addr) (d3 : Nat) : Value := .tuple #[.agg (R.ex B1 d1 B2 d2 B3 d3), .int .i64 R.code]
/-- three slices of one's own -/
structure Own3 (w : World) (base : Nat) (R : Res) (B1 : Option Addr) (d1 : Nat) (B2 : Option Addr) (d2 : Nat) (B3 : Option Addr) (d3 : Nat) : Prop where
 o1 : Own w base 2 1 (.slice B1 R.l1.length d1) (R.l1.map ic)
 o2 : Own w base 2 1 (.slice B2 R.l2.length d2) (R.l2.map ic)
 o3 : Own w base 100 3 (.slice B3 R.l3.length d3) (R.l3.map Term.cells)
theorem Own3.below {w w' : World} {base : Nat} {R : Res} {B1 : Option Addr} {d1 : Nat} {B2 : Option Addr} {d2 : Nat} {B3 : Option Addr} {d3 : Nat} (h : Own3 w base R B1 d1 B2 d2 B3 d3) (hb : Below w.heap.size w w') : Own3 w' base R B1 d1 B2 d2 B3 d3 := ⟨h.o1.below hb, h.o2.below hb, h.o3.below hb⟩
theorem Own3.mono {w : World} {base base' : Nat} {R : Res} {B1 : Option Addr} {d1 : Nat} {B2 : Option Addr} {d2 : Nat} {B3 : Option Addr} {d3 : Nat} (h : Own3 w base R B1 d1 B2 d2 B3 d3) (hb : base' ≤ base) : Own3 w base' R B1 d1 B2 d2 B3 d3 := ⟨h.o1.mono hb, h.o2.mono hb, h.o3.mono hb⟩
theorem Own3.alloc {w : World} {base : Nat} {R : Res} {B1 : Option Addr} {d1 : Nat} {B2 : Option Addr} {d2 : Nat} {B3 : Option Addr} {d3 : Nat} (h : Own3 w base R B1 d1 B2 d2 B3 d3) (o : Obj) : Own3 (w.alloc o) base R B1 d1 B2 d2 B3 d3 := ⟨h.o1.alloc o, h.o2.alloc o, h.o3.alloc o⟩
/-- no slice lies in block g -/
def Res.off (R : Res) (B1 : Option Addr) (d1 : Nat) (B2 : Option Addr) (d2 : Nat) (B3 : Option Addr) (d3 : Nat) (g : Nat) : Prop := (Value.slice B1 R.l1.length d1).ownBlock ≠ some g ∧ (Value.slice B2 R.l2.length d2).ownBlock ≠ some g ∧ (Value.slice B3 R.l3.length d3).ownBlock ≠ some g
theorem Own3.in_ {w : World} {base : Nat} {R : Res} {B1 : Option Addr} {d1 : Nat} {B2 : Option Addr} {d2 : Nat} {B3 : Option Addr} {d3 : Nat} (h : Own3 w base R B1 d1 B2 d2 B3 d3) (hl : R.l1.length ≤ 1048576 ∧ R.l2.length ≤ 1048576 ∧ R.l3.length ≤ 1048576) : ExIn w B1 d1 R.l1 B2 d2 R.l2 B3 d3 R.l3 := ⟨hl.1, hl.2.1, hl.2.2, h.o1.le_cap, h.o2.le_cap, h.o3.le_cap, h.o1.sl, h.o2.sl, h.o3.sl⟩
def AP3 (a b c : Value) : Prop := Apart a b ∧ Apart a c ∧ Apart b c
def APn (_ _ _ : Value) : Prop := True
def RsU (R : Res) (AP : Value → Value → Value → Prop) (w : World) (e : Ending) (w' : World) : Prop :=
 ∃ B1 d1 B2 d2 B3 d3, e = .returned (R.tup B1 d1 B2 d2 B3 d3) ∧ Own3 w' w.heap.size R B1 d1 B2 d2 B3 d3 ∧ AP (.slice B1 R.l1.length d1) (.slice B2 R.l2.length d2) (.slice B3 R.l3.length d3) ∧ Below w.heap.size w w'
theorem apart_none {v : Value} : Apart v (.slice none 0 0) := .inl rfl
theorem MkPost.u {seed terms L : Int} {l1 l2 : List Int} {p q r : Int} {w : World} {e : Ending} {w' : World} (h : MkPost (mkCode seed terms L l1 l2 p q r) L l1 l2 (mkTo seed terms.toNat) p q r w e w') : RsU (mkRes seed terms L l1 l2 p q r) AP3 w e w' := by
 unfold MkPost at h
 unfold mkRes
 split at h
 ·rename_i h0
  rw [if_pos h0]
  obtain ⟨B1, d1, B2, d2, B3, d3, h1, o1, o2, o3, a1, a2, a3, hb⟩ := h
  exact ⟨B1, d1, B2, d2, B3, d3, h1, ⟨o1, o2, o3⟩, ⟨a1, a2, a3⟩, hb⟩
 ·rename_i h0
  rw [if_neg h0]
  exact ⟨none, 0, none, 0, none, 0, h.1, ⟨Own.nil_, Own.nil_, Own.nil_⟩, ⟨apart_none, apart_none, apart_none⟩, h.2⟩
theorem SpMk.u {seed terms L : Int} {l1 l2 : List Int} {p q r : Int} {w : World} {e : Ending} {w' : World} (h : SpMk (mkCode seed terms L l1 l2 p q r) L l1 l2 (mkTo seed terms.toNat) p q r w e w') : RsU (mkRes seed terms L l1 l2 p q r) APn w e w' := by
 unfold SpMk at h
 unfold mkRes
 split at h
 ·rename_i h0
  rw [if_pos h0]
  obtain ⟨B1, d1, B2, d2, B3, d3, h1, o1, o2, o3, hb⟩ := h
  exact ⟨B1, d1, B2, d2, B3, d3, h1, ⟨o1, o2, o3⟩, trivial, hb⟩
 ·rename_i h0
  rw [if_neg h0]
  exact ⟨none, 0, none, 0, none, 0, h.1, ⟨Own.nil_, Own.nil_, Own.nil_⟩, trivial, h.2⟩
theorem mkCode_terms {seed terms L : Int} {l1 l2 : List Int} {p q r : Int} (h : mkCode seed terms L l1 l2 p q r = 0) : 1 ≤ terms ∧ terms ≤ 6 := by
 unfold mkCode at h
 split at h
 ·split at h
  ·rename_i h1
   rw [Bool.and_eq_true, inB_true, inB_true] at h1
   exact h1.2
  ·cases h
 ·cases h
theorem mkRes_bd {seed terms L : Int} {l1 l2 : List Int} {p q r : Int} (h1 : l1.length ≤ 1048576) (h2 : l2.length ≤ 1048576) : (mkRes seed terms L l1 l2 p q r).l1.length ≤ 1048576 ∧ (mkRes seed terms L l1 l2 p q r).l2.length ≤ 1048576 ∧ (mkRes seed terms L l1 l2 p q r).l3.length ≤ 1048576 := by
 unfold mkRes
 split
 ·rename_i h0
  have := mkCode_terms h0
  exact ⟨h1, h2, by simp only [mkTo_length]; omega⟩
 ·simp
def fstV : Value → Value
 | .tuple cs => cs.getD 0 undef
 | v => v
/-- while 'x0, x1 := MakeExercise(..)' runs; x0's block is made at any time -/
structure RmS (w1 : World) (R : Res) (AP : Value → Value → Value → Prop) (Q : Value → World → Prop) (b3 b6 b7 b8 b10 b11 : Bool) (v29 v32 v25 v33 v10 : Value) (v : World) : Prop where
 hb : Below w1.heap.size w1 v
 q3 : b3 = true → b6 = false → Q v29 v
 d6 : b6 = true → ∃ B1 d1 B2 d2 B3 d3, v32 = R.tup B1 d1 B2 d2 B3 d3 ∧ AP (.slice B1 R.l1.length d1) (.slice B2 R.l2.length d2) (.slice B3 R.l3.length d3) ∧ Own3 v w1.heap.size R B1 d1 B2 d2 B3 d3
 d7 : b7 = true → b6 = true ∧ v25 = v32
 d8 : b8 = true → b7 = true ∧ v33 = fstV v25
 blk : b10 = true → ∃ g, v10 = .pointer (some ⟨g, 0, none⟩) ∧ w1.heap.size ≤ g ∧ g < v.heap.size ∧ (b11 = false → Blk v g 31 exZ) ∧ (b11 = true → Blk v g 31 (cellsV v33))
 ne : b6 = true → b10 = true → ∀ g, v10 = .pointer (some ⟨g, 0, none⟩) → ∀ B1 d1 B2 d2 B3 d3, v32 = R.tup B1 d1 B2 d2 B3 d3 → R.off B1 d1 B2 d2 B3 d3 g
 d11 : b11 = true → b8 = true ∧ b10 = true
section
variable {w1 v v' : World} {R : Res} {AP : Value → Value → Value → Prop} {Q : Value → World → Prop} {b3 b6 b7 b8 b10 b11 : Bool} {v29 v32 v25 v33 v10 u : Value}
/-- a call that only makes new memory, ahead of the call that counts or behind it -/
theorem RmS.below (h : RmS w1 R AP Q b3 b6 b7 b8 b10 b11 v29 v32 v25 v33 v10 v) (hq : Q v29 v → Q v29 v') (hb : Below v.heap.size v v') : RmS w1 R AP Q b3 b6 b7 b8 b10 b11 v29 v32 v25 v33 v10 v' :=
 ⟨h.hb.trans (hb.mono h.hb.size), fun e f => hq (h.q3 e f), fun e => by
  obtain ⟨B1, d1, B2, d2, B3, d3, h1, h2, h3⟩ := h.d6 e
  exact ⟨B1, d1, B2, d2, B3, d3, h1, h2, h3.below hb⟩, h.d7, h.d8, fun e => by
  obtain ⟨g, h1, h2, h3, h4, h5⟩ := h.blk e
  exact ⟨g, h1, h2, Nat.lt_of_lt_of_le h3 hb.size, fun e => (h4 e).below hb h3, fun e => (h5 e).below hb h3⟩, h.ne, h.d11⟩
theorem RmS.c3 (h : RmS w1 R AP Q b3 b6 b7 b8 b10 b11 v29 v32 v25 v33 v10 v) (hu : Q u v') (hb : Below v.heap.size v v') : RmS w1 R AP Q true b6 b7 b8 b10 b11 u v32 v25 v33 v10 v' :=
 ⟨h.hb.trans (hb.mono h.hb.size), fun _ _ => hu, fun e => by
  obtain ⟨B1, d1, B2, d2, B3, d3, h1, h2, h3⟩ := h.d6 e
  exact ⟨B1, d1, B2, d2, B3, d3, h1, h2, h3.below hb⟩, h.d7, h.d8, fun e => by
  obtain ⟨g, h1, h2, h3, h4, h5⟩ := h.blk e
  exact ⟨g, h1, h2, Nat.lt_of_lt_of_le h3 hb.size, fun e => (h4 e).below hb h3, fun e => (h5 e).below hb h3⟩, h.ne, h.d11⟩
end
end Go.Proofs.YtednjmldjbndhaaGreat
namespace Go.Proofs.YtednjmldjbndhaaGreat
open Go.RowKit
theorem big_c (A : Option Addr) (n c : Nat) (w : World) (hn : n ≤ 140737488351232) : Calls Tryz.prog 6 #[.slice A n c] w fun e w' => e = .returned (.bool (decide (4096 < n))) ∧ w = w' := by
 go_enter Tryz.func6, Tryz.ntmps6
 go_wp2
 go_ret
 exact ⟨ret_bool (by simp; omega), rfl⟩
end Go.Proofs.YtednjmldjbndhaaGreat
namespace Go.Proofs.YtednjmldjbndhaaGreat
open Go.RowKit
theorem ex_plan {L : Int} {l1 l2 : List Int} {l : List Term} {p q r : Int} (h : exB L l1 l2 l p q r = true) : planCode L l1 l2 l = 0 := by
 have hb := (ex_parts h).1
 unfold boundCode at hb
 split at hb
 ·exact hb
 ·cases hb
/-- how many moves an exercise's plan has -/
def ExR.pl (e : ExR) : Nat := (planL e.L e.l1 e.l2 e.l3).length
theorem bst_max (K : List (Bool × Nat)) : ∀ k, k ≤ K.length → ∀ (i : Nat) (x : Bool × Nat), i < k → K[i]? = some x → (x.2 : Int) ≤ (bst K k).2
 | 0, _, i, x, hi, _ => by omega
 | k + 1, hk, i, x, hi, hx => by
  have ih := bst_max K k (by omega)
  unfold bst
  rw [List.getElem?_eq_getElem (by omega : k < K.length)]
  by_cases h : i = k
  ·subst h
   rw [List.getElem?_eq_getElem (by omega : i < K.length)] at hx
   cases hx
   simp only
   split <;> (try simp only) <;> omega
  ·have := ih i x (by omega) hx
   simp only
   split <;> (try simp only) <;> omega
theorem bst_at (K : List (Bool × Nat)) : ∀ k, k ≤ K.length → 0 < k → ∃ (i : Nat) (x : Bool × Nat), (bst K k).1 = (i : Int) ∧ i < k ∧ K[i]? = some x ∧ (bst K k).2 = (x.2 : Int)
 | 0, _, h => by omega
 | k + 1, hk, _ => by
  unfold bst
  rw [List.getElem?_eq_getElem (by omega : k < K.length)]
  simp only
  split
  ·exact ⟨k, K[k], rfl, by omega, List.getElem?_eq_getElem (by omega), rfl⟩
  ·rename_i h
   by_cases h0 : 0 < k
   ·obtain ⟨i, x, h1, h2, h3, h4⟩ := bst_at K k (by omega) h0
    exact ⟨i, x, h1, by omega, h3, h4⟩
   ·obtain rfl : k = 0 := by omega
    exact absurd (show (bst K 0).2 < _ by simp only [bst]; omega) h
/-- the hardest exercise has the longest plan -/
theorem hard_facts {es : List ExR} (h : hardCode (es.map ExR.key) = 0) : ∃ (j : Nat) (hj : j < es.length), hardIx (es.map ExR.key) = (j : Int) ∧ ∀ (i : Nat) (hi : i < es.length), planCode es[i].L es[i].l1 es[i].l2 es[i].l3 = 0 ∧ es[i].pl ≤ es[j].pl := by
 have hc := h
 unfold hardCode at hc
 split at hc
 ·rename_i hall
  split at hc
  ·cases hc
  ·split at hc
   ·cases hc
   ·rename_i h20 h0
    have h0' : 0 < (es.map ExR.key).length := by omega
    obtain ⟨j, x, h1, h2, h3, h4⟩ := bst_at (es.map ExR.key) _ (Nat.le_refl _) h0'
    have hj : j < es.length := by simpa using h2
    have hpc : ∀ (i : Nat) (hi : i < es.length), planCode es[i].L es[i].l1 es[i].l2 es[i].l3 = 0 := fun i hi => by
     rw [keys_all] at hall
     exact ex_plan (List.all_eq_true.1 hall _ (List.getElem_mem hi))
    have hpl : ∀ (i : Nat) (hi : i < es.length), es[i].pl = es[i].key.2 := fun i hi => by
     unfold ExR.pl planL ExR.key
     rw [if_pos (hpc i hi)]
    refine ⟨j, hj, ?_, fun i hi => ⟨hpc i hi, ?_⟩⟩
    ·unfold hardIx
     rw [if_pos h]
     exact h1
    ·have := bst_max (es.map ExR.key) _ (Nat.le_refl _) i es[i].key (by simpa using hi) (by simp [List.getElem?_eq_getElem hi])
     rw [h4] at this
     rw [hpl i hi, hpl j hj]
     rw [List.getElem?_map, List.getElem?_eq_getElem hj] at h3
     cases h3
     omega
 ·cases hc
/-- a score is the sum of the single grades -/
theorem score_facts {G : Figure → Int} {ok : Bool} {n : Nat} (h : scC ok n = 0) : ok = true ∧ n ≤ 20 ∧ ∀ l : List Figure, l.length = n → scV G ok l = scTo G l n := by
 have h' := h
 unfold scC at h'
 split at h'
 ·rename_i h1
  split at h'
  ·cases h'
  ·exact ⟨h1, by omega, fun l hl => by unfold scV; rw [hl, if_pos h]⟩
 ·cases h'
theorem mk_facts {seed terms L : Int} {l1 l2 : List Int} {p q r : Int} (h : (mkRes seed terms L l1 l2 p q r).code = 0) :
  exB (mkRes seed terms L l1 l2 p q r).L (mkRes seed terms L l1 l2 p q r).l1 (mkRes seed terms L l1 l2 p q r).l2 (mkRes seed terms L l1 l2 p q r).l3 (mkRes seed terms L l1 l2 p q r).p (mkRes seed terms L l1 l2 p q r).q (mkRes seed terms L l1 l2 p q r).r = true ∧ ((mkRes seed terms L l1 l2 p q r).l3.length : Int) = terms := by
 unfold mkRes at h ⊢
 split at h
 ·rename_i h0
  have ht := mkCode_terms h0
  rw [if_pos h0]
  simp only [mkTo_length]
  refine ⟨?_, by omega⟩
  unfold mkCode at h0
  split at h0
  ·split at h0
   ·split at h0
    ·assumption
    ·cases h0
   ·cases h0
  ·cases h0
 ·rename_i h0
  exact absurd h h0
set_option maxRecDepth 100000 in
theorem neErrSame (a b d : Int) (w : World) : Sem.run Tryz.prog (binOp .neq 29 (.agg #[.int .i64 a, .int .i64 b, .int .i64 d]) (.agg #[.int .i64 a, .int .i64 b, .int .i64 d])) w = .ok (.bool false) w := by
 have hS : Tryz.prog.underlying 29 = some (.struct (Tryz.prog.fieldsOf 29)) := by kernel_rfl
 have hp : Tryz.prog.stoodInHeld 29 = false := by kernel_rfl
 have u3 := Tryz.underlying2
 have a3 := Tryz.isAgg2
 have z3 := Tryz.sizeOf2
 rw [run_neq_struct, show (10000 : Nat) = 9999 + 1 from rfl, run_equalIn_agg w 9999 29 _ _ hS hp]
 simp only [Program.fieldsOf, Tryz.underlying29]
 go_simp
end Go.Proofs.YtednjmldjbndhaaGreat
