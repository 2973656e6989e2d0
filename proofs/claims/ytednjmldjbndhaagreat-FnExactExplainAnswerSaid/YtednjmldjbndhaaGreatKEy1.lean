/- Words for memory: a slice that reads as a list of rows of cells; a slice that the call itself made. Plain lemmas, no condition of their own. Contracts of the small integer functions: each returns what its Lean counterpart computes, the world unchanged. No condition beyond those that are written. Figure: the structure, the laws' copies and comparisons of it. No condition beyond the length. Small range tests of one number. No condition. The logarithm by squaring: the plain sums. No program. The logarithm of a number from 10^8 to 10^9: the program's and the reference's. Figures on a circle: valid figures, their angles. -/
import Derived.Test.YtednjmldjbndhaaGreatProg
import Derived.WalkKit
import Derived.WalkLawsBesides
import Derived.Lib.Hide
import Derived.Deep.AppendLies
import Derived.Deep.QuietTactic
import Derived.BigQuiet
import Derived.StillTailTactics
set_option linter.unusedSimpArgs false
set_option linter.unusedVariables false
namespace Go.Proofs.YtednjmldjbndhaaGreat
open Go.RowKit

theorem ret_int {k : IntKind} {a b : Int} (h : a = b) : Ending.returned (.int k a) = .returned (.int k b) := by rw [h]
theorem ret_bool {a b : Bool} (h : a = b) : Ending.returned (.bool a) = .returned (.bool b) := by rw [h]

/-- The slice at A reads as the rows xs (k cells each), all below block B. -/
def Sl (w : World) (B : Nat) (k : Nat) (A : Option Addr) (xs : List (List Value)) : Prop :=
  ∀ i x, xs[i]? = some x → x.length = k ∧ ∃ b off, A = some ⟨b, off, none⟩ ∧ b < B ∧ ∀ j v, x[j]? = some v → w.cell? ⟨b, off + i * k + j, none⟩ = some v

section
variable {w w' : World} {B B' k : Nat} {A : Option Addr} {xs : List (List Value)}
theorem Sl.nil_ : Sl w B k A [] := fun i x h => by simp at h
theorem Sl.keep (h : Sl w B k A xs) (hk : ∀ p : Addr, p.block < B → w'.cell? p = w.cell? p) : Sl w' B k A xs := fun i x hx => by
  obtain ⟨hl, b, off, rfl, hb, hc⟩ := h i x hx
  exact ⟨hl, b, off, rfl, hb, fun j v hv => (hk ⟨b, off + i * k + j, none⟩ hb).trans (hc j v hv)⟩
theorem Sl.more (h : Sl w B k A xs) (hB : B ≤ B') : Sl w B' k A xs := fun i x hx => by
  obtain ⟨hl, b, off, rfl, hb, hc⟩ := h i x hx
  exact ⟨hl, b, off, rfl, by omega, hc⟩
theorem Sl.below (h : Sl w B k A xs) (hb : Below B w w') : Sl w' B k A xs := h.keep fun _ hp => hb.cell hp
theorem Sl.alloc (h : Sl w B k A xs) (hB : B ≤ w.heap.size) (o : Obj) : Sl (w.alloc o) B k A xs := h.keep fun p hp => World.cell?_alloc_lt w o p (by omega)
/-- the rows of a block of the call's own -/
theorem Sl.at_ {i : Nat} (h : Sl w B k A xs) (hi : i < xs.length) : ∃ b off, A = some ⟨b, off, none⟩ ∧ b < B ∧ ∀ j v, (xs[i])[j]? = some v → w.cell? ⟨b, off + i * k + j, none⟩ = some v :=
  (h i xs[i] (List.getElem?_eq_getElem hi)).2
theorem Sl.drop (h : Sl w B k A xs) {m cap : Nat} (hm : m ≤ xs.length) (hc : xs.length ≤ cap) :
    Sl w B k (if cap = m then A else A.map (·.add (m * k))) (xs.drop m) := fun i x hx => by
  rw [List.getElem?_drop] at hx
  obtain ⟨hl, b, off, rfl, hb, hcell⟩ := h (m + i) x hx
  have hlt : m + i < xs.length := (List.getElem?_eq_some_iff.1 hx).1
  refine ⟨hl, b, off + m * k, ?_, hb, fun j v hv => ?_⟩
  · rw [if_neg (by omega)]
    by_cases h0 : m * k = 0
    · simp [Addr.add, h0]
    · simp [Addr.add, h0]
  · have := hcell j v hv
    rwa [show off + (m + i) * k + j = off + m * k + i * k + j from by rw [Nat.add_mul]; omega] at this
theorem Sl.take (h : Sl w B k A xs) (m : Nat) : Sl w B k A (xs.take m) := fun i x hx => by
  by_cases hi : i < m
  · rw [List.getElem?_take, if_pos hi] at hx
    exact h i x hx
  · rw [List.getElem?_take, if_neg hi] at hx
    cases hx
end

/-! ### Rows laid flat -/
theorem flat_get {xs : List (List Value)} {k : Nat} (h : ∀ x ∈ xs, x.length = k) : ∀ (i j : Nat) (x : List Value) (v : Value), xs[i]? = some x → x[j]? = some v → xs.flatten[i * k + j]? = some v := by
  induction xs with
  | nil => intro i j x v hx; simp at hx
  | cons y ys ih =>
    intro i j x v hx hv
    have hy : y.length = k := h y (by simp)
    rw [List.flatten_cons]
    cases i with
    | zero =>
      simp only [List.getElem?_cons_zero, Option.some.injEq] at hx
      subst hx
      rw [List.getElem?_append_left (by have := (List.getElem?_eq_some_iff.1 hv).1; omega)]
      simpa using hv
    | succ i =>
      simp only [List.getElem?_cons_succ] at hx
      rw [List.getElem?_append_right (by rw [hy, Nat.succ_mul]; omega)]
      rw [hy, show (i + 1) * k + j - k = i * k + j from by rw [Nat.succ_mul]; omega]
      exact ih (fun z hz => h z (by simp [hz])) i j x v hx hv
theorem flat_length {xs : List (List Value)} {k : Nat} (h : ∀ x ∈ xs, x.length = k) : xs.flatten.length = xs.length * k := by
  induction xs with
  | nil => simp
  | cons y ys ih =>
    rw [List.flatten_cons, List.length_append, ih (fun z hz => h z (by simp [hz])), h y (by simp), List.length_cons, Nat.succ_mul]
    omega

/-- v is a slice that the call itself made (blocks from base on), of element type e, k cells each; it holds the rows xs. -/
def Own (w : World) (base : Nat) (e : TypeId) (k : Nat) (v : Value) (xs : List (List Value)) : Prop :=
  w.ownsRow base e k v xs.length xs.flatten ∧ ∀ x ∈ xs, x.length = k

section
variable {w w' : World} {base base' : Nat} {e : TypeId} {k : Nat} {v : Value} {xs : List (List Value)}
theorem Own.nil_ : Own w base e k (.slice none 0 0) [] := ⟨World.ownsRow_nil _ _ _ _, by simp⟩
theorem Own.mono (h : Own w base e k v xs) (hb : base' ≤ base) : Own w base' e k v xs := by
  obtain ⟨⟨h1, h2⟩, h3⟩ := h
  refine ⟨⟨h1, ?_⟩, h3⟩
  rcases h2 with h2 | ⟨g, cap, cur, hv, hg, r⟩
  · exact Or.inl h2
  · exact Or.inr ⟨g, cap, cur, hv, by omega, r⟩
theorem Own.below (h : Own w base e k v xs) (hb : Below w.heap.size w w') : Own w' base e k v xs := by
  obtain ⟨⟨h1, h2⟩, h3⟩ := h
  refine ⟨⟨h1, ?_⟩, h3⟩
  rcases h2 with h2 | ⟨g, cap, cur, hv, hg, hh, r⟩
  · exact Or.inl h2
  · refine Or.inr ⟨g, cap, cur, hv, hg, ?_, r⟩
    rw [hb.block g]; · exact hh
    · rcases Nat.lt_or_ge g w.heap.size with hlt | hge
      · exact hlt
      · rw [Array.getElem?_eq_none hge] at hh; cases hh
theorem Own.alloc (h : Own w base e k v xs) (o : Obj) : Own (w.alloc o) base e k v xs := ⟨h.1.alloc o, h.2⟩
theorem Own.drewN (h : Own w base e k v xs) (n : Nat) : Own (w.drewN n) base e k v xs := h
/-- the slice's own shape -/
theorem Own.form (h : Own w base e k v xs) : ∃ A c, v = .slice A xs.length c ∧ xs.length ≤ c := by
  rcases h.1.2 with ⟨rfl, h0⟩ | ⟨g, cap, cur, rfl, _, _, hc, _⟩
  · exact ⟨none, 0, by rw [h0], by omega⟩
  · exact ⟨_, cap, rfl, hc⟩
theorem Own.sl {A : Option Addr} {n c : Nat} (h : Own w base e k (.slice A n c) xs) : Sl w w.heap.size k A xs := fun i x hx => by
  have hi : i < xs.length := (List.getElem?_eq_some_iff.1 hx).1
  refine ⟨h.2 x (List.mem_of_getElem? hx), ?_⟩
  rcases h.1.2 with ⟨_, h0⟩ | ⟨g, cap, cur, hv, hg, hh, hc, _, hcs, htake⟩
  · omega
  · simp only [Value.slice.injEq] at hv
    obtain ⟨rfl, _, rfl⟩ := hv
    refine ⟨g, 0, rfl, ?_, fun j v hv => ?_⟩
    · rcases Nat.lt_or_ge g w.heap.size with hlt | hge
      · exact hlt
      · rw [Array.getElem?_eq_none hge] at hh; cases hh
    · have hf := flat_get h.2 i j x v hx hv
      rw [← htake, List.getElem?_take] at hf
      split at hf
      · rw [Nat.zero_add, cell_of_row w g (i * k + j) cur e (0, 0) hh]
        simpa using hf
      · cases hf
end

/-- a block of the call's own: n rows of k cells; what its rows hold -/
def Blk (w : World) (g : Nat) (t : TypeId) (cs : Array Value) : Prop := w.heap[g]? = some (.cells cs t (0, 0))
section
variable {w w' : World} {g : Nat} {t : TypeId} {cs : Array Value}
theorem Blk.lt (h : Blk w g t cs) : g < w.heap.size := by
  rcases Nat.lt_or_ge g w.heap.size with hlt | hge
  · exact hlt
  · unfold Blk at h; rw [Array.getElem?_eq_none hge] at h; cases h
theorem Blk.cell (h : Blk w g t cs) (i : Nat) : w.cell? ⟨g, i, none⟩ = cs[i]? := cell_of_row w g i cs t (0, 0) h
theorem Blk.cl {v : Value} (h : Blk w g t cs) (i : Nat) (hv : cs[i]? = some v) : w.cell? ⟨g, i, none⟩ = some v := (h.cell i).trans hv
theorem Blk.frozen (h : Blk w g t cs) (i : Nat) : w.frozen? ⟨g, i, none⟩ = false := by
  unfold Blk at h
  simp [World.frozen?, h]
theorem Blk.set_ (h : Blk w g t cs) (i : Nat) (u : Value) : Blk (w.setCell ⟨g, i, none⟩ u) g t (cs.setIfInBounds i u) := by
  unfold Blk at h ⊢
  simp [World.setCell, Array.getElem?_modify, h]
theorem Blk.two0 {a b u : Value} (h : Blk w g t #[a, b]) : Blk (w.setCell ⟨g, 0, none⟩ u) g t #[u, b] := h.set_ 0 u
theorem Blk.two1 {a b u : Value} (h : Blk w g t #[a, b]) : Blk (w.setCell ⟨g, 1, none⟩ u) g t #[a, u] := h.set_ 1 u
theorem Blk.new (w : World) (t : TypeId) (cs : Array Value) : Blk (w.alloc (.cells cs t)) w.heap.size t cs := heap_alloc_new w _
theorem Blk.new' (w : World) (t : TypeId) (cs : Array Value) {g : Nat} (hg : w.heap.size = g) : Blk (w.alloc (.cells cs t)) g t cs := hg ▸ Blk.new w t cs
theorem Blk.alloc (h : Blk w g t cs) (o : Obj) : Blk (w.alloc o) g t cs := (Below.heap_alloc w o g h.lt).trans h
theorem Blk.far (h : Blk w g t cs) {p : Addr} (hp : g ≠ p.block) (u : Value) : Blk (w.setCell p u) g t cs := (Below.heap_setCell w p u g hp).trans h
theorem Blk.drewN (h : Blk w g t cs) (n : Nat) : Blk (w.drewN n) g t cs := h
theorem Blk.below {B : Nat} (h : Blk w g t cs) (hb : Below B w w') (hg : g < B) : Blk w' g t cs := (hb.block g hg).trans h
end

/-! ### A row of the call's own is written, element by element -/
theorem made_rows (z : Array Value) (k n : Nat) (hk : z.size = k) (hk0 : 0 < k) : (madeCells z (n * k)).toList = (List.replicate n z.toList).flatten := by
  have hrows : ∀ x ∈ List.replicate n z.toList, x.length = k := fun x hx => by rw [(List.mem_replicate.1 hx).2]; simpa using hk
  apply List.ext_getElem?
  intro j
  by_cases hj : j < n * k
  · have hd : j / k < n := (Nat.div_lt_iff_lt_mul hk0).2 hj
    have hm : j % k < z.toList.length := by rw [Array.length_toList, hk]; exact Nat.mod_lt _ hk0
    have h := flat_get hrows (j / k) (j % k) z.toList z.toList[j % k] (by simp [hd]) (List.getElem?_eq_getElem hm)
    rw [show j / k * k + j % k = j from by rw [Nat.mul_comm]; exact Nat.div_add_mod j k] at h
    rw [h]
    have hmz : j % z.size < z.size := Nat.mod_lt _ (by omega)
    have hmz' : j % k < z.size := by rw [hk] at hmz ⊢; exact hmz
    simp [madeCells, hj, hk]
    exact getElem!_pos z (j % k) hmz'
  · rw [List.getElem?_eq_none (by simp [size_madeCells]; omega), List.getElem?_eq_none (by rw [flat_length hrows]; simp; omega)]

def stores (w : World) (g : Nat) : Nat → List Value → World
  | _, [] => w
  | p, v :: vs => stores (w.setCell ⟨g, p, none⟩ v) g (p + 1) vs

theorem ownsRow_stores {base : Nat} {e : TypeId} {size g n cap : Nat} : ∀ (cs : List Value) (p : Nat) (w : World) (P S R : List Value), w.ownsRow base e size (.slice (some ⟨g, 0, none⟩) n cap) n (P ++ S ++ R) → P.length = p → S.length = cs.length →
    (stores w g p cs).ownsRow base e size (.slice (some ⟨g, 0, none⟩) n cap) n (P ++ cs ++ R)
  | [], _, w, P, S, R, h, _, hs => by
    obtain rfl : S = [] := List.eq_nil_of_length_eq_zero (by simpa using hs)
    exact h
  | v :: vs, p, w, P, S, R, h, hp, hs => by
    match S, hs with
    | s :: S', hs =>
      have h1 := (h.stored p v).1
      have e1 : (P ++ s :: S' ++ R).set p v = (P ++ [v]) ++ S' ++ R := by
        rw [List.append_assoc, List.set_append_right _ _ (by omega), hp, Nat.sub_self]
        simp
      rw [e1] at h1
      have h2 := ownsRow_stores vs (p + 1) _ (P ++ [v]) S' R h1 (by simp [hp]) (by simpa using hs)
      rw [show P ++ (v :: vs) ++ R = P ++ [v] ++ vs ++ R from by simp]
      exact h2

theorem flat_set {xs : List (List Value)} {x : List Value} {i : Nat} (hi : i < xs.length) : (xs.set i x).flatten = (xs.take i).flatten ++ x ++ (xs.drop (i + 1)).flatten := by
  rw [List.set_eq_take_append_cons_drop, if_pos hi]
  simp
theorem flat_split {xs : List (List Value)} {i : Nat} (hi : i < xs.length) : xs.flatten = (xs.take i).flatten ++ xs[i] ++ (xs.drop (i + 1)).flatten := by
  have h := flat_set (xs := xs) (x := xs[i]) hi
  rw [List.set_getElem_self] at h
  exact h

theorem Own.store {w : World} {base : Nat} {e : TypeId} {k g n cap : Nat} {xs : List (List Value)} (h : Own w base e k (.slice (some ⟨g, 0, none⟩) n cap) xs) {i : Nat} (hi : i < xs.length) (x : List Value) (hx : x.length = k) :
    Own (stores w g (i * k) x) base e k (.slice (some ⟨g, 0, none⟩) n cap) (xs.set i x) := by
  obtain ⟨h1, h2⟩ := h
  have hn : n = xs.length := by
    rcases h1.2 with ⟨h', _⟩ | ⟨g', cap', cur, h', _⟩
    · simp at h'
    · simp only [Value.slice.injEq] at h'; exact h'.2.1
  subst hn
  refine ⟨?_, fun y hy => ?_⟩
  · rw [List.length_set, flat_set hi]
    rw [flat_split hi] at h1
    refine ownsRow_stores x (i * k) w _ xs[i] _ h1 ?_ ?_
    · rw [flat_length fun z hz => h2 z (List.mem_of_mem_take hz)]
      rw [List.length_take, Nat.min_eq_left (by omega)]
    · rw [hx, h2 _ (List.getElem_mem hi)]
  · rcases List.mem_or_eq_of_mem_set hy with h | rfl
    · exact h2 y h
    · exact hx
theorem stores_below {B g : Nat} (hg : B ≤ g) : ∀ (cs : List Value) (p : Nat) {a w : World}, Below B a w → Below B a (stores w g p cs)
  | [], _, _, _, h => h
  | _ :: vs, p, _, _, h => stores_below hg vs (p + 1) (h.setCell hg _)
theorem rows_next {xs : List (List Value)} {z x : List Value} {k n : Nat} (hk : k < xs.length) (hx : xs[k]? = some x) (hn : xs.length = n := by simp) : (xs.take k ++ List.replicate (n - k) z).set k x = xs.take (k + 1) ++ List.replicate (n - (k + 1)) z := by
  subst hn
  rw [List.set_append_right _ _ (by simp; omega), List.length_take, Nat.min_eq_left (by omega), Nat.sub_self]
  obtain ⟨m, hm⟩ : ∃ m, xs.length - k = m + 1 := ⟨xs.length - k - 1, by omega⟩
  rw [hm, show xs.length - (k + 1) = m from by omega, List.replicate_succ, List.set_cons_zero, List.take_add_one, hx]
  simp
/-- the cells of a row of the call's own, and that they may be written -/
theorem Own.cell {w : World} {base : Nat} {e : TypeId} {k g n cap : Nat} {xs : List (List Value)} (h : Own w base e k (.slice (some ⟨g, 0, none⟩) n cap) xs) {i j : Nat} (hi : i < xs.length) (hj : j < k) :
    ∃ v, w.cell? ⟨g, i * k + j, none⟩ = some v := by
  have h2 := h.2 xs[i] (List.getElem_mem hi)
  obtain ⟨_, b, off, he, _, hc⟩ := h.sl i xs[i] (List.getElem?_eq_getElem hi)
  simp only [Option.some.injEq, Addr.mk.injEq, and_true] at he
  obtain ⟨rfl, rfl⟩ := he
  exact ⟨_, by have := hc j (xs[i][j]'(by omega)) (List.getElem?_eq_getElem (by omega)); rwa [Nat.zero_add] at this⟩
theorem Own.frozen {w : World} {base : Nat} {e : TypeId} {k g n cap : Nat} {xs : List (List Value)} (h : Own w base e k (.slice (some ⟨g, 0, none⟩) n cap) xs) (j : Nat) : w.frozen? ⟨g, j, none⟩ = false := by
  rcases h.1.2 with ⟨h', _⟩ | ⟨g', cap', cur, h', _, hg, _⟩
  · simp at h'
  · simp only [Value.slice.injEq, Option.some.injEq, Addr.mk.injEq, and_true] at h'
    obtain ⟨rfl, _, rfl⟩ := h'
    exact frozen_of_row w g j cur e hg
theorem Own.off0 {w : World} {base : Nat} {e : TypeId} {k b off n cap : Nat} {xs : List (List Value)} (h : Own w base e k (.slice (some ⟨b, off, none⟩) n cap) xs) {i : Nat} (_ : i < xs.length) : off = 0 := by
  rcases h.1.2 with ⟨h', _⟩ | ⟨g', cap', cur, h', _⟩
  · simp at h'
  · simp only [Value.slice.injEq, Option.some.injEq, Addr.mk.injEq] at h'
    exact h'.1.2.1
theorem grownBy_stores {w : World} {g : Nat} : ∀ (cs : List Value) (p : Nat) {v : World}, w.grownBy v (some g) → w.grownBy (stores v g p cs) (some g)
  | [], _, _, h => h
  | u :: us, p, v, h => grownBy_stores us (p + 1) ⟨h.os, h.tape, h.output, by simpa using h.size, fun k hk hne => by
      rw [Below.heap_setCell _ _ _ _ (fun e => hne (by simp [e]))]; exact h.block k hk hne⟩
theorem Sl.of_blk {w : World} {g k : Nat} {t : TypeId} {cs : Array Value} (h : Blk w g t cs) (xs : List (List Value)) (hx : cs.toList = xs.flatten) (hk : ∀ x ∈ xs, x.length = k) : Sl w (g + 1) k (some ⟨g, 0, none⟩) xs := fun i x hi =>
  ⟨hk x (List.mem_of_getElem? hi), g, 0, rfl, by omega, fun j v hv => by
    have := flat_get hk i j x v hi hv
    rw [← hx] at this
    rw [Nat.zero_add, h.cell]
    simpa using this⟩
theorem below_drewN' {B : Nat} {a w : World} (h : Below B a w) (n : Nat) : Below B a (w.drewN n) := ⟨h.os, h.tape, h.output, h.size, h.block⟩
theorem Sl.drewN {w : World} {B k : Nat} {A : Option Addr} {xs : List (List Value)} (h : Sl w B k A xs) (n : Nat) : Sl (w.drewN n) B k A xs := h
end Go.Proofs.YtednjmldjbndhaaGreat
namespace Go.Proofs.YtednjmldjbndhaaGreat
open Go.RowKit

/-- the value lies between the bounds -/
def inB (n lo hi : Int) : Bool := decide (lo ≤ n) && decide (n ≤ hi)
theorem inB_true {n lo hi : Int} : inB n lo hi = true ↔ lo ≤ n ∧ n ≤ hi := by simp [inB]
theorem inB_false {n lo hi : Int} : inB n lo hi = false ↔ ¬ (lo ≤ n ∧ n ≤ hi) := by rw [← inB_true]; simp

theorem within_c (n lo hi : Int) (w : World) :
    Calls Tryz.prog 52 #[.int .i64 n, .int .i64 lo, .int .i64 hi] w fun e w' => e = .returned (.bool (inB n lo hi)) ∧ w = w' := by
  by_cases h1 : lo ≤ n
  all_goals
    go_enter Tryz.func52, Tryz.ntmps52
    go_wp2
    go_ret
    exact ⟨by simp [inB, h1] <;> omega, rfl⟩

theorem l01In_c (n lo hi : Int) (w : World) :
    Calls Tryz.prog 56 #[.int .i64 n, .int .i64 lo, .int .i64 hi] w fun e w' => e = .returned (.bool (inB n lo hi)) ∧ w = w' := by
  by_cases h1 : lo ≤ n
  all_goals
    go_enter Tryz.func56, Tryz.ntmps56
    go_wp2
    go_ret
    exact ⟨by simp [inB, h1] <;> omega, rfl⟩

theorem tdiv_neg_of (a b : Int) (hb : 0 < b) (hm : a.tmod b = 0) : a.tdiv b = a / b := by
  have h1 := Int.mul_tdiv_add_tmod a b
  rw [hm] at h1
  have h2 : a.tdiv b = a / b := by
    rw [← h1]; simp
    rw [Int.mul_tdiv_cancel_left _ (by omega), Int.mul_ediv_cancel_left _ (by omega)]
  exact h2
theorem tmod_neg_bd (a b : Int) (ha : a < 0) (hb : 0 < b) : -b < a.tmod b ∧ a.tmod b ≤ 0 := by
  have h1 := Int.neg_tmod (-a) b
  rw [Int.neg_neg] at h1
  rw [h1]
  have h3 := Int.tmod_nonneg b (show 0 ≤ -a by omega)
  have h4 := Int.tmod_lt_of_pos (-a) hb
  omega
theorem tdiv_neg_of' (a b : Int) (ha : a < 0) (hb : 0 < b) (hm : ¬ a.tmod b = 0) : a.tdiv b - 1 = a / b := by
  have h1 := Int.mul_tdiv_add_tmod a b
  have h2 := tmod_neg_bd a b ha hb
  symm
  have h3 : a = (a.tmod b + b) + b * (a.tdiv b - 1) := by rw [Int.mul_sub]; omega
  rw [h3, Int.add_mul_ediv_left _ _ (by omega)]
  rw [← h3, Int.ediv_eq_zero_of_lt (by omega) (by omega)]
  omega
theorem tdiv_bd (a b : Int) (hb : 0 < b) (ha : -4611686018427387904 ≤ a ∧ a ≤ 4611686018427387904) : -4611686018427387904 ≤ a.tdiv b ∧ a.tdiv b ≤ 4611686018427387904 := by
  rw [tdiv_eq_if]
  split
  · rename_i hx; have := IntWalk.tdiv_le a b hx (by omega); omega
  · rename_i hx; have := IntWalk.tdiv_le (-a) b (by omega) (by omega); omega
theorem ediv_bd (a b : Int) (hb : 0 < b) (ha : -4611686018427387904 ≤ a ∧ a ≤ 4611686018427387904) : -4611686018427387904 ≤ a / b ∧ a / b ≤ 4611686018427387904 := by
  constructor
  · exact Int.le_trans (by omega) (Int.le_ediv_of_mul_le hb (show -4611686018427387904 * b ≤ a by
      have : 4611686018427387904 * 1 ≤ 4611686018427387904 * b := Int.mul_le_mul_of_nonneg_left (by omega) (by omega)
      omega))
  · have : a / b < 4611686018427387904 + 1 := Int.ediv_lt_of_lt_mul hb (by
      have : 4611686018427387905 * 1 ≤ 4611686018427387905 * b := Int.mul_le_mul_of_nonneg_left (by omega) (by omega)
      omega)
    omega

theorem mul_div_bd (a b : Int) (hb : 0 < b) : a - b < b * (a / b) ∧ b * (a / b) ≤ a := by
  have h1 := Int.mul_ediv_add_emod a b
  have h2 := Int.emod_nonneg a (show b ≠ 0 by omega)
  have h3 := Int.emod_lt_of_pos a hb
  omega

theorem down_c (a b : Int) (w : World) (ha : -4611686018427387904 ≤ a ∧ a ≤ 4611686018427387904) (hb : 0 < b ∧ b ≤ 4611686018427387904) :
    Calls Tryz.prog 150 #[.int .i64 a, .int .i64 b] w fun e w' => e = .returned (.int .i64 (a / b)) ∧ w = w' := by
  obtain ⟨ha1, ha2⟩ := ha
  obtain ⟨hb1, hb2⟩ := hb
  have hbn : ¬ b < 0 := by omega
  have hb0 : ¬ b = 0 := by omega
  have hbt := tdiv_bd a b hb1 ⟨ha1, ha2⟩
  by_cases h : 0 ≤ a
  · have h' : ¬ a < 0 := by omega
    have E := Lib.hid (Int.tdiv_eq_ediv_of_nonneg (b := b) h)
    by_cases hm : a % b = 0
    · have hm1 : ((a % b) != 0) = false := by simp [hm]
      have hm := Lib.hid hm
      go_enter Tryz.func150, Tryz.ntmps150
      go_wp2
      go_ret
      exact ⟨ret_int E.out, rfl⟩
    · have hm1 : ((a % b) != 0) = true := by simp [hm]
      go_enter Tryz.func150, Tryz.ntmps150
      go_wp2
      go_ret
      exact ⟨ret_int E.out, rfl⟩
  · have h' : a < 0 := by omega
    by_cases hm : a.tmod b = 0
    · have hm1 : ((a.tmod b) != 0) = false := by simp [hm]
      have E := Lib.hid (tdiv_neg_of a b hb1 hm)
      have hm := Lib.hid hm
      go_enter Tryz.func150, Tryz.ntmps150
      go_wp2
      go_ret
      exact ⟨ret_int E.out, rfl⟩
    · have hm1 : ((a.tmod b) != 0) = true := by simp [hm]
      have E := Lib.hid (tdiv_neg_of' a b h' hb1 hm)
      go_enter Tryz.func150, Tryz.ntmps150
      go_wp2
      go_ret
      exact ⟨ret_int E.out, rfl⟩

theorem modulo_c (a b : Int) (w : World) (ha : -4611686018427387904 ≤ a ∧ a ≤ 4611686018427387904) (hb : 0 < b ∧ b ≤ 4611686018427387904) :
    Calls Tryz.prog 87 #[.int .i64 a, .int .i64 b] w fun e w' => e = .returned (.int .i64 (a % b)) ∧ w = w' := by
  have h1 := mul_div_bd a b hb.1
  have h2 := ediv_bd a b hb.1 ha
  obtain ⟨ha1, ha2⟩ := ha
  obtain ⟨hb1, hb2⟩ := hb
  obtain ⟨h11, h12⟩ := h1
  have h4 := Int.emod_nonneg a (show b ≠ 0 by omega)
  have h5 := Int.emod_lt_of_pos a hb1
  have E : Hid (a - b * (a / b) = a % b) := by have := Int.mul_ediv_add_emod a b; unfold Hid; omega
  go_enter Tryz.func87, Tryz.ntmps87
  go_wp2_with (go_at_call 150; refine (down_c _ _ _ ⟨ha1, ha2⟩ ⟨hb1, hb2⟩).mono ?_; rintro e w' ⟨rfl, rfl⟩)
  go_ret
  exact ⟨ret_int E.out, rfl⟩

theorem up_c (a b : Int) (w : World) (ha : -4611686018427387904 ≤ a ∧ a ≤ 4611686018427387904) (hb : 0 < b ∧ b ≤ 4611686018427387904) :
    Calls Tryz.prog 185 #[.int .i64 a, .int .i64 b] w fun e w' => e = .returned (.int .i64 (-(-a / b))) ∧ w = w' := by
  have h2 := ediv_bd (-a) b hb.1 (by omega)
  obtain ⟨ha1, ha2⟩ := ha
  obtain ⟨hb1, hb2⟩ := hb
  go_enter Tryz.func185, Tryz.ntmps185
  go_wp2_with (go_at_call 150; refine (down_c _ _ _ (by omega) ⟨hb1, hb2⟩).mono ?_; rintro e w' ⟨rfl, rfl⟩)
  go_ret
  exact ⟨rfl, rfl⟩

theorem l01Floor_c (a b : Int) (w : World) (ha : -4611686018427387904 ≤ a ∧ a ≤ 4611686018427387904) (hb : 0 < b ∧ b ≤ 4611686018427387904) :
    Calls Tryz.prog 207 #[.int .i64 a, .int .i64 b] w fun e w' => e = .returned (.int .i64 (a / b)) ∧ w = w' := by
  obtain ⟨ha1, ha2⟩ := ha
  obtain ⟨hb1, hb2⟩ := hb
  have hbn : ¬ b < 0 := by omega
  have hb0 : ¬ b = 0 := by omega
  have hbt := tdiv_bd a b hb1 ⟨ha1, ha2⟩
  by_cases h : 0 ≤ a
  · have h' : ¬ a < 0 := by omega
    have E := Lib.hid (Int.tdiv_eq_ediv_of_nonneg (b := b) h)
    have hm := Int.emod_nonneg a (show b ≠ 0 by omega)
    go_enter Tryz.func207, Tryz.ntmps207
    go_wp2
    go_ret
    exact ⟨ret_int E.out, rfl⟩
  · have h' : a < 0 := by omega
    have hmb := tmod_neg_bd a b h' hb1
    by_cases hm : a.tmod b = 0
    · have E := Lib.hid (tdiv_neg_of a b hb1 hm)
      have hm1 : ¬ a.tmod b < 0 := by omega
      have hm := Lib.hid hm
      go_enter Tryz.func207, Tryz.ntmps207
      go_wp2
      go_ret
      exact ⟨ret_int E.out, rfl⟩
    · have hm1 : a.tmod b < 0 := by omega
      have E := Lib.hid (tdiv_neg_of' a b h' hb1 hm)
      go_enter Tryz.func207, Tryz.ntmps207
      go_wp2
      go_ret
      exact ⟨ret_int E.out, rfl⟩

theorem l01Ceil_c (a b : Int) (w : World) (ha : -4611686018427387904 ≤ a ∧ a ≤ 4611686018427387904) (hb : 0 < b ∧ b ≤ 4611686018427387904) :
    Calls Tryz.prog 229 #[.int .i64 a, .int .i64 b] w fun e w' => e = .returned (.int .i64 (-(-a / b))) ∧ w = w' := by
  have h2 := ediv_bd (-a) b hb.1 (by omega)
  obtain ⟨ha1, ha2⟩ := ha
  obtain ⟨hb1, hb2⟩ := hb
  go_enter Tryz.func229, Tryz.ntmps229
  go_wp2_with (go_at_call 207; refine (l01Floor_c _ _ _ (by omega) ⟨hb1, hb2⟩).mono ?_; rintro e w' ⟨rfl, rfl⟩)
  go_ret
  exact ⟨rfl, rfl⟩

theorem l01Mod_c (a b : Int) (w : World) (ha : -4611686018427387904 ≤ a ∧ a ≤ 4611686018427387904) (hb : 0 < b ∧ b ≤ 2305843009213693952) :
    Calls Tryz.prog 125 #[.int .i64 a, .int .i64 b] w fun e w' => e = .returned (.int .i64 (a % b)) ∧ w = w' := by
  obtain ⟨ha1, ha2⟩ := ha
  obtain ⟨hb1, hb2⟩ := hb
  have hb0 : ¬ b = 0 := by omega
  have h4 := Int.emod_nonneg a hb0
  have h5 := Int.emod_lt_of_pos a hb1
  by_cases h : 0 ≤ a
  · have E : Hid ((a % b + b) % b = a % b) := by unfold Hid; rw [Int.add_emod_right, Int.emod_emod]
    go_enter Tryz.func125, Tryz.ntmps125
    go_wp2
    go_ret
    exact ⟨ret_int E.out, rfl⟩
  · have h' : a < 0 := by omega
    have hmb := tmod_neg_bd a b h' hb1
    have E : Hid (a.tmod b % b = a % b) := by
      have h1 := Int.mul_tdiv_add_tmod a b
      unfold Hid
      conv => rhs; rw [← h1, Int.mul_add_emod_self_left]
    go_enter Tryz.func125, Tryz.ntmps125
    go_wp2
    go_ret
    exact ⟨ret_int E.out, rfl⟩


end Go.Proofs.YtednjmldjbndhaaGreat
namespace Go.Proofs.YtednjmldjbndhaaGreat
open Go.RowKit
@[ext] structure Figure where
  digits : Int
  tens : Int
deriving DecidableEq
def Figure.cells (s : Figure) : List Value := [.int .i64 s.digits, .int .i64 s.tens]
def Figure.agg (s : Figure) : Value := .agg #[.int .i64 s.digits, .int .i64 s.tens]

theorem toFigure_c (a b : Int) (w : World) : Calls Tryz.prog 73 #[.agg #[.int .i64 a, .int .i64 b]] w fun e w' => e = .returned (.agg #[.int .i64 a, .int .i64 b]) ∧ Below w.heap.size w w' := by
  go_enter Tryz.func73, Tryz.ntmps73
  go_wp2
  refine bodyPost_ret (v := .agg #[.int .i64 a, .int .i64 b]) (by simp [results, Tryz.results73, go_sem]) rfl ⟨rfl, ?_⟩
  exact (((Below.refl _ _).alloc (by simp <;> omega) _).alloc (by simp <;> omega) _).alloc (by simp <;> omega) _


theorem eqFigure_c (a b : Int) (w : World) : Calls Tryz.prog 79 #[.agg #[.int .i64 a, .int .i64 b], .agg #[.int .i64 a, .int .i64 b]] w fun e w' => e = .returned (.bool true) ∧ Below w.heap.size w w' := by
  go_enter Tryz.func79, Tryz.ntmps79
  go_wp2
  go_ret
  exact ⟨rfl, ((Below.refl _ _).alloc (by simp <;> omega) _).alloc (by simp <;> omega) _⟩


end Go.Proofs.YtednjmldjbndhaaGreat
namespace Go.Proofs.YtednjmldjbndhaaGreat
open Go.RowKit
theorem specIsScale_c (n : Int) (w : World) : Calls Tryz.prog 204 #[.int .i64 n] w fun e w' => e = .returned (.bool (inB n 0 5)) ∧ w = w' := by
  go_enter Tryz.func204, Tryz.ntmps204
  go_wp2_with (go_at_call 56; refine (l01In_c _ _ _ _).mono ?_; rintro e w' ⟨rfl, rfl⟩)
  go_ret
  exact ⟨rfl, rfl⟩
theorem implIsScale_c (n : Int) (w : World) : Calls Tryz.prog 166 #[.int .i64 n] w fun e w' => e = .returned (.bool (inB n 0 5)) ∧ w = w' := by
  go_enter Tryz.func166, Tryz.ntmps166
  go_wp2_with (go_at_call 52; refine (within_c _ _ _ _).mono ?_; rintro e w' ⟨rfl, rfl⟩)
  go_ret
  exact ⟨rfl, rfl⟩
theorem l05Length_c (n : Int) (w : World) : Calls Tryz.prog 111 #[.int .i64 n] w fun e w' => e = .returned (.bool (inB n 1 100000)) ∧ w = w' := by
  go_enter Tryz.func111, Tryz.ntmps111
  go_wp2_with (go_at_call 56; refine (l01In_c _ _ _ _).mono ?_; rintro e w' ⟨rfl, rfl⟩)
  go_ret
  exact ⟨rfl, rfl⟩
theorem isLength_c (n : Int) (w : World) : Calls Tryz.prog 108 #[.int .i64 n] w fun e w' => e = .returned (.bool (inB n 1 100000)) ∧ w = w' := by
  go_enter Tryz.func108, Tryz.ntmps108
  go_wp2_with (go_at_call 52; refine (within_c _ _ _ _).mono ?_; rintro e w' ⟨rfl, rfl⟩)
  go_ret
  exact ⟨rfl, rfl⟩
theorem l10Eye_c (n : Int) (w : World) : Calls Tryz.prog 113 #[.int .i64 n] w fun e w' => e = .returned (.bool (inB n 0 200)) ∧ w = w' := by
  go_enter Tryz.func113, Tryz.ntmps113
  go_wp2_with (go_at_call 56; refine (l01In_c _ _ _ _).mono ?_; rintro e w' ⟨rfl, rfl⟩)
  go_ret
  exact ⟨rfl, rfl⟩
end Go.Proofs.YtednjmldjbndhaaGreat
namespace Go.Proofs.YtednjmldjbndhaaGreat
/-- one step of the lower bits, of the upper bits -/
def stepL (s : Int × Int) : Int × Int := if 1000000000 ≤ s.1 * s.1 / 100000000 then (s.1 * s.1 / 100000000 / 10, 2 * s.2 + 1) else (s.1 * s.1 / 100000000, 2 * s.2)
def cdiv (a b : Int) : Int := -(-a / b)
def stepH (s : Int × Int) : Int × Int := if 1000000000 ≤ cdiv (s.1 * s.1) 100000000 then (cdiv (cdiv (s.1 * s.1) 100000000) 10, 2 * s.2 + 1) else (cdiv (s.1 * s.1) 100000000, 2 * s.2)
def itL (x : Int) : Nat → Int × Int
  | 0 => (x, 0)
  | k + 1 => stepL (itL x k)
def itH (x : Int) : Nat → Int × Int
  | 0 => (x, 0)
  | k + 1 => stepH (itH x k)
theorem sq_bd {x : Int} (h : 100000000 ≤ x ∧ x ≤ 1000000000) : 10000000000000000 ≤ x * x ∧ x * x ≤ 1000000000000000000 := by
  have h1 : 100000000 * 100000000 ≤ x * x := Int.mul_le_mul h.1 h.1 (by omega) (by omega)
  have h2 : x * x ≤ 1000000000 * 1000000000 := Int.mul_le_mul h.2 h.2 (by omega) (by omega)
  omega
theorem two_pow_le : ∀ k : Nat, k ≤ 20 → (2 : Int) ^ k ≤ 1048576 := by decide
theorem itL_bd {x : Int} (h : 100000000 ≤ x ∧ x ≤ 1000000000) : ∀ k, (100000000 ≤ (itL x k).1 ∧ (itL x k).1 ≤ 1000000000) ∧ 0 ≤ (itL x k).2 ∧ (itL x k).2 < 2 ^ k := by
  intro k
  induction k with
  | zero => exact ⟨h, by simp [itL], by simp [itL]⟩
  | succ k ih =>
    have hs := sq_bd ih.1
    simp only [itL, stepL]
    generalize itL x k = s at ih hs
    obtain ⟨y, n⟩ := s
    simp only at ih hs ⊢
    generalize y * y = q at hs
    rw [Int.pow_succ]
    split <;> simp only <;> omega
theorem itH_bd {x : Int} (h : 100000000 ≤ x ∧ x ≤ 1000000000) : ∀ k, (100000000 ≤ (itH x k).1 ∧ (itH x k).1 ≤ 1000000000) ∧ 0 ≤ (itH x k).2 ∧ (itH x k).2 < 2 ^ k := by
  intro k
  induction k with
  | zero => exact ⟨h, by simp [itH], by simp [itH]⟩
  | succ k ih =>
    have hs := sq_bd ih.1
    simp only [itH, stepH]
    generalize itH x k = s at ih hs
    obtain ⟨y, n⟩ := s
    simp only at ih hs ⊢
    generalize y * y = q at hs
    rw [Int.pow_succ]
    by_cases hb : 1000000000 ≤ cdiv q 100000000
    · rw [if_pos hb]; simp only; unfold cdiv at *; omega
    · rw [if_neg hb]; simp only; unfold cdiv at *; omega
def logLow (x : Int) : Int := (itL x 20).2
def logHigh (x : Int) : Int := (itH x 20).2 + 1
theorem logLow_bd {x : Int} (h : 100000000 ≤ x ∧ x ≤ 1000000000) : 0 ≤ logLow x ∧ logLow x < 1048576 := by
  have := (itL_bd h 20).2; unfold logLow; omega
theorem logHigh_bd {x : Int} (h : 100000000 ≤ x ∧ x ≤ 1000000000) : 1 ≤ logHigh x ∧ logHigh x ≤ 1048576 := by
  have := (itH_bd h 20).2; unfold logHigh; omega
end Go.Proofs.YtednjmldjbndhaaGreat
namespace Go.Proofs.YtednjmldjbndhaaGreat
open Go.RowKit
set_option maxRecDepth 100000 in
theorem l03BitsL_c (x : Int) (w : World) (h : 100000000 ≤ x ∧ x ≤ 1000000000) : Calls Tryz.prog 235 #[.int .i64 x, .bool false] w fun e w' => e = .returned (.int .i64 (itL x 20).2) ∧ w = w' := by
  go_enter Tryz.func235, Tryz.ntmps235
  go_wp2_with fail
  go_loop [0, 5, 6] (fun y n i => ∃ k : Nat, k ≤ 20 ∧ i = .int .i64 k ∧ y = .int .i64 (itL x k).1 ∧ n = .int .i64 (itL x k).2) (fun _ _ i => 20 - (intOf i).toNat)
  case atStart => exact ⟨0, Nat.zero_le _, rfl, rfl, rfl⟩
  case round =>
    obtain ⟨k, hk, rfl, rfl, rfl⟩ := hrel
    have bd := itL_bd h k
    have hp := two_pow_le k hk
    have hsu : itL x (k + 1) = stepL (itL x k) := rfl
    by_cases hlt : k < 20
    · have hlt' : (k : Int) < 20 := by omega
      generalize itL x k = st at bd hsu ⊢
      obtain ⟨y, n⟩ := st
      simp only at bd ⊢
      have hs := sq_bd bd.1
      obtain ⟨⟨b1, b2⟩, b3, b4⟩ := bd
      obtain ⟨s1, s2⟩ := hs
      have b5 : n ≤ 1048576 := by omega
      clear b4 hp
      by_cases hbig : 1000000000 ≤ y * y / 100000000
      · have Hs : Hid (itL x (k + 1) = (y * y / 100000000 / 10, 2 * n + 1)) := by unfold Hid; rw [hsu]; unfold stepL; rw [if_pos hbig]
        clear hsu
        go_wp2
        go_round
        case rel => exact ⟨k + 1, by omega, by go_num, by rw [Hs.out], by rw [Hs.out]⟩
        case measure => simp [intOf]; omega
      · have Hs : Hid (itL x (k + 1) = (y * y / 100000000, 2 * n)) := by unfold Hid; rw [hsu]; unfold stepL; rw [if_neg hbig]
        clear hsu
        go_wp2
        go_round
        case rel => exact ⟨k + 1, by omega, by go_num, by rw [Hs.out], by rw [Hs.out]⟩
        case measure => simp [intOf]; omega
    · have : k = 20 := by omega
      subst this
      go_wp2
      go_ret
      exact ⟨rfl, rfl⟩
set_option maxRecDepth 100000 in
theorem l03BitsH_c (x : Int) (w : World) (h : 100000000 ≤ x ∧ x ≤ 1000000000) : Calls Tryz.prog 235 #[.int .i64 x, .bool true] w fun e w' => e = .returned (.int .i64 (itH x 20).2) ∧ w = w' := by
  go_enter Tryz.func235, Tryz.ntmps235
  go_wp2_with fail
  go_loop [0, 5, 6] (fun y n i => ∃ k : Nat, k ≤ 20 ∧ i = .int .i64 k ∧ y = .int .i64 (itH x k).1 ∧ n = .int .i64 (itH x k).2) (fun _ _ i => 20 - (intOf i).toNat)
  case atStart => exact ⟨0, Nat.zero_le _, rfl, rfl, rfl⟩
  case round =>
    obtain ⟨k, hk, rfl, rfl, rfl⟩ := hrel
    have bd := itH_bd h k
    have hp := two_pow_le k hk
    have hsu : itH x (k + 1) = stepH (itH x k) := rfl
    by_cases hlt : k < 20
    · have hlt' : (k : Int) < 20 := by omega
      generalize itH x k = st at bd hsu ⊢
      obtain ⟨y, n⟩ := st
      simp only at bd ⊢
      have hs := sq_bd bd.1
      obtain ⟨⟨b1, b2⟩, b3, b4⟩ := bd
      obtain ⟨s1, s2⟩ := hs
      have b5 : n ≤ 1048576 := by omega
      clear b4 hp
      by_cases hbig : 1000000000 ≤ -(-(y * y) / 100000000)
      · have Hs : Hid (itH x (k + 1) = (cdiv (cdiv (y * y) 100000000) 10, 2 * n + 1)) := by unfold Hid; rw [hsu]; unfold stepH; rw [if_pos (show 1000000000 ≤ cdiv (y * y) 100000000 from hbig)]
        clear hsu
        go_wp2_with (go_at_call 229; refine (l01Ceil_c _ _ _ (by omega) (by omega)).mono ?_; rintro e w' ⟨rfl, rfl⟩)
        go_round
        case rel => exact ⟨k + 1, by omega, by go_num, by rw [Hs.out]; simp [cdiv], by rw [Hs.out]⟩
        case measure => simp [intOf]; omega
      · have Hs : Hid (itH x (k + 1) = (cdiv (y * y) 100000000, 2 * n)) := by unfold Hid; rw [hsu]; unfold stepH; rw [if_neg (show ¬ 1000000000 ≤ cdiv (y * y) 100000000 from hbig)]
        clear hsu
        go_wp2_with (go_at_call 229; refine (l01Ceil_c _ _ _ (by omega) (by omega)).mono ?_; rintro e w' ⟨rfl, rfl⟩)
        go_round
        case rel => exact ⟨k + 1, by omega, by go_num, by rw [Hs.out]; rfl, by rw [Hs.out]⟩
        case measure => simp [intOf]; omega
    · have : k = 20 := by omega
      subst this
      go_wp2
      go_ret
      exact ⟨rfl, rfl⟩

theorem l03Log_c (x : Int) (w : World) (h : 100000000 ≤ x ∧ x ≤ 1000000000) : Calls Tryz.prog 227 #[.int .i64 x] w fun e w' => e = .returned (.agg #[.int .i64 (logLow x), .int .i64 (logHigh x)]) ∧ Below w.heap.size w w' := by
  have h1 := logLow_bd h
  have h2 := logHigh_bd h
  unfold logLow at *
  unfold logHigh at *
  go_enter Tryz.func227, Tryz.ntmps227
  go_wp2_with fail
  refine (l03BitsL_c x _ h).mono ?_; rintro e w' ⟨rfl, rfl⟩
  go_wp2_with fail
  refine (l03BitsH_c x _ h).mono ?_; rintro e w' ⟨rfl, rfl⟩
  go_wp2
  refine bodyPost_ret (v := .agg #[.int .i64 (itL x 20).2, .int .i64 ((itH x 20).2 + 1)]) (by simp [results, Tryz.results227, go_sem]) rfl ⟨rfl, ?_⟩
  exact (by repeat (first | with_reducible exact Below.refl _ _ | with_reducible apply below_drewN' | with_reducible apply Below.drew | (with_reducible refine Below.alloc ?_ (by first | omega | (simp; omega) | simp | (have := (Below.refl _ _).size; omega) | (have := (Below.refl _ _).size; simp; omega)) _) | (with_reducible refine Below.setCell ?_ (by first | omega | (simp; omega) | simp | (have := (Below.refl _ _).size; omega) | (have := (Below.refl _ _).size; simp; omega)) _) | exact Below.refl _ _))
set_option maxRecDepth 100000 in
set_option maxHeartbeats 1000000 in
theorem logarithm_c (x : Int) (w : World) (h : 100000000 ≤ x ∧ x ≤ 1000000000) : Calls Tryz.prog 221 #[.int .i64 x] w fun e w' => e = .returned (.agg #[.int .i64 (logLow x), .int .i64 (logHigh x)]) ∧ Below w.heap.size w w' := by
  go_enter Tryz.func221, Tryz.ntmps221
  go_wp2_with fail
  go_loopw [3, 4, 9] (fun lo hi i wr => ∃ k : Nat, k ≤ 20 ∧ i = .int .i64 k ∧ lo = .int .i64 (itL x k).1 ∧ hi = .int .i64 (itH x k).1 ∧ Below w.heap.size w wr ∧
      Blk wr w.heap.size 186 #[.int .i64 0, .int .i64 0] ∧ Blk wr (w.heap.size + 1) 186 #[.int .i64 (itL x k).2, .int .i64 (itH x k).2]) (fun _ _ i _ => 20 - (intOf i).toNat)
  case atStart =>
    refine ⟨0, Nat.zero_le _, rfl, rfl, rfl, (by repeat (first | with_reducible exact Below.refl _ _ | with_reducible apply below_drewN' | with_reducible apply Below.drew | (with_reducible refine Below.alloc ?_ (by first | omega | (simp; omega) | simp | (have := (Below.refl _ _).size; omega) | (have := (Below.refl _ _).size; simp; omega)) _) | (with_reducible refine Below.setCell ?_ (by first | omega | (simp; omega) | simp | (have := (Below.refl _ _).size; omega) | (have := (Below.refl _ _).size; simp; omega)) _) | exact Below.refl _ _)), ?_, ?_⟩
    · exact (Blk.new w _ _).alloc _
    · exact Blk.new' _ _ _ (by simp)
  case round =>
    obtain ⟨k, hk, rfl, rfl, rfl, hb, hB0, hB1⟩ := hrel
    have bd := itL_bd h k
    have bh := itH_bd h k
    have hp := two_pow_le k hk
    have hsu : itL x (k + 1) = stepL (itL x k) := rfl
    have hsh : itH x (k + 1) = stepH (itH x k) := rfl
    have hz1 := hB1.lt
    generalize hgg : w.heap.size = g at *
    by_cases hlt : k < 20
    · have hlt' : (k : Int) < 20 := by omega
      generalize itL x k = st at *
      generalize itH x k = sh at *
      obtain ⟨y, n⟩ := st
      obtain ⟨z, m⟩ := sh
      simp only at bd bh hB1 ⊢
      have hs := sq_bd bd.1
      have hs' := sq_bd bh.1
      obtain ⟨⟨b1, b2⟩, b3, b4⟩ := bd
      obtain ⟨⟨d1, d2⟩, d3, d4⟩ := bh
      obtain ⟨s1, s2⟩ := hs
      obtain ⟨s3, s4⟩ := hs'
      have b5 : n ≤ 1048576 := by omega
      have d5 : m ≤ 1048576 := by omega
      clear b4 d4 hp
      have c0 : wr.cell? ⟨g + 1, 0, none⟩ = some (.int .i64 n) := hB1.cell 0
      have c1 : wr.cell? ⟨g + 1, 1, none⟩ = some (.int .i64 m) := hB1.cell 1
      have f0 := hB1.frozen 0
      have f1 := hB1.frozen 1
      have HB0 := Lib.hid hB0
      have HB1 := Lib.hid hB1
      clear hB0 hB1
      have e1 : (1000000000 ≤ y * y / 100000000 ∧ stepL (y, n) = (y * y / 100000000 / 10, 2 * n + 1)) ∨ (¬ 1000000000 ≤ y * y / 100000000 ∧ stepL (y, n) = (y * y / 100000000, 2 * n)) := by
        by_cases hbig : 1000000000 ≤ y * y / 100000000
        · exact .inl ⟨hbig, by unfold stepL; rw [if_pos hbig]⟩
        · exact .inr ⟨hbig, by unfold stepL; rw [if_neg hbig]⟩
      have e2 : (1000000000 ≤ -(-(z * z) / 100000000) ∧ stepH (z, m) = (cdiv (cdiv (z * z) 100000000) 10, 2 * m + 1)) ∨ (¬ 1000000000 ≤ -(-(z * z) / 100000000) ∧ stepH (z, m) = (cdiv (z * z) 100000000, 2 * m)) := by
        by_cases hbig : 1000000000 ≤ -(-(z * z) / 100000000)
        · exact .inl ⟨hbig, by unfold stepH; rw [if_pos (show 1000000000 ≤ cdiv (z * z) 100000000 from hbig)]⟩
        · exact .inr ⟨hbig, by unfold stepH; rw [if_neg (show ¬ 1000000000 ≤ cdiv (z * z) 100000000 from hbig)]⟩
      rcases e1 with ⟨e1, E1⟩ | ⟨e1, E1⟩ <;> rcases e2 with ⟨e2, E2⟩ | ⟨e2, E2⟩
      all_goals
        have H1 := Lib.hid (hsu.trans E1)
        have H2 := Lib.hid (hsh.trans E2)
        clear hsu hsh E1 E2
        go_wp2_with (first | (go_at_call 150; refine (down_c _ _ _ (by omega) (by omega)).mono ?_; rintro e w' ⟨rfl, rfl⟩) | (go_at_call 185; refine (up_c _ _ _ (by omega) (by omega)).mono ?_; rintro e w' ⟨rfl, rfl⟩))
        go_roundw
        case rel =>
          refine ⟨k + 1, by omega, by go_num, by rw [H1.out], by rw [H2.out]; simp [cdiv], (by repeat (first | with_reducible exact hb | with_reducible apply below_drewN' | with_reducible apply Below.drew | (with_reducible refine Below.alloc ?_ (by first | omega | (simp; omega) | simp | (have := (hb).size; omega) | (have := (hb).size; simp; omega)) _) | (with_reducible refine Below.setCell ?_ (by first | omega | (simp; omega) | simp | (have := (hb).size; omega) | (have := (hb).size; simp; omega)) _) | exact hb)), ?_, ?_⟩
          · repeat (first | with_reducible exact HB0.out | refine Blk.far ?_ (show g ≠ g + 1 from by omega) _)
          · rw [H1.out, H2.out]
            dsimp only
            rw [Int.mul_comm 2 n, Int.mul_comm 2 m]
            repeat (first | with_reducible exact HB1.out | with_reducible apply Blk.two0 | with_reducible apply Blk.two1)
        case measure => simp [intOf]; omega
    · have : k = 20 := by omega
      subst this
      have c0 : wr.cell? ⟨g + 1, 0, none⟩ = some (.int .i64 (itL x 20).2) := hB1.cell 0
      have c1 : wr.cell? ⟨g + 1, 1, none⟩ = some (.int .i64 (itH x 20).2) := hB1.cell 1
      have f1 := hB1.frozen 1
      have r0 : wr.cell? ⟨g, 0, none⟩ = some (.int .i64 0) := hB0.cell 0
      have r1 : wr.cell? ⟨g, 1, none⟩ = some (.int .i64 0) := hB0.cell 1
      have q0 := hB0.frozen 0
      have q1 := hB0.frozen 1
      have hz0 := hB0.lt
      clear hB0 hB1 hsu hsh bd
      go_wp2
      refine bodyPost_ret (v := .agg #[.int .i64 (itL x 20).2, .int .i64 ((itH x 20).2 + 1)]) ?_ rfl ⟨rfl, by rw [hgg]; exact (by repeat (first | with_reducible exact hb | with_reducible apply below_drewN' | with_reducible apply Below.drew | (with_reducible refine Below.alloc ?_ (by first | omega | (simp; omega) | simp | (have := (hb).size; omega) | (have := (hb).size; simp; omega)) _) | (with_reducible refine Below.setCell ?_ (by first | omega | (simp; omega) | simp | (have := (hb).size; omega) | (have := (hb).size; simp; omega)) _) | exact hb))⟩
      simp [results, Tryz.results221, go_sem, r0, r1]
end Go.Proofs.YtednjmldjbndhaaGreat
namespace Go.Proofs.YtednjmldjbndhaaGreat
open Go.RowKit
def figOK (f : Figure) : Bool := inB f.digits 1000 9999 && inB f.tens (-30) 30
theorem fig_bd {f : Figure} (h : figOK f = true) : (1000 ≤ f.digits ∧ f.digits ≤ 9999) ∧ (-30 ≤ f.tens ∧ f.tens ≤ 30) := by
  simp only [figOK, Bool.and_eq_true] at h
  exact ⟨inB_true.1 h.1, inB_true.1 h.2⟩
theorem specIsFigure_c (f : Figure) (w : World) : Calls Tryz.prog 102 #[f.agg] w fun e w' => e = .returned (.bool (figOK f)) ∧ Below w.heap.size w w' := by
  obtain ⟨a, b⟩ := f
  unfold Figure.agg figOK
  cases h1 : inB a 1000 9999 <;> cases h2 : inB b (-30) 30
  all_goals
    go_enter Tryz.func102, Tryz.ntmps102
    go_wp2_with (first | (go_at_call 56; refine (l01In_c _ _ _ _).mono ?_; rintro e w' ⟨rfl, rfl⟩))
    go_ret
    exact ⟨rfl, (Below.refl _ _).alloc (by simp) _⟩
theorem implIsFigure_c (f : Figure) (w : World) : Calls Tryz.prog 158 #[f.agg] w fun e w' => e = .returned (.bool (figOK f)) ∧ Below w.heap.size w w' := by
  obtain ⟨a, b⟩ := f
  unfold Figure.agg figOK
  cases h1 : inB a 1000 9999 <;> cases h2 : inB b (-30) 30
  all_goals
    go_enter Tryz.func158, Tryz.ntmps158
    go_wp2_with (first | (go_at_call 52; refine (within_c _ _ _ _).mono ?_; rintro e w' ⟨rfl, rfl⟩))
    go_ret
    exact ⟨rfl, (Below.refl _ _).alloc (by simp) _⟩
set_option maxRecDepth 100000 in
theorem areFigures_c (A : Option Addr) (c : Nat) (l : List Figure) (w : World) (hl : l.length ≤ 140737488351232) (hs : Sl w w.heap.size 2 A (l.map Figure.cells)) :
    Calls Tryz.prog 193 #[.slice A l.length c] w fun e w' => e = .returned (.bool (l.all figOK)) ∧ Below w.heap.size w w' := by
  go_enter Tryz.func193, Tryz.ntmps193
  go_wp2_with fail
  go_loopw [7] (fun i wr => ∃ k : Nat, k ≤ l.length ∧ i = .int .i64 k ∧ Below w.heap.size w wr ∧ Hid ((l.take k).all figOK = true)) (fun i _ => l.length - (intOf i).toNat)
  case atStart => exact ⟨0, Nat.zero_le _, rfl, Below.refl _ _, (show (l.take 0).all figOK = true from by simp)⟩
  case round =>
    obtain ⟨k, hk, rfl, hb, hn⟩ := hrel
    have hbs := hb.size
    by_cases hlt : k < l.length
    · obtain ⟨b, off, rfl, bB, cc⟩ := hs.at_ (i := k) (by simpa using hlt)
      simp only [List.getElem_map] at cc
      have c0 : wr.cell? ⟨b, off + k * 2, none⟩ = some (.int .i64 l[k].digits) := by rw [hb.cell bB]; exact cc 0 _ rfl
      have c1 : wr.cell? ⟨b, off + k * 2 + 1, none⟩ = some (.int .i64 l[k].tens) := by rw [hb.cell bB]; exact cc 1 _ rfl
      clear cc
      have hnx : (l.take (k + 1)).all figOK = ((l.take k).all figOK && figOK l[k]) := by rw [List.take_succ_eq_append_getElem hlt, List.all_append]; simp
      have hnx' := Lib.hid hnx; clear hnx
      have hcall := fun W => implIsFigure_c l[k] W
      cases hq : figOK l[k] with
      | true =>
        rw [hq] at hcall
        have hcall' := Lib.hid hcall; clear hcall
        have hq' := Lib.hid hq; clear hq
        go_wp2_with (go_at_call 158; refine (hcall'.out _).mono ?_; rintro e w1 ⟨rfl, hb1⟩)
        go_roundw
        case rel => exact ⟨k + 1, by omega, by go_num, (hb.alloc hbs _).trans (hb1.mono (by simp; omega)), (show _ = true from by rw [hnx'.out, hn.out, hq'.out]; rfl)⟩
        case measure => simp [intOf]; omega
      | false =>
        rw [hq] at hcall
        have hcall' := Lib.hid hcall; clear hcall
        have hq' := Lib.hid hq; clear hq
        go_wp2_with (go_at_call 158; refine (hcall'.out _).mono ?_; rintro e w1 ⟨rfl, hb1⟩)
        go_ret
        refine ⟨ret_bool ?_, (hb.alloc hbs _).trans (hb1.mono (by simp; omega))⟩
        symm
        rw [Bool.eq_false_iff]
        intro h
        have := List.all_eq_true.1 h l[k] (List.getElem_mem hlt)
        rw [hq'.out] at this
        cases this
    · have : k = l.length := by omega
      subst this
      have hn' := hn.out
      rw [List.take_length] at hn'
      have hn'' := Lib.hid hn'; clear hn'
      go_wp2
      go_ret
      exact ⟨ret_bool hn''.out.symm, hb⟩
set_option maxRecDepth 100000 in
theorem figureLog_c (f : Figure) (w : World) (h : 1000 ≤ f.digits ∧ f.digits ≤ 9999) (ht : -30 ≤ f.tens ∧ f.tens ≤ 30) :
    Calls Tryz.prog 186 #[f.agg] w fun e w' => e = .returned (.agg #[.int .i64 (logLow (f.digits * 100000) + f.tens * 1048576), .int .i64 (logHigh (f.digits * 100000) + f.tens * 1048576)]) ∧ Below w.heap.size w w' := by
  obtain ⟨d, t⟩ := f
  unfold Figure.agg
  simp only at *
  have hx : 100000000 ≤ d * 100000 ∧ d * 100000 ≤ 1000000000 := by omega
  have h1 := logLow_bd hx
  have h2 := logHigh_bd hx
  obtain ⟨h, h'⟩ := h
  obtain ⟨ht, ht'⟩ := ht
  have hlog := fun W => Lib.hid (logarithm_c (d * 100000) W hx)
  generalize logLow (d * 100000) = lo at *
  generalize logHigh (d * 100000) = hi at *
  go_enter Tryz.func186, Tryz.ntmps186
  go_wp2_with fail
  refine (hlog _).out.mono ?_; rintro e w1 ⟨rfl, hb1⟩
  have B0 : Blk w1 w.heap.size 51 #[.int .i64 d, .int .i64 t] := ((Blk.new w _ _).alloc _).below hb1 (by simp; omega)
  have B1 : Blk w1 (w.heap.size + 1) 186 #[.int .i64 0, .int .i64 0] := (Blk.new' _ _ _ (by simp)).below hb1 (by simp)
  have hb0 : Below w.heap.size w w1 := (((Below.refl _ _).alloc (Nat.le_refl _) _).alloc (by simp) _).trans (hb1.mono (by simp; omega))
  clear hb1
  have z0 := B0.lt
  have z1 := B1.lt
  have c1 : w1.cell? ⟨w.heap.size, 1, none⟩ = some (.int .i64 t) := B0.cell 1
  have d0 : w1.cell? ⟨w.heap.size + 1, 0, none⟩ = some (.int .i64 0) := B1.cell 0
  have d1 : w1.cell? ⟨w.heap.size + 1, 1, none⟩ = some (.int .i64 0) := B1.cell 1
  have f0 := B1.frozen 0
  have f1 := B1.frozen 1
  clear B0 B1
  go_wp2
  refine bodyPost_ret (v := .agg #[.int .i64 (lo + t * 1048576), .int .i64 (hi + t * 1048576)]) (by simp [results, Tryz.results186, go_sem, d0, d1, z1]) rfl ⟨rfl, ?_⟩
  have hbs := hb0.size
  exact (by repeat (first | with_reducible exact hb0 | with_reducible apply below_drewN' | with_reducible apply Below.drew | (with_reducible refine Below.alloc ?_ (by first | omega | (simp; omega) | simp | (have := (hb0).size; omega) | (have := (hb0).size; simp; omega)) _) | (with_reducible refine Below.setCell ?_ (by first | omega | (simp; omega) | simp | (have := (hb0).size; omega) | (have := (hb0).size; simp; omega)) _) | exact hb0))

end Go.Proofs.YtednjmldjbndhaaGreat
