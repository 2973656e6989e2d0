/- Words for memory: a slice that reads as a list of rows of cells; a slice that the call itself made. Plain lemmas, no condition of their own. Contracts of the small integer functions: each returns what its Lean counterpart computes, the world unchanged. No condition beyond those that are written. append of rows to a slice of the call's own, in the words of Mem. Slices of int64: the laws' copies, comparisons and marks of them. No condition beyond the length. slices.Clone and the reference's copy at []int64. Figure: the structure, the laws' copies and comparisons of it. No condition beyond the length. Small range tests of one number. No condition. The logarithm by squaring: the plain sums. No program. -/
import Derived.Test.YtgkobjpoeajkdaaGreatProg
import Derived.WalkKit
import Derived.WalkLawsBesides
import Derived.Lib.Hide
import Derived.Deep.AppendLies
import Derived.Deep.QuietTactic
import Derived.BigQuiet
import Derived.StillTailTactics
import Derived.Maps.AppendAt
import Derived.OwnWalk
import Derived.Lib.SliceRun
namespace Go.Proofs.YtgkobjpoeajkdaaGreat
open Go.RowKit

theorem ret_int {k : IntKind} {a b : Int} (h : a = b) : Ending.returned (.int k a) = .returned (.int k b) := by rw [h]
theorem ret_bool {a b : Bool} (h : a = b) : Ending.returned (.bool a) = .returned (.bool b) := by rw [h]

/-- The slice at A reads as the rows xs (k cells each), all below block B. -/
def Sl (w : World) (B : Nat) (k : Nat) (A : Option Addr) (xs : List (List Value)) : Prop :=
  ∀ i x, xs[i]? = some x → x.length = k ∧ ∃ b off, A = some ⟨b, off, none⟩ ∧ b < B ∧ ∀ j v, x[j]? = some v → w.cell? ⟨b, off + i * k + j, none⟩ = some v

section
variable {w w' : World} {B B' k : Nat} {A : Option Addr} {xs : List (List Value)}
theorem Sl.nil_ : Sl w B k A [] := fun i x h => by simp at h
theorem Sl.keep (h : Sl w B k A xs) (hk : ∀ p : Addr, p.block < B → w'.cell? p = w.cell? p) : Sl w' B k A xs := fun i x hx => by
  obtain ⟨hl, b, off, rfl, hb, hc⟩ := h i x hx
  exact ⟨hl, b, off, rfl, hb, fun j v hv => (hk ⟨b, off + i * k + j, none⟩ hb).trans (hc j v hv)⟩
theorem Sl.more (h : Sl w B k A xs) (hB : B ≤ B') : Sl w B' k A xs := fun i x hx => by
  obtain ⟨hl, b, off, rfl, hb, hc⟩ := h i x hx
  exact ⟨hl, b, off, rfl, by omega, hc⟩
theorem Sl.below (h : Sl w B k A xs) (hb : Below B w w') : Sl w' B k A xs := h.keep fun _ hp => hb.cell hp
theorem Sl.below' (h : Sl w B k A xs) (hb : Below B' w w') (hB : B ≤ B') : Sl w' B k A xs := h.keep fun _ hp => hb.cell (by omega)
theorem Sl.alloc (h : Sl w B k A xs) (hB : B ≤ w.heap.size) (o : Obj) : Sl (w.alloc o) B k A xs := h.keep fun p hp => World.cell?_alloc_lt w o p (by omega)
/-- the rows of a block of the call's own -/
theorem Sl.at_ {i : Nat} (h : Sl w B k A xs) (hi : i < xs.length) : ∃ b off, A = some ⟨b, off, none⟩ ∧ b < B ∧ ∀ j v, (xs[i])[j]? = some v → w.cell? ⟨b, off + i * k + j, none⟩ = some v :=
  (h i xs[i] (List.getElem?_eq_getElem hi)).2
theorem Sl.drop (h : Sl w B k A xs) {m cap : Nat} (hm : m ≤ xs.length) (hc : xs.length ≤ cap) :
    Sl w B k (if cap = m then A else A.map (·.add (m * k))) (xs.drop m) := fun i x hx => by
  rw [List.getElem?_drop] at hx
  obtain ⟨hl, b, off, rfl, hb, hcell⟩ := h (m + i) x hx
  have hlt : m + i < xs.length := (List.getElem?_eq_some_iff.1 hx).1
  refine ⟨hl, b, off + m * k, ?_, hb, fun j v hv => ?_⟩
  · rw [if_neg (by omega)]
    by_cases h0 : m * k = 0
    · simp [Addr.add, h0]
    · simp [Addr.add, h0]
  · have := hcell j v hv
    rwa [show off + (m + i) * k + j = off + m * k + i * k + j from by rw [Nat.add_mul]; omega] at this
theorem Sl.take (h : Sl w B k A xs) (m : Nat) : Sl w B k A (xs.take m) := fun i x hx => by
  by_cases hi : i < m
  · rw [List.getElem?_take, if_pos hi] at hx
    exact h i x hx
  · rw [List.getElem?_take, if_neg hi] at hx
    cases hx
end

/-! ### Rows laid flat -/
theorem flat_get {xs : List (List Value)} {k : Nat} (h : ∀ x ∈ xs, x.length = k) : ∀ (i j : Nat) (x : List Value) (v : Value), xs[i]? = some x → x[j]? = some v → xs.flatten[i * k + j]? = some v := by
  induction xs with
  | nil => intro i j x v hx; simp at hx
  | cons y ys ih =>
    intro i j x v hx hv
    have hy : y.length = k := h y (by simp)
    rw [List.flatten_cons]
    cases i with
    | zero =>
      simp only [List.getElem?_cons_zero, Option.some.injEq] at hx
      subst hx
      rw [List.getElem?_append_left (by have := (List.getElem?_eq_some_iff.1 hv).1; omega)]
      simpa using hv
    | succ i =>
      simp only [List.getElem?_cons_succ] at hx
      rw [List.getElem?_append_right (by rw [hy, Nat.succ_mul]; omega)]
      rw [hy, show (i + 1) * k + j - k = i * k + j from by rw [Nat.succ_mul]; omega]
      exact ih (fun z hz => h z (by simp [hz])) i j x v hx hv
theorem flat_length {xs : List (List Value)} {k : Nat} (h : ∀ x ∈ xs, x.length = k) : xs.flatten.length = xs.length * k := by
  induction xs with
  | nil => simp
  | cons y ys ih =>
    rw [List.flatten_cons, List.length_append, ih (fun z hz => h z (by simp [hz])), h y (by simp), List.length_cons, Nat.succ_mul]
    omega

/-- v is a slice that the call itself made (blocks from base on), of element type e, k cells each; it holds the rows xs. -/
def Own (w : World) (base : Nat) (e : TypeId) (k : Nat) (v : Value) (xs : List (List Value)) : Prop :=
  w.ownsRow base e k v xs.length xs.flatten ∧ ∀ x ∈ xs, x.length = k

section
variable {w w' : World} {base base' : Nat} {e : TypeId} {k : Nat} {v : Value} {xs : List (List Value)}
theorem Own.nil_ : Own w base e k (.slice none 0 0) [] := ⟨World.ownsRow_nil _ _ _ _, by simp⟩
theorem Own.mono (h : Own w base e k v xs) (hb : base' ≤ base) : Own w base' e k v xs := by
  obtain ⟨⟨h1, h2⟩, h3⟩ := h
  refine ⟨⟨h1, ?_⟩, h3⟩
  rcases h2 with h2 | ⟨g, cap, cur, hv, hg, r⟩
  · exact Or.inl h2
  · exact Or.inr ⟨g, cap, cur, hv, by omega, r⟩
theorem Own.below (h : Own w base e k v xs) (hb : Below w.heap.size w w') : Own w' base e k v xs := by
  obtain ⟨⟨h1, h2⟩, h3⟩ := h
  refine ⟨⟨h1, ?_⟩, h3⟩
  rcases h2 with h2 | ⟨g, cap, cur, hv, hg, hh, r⟩
  · exact Or.inl h2
  · refine Or.inr ⟨g, cap, cur, hv, hg, ?_, r⟩
    rw [hb.block g]; · exact hh
    · rcases Nat.lt_or_ge g w.heap.size with hlt | hge
      · exact hlt
      · rw [Array.getElem?_eq_none hge] at hh; cases hh
theorem Own.alloc (h : Own w base e k v xs) (o : Obj) : Own (w.alloc o) base e k v xs := ⟨h.1.alloc o, h.2⟩
theorem Own.drewN (h : Own w base e k v xs) (n : Nat) : Own (w.drewN n) base e k v xs := h
/-- the slice's own shape -/
theorem Own.form (h : Own w base e k v xs) : ∃ A c, v = .slice A xs.length c ∧ xs.length ≤ c := by
  rcases h.1.2 with ⟨rfl, h0⟩ | ⟨g, cap, cur, rfl, _, _, hc, _⟩
  · exact ⟨none, 0, by rw [h0], by omega⟩
  · exact ⟨_, cap, rfl, hc⟩
theorem Own.sl {A : Option Addr} {n c : Nat} (h : Own w base e k (.slice A n c) xs) : Sl w w.heap.size k A xs := fun i x hx => by
  have hi : i < xs.length := (List.getElem?_eq_some_iff.1 hx).1
  refine ⟨h.2 x (List.mem_of_getElem? hx), ?_⟩
  rcases h.1.2 with ⟨_, h0⟩ | ⟨g, cap, cur, hv, hg, hh, hc, _, hcs, htake⟩
  · omega
  · simp only [Value.slice.injEq] at hv
    obtain ⟨rfl, _, rfl⟩ := hv
    refine ⟨g, 0, rfl, ?_, fun j v hv => ?_⟩
    · rcases Nat.lt_or_ge g w.heap.size with hlt | hge
      · exact hlt
      · rw [Array.getElem?_eq_none hge] at hh; cases hh
    · have hf := flat_get h.2 i j x v hx hv
      rw [← htake, List.getElem?_take] at hf
      split at hf
      · rw [Nat.zero_add, cell_of_row w g (i * k + j) cur e (0, 0) hh]
        simpa using hf
      · cases hf
theorem Own.lenB (h : Own w base e k v xs) : xs.length ≤ maxLen := by
  rcases h.1.2 with ⟨_, h0⟩ | ⟨g, cap, cur, hv, hg, hh, hc, hm, _⟩
  · rw [h0]; exact Nat.zero_le _
  · exact Nat.le_trans hc hm
end

/-- a block of the call's own: n rows of k cells; what its rows hold -/
def Blk (w : World) (g : Nat) (t : TypeId) (cs : Array Value) : Prop := w.heap[g]? = some (.cells cs t (0, 0))
section
variable {w w' : World} {g : Nat} {t : TypeId} {cs : Array Value}
theorem Blk.lt (h : Blk w g t cs) : g < w.heap.size := by
  rcases Nat.lt_or_ge g w.heap.size with hlt | hge
  · exact hlt
  · unfold Blk at h; rw [Array.getElem?_eq_none hge] at h; cases h
theorem Blk.cell (h : Blk w g t cs) (i : Nat) : w.cell? ⟨g, i, none⟩ = cs[i]? := cell_of_row w g i cs t (0, 0) h
theorem Blk.frozen (h : Blk w g t cs) (i : Nat) : w.frozen? ⟨g, i, none⟩ = false := by
  unfold Blk at h
  simp [World.frozen?, h]
theorem Blk.set_ (h : Blk w g t cs) (i : Nat) (u : Value) : Blk (w.setCell ⟨g, i, none⟩ u) g t (cs.setIfInBounds i u) := by
  unfold Blk at h ⊢
  simp [World.setCell, Array.getElem?_modify, h]
theorem Blk.two0 {a b u : Value} (h : Blk w g t #[a, b]) : Blk (w.setCell ⟨g, 0, none⟩ u) g t #[u, b] := h.set_ 0 u
theorem Blk.two1 {a b u : Value} (h : Blk w g t #[a, b]) : Blk (w.setCell ⟨g, 1, none⟩ u) g t #[a, u] := h.set_ 1 u
theorem Blk.new (w : World) (t : TypeId) (cs : Array Value) : Blk (w.alloc (.cells cs t)) w.heap.size t cs := heap_alloc_new w _
theorem Blk.new' (w : World) (t : TypeId) (cs : Array Value) {g : Nat} (hg : w.heap.size = g) : Blk (w.alloc (.cells cs t)) g t cs := hg ▸ Blk.new w t cs
theorem Blk.alloc (h : Blk w g t cs) (o : Obj) : Blk (w.alloc o) g t cs := (Below.heap_alloc w o g h.lt).trans h
theorem Blk.far (h : Blk w g t cs) {p : Addr} (hp : g ≠ p.block) (u : Value) : Blk (w.setCell p u) g t cs := (Below.heap_setCell w p u g hp).trans h
theorem Blk.drewN (h : Blk w g t cs) (n : Nat) : Blk (w.drewN n) g t cs := h
theorem Blk.below {B : Nat} (h : Blk w g t cs) (hb : Below B w w') (hg : g < B) : Blk w' g t cs := (hb.block g hg).trans h
end

/-- all old cells and all old marks read as before -/
theorem bcell {W w1 : World} {B : Nat} (hb : Below B W w1) : (∀ b o, b < B → w1.cell? ⟨b, o, none⟩ = W.cell? ⟨b, o, none⟩) ∧ (∀ b o, b < B → w1.frozen? ⟨b, o, none⟩ = W.frozen? ⟨b, o, none⟩) :=
  ⟨fun b o h => hb.cell (p := ⟨b, o, none⟩) h, fun b o h => hb.frozen (p := ⟨b, o, none⟩) h⟩

/-! ### A row of the call's own is written, element by element -/
theorem made_rows (z : Array Value) (k n : Nat) (hk : z.size = k) (hk0 : 0 < k) : (madeCells z (n * k)).toList = (List.replicate n z.toList).flatten := by
  have hrows : ∀ x ∈ List.replicate n z.toList, x.length = k := fun x hx => by rw [(List.mem_replicate.1 hx).2]; simpa using hk
  apply List.ext_getElem?
  intro j
  by_cases hj : j < n * k
  · have hd : j / k < n := (Nat.div_lt_iff_lt_mul hk0).2 hj
    have hm : j % k < z.toList.length := by rw [Array.length_toList, hk]; exact Nat.mod_lt _ hk0
    have h := flat_get hrows (j / k) (j % k) z.toList z.toList[j % k] (by simp [hd]) (List.getElem?_eq_getElem hm)
    rw [show j / k * k + j % k = j from by rw [Nat.mul_comm]; exact Nat.div_add_mod j k] at h
    rw [h]
    have hmz : j % z.size < z.size := Nat.mod_lt _ (by omega)
    have hmz' : j % k < z.size := by rw [hk] at hmz ⊢; exact hmz
    simp [madeCells, hj, hk]
    exact getElem!_pos z (j % k) hmz'
  · rw [List.getElem?_eq_none (by simp [size_madeCells]; omega), List.getElem?_eq_none (by rw [flat_length hrows]; simp; omega)]

def stores (w : World) (g : Nat) : Nat → List Value → World
  | _, [] => w
  | p, v :: vs => stores (w.setCell ⟨g, p, none⟩ v) g (p + 1) vs

theorem ownsRow_stores {base : Nat} {e : TypeId} {size g n cap : Nat} : ∀ (cs : List Value) (p : Nat) (w : World) (P S R : List Value), w.ownsRow base e size (.slice (some ⟨g, 0, none⟩) n cap) n (P ++ S ++ R) → P.length = p → S.length = cs.length →
    (stores w g p cs).ownsRow base e size (.slice (some ⟨g, 0, none⟩) n cap) n (P ++ cs ++ R)
  | [], _, w, P, S, R, h, _, hs => by
    obtain rfl : S = [] := List.eq_nil_of_length_eq_zero (by simpa using hs)
    exact h
  | v :: vs, p, w, P, S, R, h, hp, hs => by
    match S, hs with
    | s :: S', hs =>
      have h1 := (h.stored p v).1
      have e1 : (P ++ s :: S' ++ R).set p v = (P ++ [v]) ++ S' ++ R := by
        rw [List.append_assoc, List.set_append_right _ _ (by omega), hp, Nat.sub_self]
        simp
      rw [e1] at h1
      have h2 := ownsRow_stores vs (p + 1) _ (P ++ [v]) S' R h1 (by simp [hp]) (by simpa using hs)
      rw [show P ++ (v :: vs) ++ R = P ++ [v] ++ vs ++ R from by simp]
      exact h2

theorem flat_set {xs : List (List Value)} {x : List Value} {i : Nat} (hi : i < xs.length) : (xs.set i x).flatten = (xs.take i).flatten ++ x ++ (xs.drop (i + 1)).flatten := by
  rw [List.set_eq_take_append_cons_drop, if_pos hi]
  simp
theorem flat_split {xs : List (List Value)} {i : Nat} (hi : i < xs.length) : xs.flatten = (xs.take i).flatten ++ xs[i] ++ (xs.drop (i + 1)).flatten := by
  have h := flat_set (xs := xs) (x := xs[i]) hi
  rw [List.set_getElem_self] at h
  exact h

theorem Own.store {w : World} {base : Nat} {e : TypeId} {k g n cap : Nat} {xs : List (List Value)} (h : Own w base e k (.slice (some ⟨g, 0, none⟩) n cap) xs) {i : Nat} (hi : i < xs.length) (x : List Value) (hx : x.length = k) :
    Own (stores w g (i * k) x) base e k (.slice (some ⟨g, 0, none⟩) n cap) (xs.set i x) := by
  obtain ⟨h1, h2⟩ := h
  have hn : n = xs.length := by
    rcases h1.2 with ⟨h', _⟩ | ⟨g', cap', cur, h', _⟩
    · simp at h'
    · simp only [Value.slice.injEq] at h'; exact h'.2.1
  subst hn
  refine ⟨?_, fun y hy => ?_⟩
  · rw [List.length_set, flat_set hi]
    rw [flat_split hi] at h1
    refine ownsRow_stores x (i * k) w _ xs[i] _ h1 ?_ ?_
    · rw [flat_length fun z hz => h2 z (List.mem_of_mem_take hz)]
      rw [List.length_take, Nat.min_eq_left (by omega)]
    · rw [hx, h2 _ (List.getElem_mem hi)]
  · rcases List.mem_or_eq_of_mem_set hy with h | rfl
    · exact h2 y h
    · exact hx
theorem stores_below {B g : Nat} (hg : B ≤ g) : ∀ (cs : List Value) (p : Nat) {a w : World}, Below B a w → Below B a (stores w g p cs)
  | [], _, _, _, h => h
  | _ :: vs, p, _, _, h => stores_below hg vs (p + 1) (h.setCell hg _)
theorem rows_next {xs : List (List Value)} {z x : List Value} {k n : Nat} (hk : k < xs.length) (hx : xs[k]? = some x) (hn : xs.length = n := by simp) : (xs.take k ++ List.replicate (n - k) z).set k x = xs.take (k + 1) ++ List.replicate (n - (k + 1)) z := by
  subst hn
  rw [List.set_append_right _ _ (by simp; omega), List.length_take, Nat.min_eq_left (by omega), Nat.sub_self]
  obtain ⟨m, hm⟩ : ∃ m, xs.length - k = m + 1 := ⟨xs.length - k - 1, by omega⟩
  rw [hm, show xs.length - (k + 1) = m from by omega, List.replicate_succ, List.set_cons_zero, List.take_add_one, hx]
  simp
/-- the cells of a row of the call's own, and that they may be written -/
theorem Own.cell {w : World} {base : Nat} {e : TypeId} {k g n cap : Nat} {xs : List (List Value)} (h : Own w base e k (.slice (some ⟨g, 0, none⟩) n cap) xs) {i j : Nat} (hi : i < xs.length) (hj : j < k) :
    ∃ v, w.cell? ⟨g, i * k + j, none⟩ = some v := by
  have h2 := h.2 xs[i] (List.getElem_mem hi)
  obtain ⟨_, b, off, he, _, hc⟩ := h.sl i xs[i] (List.getElem?_eq_getElem hi)
  simp only [Option.some.injEq, Addr.mk.injEq, and_true] at he
  obtain ⟨rfl, rfl⟩ := he
  exact ⟨_, by have := hc j (xs[i][j]'(by omega)) (List.getElem?_eq_getElem (by omega)); rwa [Nat.zero_add] at this⟩
theorem Own.frozen {w : World} {base : Nat} {e : TypeId} {k g n cap : Nat} {xs : List (List Value)} (h : Own w base e k (.slice (some ⟨g, 0, none⟩) n cap) xs) (j : Nat) : w.frozen? ⟨g, j, none⟩ = false := by
  rcases h.1.2 with ⟨h', _⟩ | ⟨g', cap', cur, h', _, hg, _⟩
  · simp at h'
  · simp only [Value.slice.injEq, Option.some.injEq, Addr.mk.injEq, and_true] at h'
    obtain ⟨rfl, _, rfl⟩ := h'
    exact frozen_of_row w g j cur e hg
theorem Own.block_ge {w : World} {base : Nat} {e : TypeId} {k g n cap : Nat} {xs : List (List Value)} (h : Own w base e k (.slice (some ⟨g, 0, none⟩) n cap) xs) : base ≤ g ∧ g < w.heap.size := by
  have := h.1.lt g rfl
  exact this
theorem Own.off0 {w : World} {base : Nat} {e : TypeId} {k b off n cap : Nat} {xs : List (List Value)} (h : Own w base e k (.slice (some ⟨b, off, none⟩) n cap) xs) {i : Nat} (_ : i < xs.length) : off = 0 := by
  rcases h.1.2 with ⟨h', _⟩ | ⟨g', cap', cur, h', _⟩
  · simp at h'
  · simp only [Value.slice.injEq, Option.some.injEq, Addr.mk.injEq] at h'
    exact h'.1.2.1
theorem grownBy_stores {w : World} {g : Nat} : ∀ (cs : List Value) (p : Nat) {v : World}, w.grownBy v (some g) → w.grownBy (stores v g p cs) (some g)
  | [], _, _, h => h
  | u :: us, p, v, h => grownBy_stores us (p + 1) ⟨h.os, h.tape, h.output, by simpa using h.size, fun k hk hne => by
      rw [Below.heap_setCell _ _ _ _ (fun e => hne (by simp [e]))]; exact h.block k hk hne⟩
theorem marks_next {xs : List (List Value)} (f : Nat → List Value) {k : Nat} (hk : k < xs.length) : ((List.range k).map f ++ xs.drop k).set k (f k) = (List.range (k + 1)).map f ++ xs.drop (k + 1) := by
  rw [List.set_append_right _ _ (by simp), List.length_map, List.length_range, Nat.sub_self, List.drop_eq_getElem_cons hk, List.set_cons_zero, List.range_succ]
  simp

theorem Sl.of_blk {w : World} {g k : Nat} {t : TypeId} {cs : Array Value} (h : Blk w g t cs) (xs : List (List Value)) (hx : cs.toList = xs.flatten) (hk : ∀ x ∈ xs, x.length = k) : Sl w (g + 1) k (some ⟨g, 0, none⟩) xs := fun i x hi =>
  ⟨hk x (List.mem_of_getElem? hi), g, 0, rfl, by omega, fun j v hv => by
    have := flat_get hk i j x v hi hv
    rw [← hx] at this
    rw [Nat.zero_add, h.cell]
    simpa using this⟩
theorem quiet_add_left {P : Program} {f : FuncId} {args : Array Value} {w : World} {a n : Nat} {v : Value}
    (h : Calls P f args (w.drewN (a + n)) fun e w' => e = .returned v ∧ w.drewN (a + n) = w') :
    Calls P f args (w.drewN (a + n)) fun e w'' => e = .returned v ∧ ∃ m, w'' = w.drewN (a + m) :=
  h.mono fun _ _ ⟨he, hm⟩ => ⟨he, n, hm.symm⟩
theorem quiet_left {P : Program} {f : FuncId} {args : Array Value} {w : World} {n : Nat} {v : Value}
    (h : Calls P f args (w.drewN n) fun e w' => e = .returned v ∧ w.drewN n = w') : Calls P f args (w.drewN n) fun e w'' => e = .returned v ∧ ∃ m, w'' = w.drewN m :=
  h.mono fun _ _ ⟨he, hm⟩ => ⟨he, n, hm.symm⟩
theorem below_drewN' {B : Nat} {a w : World} (h : Below B a w) (n : Nat) : Below B a (w.drewN n) := ⟨h.os, h.tape, h.output, h.size, h.block⟩
theorem Sl.drewN {w : World} {B k : Nat} {A : Option Addr} {xs : List (List Value)} (h : Sl w B k A xs) (n : Nat) : Sl (w.drewN n) B k A xs := h
end Go.Proofs.YtgkobjpoeajkdaaGreat
namespace Go.Proofs.YtgkobjpoeajkdaaGreat
open Go.RowKit

/-- the value lies between the bounds -/
def inB (n lo hi : Int) : Bool := decide (lo ≤ n) && decide (n ≤ hi)
theorem inB_true {n lo hi : Int} : inB n lo hi = true ↔ lo ≤ n ∧ n ≤ hi := by simp [inB]
theorem inB_false {n lo hi : Int} : inB n lo hi = false ↔ ¬ (lo ≤ n ∧ n ≤ hi) := by rw [← inB_true]; simp

theorem within_c (n lo hi : Int) (w : World) :
    Calls Tryz.prog 78 #[.int .i64 n, .int .i64 lo, .int .i64 hi] w fun e w' => e = .returned (.bool (inB n lo hi)) ∧ w = w' := by
  by_cases h1 : lo ≤ n
  all_goals
    go_enter Tryz.func78, Tryz.ntmps78
    go_wp2
    go_ret
    exact ⟨by simp [inB, h1] <;> omega, rfl⟩

theorem l01In_c (n lo hi : Int) (w : World) :
    Calls Tryz.prog 73 #[.int .i64 n, .int .i64 lo, .int .i64 hi] w fun e w' => e = .returned (.bool (inB n lo hi)) ∧ w = w' := by
  by_cases h1 : lo ≤ n
  all_goals
    go_enter Tryz.func73, Tryz.ntmps73
    go_wp2
    go_ret
    exact ⟨by simp [inB, h1] <;> omega, rfl⟩

theorem tdiv_neg_of (a b : Int) (hb : 0 < b) (hm : a.tmod b = 0) : a.tdiv b = a / b := by
  have h1 := Int.mul_tdiv_add_tmod a b
  rw [hm] at h1
  have h2 : a.tdiv b = a / b := by
    rw [← h1]; simp
    rw [Int.mul_tdiv_cancel_left _ (by omega), Int.mul_ediv_cancel_left _ (by omega)]
  exact h2
theorem tmod_neg_bd (a b : Int) (ha : a < 0) (hb : 0 < b) : -b < a.tmod b ∧ a.tmod b ≤ 0 := by
  have h1 := Int.neg_tmod (-a) b
  rw [Int.neg_neg] at h1
  rw [h1]
  have h3 := Int.tmod_nonneg b (show 0 ≤ -a by omega)
  have h4 := Int.tmod_lt_of_pos (-a) hb
  omega
theorem tdiv_neg_of' (a b : Int) (ha : a < 0) (hb : 0 < b) (hm : ¬ a.tmod b = 0) : a.tdiv b - 1 = a / b := by
  have h1 := Int.mul_tdiv_add_tmod a b
  have h2 := tmod_neg_bd a b ha hb
  symm
  have h3 : a = (a.tmod b + b) + b * (a.tdiv b - 1) := by rw [Int.mul_sub]; omega
  rw [h3, Int.add_mul_ediv_left _ _ (by omega)]
  rw [← h3, Int.ediv_eq_zero_of_lt (by omega) (by omega)]
  omega
theorem tdiv_bd (a b : Int) (hb : 0 < b) (ha : -4611686018427387904 ≤ a ∧ a ≤ 4611686018427387904) : -4611686018427387904 ≤ a.tdiv b ∧ a.tdiv b ≤ 4611686018427387904 := by
  rw [tdiv_eq_if]
  split
  · rename_i hx; have := IntWalk.tdiv_le a b hx (by omega); omega
  · rename_i hx; have := IntWalk.tdiv_le (-a) b (by omega) (by omega); omega
theorem ediv_bd (a b : Int) (hb : 0 < b) (ha : -4611686018427387904 ≤ a ∧ a ≤ 4611686018427387904) : -4611686018427387904 ≤ a / b ∧ a / b ≤ 4611686018427387904 := by
  constructor
  · exact Int.le_trans (by omega) (Int.le_ediv_of_mul_le hb (show -4611686018427387904 * b ≤ a by
      have : 4611686018427387904 * 1 ≤ 4611686018427387904 * b := Int.mul_le_mul_of_nonneg_left (by omega) (by omega)
      omega))
  · have : a / b < 4611686018427387904 + 1 := Int.ediv_lt_of_lt_mul hb (by
      have : 4611686018427387905 * 1 ≤ 4611686018427387905 * b := Int.mul_le_mul_of_nonneg_left (by omega) (by omega)
      omega)
    omega

theorem mul_div_bd (a b : Int) (hb : 0 < b) : a - b < b * (a / b) ∧ b * (a / b) ≤ a := by
  have h1 := Int.mul_ediv_add_emod a b
  have h2 := Int.emod_nonneg a (show b ≠ 0 by omega)
  have h3 := Int.emod_lt_of_pos a hb
  omega

theorem down_c (a b : Int) (w : World) (ha : -4611686018427387904 ≤ a ∧ a ≤ 4611686018427387904) (hb : 0 < b ∧ b ≤ 4611686018427387904) :
    Calls Tryz.prog 171 #[.int .i64 a, .int .i64 b] w fun e w' => e = .returned (.int .i64 (a / b)) ∧ w = w' := by
  obtain ⟨ha1, ha2⟩ := ha
  obtain ⟨hb1, hb2⟩ := hb
  have hbn : ¬ b < 0 := by omega
  have hb0 : ¬ b = 0 := by omega
  have hbt := tdiv_bd a b hb1 ⟨ha1, ha2⟩
  by_cases h : 0 ≤ a
  · have h' : ¬ a < 0 := by omega
    have E := Lib.hid (Int.tdiv_eq_ediv_of_nonneg (b := b) h)
    by_cases hm : a % b = 0
    · have hm1 : ((a % b) != 0) = false := by simp [hm]
      have hm := Lib.hid hm
      go_enter Tryz.func171, Tryz.ntmps171
      go_wp2
      go_ret
      exact ⟨ret_int E.out, rfl⟩
    · have hm1 : ((a % b) != 0) = true := by simp [hm]
      go_enter Tryz.func171, Tryz.ntmps171
      go_wp2
      go_ret
      exact ⟨ret_int E.out, rfl⟩
  · have h' : a < 0 := by omega
    by_cases hm : a.tmod b = 0
    · have hm1 : ((a.tmod b) != 0) = false := by simp [hm]
      have E := Lib.hid (tdiv_neg_of a b hb1 hm)
      have hm := Lib.hid hm
      go_enter Tryz.func171, Tryz.ntmps171
      go_wp2
      go_ret
      exact ⟨ret_int E.out, rfl⟩
    · have hm1 : ((a.tmod b) != 0) = true := by simp [hm]
      have E := Lib.hid (tdiv_neg_of' a b h' hb1 hm)
      go_enter Tryz.func171, Tryz.ntmps171
      go_wp2
      go_ret
      exact ⟨ret_int E.out, rfl⟩

theorem modulo_c (a b : Int) (w : World) (ha : -4611686018427387904 ≤ a ∧ a ≤ 4611686018427387904) (hb : 0 < b ∧ b ≤ 4611686018427387904) :
    Calls Tryz.prog 111 #[.int .i64 a, .int .i64 b] w fun e w' => e = .returned (.int .i64 (a % b)) ∧ w = w' := by
  have h1 := mul_div_bd a b hb.1
  have h2 := ediv_bd a b hb.1 ha
  obtain ⟨ha1, ha2⟩ := ha
  obtain ⟨hb1, hb2⟩ := hb
  obtain ⟨h11, h12⟩ := h1
  have h4 := Int.emod_nonneg a (show b ≠ 0 by omega)
  have h5 := Int.emod_lt_of_pos a hb1
  have E : Hid (a - b * (a / b) = a % b) := by have := Int.mul_ediv_add_emod a b; unfold Hid; omega
  go_enter Tryz.func111, Tryz.ntmps111
  go_wp2_with (go_at_call 171; refine (down_c _ _ _ ⟨ha1, ha2⟩ ⟨hb1, hb2⟩).mono ?_; rintro e w' ⟨rfl, rfl⟩)
  go_ret
  exact ⟨ret_int E.out, rfl⟩

theorem up_c (a b : Int) (w : World) (ha : -4611686018427387904 ≤ a ∧ a ≤ 4611686018427387904) (hb : 0 < b ∧ b ≤ 4611686018427387904) :
    Calls Tryz.prog 206 #[.int .i64 a, .int .i64 b] w fun e w' => e = .returned (.int .i64 (-(-a / b))) ∧ w = w' := by
  have h2 := ediv_bd (-a) b hb.1 (by omega)
  obtain ⟨ha1, ha2⟩ := ha
  obtain ⟨hb1, hb2⟩ := hb
  go_enter Tryz.func206, Tryz.ntmps206
  go_wp2_with (go_at_call 171; refine (down_c _ _ _ (by omega) ⟨hb1, hb2⟩).mono ?_; rintro e w' ⟨rfl, rfl⟩)
  go_ret
  exact ⟨rfl, rfl⟩

theorem l01Floor_c (a b : Int) (w : World) (ha : -4611686018427387904 ≤ a ∧ a ≤ 4611686018427387904) (hb : 0 < b ∧ b ≤ 4611686018427387904) :
    Calls Tryz.prog 226 #[.int .i64 a, .int .i64 b] w fun e w' => e = .returned (.int .i64 (a / b)) ∧ w = w' := by
  obtain ⟨ha1, ha2⟩ := ha
  obtain ⟨hb1, hb2⟩ := hb
  have hbn : ¬ b < 0 := by omega
  have hb0 : ¬ b = 0 := by omega
  have hbt := tdiv_bd a b hb1 ⟨ha1, ha2⟩
  by_cases h : 0 ≤ a
  · have h' : ¬ a < 0 := by omega
    have E := Lib.hid (Int.tdiv_eq_ediv_of_nonneg (b := b) h)
    have hm := Int.emod_nonneg a (show b ≠ 0 by omega)
    go_enter Tryz.func226, Tryz.ntmps226
    go_wp2
    go_ret
    exact ⟨ret_int E.out, rfl⟩
  · have h' : a < 0 := by omega
    have hmb := tmod_neg_bd a b h' hb1
    by_cases hm : a.tmod b = 0
    · have E := Lib.hid (tdiv_neg_of a b hb1 hm)
      have hm1 : ¬ a.tmod b < 0 := by omega
      have hm := Lib.hid hm
      go_enter Tryz.func226, Tryz.ntmps226
      go_wp2
      go_ret
      exact ⟨ret_int E.out, rfl⟩
    · have hm1 : a.tmod b < 0 := by omega
      have E := Lib.hid (tdiv_neg_of' a b h' hb1 hm)
      go_enter Tryz.func226, Tryz.ntmps226
      go_wp2
      go_ret
      exact ⟨ret_int E.out, rfl⟩

theorem l01Ceil_c (a b : Int) (w : World) (ha : -4611686018427387904 ≤ a ∧ a ≤ 4611686018427387904) (hb : 0 < b ∧ b ≤ 4611686018427387904) :
    Calls Tryz.prog 244 #[.int .i64 a, .int .i64 b] w fun e w' => e = .returned (.int .i64 (-(-a / b))) ∧ w = w' := by
  have h2 := ediv_bd (-a) b hb.1 (by omega)
  obtain ⟨ha1, ha2⟩ := ha
  obtain ⟨hb1, hb2⟩ := hb
  go_enter Tryz.func244, Tryz.ntmps244
  go_wp2_with (go_at_call 226; refine (l01Floor_c _ _ _ (by omega) ⟨hb1, hb2⟩).mono ?_; rintro e w' ⟨rfl, rfl⟩)
  go_ret
  exact ⟨rfl, rfl⟩

theorem l01Mod_c (a b : Int) (w : World) (ha : -4611686018427387904 ≤ a ∧ a ≤ 4611686018427387904) (hb : 0 < b ∧ b ≤ 2305843009213693952) :
    Calls Tryz.prog 146 #[.int .i64 a, .int .i64 b] w fun e w' => e = .returned (.int .i64 (a % b)) ∧ w = w' := by
  obtain ⟨ha1, ha2⟩ := ha
  obtain ⟨hb1, hb2⟩ := hb
  have hb0 : ¬ b = 0 := by omega
  have h4 := Int.emod_nonneg a hb0
  have h5 := Int.emod_lt_of_pos a hb1
  by_cases h : 0 ≤ a
  · have E : Hid ((a % b + b) % b = a % b) := by unfold Hid; rw [Int.add_emod_right, Int.emod_emod]
    go_enter Tryz.func146, Tryz.ntmps146
    go_wp2
    go_ret
    exact ⟨ret_int E.out, rfl⟩
  · have h' : a < 0 := by omega
    have hmb := tmod_neg_bd a b h' hb1
    have E : Hid (a.tmod b % b = a % b) := by
      have h1 := Int.mul_tdiv_add_tmod a b
      unfold Hid
      conv => rhs; rw [← h1, Int.mul_add_emod_self_left]
    go_enter Tryz.func146, Tryz.ntmps146
    go_wp2
    go_ret
    exact ⟨ret_int E.out, rfl⟩


theorem distance_c (a b : Int) (w : World) (ha : -2305843009213693952 ≤ a ∧ a ≤ 2305843009213693952) (hb : -2305843009213693952 ≤ b ∧ b ≤ 2305843009213693952) :
    Calls Tryz.prog 162 #[.int .i64 a, .int .i64 b] w fun e w' => e = .returned (.int .i64 (max (a - b) (b - a))) ∧ w = w' := by
  obtain ⟨ha1, ha2⟩ := ha
  obtain ⟨hb1, hb2⟩ := hb
  go_enter Tryz.func162, Tryz.ntmps162
  go_wp2
  all_goals go_ret
  all_goals exact ⟨ret_int (by omega), rfl⟩
end Go.Proofs.YtgkobjpoeajkdaaGreat
namespace Go.Proofs.YtgkobjpoeajkdaaGreat
open Go.RowKit

theorem flat_of {xs : List (List Value)} {k : Nat} (hk : 0 < k) (h : ∀ x ∈ xs, x.length = k) {p : Nat} {u : Value} (hp : xs.flatten[p]? = some u) : ∃ i j x, p = i * k + j ∧ xs[i]? = some x ∧ x[j]? = some u := by
  have hlt : p < xs.length * k := by rw [← flat_length h]; exact (List.getElem?_eq_some_iff.1 hp).1
  have hd : p / k < xs.length := (Nat.div_lt_iff_lt_mul hk).2 hlt
  have hm : p % k < xs[p / k].length := by rw [h _ (List.getElem_mem hd)]; exact Nat.mod_lt _ hk
  have hg := flat_get h (p / k) (p % k) _ _ (List.getElem?_eq_getElem hd) (List.getElem?_eq_getElem hm)
  rw [show p / k * k + p % k = p from by rw [Nat.mul_comm]; exact Nat.div_add_mod p k] at hg
  rw [hg] at hp
  refine ⟨p / k, p % k, _, by rw [Nat.mul_comm]; exact (Nat.div_add_mod p k).symm, List.getElem?_eq_getElem hd, ?_⟩
  rw [List.getElem?_eq_getElem hm]
  exact hp

section
variable {P : Program} (w : World)
theorem run_append_of_nil (base : Nat) (t ty e : TypeId) (i : TypeInfo) (size : Nat) (ht : P.underlying t = some (.slice e)) (hi : P.info? e = some i)
    (v : Value) (n : Nat) (xs : List Value) (hown : w.ownsRow base e size v n xs) (c : Nat) : (Builtin.append_ #[t, t] ty #[v, .slice none 0 c]).run P w = .ok v w := by
  rcases hown.2 with ⟨rfl, rfl⟩ | ⟨g, cap, cur, rfl, _, _, hnc, _⟩
  · simp [Builtin.append_, run_underlying ht, sizeOf, typeInfo, hi, Builtin.lenOf, Builtin.firstCells]
  · simp [Builtin.append_, run_underlying ht, sizeOf, typeInfo, hi, Builtin.lenOf, Builtin.firstCells, hnc, storeCells]

theorem run_append_rows (base : Nat) (t ty e : TypeId) (i : TypeInfo) (z : Value) (k bytes : Nat) (ht : P.underlying t = some (.slice e)) (hi : P.info? e = some i) (hz : i.zero = some z)
    (hsize : i.size = k) (hby : i.bytes = bytes) (hzs : z.cells.size = k) (hk : 0 < k)
    (v : Value) (xs : List (List Value)) (hown : Own w base e k v xs)
    (B : Nat) (A : Option Addr) (m c : Nat) (ys : List (List Value)) (hm : ys.length = m) (hr : Sl w B k A ys) (h1 : ∀ y ∈ ys, ∀ u ∈ y, u.oneCell' = true)
    (h63 : xs.length + m ≤ maxLen) (hbytes : (xs.length + m) * bytes ≤ 140737488355328) (hbase : base ≤ w.heap.size) :
    ∃ v' w', (Builtin.append_ #[t, t] ty #[v, .slice A m c]).run P w = .ok v' w' ∧ Own w' base e k v' (xs ++ ys) ∧ w.grownBy w' v.ownBlock ∧ (v'.ownBlock = v.ownBlock ∨ v'.ownBlock = some w.heap.size) := by
  have hys : ∀ y ∈ ys, y.length = k := fun y hy => by obtain ⟨j, hj⟩ := List.mem_iff_getElem?.1 hy; exact (hr j y hj).1
  have hall : ∀ x ∈ xs ++ ys, x.length = k := fun x hx => by
    rcases List.mem_append.1 hx with h | h
    · exact hown.2 x h
    · exact hys x h
  rcases A with _ | ad
  · have hy : ys = [] := by
      cases ys with
      | nil => rfl
      | cons y r => obtain ⟨_, b, off, h, _⟩ := hr 0 y rfl; cases h
    subst hy
    obtain rfl : m = 0 := by simpa using hm.symm
    exact ⟨v, w, run_append_of_nil w base t ty e i k ht hi v _ _ hown.1 c, by rw [List.append_nil]; exact hown, World.grownBy.refl w _, .inl rfl⟩
  · have hcells : ∀ j u, ys.flatten[j]? = some u → w.cell? (ad.add j) = some u := by
      intro p u hp
      obtain ⟨i, j, x, rfl, hx, hu⟩ := flat_of hk hys hp
      obtain ⟨_, b, off, he, _, hc⟩ := hr i x hx
      obtain rfl : ad = ⟨b, off, none⟩ := by injection he
      have := hc j u hu
      rw [Nat.add_assoc] at this
      unfold Addr.add
      split
      · rename_i h0; rw [h0] at this; exact this
      · exact this
    obtain ⟨v', w', hrun, h2, h3, _, h5⟩ := run_append_own_at (P := P) w base t ty e i z k bytes ht hi hz hsize hby hzs hk v _ _ hown.1 ad m c ys.flatten (by rw [flat_length hys, hm]) hcells
      (fun u hu => by obtain ⟨y, hy, hu⟩ := List.mem_flatten.1 hu; exact h1 y hy u hu) h63 hbytes hbase
    refine ⟨v', w', hrun, ⟨?_, hall⟩, h3, h5⟩
    rw [List.length_append, List.flatten_append, hm]
    exact h2

theorem wp_append_rows {o : Oper} {a : Act} {K : Act → World → Prop} {Q : Exit → Act → World → Prop} (s x : Operand) (t : TypeId)
    (ho : o.op = .call { callee := .builtin .append, args := #[s, x], argTypes := #[t, t] })
    (base : Nat) (e : TypeId) (i : TypeInfo) (z : Value) (k bytes : Nat) (ht : P.underlying t = some (.slice e)) (hi : P.info? e = some i) (hz : i.zero = some z)
    (hsize : i.size = k) (hby : i.bytes = bytes) (hzs : z.cells.size = k) (hk : 0 < k)
    (v : Value) (xs : List (List Value)) (hs : a.eval s = v) (hown : Own w base e k v xs)
    (B : Nat) (A : Option Addr) (m c : Nat) (ys : List (List Value)) (hx : a.eval x = .slice A m c) (hm : ys.length = m) (hr : Sl w B k A ys) (h1 : ∀ y ∈ ys, ∀ u ∈ y, u.oneCell' = true)
    (h63 : xs.length + m ≤ maxLen) (hbytes : (xs.length + m) * bytes ≤ 140737488355328) (hbase : base ≤ w.heap.size)
    (h : ∀ v' w', Own w' base e k v' (xs ++ ys) → w.grownBy w' v.ownBlock → (v'.ownBlock = v.ownBlock ∨ v'.ownBlock = some w.heap.size) → K (a.put o.dst v') w') : o.wp P a w K Q := by
  obtain ⟨v', w', hrun, h2, h3, h4⟩ := run_append_rows (P := P) w base t o.type e i z k bytes ht hi hz hsize hby hzs hk v xs hown B A m c ys hm hr h1 h63 hbytes hbase
  unfold Oper.wp execOp
  simp only [ho, resolve, invoke, builtin, Sem.run_bind, Sem.run_pure, Result.andThen_ok, List.map_toArray, List.map_cons, List.map_nil, hs, hx, hrun]
  exact h v' w' h2 h3 h4

theorem wpList_append_rows {ops : Array Oper} {rest : List Oper} {o : Oper} {a : Act} {Q : Exit → Act → World → Prop} (hgd : o.guard = none) (s x : Operand) (t : TypeId)
    (ho : o.op = .call { callee := .builtin .append, args := #[s, x], argTypes := #[t, t] })
    (base : Nat) (e : TypeId) (i : TypeInfo) (z : Value) (k bytes : Nat) (ht : P.underlying t = some (.slice e)) (hi : P.info? e = some i) (hz : i.zero = some z)
    (hsize : i.size = k) (hby : i.bytes = bytes) (hzs : z.cells.size = k) (hk : 0 < k)
    (v : Value) (xs : List (List Value)) (hs : a.eval s = v) (hown : Own w base e k v xs)
    (B : Nat) (A : Option Addr) (m c : Nat) (ys : List (List Value)) (hx : a.eval x = .slice A m c) (hm : ys.length = m) (hr : Sl w B k A ys) (h1 : ∀ y ∈ ys, ∀ u ∈ y, u.oneCell' = true)
    (h63 : xs.length + m ≤ maxLen) (hbytes : (xs.length + m) * bytes ≤ 140737488355328) (hbase : base ≤ w.heap.size)
    (h : ∀ v' w', Own w' base e k v' (xs ++ ys) → w.grownBy w' v.ownBlock → (v'.ownBlock = v.ownBlock ∨ v'.ownBlock = some w.heap.size) → wpList P ops Q rest (a.put o.dst v') w') : wpList P ops Q (o :: rest) a w :=
  wpList_plain hgd fun _ hK => wp_append_rows w s x t ho base e i z k bytes ht hi hz hsize hby hzs hk v xs hs hown B A m c ys hx hm hr h1 h63 hbytes hbase fun v' w' h2 h3 h4 => hK _ _ (h v' w' h2 h3 h4)
/-- the same at a step of a region that draws its order -/
theorem step_append_rows {ops : Array Oper} {o : Oper} {a : Act} {K : Act → World → Prop} {Q : Exit → Act → World → Prop} {E : Prop} (hgd : o.guard = none) (s x : Operand) (t : TypeId)
    (ho : o.op = .call { callee := .builtin .append, args := #[s, x], argTypes := #[t, t] })
    (base : Nat) (e : TypeId) (i : TypeInfo) (z : Value) (k bytes : Nat) (ht : P.underlying t = some (.slice e)) (hi : P.info? e = some i) (hz : i.zero = some z)
    (hsize : i.size = k) (hby : i.bytes = bytes) (hzs : z.cells.size = k) (hk : 0 < k)
    (v : Value) (xs : List (List Value)) (hs : a.eval s = v) (hown : Own w base e k v xs)
    (B : Nat) (A : Option Addr) (m c : Nat) (ys : List (List Value)) (hx : a.eval x = .slice A m c) (hm : ys.length = m) (hr : Sl w B k A ys) (h1 : ∀ y ∈ ys, ∀ u ∈ y, u.oneCell' = true)
    (h63 : xs.length + m ≤ maxLen) (hbytes : (xs.length + m) * bytes ≤ 140737488355328) (hbase : base ≤ w.heap.size)
    (h : ∀ v' w', Own w' base e k v' (xs ++ ys) → w.grownBy w' v.ownBlock → (v'.ownBlock = v.ownBlock ∨ v'.ownBlock = some w.heap.size) → K (a.put o.dst v') w') :
    if Region.wanted o (yielded ops a.tmps) = true then Oper.wp P o a w K Q else E := by
  have hw : Region.wanted o (yielded ops a.tmps) = true := by simp [Region.wanted, hgd]
  rw [if_pos hw]
  exact wp_append_rows w s x t ho base e i z k bytes ht hi hz hsize hby hzs hk v xs hs hown B A m c ys hx hm hr h1 h63 hbytes hbase h
end

/-- an empty row that was just made: 'T{}' of length nought -/
theorem Own.empty {w : World} {base : Nat} {e : TypeId} {k : Nat} (hb : base ≤ w.heap.size) : Own (w.alloc (.cells #[] e)) base e k (.slice (some ⟨w.heap.size, 0, none⟩) 0 0) [] := by
  refine ⟨?_, by simp⟩
  have := World.ownsRow_lit (base := base) (e := e) (size := k) w #[] 0 hb (Nat.zero_le _) (by simp)
  simpa using this
theorem below_app {B : Nat} {a w w' : World} {v : Value} (h : Below B a w) (hg : w.grownBy w' v.ownBlock) (hB : B ≤ w.heap.size) (hr : ∀ g, v.ownBlock = some g → B ≤ g) : Below B a w' := h.grown hg hB hr
theorem Own.ownGe {w : World} {base : Nat} {e : TypeId} {k : Nat} {v : Value} {xs : List (List Value)} (h : Own w base e k v xs) : ∀ g, v.ownBlock = some g → base ≤ g := fun g hg => (h.1.lt g hg).1
theorem Own.kept {w w' : World} {base : Nat} {e : TypeId} {k : Nat} {v : Value} {xs : List (List Value)} {row : Option Nat} (h : Own w base e k v xs) (hg : w.grownBy w' row) (hne : v.ownBlock = none ∨ v.ownBlock ≠ row) : Own w' base e k v xs := ⟨h.1.kept hg hne, h.2⟩
theorem Sl.grown {w w' : World} {B k : Nat} {A : Option Addr} {xs : List (List Value)} {row : Option Nat} (h : Sl w B k A xs) (hg : w.grownBy w' row) (hB : B ≤ w.heap.size) (hr : ∀ g, row = some g → B ≤ g) : Sl w' B k A xs :=
  h.keep fun p hp => World.cell?_of_block (hg.block p.block (by omega) (fun e => by have := hr _ e.symm; omega))
/-- two slices of the call's own, the second made later: their blocks differ -/
theorem own_apart {w w' : World} {base base' : Nat} {e e' : TypeId} {k k' : Nat} {v v' : Value} {xs xs' : List (List Value)} (h : Own w base e k v xs) (h' : Own w' base' e' k' v' xs') (hb : w.heap.size ≤ base' := by omega) :
    v.ownBlock = none ∨ v.ownBlock ≠ v'.ownBlock := by
  cases hv : v.ownBlock with
  | none => exact .inl rfl
  | some g =>
    refine .inr fun e => ?_
    have h1 := (h.1.lt g hv).2
    have h2 := (h'.1.lt g e.symm).1
    omega
theorem own_apart' {w w' : World} {base base' : Nat} {e e' : TypeId} {k k' : Nat} {v v' : Value} {xs xs' : List (List Value)} (h : Own w base e k v xs) (h' : Own w' base' e' k' v' xs') (hb : w.heap.size ≤ base' := by omega) :
    v'.ownBlock = none ∨ v'.ownBlock ≠ v.ownBlock := by
  cases hv : v'.ownBlock with
  | none => exact .inl rfl
  | some g =>
    refine .inr fun e => ?_
    have h1 := (h.1.lt g e.symm).2
    have h2 := (h'.1.lt g hv).1
    omega
theorem Own.le_cap {w : World} {base : Nat} {e : TypeId} {k n c : Nat} {A : Option Addr} {xs : List (List Value)} (h : Own w base e k (.slice A n c) xs) : n ≤ c := by
  obtain ⟨_, _, he, hf⟩ := h.form
  simp only [Value.slice.injEq] at he
  omega
/-- a call's result: a new slice with the rows, and a code -/
def PostRows (t : TypeId) (k n : Nat) (rows : List (List Value)) (code : Int) (w : World) (e : Ending) (w' : World) : Prop :=
  ∃ A' c', e = .returned (.tuple #[.slice A' n c', .int .i64 code]) ∧ Own w' w.heap.size t k (.slice A' n c') rows ∧ Below w.heap.size w w'
end Go.Proofs.YtgkobjpoeajkdaaGreat
namespace Go.Proofs.YtgkobjpoeajkdaaGreat
open Go.RowKit
/-- one int64, as a row of one cell -/
def ic (n : Int) : List Value := [.int .i64 n]
theorem ic_one {x : List Int} : ∀ y ∈ x.map ic, ∀ u ∈ y, u.oneCell' = true := fun y hy u hu => by
  obtain ⟨n, _, rfl⟩ := List.mem_map.1 hy
  simp only [ic, List.mem_singleton] at hu
  subst hu
  rfl
theorem info_Int64 : (Tryz.prog.info? 2).map (fun i => (i.zero, i.size, i.bytes)) = some (some (.int .i64 0), 1, 8) := by kernel_rfl
/-- a cell of a slice of int64 -/
theorem Sl.int {w : World} {B : Nat} {A : Option Addr} {l : List Int} (h : Sl w B 1 A (l.map ic)) {k : Nat} (hk : k < l.length) : ∃ b off, A = some ⟨b, off, none⟩ ∧ b < B ∧ w.cell? ⟨b, off + k, none⟩ = some (.int .i64 l[k]) := by
  obtain ⟨b, off, rfl, hb, hc⟩ := h.at_ (i := k) (by simpa using hk)
  refine ⟨b, off, rfl, hb, ?_⟩
  have := hc 0 (.int .i64 l[k]) (by simp [ic])
  simpa using this
set_option maxRecDepth 100000 in
theorem eqInt64S_c (A A' : Option Addr) (c c' : Nat) (l : List Int) (w : World) (hl : l.length ≤ 140737488351232) (hs : Sl w w.heap.size 1 A (l.map ic)) (hs' : Sl w w.heap.size 1 A' (l.map ic)) :
   Calls Tryz.prog 80 #[.slice A l.length c, .slice A' l.length c'] w fun e w' => e = .returned (.bool true) ∧ Below w.heap.size w w' := by
  go_enter Tryz.func80, Tryz.ntmps80
  go_wp2_with fail
  go_loopw [5] (fun i wr => ∃ k : Nat, k ≤ l.length ∧ i = .int .i64 k ∧ Below w.heap.size w wr) (fun i _ => l.length - (intOf i).toNat)
  case atStart => exact ⟨0, Nat.zero_le _, rfl, Below.refl _ _⟩
  case round =>
    obtain ⟨k, hk, rfl, hb⟩ := hrel
    by_cases hlt : k < l.length
    · obtain ⟨b, off, rfl, hbB, hc⟩ := hs.int hlt
      obtain ⟨b', off', rfl, hbB', hc'⟩ := hs'.int hlt
      have c0 : wr.cell? ⟨b, off + k, none⟩ = some (.int .i64 l[k]) := by rw [hb.cell hbB]; exact hc
      have d0 : wr.cell? ⟨b', off' + k, none⟩ = some (.int .i64 l[k]) := by rw [hb.cell hbB']; exact hc'
      clear hc hc'
      go_wp2_with fail
      go_quiet (fail)
      go_wp2
      go_roundw
      case rel => exact ⟨k + 1, by omega, by go_num, (by repeat (first | with_reducible exact hb | with_reducible apply below_drewN' | with_reducible apply Below.drew | (with_reducible refine Below.alloc ?_ (by first | omega | (simp; omega) | simp) _) | (with_reducible refine Below.setCell ?_ (by first | omega | (simp; omega) | simp) _) | exact hb))⟩
      case measure => simp [intOf]; omega
    · have : k = l.length := by omega
      subst this
      go_wp2
      go_ret
      exact ⟨rfl, hb⟩
def markInt64 (m : Int) (i : Nat) : List Value := [.int .i64 (m + i)]
set_option maxRecDepth 100000 in
theorem markInt64S_c (A : Option Addr) (c base : Nat) (m : Int) (xs : List (List Value)) (w : World) (hm : 0 ≤ m ∧ m ≤ 1000000000) (hl : xs.length ≤ 10000000) (hO : Own w base 2 1 (.slice A xs.length c) xs) :
    Calls Tryz.prog 81 #[.slice A xs.length c, .int .i64 m] w fun e w' => e = .returned (.int .i64 (m + xs.length)) ∧ Own w' base 2 1 (.slice A xs.length c) ((List.range xs.length).map (markInt64 m)) ∧ w.grownBy w' (Value.slice A xs.length c).ownBlock := by
  go_enter Tryz.func81, Tryz.ntmps81
  go_wp2_with fail
  go_loopw [1, 5] (fun q i wr => ∃ k : Nat, k ≤ xs.length ∧ i = .int .i64 k ∧ q = .int .i64 (m + k) ∧ w.grownBy wr (Value.slice A xs.length c).ownBlock ∧
      Own wr base 2 1 (.slice A xs.length c) ((List.range k).map (markInt64 m) ++ xs.drop k)) (fun _ i _ => xs.length - (intOf i).toNat)
  case atStart => exact ⟨0, Nat.zero_le _, rfl, by simp, World.grownBy.refl _ _, by simpa using hO⟩
  case round =>
    obtain ⟨k, hk, rfl, rfl, hg, hO1⟩ := hrel
    by_cases hlt : k < xs.length
    · have hkl : k < ((List.range k).map (markInt64 m) ++ xs.drop k).length := by simp; omega
      obtain ⟨_, b, off, rfl, _, _⟩ := hO1.sl k _ (List.getElem?_eq_getElem hkl)
      obtain rfl := hO1.off0 hkl
      obtain ⟨v0, e0⟩ : ∃ v, wr.cell? ⟨b, k * 1, none⟩ = some v := hO1.cell (i := k) (j := 0) hkl (by omega)
      have f0 : wr.frozen? ⟨b, k * 1, none⟩ = false := hO1.frozen _
      rw [Nat.mul_one] at e0 f0
      clear hO
      go_wp2
      go_roundw
      case rel =>
        refine ⟨k + 1, by omega, by go_num, ?_, ?_, ?_⟩
        · simp; omega
        · have := grownBy_stores (markInt64 m k) (k * 1) hg
          rw [Nat.mul_one] at this
          exact this
        · have h := hO1.store (i := k) hkl (markInt64 m k) rfl
          rw [marks_next _ hlt, Nat.mul_one] at h
          exact h
      case measure => simp [intOf]; omega
    · have : k = xs.length := by omega
      subst this
      go_wp2
      go_ret
      rw [List.drop_of_length_le (Nat.le_refl _), List.append_nil] at hO1
      exact ⟨rfl, hO1, hg⟩
set_option maxRecDepth 100000 in
theorem heldInt64S_c (A : Option Addr) (n c : Nat) (m : Int) (w : World) (hm : 0 ≤ m ∧ m ≤ 1000000000) (hl : n ≤ 10000000) (hs : Sl w w.heap.size 1 A ((List.range n).map (markInt64 m))) :
    Calls Tryz.prog 132 #[.slice A n c, .int .i64 m] w fun e w' => e = .returned (.int .i64 (m + n)) ∧ w = w' := by
  go_enter Tryz.func132, Tryz.ntmps132
  go_wp2_with fail
  go_loop [1, 5] (fun q i => ∃ k : Nat, k ≤ n ∧ i = .int .i64 k ∧ q = .int .i64 (m + k)) (fun _ i => n - (intOf i).toNat)
  case atStart => exact ⟨0, Nat.zero_le _, rfl, by simp⟩
  case round =>
    obtain ⟨k, hk, rfl, rfl⟩ := hrel
    by_cases hlt : k < n
    · obtain ⟨b, off, rfl, hbB, hc⟩ := hs.at_ (i := k) (by simpa using hlt)
      simp only [List.getElem_map, List.getElem_range] at hc
      have c0 : w.cell? ⟨b, off + k, none⟩ = some (.int .i64 (m + k)) := by have := hc 0 _ rfl; simpa using this
      clear hc
      go_wp2
      go_round
      case rel => exact ⟨k + 1, by omega, by go_num, by simp; omega⟩
      case measure => simp [intOf]; omega
    · have : k = n := by omega
      subst this
      go_wp2
      go_ret
      exact ⟨rfl, rfl⟩
end Go.Proofs.YtgkobjpoeajkdaaGreat
namespace Go.Proofs.YtgkobjpoeajkdaaGreat
open Go.RowKit
set_option maxRecDepth 100000 in
theorem cloneInt_c (A : Option Addr) (c : Nat) (l : List Int) (w : World) (hl : l.length ≤ 4000000000) (hs : Sl w w.heap.size 1 A (l.map ic)) :
    Calls Tryz.prog 131 #[.slice A l.length c] w fun e w' => ∃ A' c', e = .returned (.slice A' l.length c') ∧ Own w' w.heap.size 2 1 (.slice A' l.length c') (l.map ic) ∧ Below w.heap.size w w' := by
  obtain ⟨i0, hi, hz0, hz1, hz2⟩ := info_parts info_Int64
  have qT : ∀ (w : World) (a : Option Addr) (n c n' c' : Nat), (binOp .eql 22 (.slice a n c) (.slice none n' c')).run Tryz.prog w = .ok (.bool a.isNone) w := fun w a n c n' c' => Lib.run_eql_slice_nil w _ _ a n c n' c' Tryz.underlying22
  cases A with
  | none =>
    have hl0 : l = [] := by
      cases l with
      | nil => rfl
      | cons y r => obtain ⟨_, b, off, h, _⟩ := hs 0 _ rfl; cases h
    subst hl0
    go_enter Tryz.func131, Tryz.ntmps131
    go_wp2
    go_ret
    exact ⟨none, 0, rfl, Own.nil_, Below.refl _ _⟩
  | some a =>
    go_enter Tryz.func131, Tryz.ntmps131
    go_wp2_with (at_builtin; refine wpList_append_rows _ rfl (.tmp 5) (.tmp 6) _ rfl w.heap.size 2 i0 _ 1 8 Tryz.underlying22 hi hz0 hz1 hz2 rfl (by omega) _ [] rfl (Own.empty (Nat.le_refl _)) w.heap.size (some a) l.length c (l.map ic) rfl (by simp) (hs.alloc (Nat.le_refl _) _) ic_one (by simp [maxLen]; omega) (by simp; omega) (by simp) ?_; intro v1 w1 hO hg hat)
    go_ret
    obtain ⟨A', c', rfl, _⟩ := hO.form
    refine ⟨A', c', by simp, by simpa using hO, ?_⟩
    exact below_app (((Below.refl _ _).alloc (Nat.le_refl _) _)) hg (by simp) (fun g hg' => Nat.le_of_eq (Option.some.inj hg'))
set_option maxRecDepth 100000 in
theorem l01Own_c (A : Option Addr) (c : Nat) (l : List Int) (w : World) (hl : l.length ≤ 4000000000) (hs : Sl w w.heap.size 1 A (l.map ic)) :
    Calls Tryz.prog 74 #[.slice A l.length c] w fun e w' => ∃ A' c', e = .returned (.slice A' l.length c') ∧ Own w' w.heap.size 2 1 (.slice A' l.length c') (l.map ic) ∧ Below w.heap.size w w' := by
  obtain ⟨i0, hi, hz0, hz1, hz2⟩ := info_parts info_Int64
  go_enter Tryz.func74, Tryz.ntmps74
  go_wp2_with (at_builtin; refine wpList_append_rows _ rfl (.tmp 3) (.tmp 4) _ rfl w.heap.size 2 i0 _ 1 8 Tryz.underlying22 hi hz0 hz1 hz2 rfl (by omega) _ [] rfl (Own.empty (Nat.le_refl _)) w.heap.size A l.length c (l.map ic) rfl (by simp) (hs.alloc (Nat.le_refl _) _) ic_one (by simp [maxLen]; omega) (by simp; omega) (by simp) ?_; intro v1 w1 hO hg hat)
  go_ret
  obtain ⟨A', c', rfl, _⟩ := hO.form
  refine ⟨A', c', by simp, by simpa using hO, ?_⟩
  exact below_app (((Below.refl _ _).alloc (Nat.le_refl _) _)) hg (by simp) (fun g hg' => Nat.le_of_eq (Option.some.inj hg'))
end Go.Proofs.YtgkobjpoeajkdaaGreat
namespace Go.Proofs.YtgkobjpoeajkdaaGreat
open Go.RowKit
@[ext] structure Figure where
  digits : Int
  tens : Int
deriving DecidableEq
def Figure.cells (s : Figure) : List Value := [.int .i64 s.digits, .int .i64 s.tens]
def Figure.agg (s : Figure) : Value := .agg #[.int .i64 s.digits, .int .i64 s.tens]

theorem Figure.of_rows : ∀ rows : List (List Int), (∀ x ∈ rows, x.length = 2) → ∃ l : List Figure, rows.map (·.map (Value.int .i64)) = l.map Figure.cells
  | [], _ => ⟨[], rfl⟩
  | x :: r, h => by
    obtain ⟨l, hl⟩ := Figure.of_rows r fun y hy => h y (by simp [hy])
    match x, h x (by simp) with
    | [a, b], _ => exact ⟨⟨a, b⟩ :: l, by rw [List.map_cons, hl]; rfl⟩

theorem toFigure_c (a b : Int) (w : World) : Calls Tryz.prog 89 #[.agg #[.int .i64 a, .int .i64 b]] w fun e w' => e = .returned (.agg #[.int .i64 a, .int .i64 b]) ∧ Below w.heap.size w w' := by
  go_enter Tryz.func89, Tryz.ntmps89
  go_wp2
  refine bodyPost_ret (v := .agg #[.int .i64 a, .int .i64 b]) (by simp [results, Tryz.results89, go_sem]) rfl ⟨rfl, ?_⟩
  exact (((Below.refl _ _).alloc (by simp <;> omega) _).alloc (by simp <;> omega) _).alloc (by simp <;> omega) _


theorem eqFigure_c (a b : Int) (w : World) : Calls Tryz.prog 93 #[.agg #[.int .i64 a, .int .i64 b], .agg #[.int .i64 a, .int .i64 b]] w fun e w' => e = .returned (.bool true) ∧ Below w.heap.size w w' := by
  go_enter Tryz.func93, Tryz.ntmps93
  go_wp2
  go_ret
  exact ⟨rfl, ((Below.refl _ _).alloc (by simp <;> omega) _).alloc (by simp <;> omega) _⟩


theorem info_Figure : (Tryz.prog.info? 65).map (fun i => (i.zero, i.size, i.bytes)) = some (some (.agg #[.int .i64 0, .int .i64 0]), 2, 16) := by kernel_rfl



end Go.Proofs.YtgkobjpoeajkdaaGreat
namespace Go.Proofs.YtgkobjpoeajkdaaGreat
open Go.RowKit
theorem specIsScale_c (n : Int) (w : World) : Calls Tryz.prog 228 #[.int .i64 n] w fun e w' => e = .returned (.bool (inB n 0 5)) ∧ w = w' := by
  go_enter Tryz.func228, Tryz.ntmps228
  go_wp2_with (go_at_call 73; refine (l01In_c _ _ _ _).mono ?_; rintro e w' ⟨rfl, rfl⟩)
  go_ret
  exact ⟨rfl, rfl⟩
theorem implIsScale_c (n : Int) (w : World) : Calls Tryz.prog 184 #[.int .i64 n] w fun e w' => e = .returned (.bool (inB n 0 5)) ∧ w = w' := by
  go_enter Tryz.func184, Tryz.ntmps184
  go_wp2_with (go_at_call 78; refine (within_c _ _ _ _).mono ?_; rintro e w' ⟨rfl, rfl⟩)
  go_ret
  exact ⟨rfl, rfl⟩
theorem l05Length_c (n : Int) (w : World) : Calls Tryz.prog 126 #[.int .i64 n] w fun e w' => e = .returned (.bool (inB n 1 100000)) ∧ w = w' := by
  go_enter Tryz.func126, Tryz.ntmps126
  go_wp2_with (go_at_call 73; refine (l01In_c _ _ _ _).mono ?_; rintro e w' ⟨rfl, rfl⟩)
  go_ret
  exact ⟨rfl, rfl⟩
theorem isLength_c (n : Int) (w : World) : Calls Tryz.prog 129 #[.int .i64 n] w fun e w' => e = .returned (.bool (inB n 1 100000)) ∧ w = w' := by
  go_enter Tryz.func129, Tryz.ntmps129
  go_wp2_with (go_at_call 78; refine (within_c _ _ _ _).mono ?_; rintro e w' ⟨rfl, rfl⟩)
  go_ret
  exact ⟨rfl, rfl⟩
theorem l10Eye_c (n : Int) (w : World) : Calls Tryz.prog 128 #[.int .i64 n] w fun e w' => e = .returned (.bool (inB n 0 200)) ∧ w = w' := by
  go_enter Tryz.func128, Tryz.ntmps128
  go_wp2_with (go_at_call 73; refine (l01In_c _ _ _ _).mono ?_; rintro e w' ⟨rfl, rfl⟩)
  go_ret
  exact ⟨rfl, rfl⟩
end Go.Proofs.YtgkobjpoeajkdaaGreat
namespace Go.Proofs.YtgkobjpoeajkdaaGreat
/-- one step of the lower bits, of the upper bits -/
def stepL (s : Int × Int) : Int × Int := if 1000000000 ≤ s.1 * s.1 / 100000000 then (s.1 * s.1 / 100000000 / 10, 2 * s.2 + 1) else (s.1 * s.1 / 100000000, 2 * s.2)
def cdiv (a b : Int) : Int := -(-a / b)
def stepH (s : Int × Int) : Int × Int := if 1000000000 ≤ cdiv (s.1 * s.1) 100000000 then (cdiv (cdiv (s.1 * s.1) 100000000) 10, 2 * s.2 + 1) else (cdiv (s.1 * s.1) 100000000, 2 * s.2)
def itL (x : Int) : Nat → Int × Int
  | 0 => (x, 0)
  | k + 1 => stepL (itL x k)
def itH (x : Int) : Nat → Int × Int
  | 0 => (x, 0)
  | k + 1 => stepH (itH x k)
theorem sq_bd {x : Int} (h : 100000000 ≤ x ∧ x ≤ 1000000000) : 10000000000000000 ≤ x * x ∧ x * x ≤ 1000000000000000000 := by
  have h1 : 100000000 * 100000000 ≤ x * x := Int.mul_le_mul h.1 h.1 (by omega) (by omega)
  have h2 : x * x ≤ 1000000000 * 1000000000 := Int.mul_le_mul h.2 h.2 (by omega) (by omega)
  omega
theorem two_pow_le : ∀ k : Nat, k ≤ 20 → (2 : Int) ^ k ≤ 1048576 := by decide
theorem itL_bd {x : Int} (h : 100000000 ≤ x ∧ x ≤ 1000000000) : ∀ k, (100000000 ≤ (itL x k).1 ∧ (itL x k).1 ≤ 1000000000) ∧ 0 ≤ (itL x k).2 ∧ (itL x k).2 < 2 ^ k := by
  intro k
  induction k with
  | zero => exact ⟨h, by simp [itL], by simp [itL]⟩
  | succ k ih =>
    have hs := sq_bd ih.1
    simp only [itL, stepL]
    generalize itL x k = s at ih hs
    obtain ⟨y, n⟩ := s
    simp only at ih hs ⊢
    generalize y * y = q at hs
    rw [Int.pow_succ]
    split <;> simp only <;> omega
theorem itH_bd {x : Int} (h : 100000000 ≤ x ∧ x ≤ 1000000000) : ∀ k, (100000000 ≤ (itH x k).1 ∧ (itH x k).1 ≤ 1000000000) ∧ 0 ≤ (itH x k).2 ∧ (itH x k).2 < 2 ^ k := by
  intro k
  induction k with
  | zero => exact ⟨h, by simp [itH], by simp [itH]⟩
  | succ k ih =>
    have hs := sq_bd ih.1
    simp only [itH, stepH]
    generalize itH x k = s at ih hs
    obtain ⟨y, n⟩ := s
    simp only at ih hs ⊢
    generalize y * y = q at hs
    rw [Int.pow_succ]
    by_cases hb : 1000000000 ≤ cdiv q 100000000
    · rw [if_pos hb]; simp only; unfold cdiv at *; omega
    · rw [if_neg hb]; simp only; unfold cdiv at *; omega
def logLow (x : Int) : Int := (itL x 20).2
def logHigh (x : Int) : Int := (itH x 20).2 + 1
theorem logLow_bd {x : Int} (h : 100000000 ≤ x ∧ x ≤ 1000000000) : 0 ≤ logLow x ∧ logLow x < 1048576 := by
  have := (itL_bd h 20).2; unfold logLow; omega
theorem logHigh_bd {x : Int} (h : 100000000 ≤ x ∧ x ≤ 1000000000) : 1 ≤ logHigh x ∧ logHigh x ≤ 1048576 := by
  have := (itH_bd h 20).2; unfold logHigh; omega
end Go.Proofs.YtgkobjpoeajkdaaGreat
