/- Words for memory: a slice that reads as a list of rows of cells; a slice that the call itself made. Plain lemmas, no condition of their own. Contracts of the small integer functions: each returns what its Lean counterpart computes, the world unchanged. No condition beyond those that are written. Figure: the structure, the laws' copies and comparisons of it. No condition beyond the length. Small range tests of one number. No condition. The logarithm by squaring: the plain sums. No program. The logarithm of a number from 10^8 to 10^9: the program's and the reference's. Figures on a circle: valid figures, their angles. Formulas and charts: plain. No program. A region that draws its order, by an invariant: one step for each operation. Plain lemmas on the kit's laws. -/
import Derived.Test.YtendoabjjfinhaaGreatDoorProg
import Derived.WalkKit
import Derived.WalkLawsBesides
import Derived.Lib.Hide
import Derived.Deep.AppendLies
import Derived.Deep.QuietTactic
import Derived.BigQuiet
import Derived.StillTailTactics
import Derived.Deep.RegionHeld3
import Derived.StillTail
set_option linter.unusedSimpArgs false
namespace Go.Proofs.YtendoabjjfinhaaGreatDoor
open Go.RowKit

theorem ret_int {k : IntKind} {a b : Int} (h : a = b) : Ending.returned (.int k a) = .returned (.int k b) := by rw [h]
theorem ret_bool {a b : Bool} (h : a = b) : Ending.returned (.bool a) = .returned (.bool b) := by rw [h]

/-- The slice at A reads as the rows xs (k cells each), all below block B. -/
def Sl (w : World) (B : Nat) (k : Nat) (A : Option Addr) (xs : List (List Value)) : Prop :=
  ∀ i x, xs[i]? = some x → x.length = k ∧ ∃ b off, A = some ⟨b, off, none⟩ ∧ b < B ∧ ∀ j v, x[j]? = some v → w.cell? ⟨b, off + i * k + j, none⟩ = some v

section
variable {w w' : World} {B B' k : Nat} {A : Option Addr} {xs : List (List Value)}
theorem Sl.nil_ : Sl w B k A [] := fun i x h => by simp at h
theorem Sl.keep (h : Sl w B k A xs) (hk : ∀ p : Addr, p.block < B → w'.cell? p = w.cell? p) : Sl w' B k A xs := fun i x hx => by
  obtain ⟨hl, b, off, rfl, hb, hc⟩ := h i x hx
  exact ⟨hl, b, off, rfl, hb, fun j v hv => (hk ⟨b, off + i * k + j, none⟩ hb).trans (hc j v hv)⟩
theorem Sl.more (h : Sl w B k A xs) (hB : B ≤ B') : Sl w B' k A xs := fun i x hx => by
  obtain ⟨hl, b, off, rfl, hb, hc⟩ := h i x hx
  exact ⟨hl, b, off, rfl, by omega, hc⟩
theorem Sl.below (h : Sl w B k A xs) (hb : Below B w w') : Sl w' B k A xs := h.keep fun _ hp => hb.cell hp
theorem Sl.below' (h : Sl w B k A xs) (hb : Below B' w w') (hB : B ≤ B') : Sl w' B k A xs := h.keep fun _ hp => hb.cell (by omega)
theorem Sl.alloc (h : Sl w B k A xs) (hB : B ≤ w.heap.size) (o : Obj) : Sl (w.alloc o) B k A xs := h.keep fun p hp => World.cell?_alloc_lt w o p (by omega)
/-- the rows of a block of the call's own -/
theorem Sl.at_ {i : Nat} (h : Sl w B k A xs) (hi : i < xs.length) : ∃ b off, A = some ⟨b, off, none⟩ ∧ b < B ∧ ∀ j v, (xs[i])[j]? = some v → w.cell? ⟨b, off + i * k + j, none⟩ = some v :=
  (h i xs[i] (List.getElem?_eq_getElem hi)).2
theorem Sl.drop (h : Sl w B k A xs) {m cap : Nat} (hm : m ≤ xs.length) (hc : xs.length ≤ cap) :
    Sl w B k (if cap = m then A else A.map (·.add (m * k))) (xs.drop m) := fun i x hx => by
  rw [List.getElem?_drop] at hx
  obtain ⟨hl, b, off, rfl, hb, hcell⟩ := h (m + i) x hx
  have hlt : m + i < xs.length := (List.getElem?_eq_some_iff.1 hx).1
  refine ⟨hl, b, off + m * k, ?_, hb, fun j v hv => ?_⟩
  · rw [if_neg (by omega)]
    by_cases h0 : m * k = 0
    · simp [Addr.add, h0]
    · simp [Addr.add, h0]
  · have := hcell j v hv
    rwa [show off + (m + i) * k + j = off + m * k + i * k + j from by rw [Nat.add_mul]; omega] at this
theorem Sl.take (h : Sl w B k A xs) (m : Nat) : Sl w B k A (xs.take m) := fun i x hx => by
  by_cases hi : i < m
  · rw [List.getElem?_take, if_pos hi] at hx
    exact h i x hx
  · rw [List.getElem?_take, if_neg hi] at hx
    cases hx
end

/-! ### Rows laid flat -/
theorem flat_get {xs : List (List Value)} {k : Nat} (h : ∀ x ∈ xs, x.length = k) : ∀ (i j : Nat) (x : List Value) (v : Value), xs[i]? = some x → x[j]? = some v → xs.flatten[i * k + j]? = some v := by
  induction xs with
  | nil => intro i j x v hx; simp at hx
  | cons y ys ih =>
    intro i j x v hx hv
    have hy : y.length = k := h y (by simp)
    rw [List.flatten_cons]
    cases i with
    | zero =>
      simp only [List.getElem?_cons_zero, Option.some.injEq] at hx
      subst hx
      rw [List.getElem?_append_left (by have := (List.getElem?_eq_some_iff.1 hv).1; omega)]
      simpa using hv
    | succ i =>
      simp only [List.getElem?_cons_succ] at hx
      rw [List.getElem?_append_right (by rw [hy, Nat.succ_mul]; omega)]
      rw [hy, show (i + 1) * k + j - k = i * k + j from by rw [Nat.succ_mul]; omega]
      exact ih (fun z hz => h z (by simp [hz])) i j x v hx hv
theorem flat_length {xs : List (List Value)} {k : Nat} (h : ∀ x ∈ xs, x.length = k) : xs.flatten.length = xs.length * k := by
  induction xs with
  | nil => simp
  | cons y ys ih =>
    rw [List.flatten_cons, List.length_append, ih (fun z hz => h z (by simp [hz])), h y (by simp), List.length_cons, Nat.succ_mul]
    omega

/-- v is a slice that the call itself made (blocks from base on), of element type e, k cells each; it holds the rows xs. -/
def Own (w : World) (base : Nat) (e : TypeId) (k : Nat) (v : Value) (xs : List (List Value)) : Prop :=
  w.ownsRow base e k v xs.length xs.flatten ∧ ∀ x ∈ xs, x.length = k

section
variable {w w' : World} {base base' : Nat} {e : TypeId} {k : Nat} {v : Value} {xs : List (List Value)}
theorem Own.nil_ : Own w base e k (.slice none 0 0) [] := ⟨World.ownsRow_nil _ _ _ _, by simp⟩
theorem Own.mono (h : Own w base e k v xs) (hb : base' ≤ base) : Own w base' e k v xs := by
  obtain ⟨⟨h1, h2⟩, h3⟩ := h
  refine ⟨⟨h1, ?_⟩, h3⟩
  rcases h2 with h2 | ⟨g, cap, cur, hv, hg, r⟩
  · exact Or.inl h2
  · exact Or.inr ⟨g, cap, cur, hv, by omega, r⟩
theorem Own.below (h : Own w base e k v xs) (hb : Below w.heap.size w w') : Own w' base e k v xs := by
  obtain ⟨⟨h1, h2⟩, h3⟩ := h
  refine ⟨⟨h1, ?_⟩, h3⟩
  rcases h2 with h2 | ⟨g, cap, cur, hv, hg, hh, r⟩
  · exact Or.inl h2
  · refine Or.inr ⟨g, cap, cur, hv, hg, ?_, r⟩
    rw [hb.block g]; · exact hh
    · rcases Nat.lt_or_ge g w.heap.size with hlt | hge
      · exact hlt
      · rw [Array.getElem?_eq_none hge] at hh; cases hh
theorem Own.alloc (h : Own w base e k v xs) (o : Obj) : Own (w.alloc o) base e k v xs := ⟨h.1.alloc o, h.2⟩
theorem Own.drewN (h : Own w base e k v xs) (n : Nat) : Own (w.drewN n) base e k v xs := h
/-- the slice's own shape -/
theorem Own.form (h : Own w base e k v xs) : ∃ A c, v = .slice A xs.length c ∧ xs.length ≤ c := by
  rcases h.1.2 with ⟨rfl, h0⟩ | ⟨g, cap, cur, rfl, _, _, hc, _⟩
  · exact ⟨none, 0, by rw [h0], by omega⟩
  · exact ⟨_, cap, rfl, hc⟩
theorem Own.sl {A : Option Addr} {n c : Nat} (h : Own w base e k (.slice A n c) xs) : Sl w w.heap.size k A xs := fun i x hx => by
  have hi : i < xs.length := (List.getElem?_eq_some_iff.1 hx).1
  refine ⟨h.2 x (List.mem_of_getElem? hx), ?_⟩
  rcases h.1.2 with ⟨_, h0⟩ | ⟨g, cap, cur, hv, hg, hh, hc, _, hcs, htake⟩
  · omega
  · simp only [Value.slice.injEq] at hv
    obtain ⟨rfl, _, rfl⟩ := hv
    refine ⟨g, 0, rfl, ?_, fun j v hv => ?_⟩
    · rcases Nat.lt_or_ge g w.heap.size with hlt | hge
      · exact hlt
      · rw [Array.getElem?_eq_none hge] at hh; cases hh
    · have hf := flat_get h.2 i j x v hx hv
      rw [← htake, List.getElem?_take] at hf
      split at hf
      · rw [Nat.zero_add, cell_of_row w g (i * k + j) cur e (0, 0) hh]
        simpa using hf
      · cases hf
theorem Own.lenB (h : Own w base e k v xs) : xs.length ≤ maxLen := by
  rcases h.1.2 with ⟨_, h0⟩ | ⟨g, cap, cur, hv, hg, hh, hc, hm, _⟩
  · rw [h0]; exact Nat.zero_le _
  · exact Nat.le_trans hc hm
end

/-- a block of the call's own: n rows of k cells; what its rows hold -/
def Blk (w : World) (g : Nat) (t : TypeId) (cs : Array Value) : Prop := w.heap[g]? = some (.cells cs t (0, 0))
section
variable {w w' : World} {g : Nat} {t : TypeId} {cs : Array Value}
theorem Blk.lt (h : Blk w g t cs) : g < w.heap.size := by
  rcases Nat.lt_or_ge g w.heap.size with hlt | hge
  · exact hlt
  · unfold Blk at h; rw [Array.getElem?_eq_none hge] at h; cases h
theorem Blk.cell (h : Blk w g t cs) (i : Nat) : w.cell? ⟨g, i, none⟩ = cs[i]? := cell_of_row w g i cs t (0, 0) h
theorem Blk.cl {v : Value} (h : Blk w g t cs) (i : Nat) (hv : cs[i]? = some v) : w.cell? ⟨g, i, none⟩ = some v := (h.cell i).trans hv
theorem Blk.frozen (h : Blk w g t cs) (i : Nat) : w.frozen? ⟨g, i, none⟩ = false := by
  unfold Blk at h
  simp [World.frozen?, h]
theorem Blk.set_ (h : Blk w g t cs) (i : Nat) (u : Value) : Blk (w.setCell ⟨g, i, none⟩ u) g t (cs.setIfInBounds i u) := by
  unfold Blk at h ⊢
  simp [World.setCell, Array.getElem?_modify, h]
theorem Blk.two0 {a b u : Value} (h : Blk w g t #[a, b]) : Blk (w.setCell ⟨g, 0, none⟩ u) g t #[u, b] := h.set_ 0 u
theorem Blk.two1 {a b u : Value} (h : Blk w g t #[a, b]) : Blk (w.setCell ⟨g, 1, none⟩ u) g t #[a, u] := h.set_ 1 u
theorem Blk.new (w : World) (t : TypeId) (cs : Array Value) : Blk (w.alloc (.cells cs t)) w.heap.size t cs := heap_alloc_new w _
theorem Blk.new' (w : World) (t : TypeId) (cs : Array Value) {g : Nat} (hg : w.heap.size = g) : Blk (w.alloc (.cells cs t)) g t cs := hg ▸ Blk.new w t cs
theorem Blk.alloc (h : Blk w g t cs) (o : Obj) : Blk (w.alloc o) g t cs := (Below.heap_alloc w o g h.lt).trans h
theorem Blk.far (h : Blk w g t cs) {p : Addr} (hp : g ≠ p.block) (u : Value) : Blk (w.setCell p u) g t cs := (Below.heap_setCell w p u g hp).trans h
theorem Blk.drewN (h : Blk w g t cs) (n : Nat) : Blk (w.drewN n) g t cs := h
theorem Blk.below {B : Nat} (h : Blk w g t cs) (hb : Below B w w') (hg : g < B) : Blk w' g t cs := (hb.block g hg).trans h
end

/-- all old cells and all old marks read as before -/
theorem bcell {W w1 : World} {B : Nat} (hb : Below B W w1) : (∀ b o, b < B → w1.cell? ⟨b, o, none⟩ = W.cell? ⟨b, o, none⟩) ∧ (∀ b o, b < B → w1.frozen? ⟨b, o, none⟩ = W.frozen? ⟨b, o, none⟩) :=
  ⟨fun b o h => hb.cell (p := ⟨b, o, none⟩) h, fun b o h => hb.frozen (p := ⟨b, o, none⟩) h⟩

/-! ### A row of the call's own is written, element by element -/
theorem made_rows (z : Array Value) (k n : Nat) (hk : z.size = k) (hk0 : 0 < k) : (madeCells z (n * k)).toList = (List.replicate n z.toList).flatten := by
  have hrows : ∀ x ∈ List.replicate n z.toList, x.length = k := fun x hx => by rw [(List.mem_replicate.1 hx).2]; simpa using hk
  apply List.ext_getElem?
  intro j
  by_cases hj : j < n * k
  · have hd : j / k < n := (Nat.div_lt_iff_lt_mul hk0).2 hj
    have hm : j % k < z.toList.length := by rw [Array.length_toList, hk]; exact Nat.mod_lt _ hk0
    have h := flat_get hrows (j / k) (j % k) z.toList z.toList[j % k] (by simp [hd]) (List.getElem?_eq_getElem hm)
    rw [show j / k * k + j % k = j from by rw [Nat.mul_comm]; exact Nat.div_add_mod j k] at h
    rw [h]
    have hmz : j % z.size < z.size := Nat.mod_lt _ (by omega)
    have hmz' : j % k < z.size := by rw [hk] at hmz ⊢; exact hmz
    simp [madeCells, hj, hk]
    exact getElem!_pos z (j % k) hmz'
  · rw [List.getElem?_eq_none (by simp [size_madeCells]; omega), List.getElem?_eq_none (by rw [flat_length hrows]; simp; omega)]

def stores (w : World) (g : Nat) : Nat → List Value → World
  | _, [] => w
  | p, v :: vs => stores (w.setCell ⟨g, p, none⟩ v) g (p + 1) vs

theorem ownsRow_stores {base : Nat} {e : TypeId} {size g n cap : Nat} : ∀ (cs : List Value) (p : Nat) (w : World) (P S R : List Value), w.ownsRow base e size (.slice (some ⟨g, 0, none⟩) n cap) n (P ++ S ++ R) → P.length = p → S.length = cs.length →
    (stores w g p cs).ownsRow base e size (.slice (some ⟨g, 0, none⟩) n cap) n (P ++ cs ++ R)
  | [], _, w, P, S, R, h, _, hs => by
    obtain rfl : S = [] := List.eq_nil_of_length_eq_zero (by simpa using hs)
    exact h
  | v :: vs, p, w, P, S, R, h, hp, hs => by
    match S, hs with
    | s :: S', hs =>
      have h1 := (h.stored p v).1
      have e1 : (P ++ s :: S' ++ R).set p v = (P ++ [v]) ++ S' ++ R := by
        rw [List.append_assoc, List.set_append_right _ _ (by omega), hp, Nat.sub_self]
        simp
      rw [e1] at h1
      have h2 := ownsRow_stores vs (p + 1) _ (P ++ [v]) S' R h1 (by simp [hp]) (by simpa using hs)
      rw [show P ++ (v :: vs) ++ R = P ++ [v] ++ vs ++ R from by simp]
      exact h2

theorem flat_set {xs : List (List Value)} {x : List Value} {i : Nat} (hi : i < xs.length) : (xs.set i x).flatten = (xs.take i).flatten ++ x ++ (xs.drop (i + 1)).flatten := by
  rw [List.set_eq_take_append_cons_drop, if_pos hi]
  simp
theorem flat_split {xs : List (List Value)} {i : Nat} (hi : i < xs.length) : xs.flatten = (xs.take i).flatten ++ xs[i] ++ (xs.drop (i + 1)).flatten := by
  have h := flat_set (xs := xs) (x := xs[i]) hi
  rw [List.set_getElem_self] at h
  exact h

theorem Own.store {w : World} {base : Nat} {e : TypeId} {k g n cap : Nat} {xs : List (List Value)} (h : Own w base e k (.slice (some ⟨g, 0, none⟩) n cap) xs) {i : Nat} (hi : i < xs.length) (x : List Value) (hx : x.length = k) :
    Own (stores w g (i * k) x) base e k (.slice (some ⟨g, 0, none⟩) n cap) (xs.set i x) := by
  obtain ⟨h1, h2⟩ := h
  have hn : n = xs.length := by
    rcases h1.2 with ⟨h', _⟩ | ⟨g', cap', cur, h', _⟩
    · simp at h'
    · simp only [Value.slice.injEq] at h'; exact h'.2.1
  subst hn
  refine ⟨?_, fun y hy => ?_⟩
  · rw [List.length_set, flat_set hi]
    rw [flat_split hi] at h1
    refine ownsRow_stores x (i * k) w _ xs[i] _ h1 ?_ ?_
    · rw [flat_length fun z hz => h2 z (List.mem_of_mem_take hz)]
      rw [List.length_take, Nat.min_eq_left (by omega)]
    · rw [hx, h2 _ (List.getElem_mem hi)]
  · rcases List.mem_or_eq_of_mem_set hy with h | rfl
    · exact h2 y h
    · exact hx
theorem stores_below {B g : Nat} (hg : B ≤ g) : ∀ (cs : List Value) (p : Nat) {a w : World}, Below B a w → Below B a (stores w g p cs)
  | [], _, _, _, h => h
  | _ :: vs, p, _, _, h => stores_below hg vs (p + 1) (h.setCell hg _)
theorem rows_next {xs : List (List Value)} {z x : List Value} {k n : Nat} (hk : k < xs.length) (hx : xs[k]? = some x) (hn : xs.length = n := by simp) : (xs.take k ++ List.replicate (n - k) z).set k x = xs.take (k + 1) ++ List.replicate (n - (k + 1)) z := by
  subst hn
  rw [List.set_append_right _ _ (by simp; omega), List.length_take, Nat.min_eq_left (by omega), Nat.sub_self]
  obtain ⟨m, hm⟩ : ∃ m, xs.length - k = m + 1 := ⟨xs.length - k - 1, by omega⟩
  rw [hm, show xs.length - (k + 1) = m from by omega, List.replicate_succ, List.set_cons_zero, List.take_add_one, hx]
  simp
/-- the cells of a row of the call's own, and that they may be written -/
theorem Own.cell {w : World} {base : Nat} {e : TypeId} {k g n cap : Nat} {xs : List (List Value)} (h : Own w base e k (.slice (some ⟨g, 0, none⟩) n cap) xs) {i j : Nat} (hi : i < xs.length) (hj : j < k) :
    ∃ v, w.cell? ⟨g, i * k + j, none⟩ = some v := by
  have h2 := h.2 xs[i] (List.getElem_mem hi)
  obtain ⟨_, b, off, he, _, hc⟩ := h.sl i xs[i] (List.getElem?_eq_getElem hi)
  simp only [Option.some.injEq, Addr.mk.injEq, and_true] at he
  obtain ⟨rfl, rfl⟩ := he
  exact ⟨_, by have := hc j (xs[i][j]'(by omega)) (List.getElem?_eq_getElem (by omega)); rwa [Nat.zero_add] at this⟩
theorem Own.frozen {w : World} {base : Nat} {e : TypeId} {k g n cap : Nat} {xs : List (List Value)} (h : Own w base e k (.slice (some ⟨g, 0, none⟩) n cap) xs) (j : Nat) : w.frozen? ⟨g, j, none⟩ = false := by
  rcases h.1.2 with ⟨h', _⟩ | ⟨g', cap', cur, h', _, hg, _⟩
  · simp at h'
  · simp only [Value.slice.injEq, Option.some.injEq, Addr.mk.injEq, and_true] at h'
    obtain ⟨rfl, _, rfl⟩ := h'
    exact frozen_of_row w g j cur e hg
theorem Own.block_ge {w : World} {base : Nat} {e : TypeId} {k g n cap : Nat} {xs : List (List Value)} (h : Own w base e k (.slice (some ⟨g, 0, none⟩) n cap) xs) : base ≤ g ∧ g < w.heap.size := by
  have := h.1.lt g rfl
  exact this
theorem Own.off0 {w : World} {base : Nat} {e : TypeId} {k b off n cap : Nat} {xs : List (List Value)} (h : Own w base e k (.slice (some ⟨b, off, none⟩) n cap) xs) {i : Nat} (_ : i < xs.length) : off = 0 := by
  rcases h.1.2 with ⟨h', _⟩ | ⟨g', cap', cur, h', _⟩
  · simp at h'
  · simp only [Value.slice.injEq, Option.some.injEq, Addr.mk.injEq] at h'
    exact h'.1.2.1
theorem grownBy_stores {w : World} {g : Nat} : ∀ (cs : List Value) (p : Nat) {v : World}, w.grownBy v (some g) → w.grownBy (stores v g p cs) (some g)
  | [], _, _, h => h
  | u :: us, p, v, h => grownBy_stores us (p + 1) ⟨h.os, h.tape, h.output, by simpa using h.size, fun k hk hne => by
      rw [Below.heap_setCell _ _ _ _ (fun e => hne (by simp [e]))]; exact h.block k hk hne⟩
theorem marks_next {xs : List (List Value)} (f : Nat → List Value) {k : Nat} (hk : k < xs.length) : ((List.range k).map f ++ xs.drop k).set k (f k) = (List.range (k + 1)).map f ++ xs.drop (k + 1) := by
  rw [List.set_append_right _ _ (by simp), List.length_map, List.length_range, Nat.sub_self, List.drop_eq_getElem_cons hk, List.set_cons_zero, List.range_succ]
  simp

theorem Sl.of_blk {w : World} {g k : Nat} {t : TypeId} {cs : Array Value} (h : Blk w g t cs) (xs : List (List Value)) (hx : cs.toList = xs.flatten) (hk : ∀ x ∈ xs, x.length = k) : Sl w (g + 1) k (some ⟨g, 0, none⟩) xs := fun i x hi =>
  ⟨hk x (List.mem_of_getElem? hi), g, 0, rfl, by omega, fun j v hv => by
    have := flat_get hk i j x v hi hv
    rw [← hx] at this
    rw [Nat.zero_add, h.cell]
    simpa using this⟩
theorem quiet_add_left {P : Program} {f : FuncId} {args : Array Value} {w : World} {a n : Nat} {v : Value}
    (h : Calls P f args (w.drewN (a + n)) fun e w' => e = .returned v ∧ w.drewN (a + n) = w') :
    Calls P f args (w.drewN (a + n)) fun e w'' => e = .returned v ∧ ∃ m, w'' = w.drewN (a + m) :=
  h.mono fun _ _ ⟨he, hm⟩ => ⟨he, n, hm.symm⟩
theorem quiet_left {P : Program} {f : FuncId} {args : Array Value} {w : World} {n : Nat} {v : Value}
    (h : Calls P f args (w.drewN n) fun e w' => e = .returned v ∧ w.drewN n = w') : Calls P f args (w.drewN n) fun e w'' => e = .returned v ∧ ∃ m, w'' = w.drewN m :=
  h.mono fun _ _ ⟨he, hm⟩ => ⟨he, n, hm.symm⟩
theorem below_drewN' {B : Nat} {a w : World} (h : Below B a w) (n : Nat) : Below B a (w.drewN n) := ⟨h.os, h.tape, h.output, h.size, h.block⟩
theorem Sl.drewN {w : World} {B k : Nat} {A : Option Addr} {xs : List (List Value)} (h : Sl w B k A xs) (n : Nat) : Sl (w.drewN n) B k A xs := h
end Go.Proofs.YtendoabjjfinhaaGreatDoor
namespace Go.Proofs.YtendoabjjfinhaaGreatDoor
open Go.RowKit

/-- the value lies between the bounds -/
def inB (n lo hi : Int) : Bool := decide (lo ≤ n) && decide (n ≤ hi)
theorem inB_true {n lo hi : Int} : inB n lo hi = true ↔ lo ≤ n ∧ n ≤ hi := by simp [inB]
theorem inB_false {n lo hi : Int} : inB n lo hi = false ↔ ¬ (lo ≤ n ∧ n ≤ hi) := by rw [← inB_true]; simp

theorem within_c (n lo hi : Int) (w : World) :
    Calls Tryz.prog 88 #[.int .i64 n, .int .i64 lo, .int .i64 hi] w fun e w' => e = .returned (.bool (inB n lo hi)) ∧ w = w' := by
  by_cases h1 : lo ≤ n
  all_goals
    go_enter Tryz.func88, Tryz.ntmps88
    go_wp2
    go_ret
    exact ⟨by simp [inB, h1] <;> omega, rfl⟩

theorem l01In_c (n lo hi : Int) (w : World) :
    Calls Tryz.prog 83 #[.int .i64 n, .int .i64 lo, .int .i64 hi] w fun e w' => e = .returned (.bool (inB n lo hi)) ∧ w = w' := by
  by_cases h1 : lo ≤ n
  all_goals
    go_enter Tryz.func83, Tryz.ntmps83
    go_wp2
    go_ret
    exact ⟨by simp [inB, h1] <;> omega, rfl⟩

theorem tdiv_neg_of (a b : Int) (hb : 0 < b) (hm : a.tmod b = 0) : a.tdiv b = a / b := by
  have h1 := Int.mul_tdiv_add_tmod a b
  rw [hm] at h1
  have h2 : a.tdiv b = a / b := by
    rw [← h1]; simp
    rw [Int.mul_tdiv_cancel_left _ (by omega), Int.mul_ediv_cancel_left _ (by omega)]
  exact h2
theorem tmod_neg_bd (a b : Int) (ha : a < 0) (hb : 0 < b) : -b < a.tmod b ∧ a.tmod b ≤ 0 := by
  have h1 := Int.neg_tmod (-a) b
  rw [Int.neg_neg] at h1
  rw [h1]
  have h3 := Int.tmod_nonneg b (show 0 ≤ -a by omega)
  have h4 := Int.tmod_lt_of_pos (-a) hb
  omega
theorem tdiv_neg_of' (a b : Int) (ha : a < 0) (hb : 0 < b) (hm : ¬ a.tmod b = 0) : a.tdiv b - 1 = a / b := by
  have h1 := Int.mul_tdiv_add_tmod a b
  have h2 := tmod_neg_bd a b ha hb
  symm
  have h3 : a = (a.tmod b + b) + b * (a.tdiv b - 1) := by rw [Int.mul_sub]; omega
  rw [h3, Int.add_mul_ediv_left _ _ (by omega)]
  rw [← h3, Int.ediv_eq_zero_of_lt (by omega) (by omega)]
  omega
theorem tdiv_bd (a b : Int) (hb : 0 < b) (ha : -4611686018427387904 ≤ a ∧ a ≤ 4611686018427387904) : -4611686018427387904 ≤ a.tdiv b ∧ a.tdiv b ≤ 4611686018427387904 := by
  rw [tdiv_eq_if]
  split
  · rename_i hx; have := IntWalk.tdiv_le a b hx (by omega); omega
  · rename_i hx; have := IntWalk.tdiv_le (-a) b (by omega) (by omega); omega
theorem ediv_bd (a b : Int) (hb : 0 < b) (ha : -4611686018427387904 ≤ a ∧ a ≤ 4611686018427387904) : -4611686018427387904 ≤ a / b ∧ a / b ≤ 4611686018427387904 := by
  constructor
  · exact Int.le_trans (by omega) (Int.le_ediv_of_mul_le hb (show -4611686018427387904 * b ≤ a by
      have : 4611686018427387904 * 1 ≤ 4611686018427387904 * b := Int.mul_le_mul_of_nonneg_left (by omega) (by omega)
      omega))
  · have : a / b < 4611686018427387904 + 1 := Int.ediv_lt_of_lt_mul hb (by
      have : 4611686018427387905 * 1 ≤ 4611686018427387905 * b := Int.mul_le_mul_of_nonneg_left (by omega) (by omega)
      omega)
    omega

theorem mul_div_bd (a b : Int) (hb : 0 < b) : a - b < b * (a / b) ∧ b * (a / b) ≤ a := by
  have h1 := Int.mul_ediv_add_emod a b
  have h2 := Int.emod_nonneg a (show b ≠ 0 by omega)
  have h3 := Int.emod_lt_of_pos a hb
  omega

theorem down_c (a b : Int) (w : World) (ha : -4611686018427387904 ≤ a ∧ a ≤ 4611686018427387904) (hb : 0 < b ∧ b ≤ 4611686018427387904) :
    Calls Tryz.prog 114 #[.int .i64 a, .int .i64 b] w fun e w' => e = .returned (.int .i64 (a / b)) ∧ w = w' := by
  obtain ⟨ha1, ha2⟩ := ha
  obtain ⟨hb1, hb2⟩ := hb
  have hbn : ¬ b < 0 := by omega
  have hb0 : ¬ b = 0 := by omega
  have hbt := tdiv_bd a b hb1 ⟨ha1, ha2⟩
  by_cases h : 0 ≤ a
  · have h' : ¬ a < 0 := by omega
    have E := Lib.hid (Int.tdiv_eq_ediv_of_nonneg (b := b) h)
    by_cases hm : a % b = 0
    · have hm1 : ((a % b) != 0) = false := by simp [hm]
      have hm := Lib.hid hm
      go_enter Tryz.func114, Tryz.ntmps114
      go_wp2
      go_ret
      exact ⟨ret_int E.out, rfl⟩
    · have hm1 : ((a % b) != 0) = true := by simp [hm]
      go_enter Tryz.func114, Tryz.ntmps114
      go_wp2
      go_ret
      exact ⟨ret_int E.out, rfl⟩
  · have h' : a < 0 := by omega
    by_cases hm : a.tmod b = 0
    · have hm1 : ((a.tmod b) != 0) = false := by simp [hm]
      have E := Lib.hid (tdiv_neg_of a b hb1 hm)
      have hm := Lib.hid hm
      go_enter Tryz.func114, Tryz.ntmps114
      go_wp2
      go_ret
      exact ⟨ret_int E.out, rfl⟩
    · have hm1 : ((a.tmod b) != 0) = true := by simp [hm]
      have E := Lib.hid (tdiv_neg_of' a b h' hb1 hm)
      go_enter Tryz.func114, Tryz.ntmps114
      go_wp2
      go_ret
      exact ⟨ret_int E.out, rfl⟩

theorem modulo_c (a b : Int) (w : World) (ha : -4611686018427387904 ≤ a ∧ a ≤ 4611686018427387904) (hb : 0 < b ∧ b ≤ 4611686018427387904) :
    Calls Tryz.prog 76 #[.int .i64 a, .int .i64 b] w fun e w' => e = .returned (.int .i64 (a % b)) ∧ w = w' := by
  have h1 := mul_div_bd a b hb.1
  have h2 := ediv_bd a b hb.1 ha
  obtain ⟨ha1, ha2⟩ := ha
  obtain ⟨hb1, hb2⟩ := hb
  obtain ⟨h11, h12⟩ := h1
  have h4 := Int.emod_nonneg a (show b ≠ 0 by omega)
  have h5 := Int.emod_lt_of_pos a hb1
  have E : Hid (a - b * (a / b) = a % b) := by have := Int.mul_ediv_add_emod a b; unfold Hid; omega
  go_enter Tryz.func76, Tryz.ntmps76
  go_wp2_with (go_at_call 114; refine (down_c _ _ _ ⟨ha1, ha2⟩ ⟨hb1, hb2⟩).mono ?_; rintro e w' ⟨rfl, rfl⟩)
  go_ret
  exact ⟨ret_int E.out, rfl⟩

theorem up_c (a b : Int) (w : World) (ha : -4611686018427387904 ≤ a ∧ a ≤ 4611686018427387904) (hb : 0 < b ∧ b ≤ 4611686018427387904) :
    Calls Tryz.prog 102 #[.int .i64 a, .int .i64 b] w fun e w' => e = .returned (.int .i64 (-(-a / b))) ∧ w = w' := by
  have h2 := ediv_bd (-a) b hb.1 (by omega)
  obtain ⟨ha1, ha2⟩ := ha
  obtain ⟨hb1, hb2⟩ := hb
  go_enter Tryz.func102, Tryz.ntmps102
  go_wp2_with (go_at_call 114; refine (down_c _ _ _ (by omega) ⟨hb1, hb2⟩).mono ?_; rintro e w' ⟨rfl, rfl⟩)
  go_ret
  exact ⟨rfl, rfl⟩

theorem l01Floor_c (a b : Int) (w : World) (ha : -4611686018427387904 ≤ a ∧ a ≤ 4611686018427387904) (hb : 0 < b ∧ b ≤ 4611686018427387904) :
    Calls Tryz.prog 162 #[.int .i64 a, .int .i64 b] w fun e w' => e = .returned (.int .i64 (a / b)) ∧ w = w' := by
  obtain ⟨ha1, ha2⟩ := ha
  obtain ⟨hb1, hb2⟩ := hb
  have hbn : ¬ b < 0 := by omega
  have hb0 : ¬ b = 0 := by omega
  have hbt := tdiv_bd a b hb1 ⟨ha1, ha2⟩
  by_cases h : 0 ≤ a
  · have h' : ¬ a < 0 := by omega
    have E := Lib.hid (Int.tdiv_eq_ediv_of_nonneg (b := b) h)
    have hm := Int.emod_nonneg a (show b ≠ 0 by omega)
    go_enter Tryz.func162, Tryz.ntmps162
    go_wp2
    go_ret
    exact ⟨ret_int E.out, rfl⟩
  · have h' : a < 0 := by omega
    have hmb := tmod_neg_bd a b h' hb1
    by_cases hm : a.tmod b = 0
    · have E := Lib.hid (tdiv_neg_of a b hb1 hm)
      have hm1 : ¬ a.tmod b < 0 := by omega
      have hm := Lib.hid hm
      go_enter Tryz.func162, Tryz.ntmps162
      go_wp2
      go_ret
      exact ⟨ret_int E.out, rfl⟩
    · have hm1 : a.tmod b < 0 := by omega
      have E := Lib.hid (tdiv_neg_of' a b h' hb1 hm)
      go_enter Tryz.func162, Tryz.ntmps162
      go_wp2
      go_ret
      exact ⟨ret_int E.out, rfl⟩

theorem l01Ceil_c (a b : Int) (w : World) (ha : -4611686018427387904 ≤ a ∧ a ≤ 4611686018427387904) (hb : 0 < b ∧ b ≤ 4611686018427387904) :
    Calls Tryz.prog 131 #[.int .i64 a, .int .i64 b] w fun e w' => e = .returned (.int .i64 (-(-a / b))) ∧ w = w' := by
  have h2 := ediv_bd (-a) b hb.1 (by omega)
  obtain ⟨ha1, ha2⟩ := ha
  obtain ⟨hb1, hb2⟩ := hb
  go_enter Tryz.func131, Tryz.ntmps131
  go_wp2_with (go_at_call 162; refine (l01Floor_c _ _ _ (by omega) ⟨hb1, hb2⟩).mono ?_; rintro e w' ⟨rfl, rfl⟩)
  go_ret
  exact ⟨rfl, rfl⟩

theorem l01Mod_c (a b : Int) (w : World) (ha : -4611686018427387904 ≤ a ∧ a ≤ 4611686018427387904) (hb : 0 < b ∧ b ≤ 2305843009213693952) :
    Calls Tryz.prog 77 #[.int .i64 a, .int .i64 b] w fun e w' => e = .returned (.int .i64 (a % b)) ∧ w = w' := by
  obtain ⟨ha1, ha2⟩ := ha
  obtain ⟨hb1, hb2⟩ := hb
  have hb0 : ¬ b = 0 := by omega
  have h4 := Int.emod_nonneg a hb0
  have h5 := Int.emod_lt_of_pos a hb1
  by_cases h : 0 ≤ a
  · have E : Hid ((a % b + b) % b = a % b) := by unfold Hid; rw [Int.add_emod_right, Int.emod_emod]
    go_enter Tryz.func77, Tryz.ntmps77
    go_wp2
    go_ret
    exact ⟨ret_int E.out, rfl⟩
  · have h' : a < 0 := by omega
    have hmb := tmod_neg_bd a b h' hb1
    have E : Hid (a.tmod b % b = a % b) := by
      have h1 := Int.mul_tdiv_add_tmod a b
      unfold Hid
      conv => rhs; rw [← h1, Int.mul_add_emod_self_left]
    go_enter Tryz.func77, Tryz.ntmps77
    go_wp2
    go_ret
    exact ⟨ret_int E.out, rfl⟩

theorem l01Abs_c (a : Int) (w : World) (ha : -4611686018427387904 ≤ a ∧ a ≤ 4611686018427387904) :
    Calls Tryz.prog 132 #[.int .i64 a] w fun e w' => e = .returned (.int .i64 (max a (-a))) ∧ w = w' := by
  obtain ⟨ha1, ha2⟩ := ha
  go_enter Tryz.func132, Tryz.ntmps132
  go_wp2
  all_goals go_ret
  all_goals exact ⟨ret_int (by omega), rfl⟩

end Go.Proofs.YtendoabjjfinhaaGreatDoor
namespace Go.Proofs.YtendoabjjfinhaaGreatDoor
open Go.RowKit
@[ext] structure Figure where
  digits : Int
  tens : Int
deriving DecidableEq
def Figure.cells (s : Figure) : List Value := [.int .i64 s.digits, .int .i64 s.tens]
def Figure.agg (s : Figure) : Value := .agg #[.int .i64 s.digits, .int .i64 s.tens]

theorem Figure.of_rows : ∀ rows : List (List Int), (∀ x ∈ rows, x.length = 2) → ∃ l : List Figure, rows.map (·.map (Value.int .i64)) = l.map Figure.cells
  | [], _ => ⟨[], rfl⟩
  | x :: r, h => by
    obtain ⟨l, hl⟩ := Figure.of_rows r fun y hy => h y (by simp [hy])
    match x, h x (by simp) with
    | [a, b], _ => exact ⟨⟨a, b⟩ :: l, by rw [List.map_cons, hl]; rfl⟩

theorem toFigure_c (a b : Int) (w : World) : Calls Tryz.prog 86 #[.agg #[.int .i64 a, .int .i64 b]] w fun e w' => e = .returned (.agg #[.int .i64 a, .int .i64 b]) ∧ Below w.heap.size w w' := by
  go_enter Tryz.func86, Tryz.ntmps86
  go_wp2
  refine bodyPost_ret (v := .agg #[.int .i64 a, .int .i64 b]) (by simp [results, Tryz.results86, go_sem]) rfl ⟨rfl, ?_⟩
  exact (((Below.refl _ _).alloc (by simp <;> omega) _).alloc (by simp <;> omega) _).alloc (by simp <;> omega) _


theorem eqFigure_c (a b : Int) (w : World) : Calls Tryz.prog 93 #[.agg #[.int .i64 a, .int .i64 b], .agg #[.int .i64 a, .int .i64 b]] w fun e w' => e = .returned (.bool true) ∧ Below w.heap.size w w' := by
  go_enter Tryz.func93, Tryz.ntmps93
  go_wp2
  go_ret
  exact ⟨rfl, ((Below.refl _ _).alloc (by simp <;> omega) _).alloc (by simp <;> omega) _⟩


theorem info_Figure : (Tryz.prog.info? 40).map (fun i => (i.zero, i.size, i.bytes)) = some (some (.agg #[.int .i64 0, .int .i64 0]), 2, 16) := by kernel_rfl



end Go.Proofs.YtendoabjjfinhaaGreatDoor
namespace Go.Proofs.YtendoabjjfinhaaGreatDoor
open Go.RowKit
end Go.Proofs.YtendoabjjfinhaaGreatDoor
namespace Go.Proofs.YtendoabjjfinhaaGreatDoor
/-- one step of the lower bits, of the upper bits -/
def stepL (s : Int × Int) : Int × Int := if 1000000000 ≤ s.1 * s.1 / 100000000 then (s.1 * s.1 / 100000000 / 10, 2 * s.2 + 1) else (s.1 * s.1 / 100000000, 2 * s.2)
def cdiv (a b : Int) : Int := -(-a / b)
def stepH (s : Int × Int) : Int × Int := if 1000000000 ≤ cdiv (s.1 * s.1) 100000000 then (cdiv (cdiv (s.1 * s.1) 100000000) 10, 2 * s.2 + 1) else (cdiv (s.1 * s.1) 100000000, 2 * s.2)
def itL (x : Int) : Nat → Int × Int
  | 0 => (x, 0)
  | k + 1 => stepL (itL x k)
def itH (x : Int) : Nat → Int × Int
  | 0 => (x, 0)
  | k + 1 => stepH (itH x k)
theorem sq_bd {x : Int} (h : 100000000 ≤ x ∧ x ≤ 1000000000) : 10000000000000000 ≤ x * x ∧ x * x ≤ 1000000000000000000 := by
  have h1 : 100000000 * 100000000 ≤ x * x := Int.mul_le_mul h.1 h.1 (by omega) (by omega)
  have h2 : x * x ≤ 1000000000 * 1000000000 := Int.mul_le_mul h.2 h.2 (by omega) (by omega)
  omega
theorem two_pow_le : ∀ k : Nat, k ≤ 20 → (2 : Int) ^ k ≤ 1048576 := by decide
theorem itL_bd {x : Int} (h : 100000000 ≤ x ∧ x ≤ 1000000000) : ∀ k, (100000000 ≤ (itL x k).1 ∧ (itL x k).1 ≤ 1000000000) ∧ 0 ≤ (itL x k).2 ∧ (itL x k).2 < 2 ^ k := by
  intro k
  induction k with
  | zero => exact ⟨h, by simp [itL], by simp [itL]⟩
  | succ k ih =>
    have hs := sq_bd ih.1
    simp only [itL, stepL]
    generalize itL x k = s at ih hs
    obtain ⟨y, n⟩ := s
    simp only at ih hs ⊢
    generalize y * y = q at hs
    rw [Int.pow_succ]
    split <;> simp only <;> omega
theorem itH_bd {x : Int} (h : 100000000 ≤ x ∧ x ≤ 1000000000) : ∀ k, (100000000 ≤ (itH x k).1 ∧ (itH x k).1 ≤ 1000000000) ∧ 0 ≤ (itH x k).2 ∧ (itH x k).2 < 2 ^ k := by
  intro k
  induction k with
  | zero => exact ⟨h, by simp [itH], by simp [itH]⟩
  | succ k ih =>
    have hs := sq_bd ih.1
    simp only [itH, stepH]
    generalize itH x k = s at ih hs
    obtain ⟨y, n⟩ := s
    simp only at ih hs ⊢
    generalize y * y = q at hs
    rw [Int.pow_succ]
    by_cases hb : 1000000000 ≤ cdiv q 100000000
    · rw [if_pos hb]; simp only; unfold cdiv at *; omega
    · rw [if_neg hb]; simp only; unfold cdiv at *; omega
def logLow (x : Int) : Int := (itL x 20).2
def logHigh (x : Int) : Int := (itH x 20).2 + 1
theorem logLow_bd {x : Int} (h : 100000000 ≤ x ∧ x ≤ 1000000000) : 0 ≤ logLow x ∧ logLow x < 1048576 := by
  have := (itL_bd h 20).2; unfold logLow; omega
theorem logHigh_bd {x : Int} (h : 100000000 ≤ x ∧ x ≤ 1000000000) : 1 ≤ logHigh x ∧ logHigh x ≤ 1048576 := by
  have := (itH_bd h 20).2; unfold logHigh; omega
end Go.Proofs.YtendoabjjfinhaaGreatDoor
namespace Go.Proofs.YtendoabjjfinhaaGreatDoor
open Go.RowKit
set_option maxRecDepth 100000 in
theorem l03BitsL_c (x : Int) (w : World) (h : 100000000 ≤ x ∧ x ≤ 1000000000) : Calls Tryz.prog 198 #[.int .i64 x, .bool false] w fun e w' => e = .returned (.int .i64 (itL x 20).2) ∧ w = w' := by
  go_enter Tryz.func198, Tryz.ntmps198
  go_wp2_with fail
  go_loop [0, 5, 6] (fun y n i => ∃ k : Nat, k ≤ 20 ∧ i = .int .i64 k ∧ y = .int .i64 (itL x k).1 ∧ n = .int .i64 (itL x k).2) (fun _ _ i => 20 - (intOf i).toNat)
  case atStart => exact ⟨0, Nat.zero_le _, rfl, rfl, rfl⟩
  case round =>
    obtain ⟨k, hk, rfl, rfl, rfl⟩ := hrel
    have bd := itL_bd h k
    have hp := two_pow_le k hk
    have hsu : itL x (k + 1) = stepL (itL x k) := rfl
    by_cases hlt : k < 20
    · have hlt' : (k : Int) < 20 := by omega
      generalize itL x k = st at bd hsu ⊢
      obtain ⟨y, n⟩ := st
      simp only at bd ⊢
      have hs := sq_bd bd.1
      obtain ⟨⟨b1, b2⟩, b3, b4⟩ := bd
      obtain ⟨s1, s2⟩ := hs
      have b5 : n ≤ 1048576 := by omega
      clear b4 hp
      by_cases hbig : 1000000000 ≤ y * y / 100000000
      · have Hs : Hid (itL x (k + 1) = (y * y / 100000000 / 10, 2 * n + 1)) := by unfold Hid; rw [hsu]; unfold stepL; rw [if_pos hbig]
        clear hsu
        go_wp2
        go_round
        case rel => exact ⟨k + 1, by omega, by go_num, by rw [Hs.out], by rw [Hs.out]⟩
        case measure => simp [intOf]; omega
      · have Hs : Hid (itL x (k + 1) = (y * y / 100000000, 2 * n)) := by unfold Hid; rw [hsu]; unfold stepL; rw [if_neg hbig]
        clear hsu
        go_wp2
        go_round
        case rel => exact ⟨k + 1, by omega, by go_num, by rw [Hs.out], by rw [Hs.out]⟩
        case measure => simp [intOf]; omega
    · have : k = 20 := by omega
      subst this
      go_wp2
      go_ret
      exact ⟨rfl, rfl⟩
set_option maxRecDepth 100000 in
theorem l03BitsH_c (x : Int) (w : World) (h : 100000000 ≤ x ∧ x ≤ 1000000000) : Calls Tryz.prog 198 #[.int .i64 x, .bool true] w fun e w' => e = .returned (.int .i64 (itH x 20).2) ∧ w = w' := by
  go_enter Tryz.func198, Tryz.ntmps198
  go_wp2_with fail
  go_loop [0, 5, 6] (fun y n i => ∃ k : Nat, k ≤ 20 ∧ i = .int .i64 k ∧ y = .int .i64 (itH x k).1 ∧ n = .int .i64 (itH x k).2) (fun _ _ i => 20 - (intOf i).toNat)
  case atStart => exact ⟨0, Nat.zero_le _, rfl, rfl, rfl⟩
  case round =>
    obtain ⟨k, hk, rfl, rfl, rfl⟩ := hrel
    have bd := itH_bd h k
    have hp := two_pow_le k hk
    have hsu : itH x (k + 1) = stepH (itH x k) := rfl
    by_cases hlt : k < 20
    · have hlt' : (k : Int) < 20 := by omega
      generalize itH x k = st at bd hsu ⊢
      obtain ⟨y, n⟩ := st
      simp only at bd ⊢
      have hs := sq_bd bd.1
      obtain ⟨⟨b1, b2⟩, b3, b4⟩ := bd
      obtain ⟨s1, s2⟩ := hs
      have b5 : n ≤ 1048576 := by omega
      clear b4 hp
      by_cases hbig : 1000000000 ≤ -(-(y * y) / 100000000)
      · have Hs : Hid (itH x (k + 1) = (cdiv (cdiv (y * y) 100000000) 10, 2 * n + 1)) := by unfold Hid; rw [hsu]; unfold stepH; rw [if_pos (show 1000000000 ≤ cdiv (y * y) 100000000 from hbig)]
        clear hsu
        go_wp2_with (go_at_call 131; refine (l01Ceil_c _ _ _ (by omega) (by omega)).mono ?_; rintro e w' ⟨rfl, rfl⟩)
        go_round
        case rel => exact ⟨k + 1, by omega, by go_num, by rw [Hs.out]; simp [cdiv], by rw [Hs.out]⟩
        case measure => simp [intOf]; omega
      · have Hs : Hid (itH x (k + 1) = (cdiv (y * y) 100000000, 2 * n)) := by unfold Hid; rw [hsu]; unfold stepH; rw [if_neg (show ¬ 1000000000 ≤ cdiv (y * y) 100000000 from hbig)]
        clear hsu
        go_wp2_with (go_at_call 131; refine (l01Ceil_c _ _ _ (by omega) (by omega)).mono ?_; rintro e w' ⟨rfl, rfl⟩)
        go_round
        case rel => exact ⟨k + 1, by omega, by go_num, by rw [Hs.out]; rfl, by rw [Hs.out]⟩
        case measure => simp [intOf]; omega
    · have : k = 20 := by omega
      subst this
      go_wp2
      go_ret
      exact ⟨rfl, rfl⟩

theorem l03Log_c (x : Int) (w : World) (h : 100000000 ≤ x ∧ x ≤ 1000000000) : Calls Tryz.prog 196 #[.int .i64 x] w fun e w' => e = .returned (.agg #[.int .i64 (logLow x), .int .i64 (logHigh x)]) ∧ Below w.heap.size w w' := by
  have h1 := logLow_bd h
  have h2 := logHigh_bd h
  unfold logLow at *
  unfold logHigh at *
  go_enter Tryz.func196, Tryz.ntmps196
  go_wp2_with fail
  refine (l03BitsL_c x _ h).mono ?_; rintro e w' ⟨rfl, rfl⟩
  go_wp2_with fail
  refine (l03BitsH_c x _ h).mono ?_; rintro e w' ⟨rfl, rfl⟩
  go_wp2
  refine bodyPost_ret (v := .agg #[.int .i64 (itL x 20).2, .int .i64 ((itH x 20).2 + 1)]) (by simp [results, Tryz.results196, go_sem]) rfl ⟨rfl, ?_⟩
  exact (by repeat (first | with_reducible exact Below.refl _ _ | with_reducible apply below_drewN' | with_reducible apply Below.drew | (with_reducible refine Below.alloc ?_ (by first | omega | (simp; omega) | simp | (have := (Below.refl _ _).size; omega) | (have := (Below.refl _ _).size; simp; omega)) _) | (with_reducible refine Below.setCell ?_ (by first | omega | (simp; omega) | simp | (have := (Below.refl _ _).size; omega) | (have := (Below.refl _ _).size; simp; omega)) _) | exact Below.refl _ _))
set_option maxRecDepth 100000 in
set_option maxHeartbeats 1000000 in
theorem logarithm_c (x : Int) (w : World) (h : 100000000 ≤ x ∧ x ≤ 1000000000) : Calls Tryz.prog 191 #[.int .i64 x] w fun e w' => e = .returned (.agg #[.int .i64 (logLow x), .int .i64 (logHigh x)]) ∧ Below w.heap.size w w' := by
  go_enter Tryz.func191, Tryz.ntmps191
  go_wp2_with fail
  go_loopw [3, 4, 9] (fun lo hi i wr => ∃ k : Nat, k ≤ 20 ∧ i = .int .i64 k ∧ lo = .int .i64 (itL x k).1 ∧ hi = .int .i64 (itH x k).1 ∧ Below w.heap.size w wr ∧
      Blk wr w.heap.size 179 #[.int .i64 0, .int .i64 0] ∧ Blk wr (w.heap.size + 1) 179 #[.int .i64 (itL x k).2, .int .i64 (itH x k).2]) (fun _ _ i _ => 20 - (intOf i).toNat)
  case atStart =>
    refine ⟨0, Nat.zero_le _, rfl, rfl, rfl, (by repeat (first | with_reducible exact Below.refl _ _ | with_reducible apply below_drewN' | with_reducible apply Below.drew | (with_reducible refine Below.alloc ?_ (by first | omega | (simp; omega) | simp | (have := (Below.refl _ _).size; omega) | (have := (Below.refl _ _).size; simp; omega)) _) | (with_reducible refine Below.setCell ?_ (by first | omega | (simp; omega) | simp | (have := (Below.refl _ _).size; omega) | (have := (Below.refl _ _).size; simp; omega)) _) | exact Below.refl _ _)), ?_, ?_⟩
    · exact (Blk.new w _ _).alloc _
    · exact Blk.new' _ _ _ (by simp)
  case round =>
    obtain ⟨k, hk, rfl, rfl, rfl, hb, hB0, hB1⟩ := hrel
    have bd := itL_bd h k
    have bh := itH_bd h k
    have hp := two_pow_le k hk
    have hsu : itL x (k + 1) = stepL (itL x k) := rfl
    have hsh : itH x (k + 1) = stepH (itH x k) := rfl
    have hz1 := hB1.lt
    generalize hgg : w.heap.size = g at *
    by_cases hlt : k < 20
    · have hlt' : (k : Int) < 20 := by omega
      generalize itL x k = st at *
      generalize itH x k = sh at *
      obtain ⟨y, n⟩ := st
      obtain ⟨z, m⟩ := sh
      simp only at bd bh hB1 ⊢
      have hs := sq_bd bd.1
      have hs' := sq_bd bh.1
      obtain ⟨⟨b1, b2⟩, b3, b4⟩ := bd
      obtain ⟨⟨d1, d2⟩, d3, d4⟩ := bh
      obtain ⟨s1, s2⟩ := hs
      obtain ⟨s3, s4⟩ := hs'
      have b5 : n ≤ 1048576 := by omega
      have d5 : m ≤ 1048576 := by omega
      clear b4 d4 hp
      have c0 : wr.cell? ⟨g + 1, 0, none⟩ = some (.int .i64 n) := hB1.cell 0
      have c1 : wr.cell? ⟨g + 1, 1, none⟩ = some (.int .i64 m) := hB1.cell 1
      have f0 := hB1.frozen 0
      have f1 := hB1.frozen 1
      have HB0 := Lib.hid hB0
      have HB1 := Lib.hid hB1
      clear hB0 hB1
      have e1 : (1000000000 ≤ y * y / 100000000 ∧ stepL (y, n) = (y * y / 100000000 / 10, 2 * n + 1)) ∨ (¬ 1000000000 ≤ y * y / 100000000 ∧ stepL (y, n) = (y * y / 100000000, 2 * n)) := by
        by_cases hbig : 1000000000 ≤ y * y / 100000000
        · exact .inl ⟨hbig, by unfold stepL; rw [if_pos hbig]⟩
        · exact .inr ⟨hbig, by unfold stepL; rw [if_neg hbig]⟩
      have e2 : (1000000000 ≤ -(-(z * z) / 100000000) ∧ stepH (z, m) = (cdiv (cdiv (z * z) 100000000) 10, 2 * m + 1)) ∨ (¬ 1000000000 ≤ -(-(z * z) / 100000000) ∧ stepH (z, m) = (cdiv (z * z) 100000000, 2 * m)) := by
        by_cases hbig : 1000000000 ≤ -(-(z * z) / 100000000)
        · exact .inl ⟨hbig, by unfold stepH; rw [if_pos (show 1000000000 ≤ cdiv (z * z) 100000000 from hbig)]⟩
        · exact .inr ⟨hbig, by unfold stepH; rw [if_neg (show ¬ 1000000000 ≤ cdiv (z * z) 100000000 from hbig)]⟩
      rcases e1 with ⟨e1, E1⟩ | ⟨e1, E1⟩ <;> rcases e2 with ⟨e2, E2⟩ | ⟨e2, E2⟩
      all_goals
        have H1 := Lib.hid (hsu.trans E1)
        have H2 := Lib.hid (hsh.trans E2)
        clear hsu hsh E1 E2
        go_wp2_with (first | (go_at_call 114; refine (down_c _ _ _ (by omega) (by omega)).mono ?_; rintro e w' ⟨rfl, rfl⟩) | (go_at_call 102; refine (up_c _ _ _ (by omega) (by omega)).mono ?_; rintro e w' ⟨rfl, rfl⟩))
        go_roundw
        case rel =>
          refine ⟨k + 1, by omega, by go_num, by rw [H1.out], by rw [H2.out]; simp [cdiv], (by repeat (first | with_reducible exact hb | with_reducible apply below_drewN' | with_reducible apply Below.drew | (with_reducible refine Below.alloc ?_ (by first | omega | (simp; omega) | simp | (have := (hb).size; omega) | (have := (hb).size; simp; omega)) _) | (with_reducible refine Below.setCell ?_ (by first | omega | (simp; omega) | simp | (have := (hb).size; omega) | (have := (hb).size; simp; omega)) _) | exact hb)), ?_, ?_⟩
          · repeat (first | with_reducible exact HB0.out | refine Blk.far ?_ (show g ≠ g + 1 from by omega) _)
          · rw [H1.out, H2.out]
            dsimp only
            rw [Int.mul_comm 2 n, Int.mul_comm 2 m]
            repeat (first | with_reducible exact HB1.out | with_reducible apply Blk.two0 | with_reducible apply Blk.two1)
        case measure => simp [intOf]; omega
    · have : k = 20 := by omega
      subst this
      have c0 : wr.cell? ⟨g + 1, 0, none⟩ = some (.int .i64 (itL x 20).2) := hB1.cell 0
      have c1 : wr.cell? ⟨g + 1, 1, none⟩ = some (.int .i64 (itH x 20).2) := hB1.cell 1
      have f1 := hB1.frozen 1
      have r0 : wr.cell? ⟨g, 0, none⟩ = some (.int .i64 0) := hB0.cell 0
      have r1 : wr.cell? ⟨g, 1, none⟩ = some (.int .i64 0) := hB0.cell 1
      have q0 := hB0.frozen 0
      have q1 := hB0.frozen 1
      have hz0 := hB0.lt
      clear hB0 hB1 hsu hsh bd
      go_wp2
      refine bodyPost_ret (v := .agg #[.int .i64 (itL x 20).2, .int .i64 ((itH x 20).2 + 1)]) ?_ rfl ⟨rfl, by rw [hgg]; exact (by repeat (first | with_reducible exact hb | with_reducible apply below_drewN' | with_reducible apply Below.drew | (with_reducible refine Below.alloc ?_ (by first | omega | (simp; omega) | simp | (have := (hb).size; omega) | (have := (hb).size; simp; omega)) _) | (with_reducible refine Below.setCell ?_ (by first | omega | (simp; omega) | simp | (have := (hb).size; omega) | (have := (hb).size; simp; omega)) _) | exact hb))⟩
      simp [results, Tryz.results191, go_sem, r0, r1]
end Go.Proofs.YtendoabjjfinhaaGreatDoor
namespace Go.Proofs.YtendoabjjfinhaaGreatDoor
open Go.RowKit
def figOK (f : Figure) : Bool := inB f.digits 1000 9999 && inB f.tens (-30) 30
theorem fig_bd {f : Figure} (h : figOK f = true) : (1000 ≤ f.digits ∧ f.digits ≤ 9999) ∧ (-30 ≤ f.tens ∧ f.tens ≤ 30) := by
  simp only [figOK, Bool.and_eq_true] at h
  exact ⟨inB_true.1 h.1, inB_true.1 h.2⟩
def angleRaw (d t : Int) : Int := (logLow (d * 100000) + logHigh (d * 100000)) / 2 * t * 1296000 / 1048576
theorem specIsFigure_c (f : Figure) (w : World) : Calls Tryz.prog 140 #[f.agg] w fun e w' => e = .returned (.bool (figOK f)) ∧ Below w.heap.size w w' := by
  obtain ⟨a, b⟩ := f
  unfold Figure.agg figOK
  cases h1 : inB a 1000 9999 <;> cases h2 : inB b (-30) 30
  all_goals
    go_enter Tryz.func140, Tryz.ntmps140
    go_wp2_with (first | (go_at_call 83; refine (l01In_c _ _ _ _).mono ?_; rintro e w' ⟨rfl, rfl⟩))
    go_ret
    exact ⟨rfl, (Below.refl _ _).alloc (by simp) _⟩
theorem implIsFigure_c (f : Figure) (w : World) : Calls Tryz.prog 134 #[f.agg] w fun e w' => e = .returned (.bool (figOK f)) ∧ Below w.heap.size w w' := by
  obtain ⟨a, b⟩ := f
  unfold Figure.agg figOK
  cases h1 : inB a 1000 9999 <;> cases h2 : inB b (-30) 30
  all_goals
    go_enter Tryz.func134, Tryz.ntmps134
    go_wp2_with (first | (go_at_call 88; refine (within_c _ _ _ _).mono ?_; rintro e w' ⟨rfl, rfl⟩))
    go_ret
    exact ⟨rfl, (Below.refl _ _).alloc (by simp) _⟩
set_option maxRecDepth 100000 in
theorem areFigures_c (A : Option Addr) (c : Nat) (l : List Figure) (w : World) (hl : l.length ≤ 140737488351232) (hs : Sl w w.heap.size 2 A (l.map Figure.cells)) :
    Calls Tryz.prog 99 #[.slice A l.length c] w fun e w' => e = .returned (.bool (l.all figOK)) ∧ Below w.heap.size w w' := by
  go_enter Tryz.func99, Tryz.ntmps99
  go_wp2_with fail
  go_loopw [7] (fun i wr => ∃ k : Nat, k ≤ l.length ∧ i = .int .i64 k ∧ Below w.heap.size w wr ∧ Hid ((l.take k).all figOK = true)) (fun i _ => l.length - (intOf i).toNat)
  case atStart => exact ⟨0, Nat.zero_le _, rfl, Below.refl _ _, (show (l.take 0).all figOK = true from by simp)⟩
  case round =>
    obtain ⟨k, hk, rfl, hb, hn⟩ := hrel
    have hbs := hb.size
    by_cases hlt : k < l.length
    · obtain ⟨b, off, rfl, bB, cc⟩ := hs.at_ (i := k) (by simpa using hlt)
      simp only [List.getElem_map] at cc
      have c0 : wr.cell? ⟨b, off + k * 2, none⟩ = some (.int .i64 l[k].digits) := by rw [hb.cell bB]; exact cc 0 _ rfl
      have c1 : wr.cell? ⟨b, off + k * 2 + 1, none⟩ = some (.int .i64 l[k].tens) := by rw [hb.cell bB]; exact cc 1 _ rfl
      clear cc
      have hnx : (l.take (k + 1)).all figOK = ((l.take k).all figOK && figOK l[k]) := by rw [List.take_succ_eq_append_getElem hlt, List.all_append]; simp
      have hnx' := Lib.hid hnx; clear hnx
      have hcall := fun W => implIsFigure_c l[k] W
      cases hq : figOK l[k] with
      | true =>
        rw [hq] at hcall
        have hcall' := Lib.hid hcall; clear hcall
        have hq' := Lib.hid hq; clear hq
        go_wp2_with (go_at_call 134; refine (hcall'.out _).mono ?_; rintro e w1 ⟨rfl, hb1⟩)
        go_roundw
        case rel => exact ⟨k + 1, by omega, by go_num, (hb.alloc hbs _).trans (hb1.mono (by simp; omega)), (show _ = true from by rw [hnx'.out, hn.out, hq'.out]; rfl)⟩
        case measure => simp [intOf]; omega
      | false =>
        rw [hq] at hcall
        have hcall' := Lib.hid hcall; clear hcall
        have hq' := Lib.hid hq; clear hq
        go_wp2_with (go_at_call 134; refine (hcall'.out _).mono ?_; rintro e w1 ⟨rfl, hb1⟩)
        go_ret
        refine ⟨ret_bool ?_, (hb.alloc hbs _).trans (hb1.mono (by simp; omega))⟩
        symm
        rw [Bool.eq_false_iff]
        intro h
        have := List.all_eq_true.1 h l[k] (List.getElem_mem hlt)
        rw [hq'.out] at this
        cases this
    · have : k = l.length := by omega
      subst this
      have hn' := hn.out
      rw [List.take_length] at hn'
      have hn'' := Lib.hid hn'; clear hn'
      go_wp2
      go_ret
      exact ⟨ret_bool hn''.out.symm, hb⟩
set_option maxRecDepth 100000 in
theorem figureLog_c (f : Figure) (w : World) (h : 1000 ≤ f.digits ∧ f.digits ≤ 9999) (ht : -30 ≤ f.tens ∧ f.tens ≤ 30) :
    Calls Tryz.prog 178 #[f.agg] w fun e w' => e = .returned (.agg #[.int .i64 (logLow (f.digits * 100000) + f.tens * 1048576), .int .i64 (logHigh (f.digits * 100000) + f.tens * 1048576)]) ∧ Below w.heap.size w w' := by
  obtain ⟨d, t⟩ := f
  unfold Figure.agg
  simp only at *
  have hx : 100000000 ≤ d * 100000 ∧ d * 100000 ≤ 1000000000 := by omega
  have h1 := logLow_bd hx
  have h2 := logHigh_bd hx
  obtain ⟨h, h'⟩ := h
  obtain ⟨ht, ht'⟩ := ht
  have hlog := fun W => Lib.hid (logarithm_c (d * 100000) W hx)
  generalize logLow (d * 100000) = lo at *
  generalize logHigh (d * 100000) = hi at *
  go_enter Tryz.func178, Tryz.ntmps178
  go_wp2_with fail
  refine (hlog _).out.mono ?_; rintro e w1 ⟨rfl, hb1⟩
  have B0 : Blk w1 w.heap.size 40 #[.int .i64 d, .int .i64 t] := ((Blk.new w _ _).alloc _).below hb1 (by simp; omega)
  have B1 : Blk w1 (w.heap.size + 1) 179 #[.int .i64 0, .int .i64 0] := (Blk.new' _ _ _ (by simp)).below hb1 (by simp)
  have hb0 : Below w.heap.size w w1 := (((Below.refl _ _).alloc (Nat.le_refl _) _).alloc (by simp) _).trans (hb1.mono (by simp; omega))
  clear hb1
  have z0 := B0.lt
  have z1 := B1.lt
  have c1 : w1.cell? ⟨w.heap.size, 1, none⟩ = some (.int .i64 t) := B0.cell 1
  have d0 : w1.cell? ⟨w.heap.size + 1, 0, none⟩ = some (.int .i64 0) := B1.cell 0
  have d1 : w1.cell? ⟨w.heap.size + 1, 1, none⟩ = some (.int .i64 0) := B1.cell 1
  have f0 := B1.frozen 0
  have f1 := B1.frozen 1
  clear B0 B1
  go_wp2
  refine bodyPost_ret (v := .agg #[.int .i64 (lo + t * 1048576), .int .i64 (hi + t * 1048576)]) (by simp [results, Tryz.results178, go_sem, d0, d1, z1]) rfl ⟨rfl, ?_⟩
  have hbs := hb0.size
  exact (by repeat (first | with_reducible exact hb0 | with_reducible apply below_drewN' | with_reducible apply Below.drew | (with_reducible refine Below.alloc ?_ (by first | omega | (simp; omega) | simp | (have := (hb0).size; omega) | (have := (hb0).size; simp; omega)) _) | (with_reducible refine Below.setCell ?_ (by first | omega | (simp; omega) | simp | (have := (hb0).size; omega) | (have := (hb0).size; simp; omega)) _) | exact hb0))

theorem log_sum {d : Int} (h : 1000 ≤ d ∧ d ≤ 9999) : (0 ≤ logLow (d * 100000) ∧ logLow (d * 100000) < 1048576) ∧ (1 ≤ logHigh (d * 100000) ∧ logHigh (d * 100000) ≤ 1048576) :=
  ⟨logLow_bd (by omega), logHigh_bd (by omega)⟩
theorem angle_mul {s t : Int} (hs : 0 ≤ s ∧ s ≤ 1048576) (ht : 1 ≤ t ∧ t ≤ 20) : (0 ≤ s * t ∧ s * t ≤ 20971520) := by
  have h1 : 0 ≤ s * t := Int.mul_nonneg hs.1 (by omega)
  have h2 : s * t ≤ 1048576 * 20 := Int.mul_le_mul hs.2 ht.2 (by omega) (by omega)
  omega
theorem angleRaw_bd {d t : Int} (h : 1000 ≤ d ∧ d ≤ 9999) (ht : 1 ≤ t ∧ t ≤ 20) : 0 ≤ angleRaw d t ∧ angleRaw d t ≤ 1296000 * t := by
  have hl := log_sum h
  unfold angleRaw
  generalize logLow (d * 100000) = lo at *
  generalize logHigh (d * 100000) = hi at *
  have hs : 0 ≤ (lo + hi) / 2 ∧ (lo + hi) / 2 ≤ 1048576 := by omega
  generalize (lo + hi) / 2 = s at *
  have hm := angle_mul hs ht
  have h2 : s * t ≤ 1048576 * t := Int.mul_le_mul_of_nonneg_right hs.2 (by omega)
  generalize s * t = q at *
  omega
end Go.Proofs.YtendoabjjfinhaaGreatDoor
namespace Go.Proofs.YtendoabjjfinhaaGreatDoor
open Go.RowKit
/-- the byte at place k of a text, as a number -/
def chAt (s : ByteArray) (k : Nat) : Int := if h : k < s.size then (s[k].toNat : Int) else 0
theorem chAt_eq {s : ByteArray} {k : Nat} (h : k < s.size) : chAt s k = (s[k].toNat : Int) := dif_pos h
/-- whether a formula's letter and power are as described -/
def letB (s : ByteArray) (l : List Int) (k : Nat) : Bool :=
  decide (97 ≤ chAt s k) && decide (chAt s k ≤ 122) && (decide (k = 0) || decide (chAt s (k - 1) < chAt s k)) && !decide (l.getD k 0 = 0) && inB (l.getD k 0) (-6) 6
def formB (fd ft : Int) (s : ByteArray) (l : List Int) : Bool := figOK ⟨fd, ft⟩ && decide (s.size ≤ 6) && decide (l.length = s.size) && (List.range l.length).all (letB s l)
theorem letters_bad {s : ByteArray} {l : List Int} {k : Nat} (hk : k < l.length) (h : letB s l k = false) : (List.range l.length).all (letB s l) = false := by
  rw [List.all_eq_false]
  exact ⟨k, List.mem_range.2 hk, by rw [h]; simp⟩
theorem letters_next {s : ByteArray} {l : List Int} {k : Nat} (h : letB s l k = true) (hs : (List.range k).all (letB s l) = true) : (List.range (k + 1)).all (letB s l) = true := by
  rw [List.range_succ, List.all_append, hs]
  simp [h]
def chartB (fd ft : Int) (s : ByteArray) (l : List Int) (wd lf rt : Int) : Bool := formB fd ft s l && decide (s.size = 2) && inB wd 1000 100000 && inB lf 100 20000 && inB rt 100 20000
theorem form_parts {fd ft : Int} {s : ByteArray} {l : List Int} (h : formB fd ft s l = true) : figOK ⟨fd, ft⟩ = true ∧ s.size ≤ 6 ∧ l.length = s.size ∧ ∀ k, k < l.length → letB s l k = true := by
  unfold formB at h
  simp only [Bool.and_eq_true, decide_eq_true_eq] at h
  exact ⟨h.1.1.1, h.1.1.2, h.1.2, fun k hk => List.all_eq_true.1 h.2 k (List.mem_range.2 hk)⟩
theorem chart_parts {fd ft : Int} {s : ByteArray} {l : List Int} {wd lf rt : Int} (h : chartB fd ft s l wd lf rt = true) : formB fd ft s l = true ∧ s.size = 2 ∧ (1000 ≤ wd ∧ wd ≤ 100000) ∧ (100 ≤ lf ∧ lf ≤ 20000) ∧ (100 ≤ rt ∧ rt ≤ 20000) ∧ ∃ p0 p1, l = [p0, p1] ∧ (-6 ≤ p0 ∧ p0 ≤ 6) ∧ (-6 ≤ p1 ∧ p1 ≤ 6) := by
  unfold chartB at h
  simp only [Bool.and_eq_true, decide_eq_true_eq, inB_true] at h
  obtain ⟨⟨⟨⟨h1, h2⟩, h3⟩, h4⟩, h5⟩ := h
  obtain ⟨_, _, f3, f4⟩ := form_parts h1
  rw [h2] at f3
  match l, f3 with
  | [p0, p1], _ =>
    have a := f4 0 (by simp)
    have b := f4 1 (by simp)
    unfold letB at a b
    simp only [Bool.and_eq_true, inB_true] at a b
    exact ⟨h1, h2, h3, h4, h5, p0, p1, rfl, a.2, b.2⟩
end Go.Proofs.YtendoabjjfinhaaGreatDoor
namespace Go.Proofs.YtendoabjjfinhaaGreatDoor
open Go.RowKit
section
variable {P : Program} {ops : Array Oper} {Q : Exit → Act → World → Prop} {md : Region.Mode}
theorem getD_set_self' {L : Array Bool} {i : Nat} (h : i < L.size) (d : Bool) : (L.setIfInBounds i true).getD i d = true := by
  simp [Array.getD, h]
theorem getD_set_ne' {L : Array Bool} {i j : Nat} (h : i ≠ j) (d : Bool) : (L.setIfInBounds i true).getD j d = L.getD j d := getD_set_ne d h
theorem getD_lt {L : Array Bool} {i : Nat} (h : L.getD i true = false) : i < L.size := by
  rcases Nat.lt_or_ge i L.size with h1 | h1
  · exact h1
  · simp [Array.getD, Nat.not_lt.2 h1] at h
theorem count_set : ∀ (l : List Bool) (i : Nat), l[i]? = some false → (l.set i true).count false + 1 = l.count false
  | [], i, h => by simp at h
  | b :: l, 0, h => by
    simp only [List.getElem?_cons_zero, Option.some.injEq] at h
    subst h
    simp
  | b :: l, i + 1, h => by
    have := count_set l i (by simpa using h)
    rw [List.set_cons_succ, List.count_cons, List.count_cons]
    omega
theorem wpAny_inv (I : Array Bool → Act → World → Prop)
    (hI : ∀ L a w, I L a w → ∀ i ∈ Region.ready md ops L, wpOp P ops Q i (fun a' w' => I (L.setIfInBounds i true) a' w') a w)
    (hE : ∀ L a w, I L a w → Region.ready md ops L = [] → Q .normal a w) :
    ∀ (fuel : Nat) (L : Array Bool) (a : Act) (w : World), L.toList.count false ≤ fuel → I L a w → wpAny P md ops Q fuel L a w := by
  intro fuel
  induction fuel with
  | zero =>
    intro L a w hc h
    have hr : Region.ready md ops L = [] := by
      rw [List.eq_nil_iff_forall_not_mem]
      intro j hj
      have h0 := (mem_ready.1 hj).1
      have hl := getD_lt h0
      have : false ∈ L.toList := by
        rw [List.mem_iff_getElem]
        refine ⟨j, by simpa using hl, ?_⟩
        simpa [Array.getD, hl] using h0
      have := List.count_pos_iff.2 this
      omega
    exact ⟨hr, hE L a w h hr⟩
  | succ fuel ih =>
    intro L a w hc h
    refine ⟨fun hr => hE L a w h hr, fun i hi => ?_⟩
    refine wpOp_mono (fun a' w' h' => ih _ a' w' ?_ h') (hI L a w h i hi)
    have h0 := (mem_ready.1 hi).1
    have hl := getD_lt h0
    have := count_set L.toList i (by
      rw [List.getElem?_eq_getElem (by simpa using hl)]
      simpa [Array.getD, hl] using h0)
    rw [Array.toList_setIfInBounds]
    omega
/-- A region that draws its order, by an invariant J of what has come up, of the frame and of the world. -/
theorem wp_region_inv (J : Act → Array Bool → Act → World → Prop) {id : Nat} {a : Act} {w : World} (hm : P.follows .mixedOrders = true)
    (h0 : J a (Array.replicate ops.size false) a w.drew)
    (hI : ∀ L b v, J a L b v → ∀ i, L.getD i true = false → (∀ o, ops[i]? = some o → (∀ e ∈ o.after, Region.binds .any e = true → L.getD e.on false = true) → wpOp P ops Q i (fun a' w' => J a (L.setIfInBounds i true) a' w') b v))
    (hE : ∀ L b v, J a L b v → (∀ i, i < ops.size → L.getD i false = true) → Q .normal b v)
    (hL : ∀ L b v, J a L b v → L.size = ops.size)
    (hA : ∀ L : Array Bool, L.size = ops.size → Region.ready .any ops L = [] → ∀ i, i < ops.size → L.getD i false = true) : (Code.region id ops true).wp P Q a w := by
  refine wp_region_any hm (wpAny_inv (J a) (fun L b v h i hi => ?_) (fun L b v h hr => hE L b v h (hA L (hL L b v h) hr)) _ _ _ _ ?_ h0)
  · obtain ⟨h1, o, h2, h3⟩ := mem_ready.1 hi
    exact hI L b v h i h1 o h2 h3
  · have : (Array.replicate ops.size false).toList.count false = ops.size := by simp
    omega
/-- each operation waits only for such as lie before it -/
theorem ready_all {L : Array Bool} (hs : L.size = ops.size) (hb : (List.range ops.size).all (fun i => ((ops[i]?).map fun o => o.after.all fun e => !Region.binds md e || decide (e.on < i)).getD true) = true)
    (hr : Region.ready md ops L = []) : ∀ i, i < ops.size → L.getD i false = true := by
  intro i
  induction i using Nat.strongRecOn with
  | ind i ih =>
    intro hi
    cases hx : L.getD i true with
    | true =>
      have : i < L.size := by omega
      simp [Array.getD, this] at hx ⊢
      exact hx
    | false =>
      exfalso
      have hmem : i ∈ Region.ready md ops L := by
        refine mem_ready.2 ⟨hx, ops[i], Array.getElem?_eq_getElem hi, fun e he hbd => ih e.on ?_ ?_⟩
        · have h1 := List.all_eq_true.1 hb i (List.mem_range.2 hi)
          rw [Array.getElem?_eq_getElem hi, Option.map_some, Option.getD_some, Array.all_eq_true_iff_forall_mem] at h1
          have := h1 e he
          rw [hbd] at this
          simpa using this
        · have h1 := List.all_eq_true.1 hb i (List.mem_range.2 hi)
          rw [Array.getElem?_eq_getElem hi, Option.map_some, Option.getD_some, Array.all_eq_true_iff_forall_mem] at h1
          have := h1 e he
          rw [hbd] at this
          have : e.on < i := by simpa using this
          omega
      rw [hr] at hmem
      cases hmem
/-- the head's operations that have not come up -/
def headOpen (n : Nat) (L : Array Bool) : Nat := ((List.range n).filter fun i => !L.getD i false).length
theorem headOpen_set {n : Nat} {L : Array Bool} {i : Nat} (hi : i < n) (hu : L.getD i true = false) : headOpen n (L.setIfInBounds i true) + 1 = headOpen n L := by
  unfold headOpen
  have hl := getD_lt hu
  have hf : L.getD i false = false := getD_both hu
  induction n with
  | zero => omega
  | succ n ih =>
    rw [List.range_succ, List.filter_append, List.filter_append, List.length_append, List.length_append]
    by_cases h : i < n
    · have h1 := ih h
      have h2 : (L.setIfInBounds i true).getD n false = L.getD n false := getD_set_ne false (by omega)
      simp only [List.filter_cons, List.filter_nil, h2]
      omega
    · obtain rfl : i = n := by omega
      have h1 : ∀ j ∈ List.range i, (!(L.setIfInBounds i true).getD j false) = (!L.getD j false) := fun j hj => by
        rw [getD_set_ne false (by have := List.mem_range.1 hj; omega)]
      rw [List.filter_congr h1]
      have h2 : (L.setIfInBounds i true).getD i false = true := getD_set_self' hl false
      simp only [List.filter_cons, List.filter_nil, h2, hf]
      simp
theorem headOpen_zero {n : Nat} {L : Array Bool} (h : headOpen n L = 0) : ∀ i, i < n → L.getD i false = true := fun i hi => by
  unfold headOpen at h
  rw [List.length_eq_zero_iff, List.filter_eq_nil_iff] at h
  simpa using h i (List.mem_range.2 hi)
theorem headOpen_pos {n : Nat} {L : Array Bool} (h : headOpen n L ≠ 0) : ∃ i, i < n ∧ L.getD i false = false := by
  unfold headOpen at h
  match hl : (List.range n).filter (fun i => !L.getD i false), h with
  | [], h => exact absurd rfl h
  | i :: r, h =>
    have : i ∈ (List.range n).filter (fun i => !L.getD i false) := by rw [hl]; simp
    rw [List.mem_filter, List.mem_range] at this
    exact ⟨i, this.1, by simpa using this.2⟩
def upd (f : Nat → Bool) (i : Nat) (k : Nat) : Bool := k == i || f k
theorem upd_of {L : Array Bool} {i : Nat} (h : L.getD i true = false) : (fun k => (L.setIfInBounds i true).getD k false) = upd (fun k => L.getD k false) i := by
  funext k
  unfold upd
  by_cases hk : k = i
  · subst hk
    rw [getD_set_self' (getD_lt h)]
    simp
  · rw [getD_set_ne' (Ne.symm hk)]
    simp [hk]
theorem getD_ff {L : Array Bool} {i : Nat} (h : L.getD i true = false) : L.getD i false = false := getD_both h
theorem size_drewed (w : World) : w.drew.heap.size = w.heap.size := rfl
def backB (md : Region.Mode) (ops : Array Oper) : Bool := (List.range ops.size).all (fun i => ((ops[i]?).map fun o => o.after.all fun e => !Region.binds md e || decide (e.on < i)).getD true)
def sinkAll (ops : Array Oper) (n : Nat) : Bool :=
  decide (n < ops.size) && Region.sinkB .any ops n && Region.chainB .any ops n && backB .any ops && Region.seqB .any ops (ops.size - n) n (Array.replicate n true ++ Array.replicate (ops.size - n) false)
theorem wpAny_sink {l : List Oper} {n : Nat} (J : (Nat → Bool) → Act → World → Prop) (hB : sinkAll l.toArray n = true)
    (hI : ∀ f b v, J f b v → ∀ i, i < n → f i = false → ∀ o, l.toArray[i]? = some o → (∀ e ∈ o.after, Region.binds .any e = true → f e.on = true) → wpOp P l.toArray Q i (fun a' w' => J (upd f i) a' w') b v)
    (hE : ∀ f b v, J f b v → (∀ i, i < n → f i = true) → wpList P l.toArray Q (l.drop n) b v) :
    ∀ (c : Nat) (L : Array Bool) (b : Act) (v : World), headOpen n L = c → HeadInv .any l.toArray n L → J (fun k => L.getD k false) b v → wpAny P .any l.toArray Q (c + (l.toArray.size - n)) L b v := by
  unfold sinkAll at hB
  simp only [Bool.and_eq_true, decide_eq_true_eq] at hB
  obtain ⟨⟨⟨⟨hn, hs⟩, hc⟩, hbk⟩, hq⟩ := hB
  intro c
  induction c with
  | zero =>
    intro L b v h0 inv hJ
    have hall := headOpen_zero h0
    have hL : L = Array.replicate n true ++ Array.replicate (l.toArray.size - n) false := by
      apply Array.ext
      · rw [inv.size, Array.size_append, Array.size_replicate, Array.size_replicate]; omega
      · intro i h1 h2
        by_cases hi : i < n
        · have := hall i hi
          rw [Array.getElem_append_left (by simpa using hi), Array.getElem_replicate]
          simpa [Array.getD, h1] using this
        · have := inv.tail i (by omega) (by rw [← inv.size]; exact h1)
          rw [Array.getElem_append_right (by simp; omega), Array.getElem_replicate]
          simpa [Array.getD, h1] using this
    rw [Nat.zero_add]
    have hdl : (l.drop n).length = l.toArray.size - n := by simp
    rw [← hdl]
    refine wpAny_of_seq (md := .any) (l.drop n) n L b v (fun j => by simp [List.getElem?_drop]) ?_ (hE _ b v hJ hall)
    rw [hdl, hL]
    exact hq
  | succ c ih =>
    intro L b v h0 inv hJ
    rw [show c + 1 + (l.toArray.size - n) = (c + (l.toArray.size - n)) + 1 by omega]
    obtain ⟨i0, hi0, hu0⟩ := headOpen_pos (n := n) (L := L) (by omega)
    have hu0' : L.getD i0 true = false := getD_in (by rw [inv.size]; omega) hu0
    refine ⟨fun hr => ?_, fun i hi => ?_⟩
    · have := ready_all inv.size hbk hr i0 (by omega)
      rw [hu0] at this
      cases this
    · have hin : i < n := by
        rcases Nat.lt_or_ge i n with h | h
        · exact h
        · exact absurd hi (tail_waits hs hc hn inv _ i0 rfl hi0 hu0' i h)
      obtain ⟨h1, o, h2, h3⟩ := mem_ready.1 hi
      refine wpOp_mono (fun a' w' h' => ih _ a' w' ?_ (inv.set hi hin) ?_) (hI _ b v hJ i hin (getD_both h1) o h2 h3)
      · have := headOpen_set hin h1
        omega
      · rw [upd_of h1]
        exact h'
/-- A region that draws its order and ends in a forced tail: the head by an invariant. -/
theorem wp_region_sink {l : List Oper} (n : Nat) (J : Act → (Nat → Bool) → Act → World → Prop) {id : Nat} {a : Act} {w : World} (hm : P.follows .mixedOrders = true) (hB : sinkAll l.toArray n = true)
    (h0 : J a (fun _ => false) a w.drew)
    (hI : ∀ f b v, J a f b v → ∀ i, i < n → f i = false → ∀ o, l.toArray[i]? = some o → (∀ e ∈ o.after, Region.binds .any e = true → f e.on = true) → wpOp P l.toArray Q i (fun a' w' => J a (upd f i) a' w') b v)
    (hE : ∀ f b v, J a f b v → (∀ i, i < n → f i = true) → wpList P l.toArray Q (l.drop n) b v) : (Code.region id l.toArray true).wp P Q a w := by
  refine wp_region_any hm ?_
  have hn : n ≤ l.toArray.size := by
    unfold sinkAll at hB
    simp only [Bool.and_eq_true, decide_eq_true_eq] at hB
    omega
  have hall : ∀ j, (Array.replicate l.toArray.size false).getD j false = false := getD_replicate_false _
  have hc : headOpen n (Array.replicate l.toArray.size false) = n := by
    unfold headOpen
    rw [List.filter_eq_self.2 (fun j _ => by rw [hall]; rfl), List.length_range]
  have := wpAny_sink (J a) hB hI hE n (Array.replicate l.toArray.size false) a w.drew hc
    ⟨by simp, fun j oj _ hl => (by rw [hall] at hl; cases hl), fun t _ ht => getD_in (by simpa using ht) (hall t)⟩ (by rw [show (fun k => (Array.replicate l.toArray.size false).getD k false) = fun _ => false from funext hall]; exact h0)
  rw [show n + (l.toArray.size - n) = l.toArray.size by omega] at this
  exact this
/-- the same with no tail: all operations by the invariant -/
theorem wp_region_all {l : List Oper} (J : Act → (Nat → Bool) → Act → World → Prop) {id : Nat} {a : Act} {w : World} (hm : P.follows .mixedOrders = true) (hB : backB .any l.toArray = true)
    (h0 : J a (fun _ => false) a w.drew)
    (hI : ∀ f b v, J a f b v → ∀ i, i < l.length → f i = false → ∀ o, l.toArray[i]? = some o → (∀ e ∈ o.after, Region.binds .any e = true → f e.on = true) → wpOp P l.toArray Q i (fun a' w' => J a (upd f i) a' w') b v)
    (hE : ∀ f b v, J a f b v → (∀ i, i < l.length → f i = true) → Q .normal b v) : (Code.region id l.toArray true).wp P Q a w := by
  have hall : ∀ j, (Array.replicate l.toArray.size false).getD j false = false := getD_replicate_false _
  refine wp_region_inv (fun a0 L b v => L.size = l.toArray.size ∧ J a0 (fun k => L.getD k false) b v) hm ⟨by simp, by rw [show (fun k => (Array.replicate l.toArray.size false).getD k false) = fun _ => false from funext hall]; exact h0⟩ ?_ ?_ (fun L b v h => h.1) (fun L hs hr => ready_all hs hB hr)
  · rintro L b v ⟨hs, hJ⟩ i hi o ho hall'
    have hlt : i < l.length := by have := (Array.getElem?_eq_some_iff.1 ho).1; simpa using this
    refine wpOp_mono (fun a' w' h' => ⟨by rw [Array.size_setIfInBounds]; exact hs, by rw [upd_of hi]; exact h'⟩) (hI _ b v hJ i hlt (getD_both hi) o ho hall')
  · rintro L b v ⟨_, hJ⟩ hf
    exact hE _ b v hJ (fun i hi => hf i (by simpa using hi))
end
section
variable {w : World} {g : Nat} {t : TypeId} {v : Value} {r : List Value}
theorem Blk.c0 (h : Blk w g t (v :: r).toArray) : w.cell? ⟨g, 0, none⟩ = some v := h.cl 0 rfl
theorem Blk.c1 {x0 : Value} (h : Blk w g t (x0 :: v :: r).toArray) : w.cell? ⟨g, 1, none⟩ = some v := h.cl 1 rfl
theorem Blk.c2 {x0 x1 : Value} (h : Blk w g t (x0 :: x1 :: v :: r).toArray) : w.cell? ⟨g, 2, none⟩ = some v := h.cl 2 rfl
theorem Blk.c3 {x0 x1 x2 : Value} (h : Blk w g t (x0 :: x1 :: x2 :: v :: r).toArray) : w.cell? ⟨g, 3, none⟩ = some v := h.cl 3 rfl
theorem Blk.c4 {x0 x1 x2 x3 : Value} (h : Blk w g t (x0 :: x1 :: x2 :: x3 :: v :: r).toArray) : w.cell? ⟨g, 4, none⟩ = some v := h.cl 4 rfl
theorem Blk.c5 {x0 x1 x2 x3 x4 : Value} (h : Blk w g t (x0 :: x1 :: x2 :: x3 :: x4 :: v :: r).toArray) : w.cell? ⟨g, 5, none⟩ = some v := h.cl 5 rfl
theorem Blk.c6 {x0 x1 x2 x3 x4 x5 : Value} (h : Blk w g t (x0 :: x1 :: x2 :: x3 :: x4 :: x5 :: v :: r).toArray) : w.cell? ⟨g, 6, none⟩ = some v := h.cl 6 rfl
theorem Blk.c7 {x0 x1 x2 x3 x4 x5 x6 : Value} (h : Blk w g t (x0 :: x1 :: x2 :: x3 :: x4 :: x5 :: x6 :: v :: r).toArray) : w.cell? ⟨g, 7, none⟩ = some v := h.cl 7 rfl
theorem Blk.c8 {x0 x1 x2 x3 x4 x5 x6 x7 : Value} (h : Blk w g t (x0 :: x1 :: x2 :: x3 :: x4 :: x5 :: x6 :: x7 :: v :: r).toArray) : w.cell? ⟨g, 8, none⟩ = some v := h.cl 8 rfl
theorem Blk.c9 {x0 x1 x2 x3 x4 x5 x6 x7 x8 : Value} (h : Blk w g t (x0 :: x1 :: x2 :: x3 :: x4 :: x5 :: x6 :: x7 :: x8 :: v :: r).toArray) : w.cell? ⟨g, 9, none⟩ = some v := h.cl 9 rfl
theorem Blk.c10 {x0 x1 x2 x3 x4 x5 x6 x7 x8 x9 : Value} (h : Blk w g t (x0 :: x1 :: x2 :: x3 :: x4 :: x5 :: x6 :: x7 :: x8 :: x9 :: v :: r).toArray) : w.cell? ⟨g, 10, none⟩ = some v := h.cl 10 rfl
theorem Blk.c11 {x0 x1 x2 x3 x4 x5 x6 x7 x8 x9 x10 : Value} (h : Blk w g t (x0 :: x1 :: x2 :: x3 :: x4 :: x5 :: x6 :: x7 :: x8 :: x9 :: x10 :: v :: r).toArray) : w.cell? ⟨g, 11, none⟩ = some v := h.cl 11 rfl
theorem Blk.c12 {x0 x1 x2 x3 x4 x5 x6 x7 x8 x9 x10 x11 : Value} (h : Blk w g t (x0 :: x1 :: x2 :: x3 :: x4 :: x5 :: x6 :: x7 :: x8 :: x9 :: x10 :: x11 :: v :: r).toArray) : w.cell? ⟨g, 12, none⟩ = some v := h.cl 12 rfl
theorem Blk.c13 {x0 x1 x2 x3 x4 x5 x6 x7 x8 x9 x10 x11 x12 : Value} (h : Blk w g t (x0 :: x1 :: x2 :: x3 :: x4 :: x5 :: x6 :: x7 :: x8 :: x9 :: x10 :: x11 :: x12 :: v :: r).toArray) : w.cell? ⟨g, 13, none⟩ = some v := h.cl 13 rfl
theorem Blk.c14 {x0 x1 x2 x3 x4 x5 x6 x7 x8 x9 x10 x11 x12 x13 : Value} (h : Blk w g t (x0 :: x1 :: x2 :: x3 :: x4 :: x5 :: x6 :: x7 :: x8 :: x9 :: x10 :: x11 :: x12 :: x13 :: v :: r).toArray) : w.cell? ⟨g, 14, none⟩ = some v := h.cl 14 rfl
theorem Blk.c15 {x0 x1 x2 x3 x4 x5 x6 x7 x8 x9 x10 x11 x12 x13 x14 : Value} (h : Blk w g t (x0 :: x1 :: x2 :: x3 :: x4 :: x5 :: x6 :: x7 :: x8 :: x9 :: x10 :: x11 :: x12 :: x13 :: x14 :: v :: r).toArray) : w.cell? ⟨g, 15, none⟩ = some v := h.cl 15 rfl
theorem Blk.c16 {x0 x1 x2 x3 x4 x5 x6 x7 x8 x9 x10 x11 x12 x13 x14 x15 : Value} (h : Blk w g t (x0 :: x1 :: x2 :: x3 :: x4 :: x5 :: x6 :: x7 :: x8 :: x9 :: x10 :: x11 :: x12 :: x13 :: x14 :: x15 :: v :: r).toArray) : w.cell? ⟨g, 16, none⟩ = some v := h.cl 16 rfl
theorem Blk.c17 {x0 x1 x2 x3 x4 x5 x6 x7 x8 x9 x10 x11 x12 x13 x14 x15 x16 : Value} (h : Blk w g t (x0 :: x1 :: x2 :: x3 :: x4 :: x5 :: x6 :: x7 :: x8 :: x9 :: x10 :: x11 :: x12 :: x13 :: x14 :: x15 :: x16 :: v :: r).toArray) : w.cell? ⟨g, 17, none⟩ = some v := h.cl 17 rfl
theorem Blk.c18 {x0 x1 x2 x3 x4 x5 x6 x7 x8 x9 x10 x11 x12 x13 x14 x15 x16 x17 : Value} (h : Blk w g t (x0 :: x1 :: x2 :: x3 :: x4 :: x5 :: x6 :: x7 :: x8 :: x9 :: x10 :: x11 :: x12 :: x13 :: x14 :: x15 :: x16 :: x17 :: v :: r).toArray) : w.cell? ⟨g, 18, none⟩ = some v := h.cl 18 rfl
theorem Blk.c19 {x0 x1 x2 x3 x4 x5 x6 x7 x8 x9 x10 x11 x12 x13 x14 x15 x16 x17 x18 : Value} (h : Blk w g t (x0 :: x1 :: x2 :: x3 :: x4 :: x5 :: x6 :: x7 :: x8 :: x9 :: x10 :: x11 :: x12 :: x13 :: x14 :: x15 :: x16 :: x17 :: x18 :: v :: r).toArray) : w.cell? ⟨g, 19, none⟩ = some v := h.cl 19 rfl
theorem Blk.c20 {x0 x1 x2 x3 x4 x5 x6 x7 x8 x9 x10 x11 x12 x13 x14 x15 x16 x17 x18 x19 : Value} (h : Blk w g t (x0 :: x1 :: x2 :: x3 :: x4 :: x5 :: x6 :: x7 :: x8 :: x9 :: x10 :: x11 :: x12 :: x13 :: x14 :: x15 :: x16 :: x17 :: x18 :: x19 :: v :: r).toArray) : w.cell? ⟨g, 20, none⟩ = some v := h.cl 20 rfl
theorem Blk.c21 {x0 x1 x2 x3 x4 x5 x6 x7 x8 x9 x10 x11 x12 x13 x14 x15 x16 x17 x18 x19 x20 : Value} (h : Blk w g t (x0 :: x1 :: x2 :: x3 :: x4 :: x5 :: x6 :: x7 :: x8 :: x9 :: x10 :: x11 :: x12 :: x13 :: x14 :: x15 :: x16 :: x17 :: x18 :: x19 :: x20 :: v :: r).toArray) : w.cell? ⟨g, 21, none⟩ = some v := h.cl 21 rfl
theorem Blk.c22 {x0 x1 x2 x3 x4 x5 x6 x7 x8 x9 x10 x11 x12 x13 x14 x15 x16 x17 x18 x19 x20 x21 : Value} (h : Blk w g t (x0 :: x1 :: x2 :: x3 :: x4 :: x5 :: x6 :: x7 :: x8 :: x9 :: x10 :: x11 :: x12 :: x13 :: x14 :: x15 :: x16 :: x17 :: x18 :: x19 :: x20 :: x21 :: v :: r).toArray) : w.cell? ⟨g, 22, none⟩ = some v := h.cl 22 rfl
theorem Blk.c23 {x0 x1 x2 x3 x4 x5 x6 x7 x8 x9 x10 x11 x12 x13 x14 x15 x16 x17 x18 x19 x20 x21 x22 : Value} (h : Blk w g t (x0 :: x1 :: x2 :: x3 :: x4 :: x5 :: x6 :: x7 :: x8 :: x9 :: x10 :: x11 :: x12 :: x13 :: x14 :: x15 :: x16 :: x17 :: x18 :: x19 :: x20 :: x21 :: x22 :: v :: r).toArray) : w.cell? ⟨g, 23, none⟩ = some v := h.cl 23 rfl
end
/-- a value that is found later -/
theorem with_val {p : Prop} (x : Value) (h : ∀ y, y = x → p) : p := h x rfl
/-- a frame is itself with what its slots hold put back -/
theorem put_more {a b : Act} (h : a = b) (i : Nat) : a = b.put (some i) (a.tmps.getD i undef) := by
  subst h
  obtain ⟨tmps, defers⟩ := a
  simp only [Act.put, Act.mk.injEq, and_true]
  apply Array.ext
  · simp
  · intro j h1 h2
    rw [Array.getElem_setIfInBounds h1]
    by_cases hij : i = j
    · subst hij
      simp [Array.getD, h1]
    · rw [if_neg hij]
end Go.Proofs.YtendoabjjfinhaaGreatDoor
