/- append of rows to a slice of the call's own, in the words of Mem. -/
import Derived.Test.YtkjommcmeinkaaaGreatDoorMem
import Derived.Maps.AppendAt
import Derived.Deep.AppendLies
import Derived.OwnWalk
namespace Go.Proofs.YtkjommcmeinkaaaGreatDoor
open Go.RowKit

theorem flat_of {xs : List (List Value)} {k : Nat} (hk : 0 < k) (h : ∀ x ∈ xs, x.length = k) {p : Nat} {u : Value} (hp : xs.flatten[p]? = some u) : ∃ i j x, p = i * k + j ∧ xs[i]? = some x ∧ x[j]? = some u := by
  have hlt : p < xs.length * k := by rw [← flat_length h]; exact (List.getElem?_eq_some_iff.1 hp).1
  have hd : p / k < xs.length := (Nat.div_lt_iff_lt_mul hk).2 hlt
  have hm : p % k < xs[p / k].length := by rw [h _ (List.getElem_mem hd)]; exact Nat.mod_lt _ hk
  have hg := flat_get h (p / k) (p % k) _ _ (List.getElem?_eq_getElem hd) (List.getElem?_eq_getElem hm)
  rw [show p / k * k + p % k = p from by rw [Nat.mul_comm]; exact Nat.div_add_mod p k] at hg
  rw [hg] at hp
  refine ⟨p / k, p % k, _, by rw [Nat.mul_comm]; exact (Nat.div_add_mod p k).symm, List.getElem?_eq_getElem hd, ?_⟩
  rw [List.getElem?_eq_getElem hm]
  exact hp

section
variable {P : Program} (w : World)
theorem run_append_of_nil (base : Nat) (t ty e : TypeId) (i : TypeInfo) (size : Nat) (ht : P.underlying t = some (.slice e)) (hi : P.info? e = some i)
    (v : Value) (n : Nat) (xs : List Value) (hown : w.ownsRow base e size v n xs) (c : Nat) : (Builtin.append_ #[t, t] ty #[v, .slice none 0 c]).run P w = .ok v w := by
  rcases hown.2 with ⟨rfl, rfl⟩ | ⟨g, cap, cur, rfl, _, _, hnc, _⟩
  · simp [Builtin.append_, run_underlying ht, sizeOf, typeInfo, hi, Builtin.lenOf, Builtin.firstCells]
  · simp [Builtin.append_, run_underlying ht, sizeOf, typeInfo, hi, Builtin.lenOf, Builtin.firstCells, hnc, storeCells]

theorem run_append_rows (base : Nat) (t ty e : TypeId) (i : TypeInfo) (z : Value) (k bytes : Nat) (ht : P.underlying t = some (.slice e)) (hi : P.info? e = some i) (hz : i.zero = some z)
    (hsize : i.size = k) (hby : i.bytes = bytes) (hzs : z.cells.size = k) (hk : 0 < k)
    (v : Value) (xs : List (List Value)) (hown : Own w base e k v xs)
    (B : Nat) (A : Option Addr) (m c : Nat) (ys : List (List Value)) (hm : ys.length = m) (hr : Sl w B k A ys) (h1 : ∀ y ∈ ys, ∀ u ∈ y, u.oneCell' = true)
    (h63 : xs.length + m ≤ maxLen) (hbytes : (xs.length + m) * bytes ≤ 140737488355328) (hbase : base ≤ w.heap.size) :
    ∃ v' w', (Builtin.append_ #[t, t] ty #[v, .slice A m c]).run P w = .ok v' w' ∧ Own w' base e k v' (xs ++ ys) ∧ w.grownBy w' v.ownBlock ∧ (v'.ownBlock = v.ownBlock ∨ v'.ownBlock = some w.heap.size) := by
  have hys : ∀ y ∈ ys, y.length = k := fun y hy => by obtain ⟨j, hj⟩ := List.mem_iff_getElem?.1 hy; exact (hr j y hj).1
  have hall : ∀ x ∈ xs ++ ys, x.length = k := fun x hx => by
    rcases List.mem_append.1 hx with h | h
    · exact hown.2 x h
    · exact hys x h
  rcases A with _ | ad
  · have hy : ys = [] := by
      cases ys with
      | nil => rfl
      | cons y r => obtain ⟨_, b, off, h, _⟩ := hr 0 y rfl; cases h
    subst hy
    obtain rfl : m = 0 := by simpa using hm.symm
    exact ⟨v, w, run_append_of_nil w base t ty e i k ht hi v _ _ hown.1 c, by rw [List.append_nil]; exact hown, World.grownBy.refl w _, .inl rfl⟩
  · have hcells : ∀ j u, ys.flatten[j]? = some u → w.cell? (ad.add j) = some u := by
      intro p u hp
      obtain ⟨i, j, x, rfl, hx, hu⟩ := flat_of hk hys hp
      obtain ⟨_, b, off, he, _, hc⟩ := hr i x hx
      obtain rfl : ad = ⟨b, off, none⟩ := by injection he
      have := hc j u hu
      rw [Nat.add_assoc] at this
      unfold Addr.add
      split
      · rename_i h0; rw [h0] at this; exact this
      · exact this
    obtain ⟨v', w', hrun, h2, h3, _, h5⟩ := run_append_own_at (P := P) w base t ty e i z k bytes ht hi hz hsize hby hzs hk v _ _ hown.1 ad m c ys.flatten (by rw [flat_length hys, hm]) hcells
      (fun u hu => by obtain ⟨y, hy, hu⟩ := List.mem_flatten.1 hu; exact h1 y hy u hu) h63 hbytes hbase
    refine ⟨v', w', hrun, ⟨?_, hall⟩, h3, h5⟩
    rw [List.length_append, List.flatten_append, hm]
    exact h2

theorem wp_append_rows {o : Oper} {a : Act} {K : Act → World → Prop} {Q : Exit → Act → World → Prop} (s x : Operand) (t : TypeId)
    (ho : o.op = .call { callee := .builtin .append, args := #[s, x], argTypes := #[t, t] })
    (base : Nat) (e : TypeId) (i : TypeInfo) (z : Value) (k bytes : Nat) (ht : P.underlying t = some (.slice e)) (hi : P.info? e = some i) (hz : i.zero = some z)
    (hsize : i.size = k) (hby : i.bytes = bytes) (hzs : z.cells.size = k) (hk : 0 < k)
    (v : Value) (xs : List (List Value)) (hs : a.eval s = v) (hown : Own w base e k v xs)
    (B : Nat) (A : Option Addr) (m c : Nat) (ys : List (List Value)) (hx : a.eval x = .slice A m c) (hm : ys.length = m) (hr : Sl w B k A ys) (h1 : ∀ y ∈ ys, ∀ u ∈ y, u.oneCell' = true)
    (h63 : xs.length + m ≤ maxLen) (hbytes : (xs.length + m) * bytes ≤ 140737488355328) (hbase : base ≤ w.heap.size)
    (h : ∀ v' w', Own w' base e k v' (xs ++ ys) → w.grownBy w' v.ownBlock → (v'.ownBlock = v.ownBlock ∨ v'.ownBlock = some w.heap.size) → K (a.put o.dst v') w') : o.wp P a w K Q := by
  obtain ⟨v', w', hrun, h2, h3, h4⟩ := run_append_rows (P := P) w base t o.type e i z k bytes ht hi hz hsize hby hzs hk v xs hown B A m c ys hm hr h1 h63 hbytes hbase
  unfold Oper.wp execOp
  simp only [ho, resolve, invoke, builtin, Sem.run_bind, Sem.run_pure, Result.andThen_ok, List.map_toArray, List.map_cons, List.map_nil, hs, hx, hrun]
  exact h v' w' h2 h3 h4

theorem wpList_append_rows {ops : Array Oper} {rest : List Oper} {o : Oper} {a : Act} {Q : Exit → Act → World → Prop} (hgd : o.guard = none) (s x : Operand) (t : TypeId)
    (ho : o.op = .call { callee := .builtin .append, args := #[s, x], argTypes := #[t, t] })
    (base : Nat) (e : TypeId) (i : TypeInfo) (z : Value) (k bytes : Nat) (ht : P.underlying t = some (.slice e)) (hi : P.info? e = some i) (hz : i.zero = some z)
    (hsize : i.size = k) (hby : i.bytes = bytes) (hzs : z.cells.size = k) (hk : 0 < k)
    (v : Value) (xs : List (List Value)) (hs : a.eval s = v) (hown : Own w base e k v xs)
    (B : Nat) (A : Option Addr) (m c : Nat) (ys : List (List Value)) (hx : a.eval x = .slice A m c) (hm : ys.length = m) (hr : Sl w B k A ys) (h1 : ∀ y ∈ ys, ∀ u ∈ y, u.oneCell' = true)
    (h63 : xs.length + m ≤ maxLen) (hbytes : (xs.length + m) * bytes ≤ 140737488355328) (hbase : base ≤ w.heap.size)
    (h : ∀ v' w', Own w' base e k v' (xs ++ ys) → w.grownBy w' v.ownBlock → (v'.ownBlock = v.ownBlock ∨ v'.ownBlock = some w.heap.size) → wpList P ops Q rest (a.put o.dst v') w') : wpList P ops Q (o :: rest) a w :=
  wpList_plain hgd fun _ hK => wp_append_rows w s x t ho base e i z k bytes ht hi hz hsize hby hzs hk v xs hs hown B A m c ys hx hm hr h1 h63 hbytes hbase fun v' w' h2 h3 h4 => hK _ _ (h v' w' h2 h3 h4)
/-- the same at a step of a region that draws its order -/
theorem step_append_rows {ops : Array Oper} {o : Oper} {a : Act} {K : Act → World → Prop} {Q : Exit → Act → World → Prop} {E : Prop} (hgd : o.guard = none) (s x : Operand) (t : TypeId)
    (ho : o.op = .call { callee := .builtin .append, args := #[s, x], argTypes := #[t, t] })
    (base : Nat) (e : TypeId) (i : TypeInfo) (z : Value) (k bytes : Nat) (ht : P.underlying t = some (.slice e)) (hi : P.info? e = some i) (hz : i.zero = some z)
    (hsize : i.size = k) (hby : i.bytes = bytes) (hzs : z.cells.size = k) (hk : 0 < k)
    (v : Value) (xs : List (List Value)) (hs : a.eval s = v) (hown : Own w base e k v xs)
    (B : Nat) (A : Option Addr) (m c : Nat) (ys : List (List Value)) (hx : a.eval x = .slice A m c) (hm : ys.length = m) (hr : Sl w B k A ys) (h1 : ∀ y ∈ ys, ∀ u ∈ y, u.oneCell' = true)
    (h63 : xs.length + m ≤ maxLen) (hbytes : (xs.length + m) * bytes ≤ 140737488355328) (hbase : base ≤ w.heap.size)
    (h : ∀ v' w', Own w' base e k v' (xs ++ ys) → w.grownBy w' v.ownBlock → (v'.ownBlock = v.ownBlock ∨ v'.ownBlock = some w.heap.size) → K (a.put o.dst v') w') :
    if Region.wanted o (yielded ops a.tmps) = true then Oper.wp P o a w K Q else E := by
  have hw : Region.wanted o (yielded ops a.tmps) = true := by simp [Region.wanted, hgd]
  rw [if_pos hw]
  exact wp_append_rows w s x t ho base e i z k bytes ht hi hz hsize hby hzs hk v xs hs hown B A m c ys hx hm hr h1 h63 hbytes hbase h
end

/-- an empty row that was just made: 'T{}' of length nought -/
theorem Own.empty {w : World} {base : Nat} {e : TypeId} {k : Nat} (hb : base ≤ w.heap.size) : Own (w.alloc (.cells #[] e)) base e k (.slice (some ⟨w.heap.size, 0, none⟩) 0 0) [] := by
  refine ⟨?_, by simp⟩
  have := World.ownsRow_lit (base := base) (e := e) (size := k) w #[] 0 hb (Nat.zero_le _) (by simp)
  simpa using this
theorem below_app {B : Nat} {a w w' : World} {v : Value} (h : Below B a w) (hg : w.grownBy w' v.ownBlock) (hB : B ≤ w.heap.size) (hr : ∀ g, v.ownBlock = some g → B ≤ g) : Below B a w' := h.grown hg hB hr
theorem Own.ownGe {w : World} {base : Nat} {e : TypeId} {k : Nat} {v : Value} {xs : List (List Value)} (h : Own w base e k v xs) : ∀ g, v.ownBlock = some g → base ≤ g := fun g hg => (h.1.lt g hg).1
theorem Own.kept {w w' : World} {base : Nat} {e : TypeId} {k : Nat} {v : Value} {xs : List (List Value)} {row : Option Nat} (h : Own w base e k v xs) (hg : w.grownBy w' row) (hne : v.ownBlock = none ∨ v.ownBlock ≠ row) : Own w' base e k v xs := ⟨h.1.kept hg hne, h.2⟩
theorem Sl.grown {w w' : World} {B k : Nat} {A : Option Addr} {xs : List (List Value)} {row : Option Nat} (h : Sl w B k A xs) (hg : w.grownBy w' row) (hB : B ≤ w.heap.size) (hr : ∀ g, row = some g → B ≤ g) : Sl w' B k A xs :=
  h.keep fun p hp => World.cell?_of_block (hg.block p.block (by omega) (fun e => by have := hr _ e.symm; omega))
/-- two slices of the call's own, the second made later: their blocks differ -/
theorem own_apart {w w' : World} {base base' : Nat} {e e' : TypeId} {k k' : Nat} {v v' : Value} {xs xs' : List (List Value)} (h : Own w base e k v xs) (h' : Own w' base' e' k' v' xs') (hb : w.heap.size ≤ base' := by omega) :
    v.ownBlock = none ∨ v.ownBlock ≠ v'.ownBlock := by
  cases hv : v.ownBlock with
  | none => exact .inl rfl
  | some g =>
    refine .inr fun e => ?_
    have h1 := (h.1.lt g hv).2
    have h2 := (h'.1.lt g e.symm).1
    omega
theorem own_apart' {w w' : World} {base base' : Nat} {e e' : TypeId} {k k' : Nat} {v v' : Value} {xs xs' : List (List Value)} (h : Own w base e k v xs) (h' : Own w' base' e' k' v' xs') (hb : w.heap.size ≤ base' := by omega) :
    v'.ownBlock = none ∨ v'.ownBlock ≠ v.ownBlock := by
  cases hv : v'.ownBlock with
  | none => exact .inl rfl
  | some g =>
    refine .inr fun e => ?_
    have h1 := (h.1.lt g e.symm).2
    have h2 := (h'.1.lt g hv).1
    omega
theorem Own.le_cap {w : World} {base : Nat} {e : TypeId} {k n c : Nat} {A : Option Addr} {xs : List (List Value)} (h : Own w base e k (.slice A n c) xs) : n ≤ c := by
  obtain ⟨_, _, he, hf⟩ := h.form
  simp only [Value.slice.injEq] at he
  omega
/-- a call's result: a new slice with the rows, and a code -/
def PostRows (t : TypeId) (k n : Nat) (rows : List (List Value)) (code : Int) (w : World) (e : Ending) (w' : World) : Prop :=
  ∃ A' c', e = .returned (.tuple #[.slice A' n c', .int .i64 code]) ∧ Own w' w.heap.size t k (.slice A' n c') rows ∧ Below w.heap.size w w'
end Go.Proofs.YtkjommcmeinkaaaGreatDoor
