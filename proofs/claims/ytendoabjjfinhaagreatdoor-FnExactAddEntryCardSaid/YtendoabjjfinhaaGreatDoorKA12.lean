/- AddEntry in plain words; lists of entries that a call made. No condition of their own. A literal of one struct whose cells stand behind a name; what a region holds that clones a list and lays an entry on. No condition of their own. Lists of entries that a call made: what marks elsewhere leave as it was; marks on such a list. Conditions: the lists' lengths. AddEntry, the program's. Conditions: the lengths. A part of a row of the call's own stored anew; what the reference's AddEntry holds on its way. No condition of their own. AddEntry, the reference's. Conditions: the lengths. -/
import Derived.Great.FillDense
import Derived.Great.Walk
import Derived.Deep.RegionHeld3
import Derived.Test.YtendoabjjfinhaaGreatDoorKA1
import Derived.Test.YtendoabjjfinhaaGreatDoorKA10
import Derived.Test.YtendoabjjfinhaaGreatDoorKA11
import Derived.Test.YtendoabjjfinhaaGreatDoorKA9
set_option linter.unusedSimpArgs false
namespace Go.Proofs.YtendoabjjfinhaaGreatDoor
open Go.RowKit
def addC (l : List En) (e : En) : Int := if catB l = true then (if (decide (l.length = 12) || !entB l e) = true then 5 else 0) else 1
def addR (l : List En) (e : En) : List En := if addC l e = 0 then l ++ [e] else []
theorem entAt_snoc {l : List En} {e : En} {k : Nat} (hk : k < l.length) : entAt (l ++ [e]) k = entAt l k := by
  unfold entAt
  rw [List.getElem?_append_left hk, List.take_append_of_le_length (by omega)]
theorem catTo_snoc (l : List En) (e : En) : ∀ k : Nat, k ≤ l.length → catTo (l ++ [e]) k = catTo l k
  | 0, _ => rfl
  | k + 1, hk => by rw [catTo_succ, catTo_succ, catTo_snoc l e k (by omega), entAt_snoc (by omega)]
theorem catB_snoc {l : List En} (e : En) (h : catB l = true) : catB (l ++ [e]) = !(decide (l.length = 12) || !entB l e) := by
  have hl := catB_len h
  unfold catB at h ⊢
  simp only [Bool.and_eq_true] at h
  have h1 : (l ++ [e]).length = l.length + 1 := by simp
  rw [h1, catTo_succ, catTo_snoc l e _ (Nat.le_refl _), h.1, Bool.true_and, entAt_get (by simp)]
  rw [List.take_append_of_le_length (Nat.le_refl _), List.take_length]
  have h2 : (l ++ [e])[l.length]'(by simp) = e := by simp
  rw [h2]
  have h3 : decide (l.length + 1 ≤ 12) = !decide (l.length = 12) := by
    by_cases hh : l.length = 12
    · simp [hh]
    · have : l.length + 1 ≤ 12 := by omega
      simp [hh, this]
  rw [h3]
  cases entB l e <;> cases decide (l.length = 12) <;> rfl
/-- a list of entries that a call made, with what it owns -/
def EnsOwn (L : List En) (v : Value) (w' : World) (base : Nat) : Prop := ∃ A' c' fs, v = .slice A' L.length c' ∧ ens fs = L ∧ EnsIn w' A' fs ∧ Own w' base 48 20 (.slice A' L.length c') (fs.map EnR.cells) ∧
  (∀ f ∈ fs, Own w' base 2 1 f.sl (f.e.r.l.map ic) ∧ ∀ g, A' = some ⟨g, 0, none⟩ → OffE f.A g) ∧ fs.Pairwise EnR.apart
theorem EnsOwn.nil (w' : World) (base : Nat) : EnsOwn [] (.slice none 0 0) w' base :=
  ⟨none, 0, [], rfl, rfl, ⟨by simp, by simpa using Sl.nil_, by simp⟩, Own.nil_, by simp, List.Pairwise.nil⟩
def PostEns (L : List En) (code : Int) (w : World) (e : Ending) (w' : World) : Prop := ∃ v, e = .returned (.tuple #[v, .int .i64 code]) ∧ EnsOwn L v w' w.heap.size ∧ Below w.heap.size w w'
theorem off_of_ne {w : World} {base : Nat} {e : TypeId} {k n c g : Nat} {A : Option Addr} {xs : List (List Value)} (h : Own w base e k (.slice A n c) xs) (hn : (Value.slice A n c).ownBlock ≠ some g) : OffE A g := fun b off hA hb => by
  subst hA hb
  exact hn rfl
/-- while entries are laid on, each in new memory -/
structure AdL (w : World) (L : List En) (k : Nat) (fs : List EnR) (V : Value) (wr : World) : Prop where
  hb : Below w.heap.size w wr
  fk : fs.length = k
  o : Own wr w.heap.size 48 20 V (fs.map EnR.cells)
  i : ∀ f ∈ fs, f.In wr ∧ ∀ b, f.sl.ownBlock = some b → V.ownBlock ≠ some b
  p : ∀ f ∈ fs, Own wr w.heap.size 2 1 f.sl (f.e.r.l.map ic)
  d : fs.Pairwise EnR.apart
  s : ens fs = L.take k
section
variable {w wr w2 : World} {L : List En} {k : Nat} {fs : List EnR} {V V' : Value}
theorem AdL.below (h : AdL w L k fs V wr) (hb : Below wr.heap.size wr w2) : AdL w L k fs V w2 :=
  ⟨h.hb.trans (hb.mono h.hb.size), h.fk, h.o.below hb, fun f hf => ⟨EnIn.later (h.i f hf).1 hb, (h.i f hf).2⟩, fun f hf => (h.p f hf).below hb, h.d, h.s⟩
/-- a store into a block that is neither the list's nor one of its entries' -/
theorem AdL.grown (h : AdL w L k fs V wr) {g : Nat} (hg : wr.grownBy w2 (some g)) (hgl : w.heap.size ≤ g) (hV : V.ownBlock ≠ some g) (hf : ∀ f ∈ fs, f.sl.ownBlock ≠ some g) : AdL w L k fs V w2 := by
  refine ⟨h.hb.grown hg h.hb.size (fun b e => by simp only [Option.some.injEq] at e; omega), h.fk, h.o.kept hg (.inr hV), fun f hf' => ⟨?_, (h.i f hf').2⟩, fun f hf' => (h.p f hf').kept hg (.inr (hf f hf')), h.d, h.s⟩
  have hp := (h.p f hf').kept hg (.inr (hf f hf'))
  exact ⟨(h.i f hf').1.t, (h.i f hf').1.r.h, (h.i f hf').1.r.hn, hp.sl⟩
theorem AdL.app (h : AdL w L k fs V wr) {f : EnR} (hk : k < L.length) (hf : f.e = L[k]) (hi : f.In wr) (hp : Own wr w.heap.size 2 1 f.sl (f.e.r.l.map ic)) (hV : ∀ b, f.sl.ownBlock = some b → V.ownBlock ≠ some b) (hap : ∀ x ∈ fs, EnR.apart x f)
    (hg : wr.grownBy w2 V.ownBlock) (h2 : Own w2 w.heap.size 48 20 V' (fs.map EnR.cells ++ [f.cells])) (hat : V'.ownBlock = V.ownBlock ∨ V'.ownBlock = some wr.heap.size) : AdL w L (k + 1) (fs ++ [f]) V' w2 := by
  have hne : ∀ x ∈ fs ++ [f], ∀ b, x.sl.ownBlock = some b → V.ownBlock ≠ some b := fun x hx => by
    rcases List.mem_append.1 hx with hx | hx
    · exact (h.i x hx).2
    · obtain rfl : x = f := by simpa using hx
      exact hV
  have hpw : ∀ x ∈ fs ++ [f], Own wr w.heap.size 2 1 x.sl (x.e.r.l.map ic) := fun x hx => by
    rcases List.mem_append.1 hx with hx | hx
    · exact h.p x hx
    · obtain rfl : x = f := by simpa using hx
      exact hp
  have hin : ∀ x ∈ fs ++ [f], x.In wr := fun x hx => by
    rcases List.mem_append.1 hx with hx | hx
    · exact (h.i x hx).1
    · obtain rfl : x = f := by simpa using hx
      exact hi
  have hp2 : ∀ x ∈ fs ++ [f], Own w2 w.heap.size 2 1 x.sl (x.e.r.l.map ic) := fun x hx => (hpw x hx).kept hg (by
    cases hb : x.sl.ownBlock with
    | none => exact .inl rfl
    | some b => exact .inr (fun e => hne x hx b hb e.symm))
  refine ⟨below_app h.hb hg h.hb.size h.o.ownGe, by simp [h.fk], by rw [List.map_append]; exact h2, fun x hx => ⟨?_, fun b hb => ?_⟩, hp2, ?_, ?_⟩
  · exact ⟨(hin x hx).t, (hin x hx).r.h, (hin x hx).r.hn, (hp2 x hx).sl⟩
  · rcases hat with e | e
    · rw [e]; exact hne x hx b hb
    · rw [e]
      intro e2
      have h3 := ((hpw x hx).1.lt b hb).2
      simp only [Option.some.injEq] at e2
      omega
  · rw [List.pairwise_append]
    refine ⟨h.d, List.pairwise_singleton _ _, fun x hx y hy => ?_⟩
    obtain rfl : y = f := by simpa using hy
    exact hap x hx
  · rw [List.take_succ_eq_append_getElem hk, ← h.s]
    simp [ens, hf]
theorem AdL.done (h : AdL w L L.length fs V wr) (hl : L.length ≤ 1048576) : EnsOwn L V wr w.heap.size := by
  obtain ⟨A, c, rfl, _⟩ := h.o.form
  have hn : (fs.map EnR.cells).length = L.length := by rw [List.length_map, h.fk]
  rw [hn]
  have ho := h.o
  rw [hn] at ho
  refine ⟨A, c, fs, rfl, by rw [h.s, List.take_length], ⟨by rw [h.fk]; exact hl, ho.sl, fun f hf => (h.i f hf).1⟩, ho, fun f hf => ⟨h.p f hf, fun g hg => ?_⟩, h.d⟩
  subst hg
  refine off_of_ne (h.p f hf) (fun e => (h.i f hf).2 g e ?_)
  rfl
end
end Go.Proofs.YtendoabjjfinhaaGreatDoor
namespace Go.Proofs.YtendoabjjfinhaaGreatDoor
open Go.RowKit
theorem Own.lit1 {w : World} {base : Nat} {e : TypeId} {k : Nat} {cs : List Value} (hb : base ≤ w.heap.size) (hk : cs.length = k) : Own (w.alloc (.cells cs.toArray e)) base e k (.slice (some ⟨w.heap.size, 0, none⟩) 1 1) [cs] := by
  refine ⟨?_, by simpa using hk⟩
  have := World.ownsRow_lit (base := base) (e := e) (size := k) w cs.toArray 1 hb (by simp [maxLen]) (by simp [hk])
  simpa using this
theorem wp_build_one {P : Program} {o : Oper} {a : Act} {w : World} {K : Act → World → Prop} {Q : Exit → Act → World → Prop} (t e : TypeId) (x : Operand) (ho : o.op = .buildSlice t 1 #[(0, x)])
    (cs : List Value) (k : Nat) (hk : cs.length = k) (h0 : 0 < k) (hsm : k ≤ 2 ^ 24) (hx : a.eval x = .agg cs.toArray) (ie : TypeInfo) (z : Value)
    (hu : P.underlying t = some (.slice e)) (hie : P.info? e = some ie) (hz : ie.zero = some z) (hsize : ie.size = k)
    (h : K (a.put o.dst (.slice (some ⟨w.heap.size, 0, none⟩) 1 1)) (w.alloc (.cells cs.toArray e))) : o.wp P a w K Q := by
  refine wp_buildSlice t e 1 _ ho cs.toArray ie z hu hie hz (by rw [hsize]; omega) (by rw [hsize]; omega) ?_ h
  have hcs : (Value.agg cs.toArray).cells = cs.toArray := rfl
  have hf := Great.fill_whole (s := k) h0 [Value.agg cs.toArray] ((Array.range (1 * ie.size)).map (z.cells[· % z.cells.size]!)) (by intro v hv; obtain rfl : v = Value.agg cs.toArray := (by simpa using hv); rw [hcs]; simpa using hk) (by simp [hsize])
  rw [hsize] at hf ⊢
  simpa [hx, hcs] using hf
theorem wpList_build_one {P : Program} {ops : Array Oper} {rest : List Oper} {o : Oper} {a : Act} {w : World} {Q : Exit → Act → World → Prop} (hg : o.guard = none) (t e : TypeId) (x : Operand) (ho : o.op = .buildSlice t 1 #[(0, x)])
    (cs : List Value) (k : Nat) (hk : cs.length = k) (h0 : 0 < k) (hsm : k ≤ 2 ^ 24) (hx : a.eval x = .agg cs.toArray) (ie : TypeInfo) (z : Value)
    (hu : P.underlying t = some (.slice e)) (hie : P.info? e = some ie) (hz : ie.zero = some z) (hsize : ie.size = k)
    (h : wpList P ops Q rest (a.put o.dst (.slice (some ⟨w.heap.size, 0, none⟩) 1 1)) (w.alloc (.cells cs.toArray e))) : wpList P ops Q (o :: rest) a w :=
  wpList_plain hg fun _ hK => wp_build_one t e x ho cs k hk h0 hsm hx ie z hu hie hz hsize (hK _ _ h)
/-- a region that draws its order: the list's copy, an entry's literal, the two laid together -/
structure AdS (W0 : World) (n : Nat) (L : List (List Value)) (cs : List Value) (b1 b3 b4 : Bool) (x1 x3 x4 : Value) (v : World) : Prop where
  hb : Below W0.heap.size W0 v
  q1 : b1 = true → b4 = false → ∃ B d, x1 = .slice B n d ∧ Own v W0.heap.size 48 20 x1 L
  q3 : b3 = true → b4 = false → ∃ g, x3 = .slice (some ⟨g, 0, none⟩) 1 1 ∧ Own v W0.heap.size 48 20 x3 [cs]
  q4 : b4 = true → (b1 = true ∧ b3 = true) ∧ ∃ B d, x4 = .slice B (n + 1) d ∧ Own v W0.heap.size 48 20 x4 (L ++ [cs])
theorem addC_cases {l : List En} {e : En} : (catB l = false → addC l e = 1 ∧ addR l e = []) ∧ (catB l = true → (l.length = 12 ∨ entB l e = false) → addC l e = 5 ∧ addR l e = []) ∧ (catB l = true → l.length ≠ 12 → entB l e = true → addC l e = 0 ∧ addR l e = l ++ [e]) := by
  refine ⟨fun h => ?_, fun h h2 => ?_, fun h h2 h3 => ?_⟩
  · have : addC l e = 1 := by unfold addC; rw [h]; rfl
    exact ⟨this, by unfold addR; rw [this]; rfl⟩
  · have : addC l e = 5 := by
      unfold addC
      rw [h, if_pos rfl, if_pos]
      rcases h2 with h2 | h2 <;> simp [h2]
    exact ⟨this, by unfold addR; rw [this]; rfl⟩
  · have : addC l e = 0 := by
      unfold addC
      rw [h, if_pos rfl, if_neg]
      simp [h2, h3]
    exact ⟨this, by unfold addR; rw [this]; rfl⟩
end Go.Proofs.YtendoabjjfinhaaGreatDoor
namespace Go.Proofs.YtendoabjjfinhaaGreatDoor
open Go.RowKit
/-- a list of entries that a call made, all its memory between lo and hi -/
structure EnO (L : List En) (A : Option Addr) (c : Nat) (fs : List EnR) (lo hi : Nat) (w : World) : Prop where
  s : ens fs = L
  e : EnsIn w A fs
  o : Own w lo 48 20 (.slice A L.length c) (fs.map EnR.cells)
  p : ∀ f ∈ fs, Own w lo 2 1 f.sl (f.e.r.l.map ic) ∧ ∀ g, A = some ⟨g, 0, none⟩ → OffE f.A g
  d : fs.Pairwise EnR.apart
  h : ∀ x, (Value.slice A L.length c).ownBlock = some x → x < hi
  k : ∀ f ∈ fs, ∀ x, f.sl.ownBlock = some x → x < hi
section
variable {L : List En} {A : Option Addr} {c : Nat} {fs : List EnR} {lo hi : Nat} {w w2 : World} {v : Value}
theorem EnsOwn.eno (h : EnsOwn L v w lo) : ∃ A c fs, v = .slice A L.length c ∧ EnO L A c fs lo w.heap.size w := by
  obtain ⟨A, c, fs, rfl, h2, h3, h4, h5, h6⟩ := h
  exact ⟨A, c, fs, rfl, h2, h3, h4, h5, h6, own_lt' h4, fun f hf => own_lt' (h5 f hf).1⟩
theorem EnO.len (h : EnO L A c fs lo hi w) : fs.length = L.length := by rw [← h.s, ens_len]
theorem EnO.below (h : EnO L A c fs lo hi w) (hb : Below w.heap.size w w2) : EnO L A c fs lo hi w2 :=
  ⟨h.s, h.e.later hb, h.o.below hb, fun f hf => ⟨(h.p f hf).1.below hb, (h.p f hf).2⟩, h.d, h.h, h.k⟩
theorem EnO.up {hi2 : Nat} (h : EnO L A c fs lo hi w) (h2 : hi ≤ hi2) : EnO L A c fs lo hi2 w :=
  ⟨h.s, h.e, h.o, h.p, h.d, fun x hx => Nat.lt_of_lt_of_le (h.h x hx) h2, fun f hf x hx => Nat.lt_of_lt_of_le (h.k f hf x hx) h2⟩
theorem EnO.kb {bad : Nat → Prop} (h : EnO L A c fs lo hi w) (hk : Kb bad w w2) (hn : ∀ x, lo ≤ x → x < hi → ¬ bad x) : EnO L A c fs lo hi w2 := by
  have ho := h.o.kb hk (fun x hx => hn x (h.o.ownGe x hx) (h.h x hx))
  have hp : ∀ f ∈ fs, Own w2 lo 2 1 f.sl (f.e.r.l.map ic) := fun f hf => (h.p f hf).1.kb hk (fun x hx => hn x ((h.p f hf).1.ownGe x hx) (h.k f hf x hx))
  exact ⟨h.s, ⟨h.e.n, ho.sl, fun f hf => ⟨(h.e.i f hf).t, (h.e.i f hf).r.h, (h.e.i f hf).r.hn, (hp f hf).sl⟩⟩, ho, fun f hf => ⟨hp f hf, (h.p f hf).2⟩, h.d, h.h, h.k⟩
end
/-- a list of entries marked: what it holds is forgotten -/
theorem EnO.mark {L : List En} {A : Option Addr} {c : Nat} {fs : List EnR} {lo hi : Nat} {w0 : World} (h : EnO L A c fs lo hi w0) (w : World) (m : Int) (hm : 0 ≤ m ∧ m ≤ 1000000000) (hh : w0.heap.size ≤ hi) (hb : Below w0.heap.size w0 w) :
    Calls Tryz.prog 14 #[.slice A L.length c, .int .i64 m] w fun e w' => ∃ n : Int, e = .returned (.int .i64 n) ∧ (0 ≤ n ∧ n ≤ m + L.length * 1048596) ∧ Kb (Nb lo hi) w w' := by
  have ho := h.o
  have hl := h.len
  rw [← hl] at ho ⊢
  exact markEnSb_c A c fs lo hi m w0 w hm h.e ho h.p h.d hh hb
theorem EnO.markX {L : List En} {A : Option Addr} {c : Nat} {fs : List EnR} {lo hi : Nat} {w : World} (h : EnO L A c fs lo hi w) (m : Int) (hm : 0 ≤ m ∧ m ≤ 1000) (hL : L.length ≤ 900) (hh : w.heap.size ≤ hi) :
    Calls Tryz.prog 14 #[.slice A L.length c, .int .i64 m] w fun e w' => e = .returned (.int .i64 (nTo m fs L.length)) ∧ Kb (Nb lo hi) w w' ∧ (∀ W2, Below w'.heap.size w' W2 → Calls Tryz.prog 16 #[.slice A L.length c, .int .i64 m] W2 fun e w' => e = .returned (.int .i64 (nTo m fs L.length)) ∧ Below W2.heap.size W2 w') := by
  have ho := h.o
  have hl := h.len
  rw [← hl] at ho hL ⊢
  exact markEnX_c A c fs lo hi m w w hm hL h.e ho h.p h.d hh (Below.refl _ _)
theorem EnO.nto {L : List En} {A : Option Addr} {c : Nat} {fs : List EnR} {lo hi : Nat} {w : World} (h : EnO L A c fs lo hi w) : ¬ nTo 1 fs L.length < 0 := by
  have hl := h.len
  have := nTo_le (fs := fs) 1 (fun f hf => (h.e.i f hf).r.h) fs.length (Nat.le_refl _)
  rw [hl] at this
  omega
theorem EnO.eq {L : List En} {A A' : Option Addr} {c c' : Nat} {fs fs' : List EnR} {lo hi lo' hi' : Nat} {w : World} (h : EnO L A c fs lo hi w) (h' : EnO L A' c' fs' lo' hi' w) :
    Calls Tryz.prog 12 #[.slice A L.length c, .slice A' L.length c'] w fun e w' => e = .returned (.bool true) ∧ Below w.heap.size w w' := by
  have h1 := h.len
  have h2 := h'.len
  have h3 := eqEnS_c A A' c c' fs fs' w h.e h'.e (by rw [h.s, h'.s])
  rwa [h1, h2] at h3
theorem toEnO_c (A : Option Addr) (c : Nat) (es : List EnR) (w : World) (E : EnsIn w A es) :
    Calls Tryz.prog 9 #[.slice A es.length c] w fun e w' => ∃ A2 c2 fs, e = .returned (.slice A2 es.length c2) ∧ es.length ≤ c2 ∧ EnO (ens es) A2 c2 fs w.heap.size w'.heap.size w' ∧ Below w.heap.size w w' := by
  refine (toEnSO_c A c es w E).mono ?_
  rintro e w' ⟨⟨v, rfl, A2, c2, fs, rfl, h2, h3, h4, h5, h6, h7, h8⟩, hb⟩
  have hl := ens_len es
  refine ⟨A2, c2, fs, rfl, h4, ⟨h3, h5, by rw [hl]; exact h6, h7, h8, own_lt' (by rw [hl]; exact h6), fun f hf => own_lt' (h7 f hf).1⟩, hb⟩
theorem addR_len (l : List En) (e : En) : (addR l e).length ≤ 13 := by
  have h := addC_cases (l := l) (e := e)
  cases hb : catB l with
  | false => rw [(h.1 hb).2]; simp
  | true =>
    have h12 := catB_len hb
    by_cases h2 : l.length = 12 ∨ entB l e = false
    · rw [(h.2.1 hb h2).2]; simp
    · have h3 : l.length ≠ 12 := fun e => h2 (.inl e)
      have h4 : entB l e = true := by
        cases h5 : entB l e with
        | false => exact absurd (.inr h5) h2
        | true => rfl
      rw [(h.2.2 hb h3 h4).2]
      simp; omega
/-- while 'w0, w1 := F(toEntryS(aList), toEntry(aE))' runs -/
structure AeS (W0 : World) (L : List En) (b : En) (R : List En) (b1 b3 b4 b5 b6 b8 : Bool) (x : (Option Addr × Nat × List EnR) × (Option Addr × Nat) × (Option Addr × Nat × List EnR)) (v : World) : Prop where
  hb : Below W0.heap.size W0 v
  q1 : b1 = true → (EnsIn v x.1.1 x.1.2.2 ∧ ens x.1.2.2 = L ∧ L.length ≤ x.1.2.1)
  q3 : b3 = true → EnIn v x.2.1.1 x.2.1.2 b
  q4 : b4 = true → EnO R x.2.2.1 x.2.2.2.1 x.2.2.2.2 W0.heap.size v.heap.size v
  k5 : b5 = true → b4 = true
  k6 : b6 = true → b5 = true
  k8 : b8 = true → b6 = true
section
variable {W0 v v' : World} {L R : List En} {b : En} {b1 b3 b4 b5 b6 b8 : Bool} {x : (Option Addr × Nat × List EnR) × (Option Addr × Nat) × (Option Addr × Nat × List EnR)}
theorem AeS.init : AeS W0 L b R false false false false false false x W0.drew := ⟨(Below.refl _ _).drew, nofun, nofun, nofun, nofun, nofun, nofun⟩
theorem AeS.c1 {B : Option Addr} {d : Nat} {fs : List EnR} {lo hi : Nat} (h : AeS W0 L b R b1 b3 b4 b5 b6 b8 x v) (hb : Below v.heap.size v v') (E : EnO L B d fs lo hi v') (hd : L.length ≤ d) : AeS W0 L b R true b3 b4 b5 b6 b8 ((B, d, fs), x.2) v' :=
  ⟨h.hb.trans (hb.mono h.hb.size), fun _ => ⟨E.e, E.s, hd⟩, fun e => (h.q3 e).later hb, fun e => ((h.q4 e).below hb).up hb.size, h.k5, h.k6, h.k8⟩
theorem AeS.c3 {B : Option Addr} {d : Nat} (h : AeS W0 L b R b1 b3 b4 b5 b6 b8 x v) (hb : Below v.heap.size v v') (E : EnIn v' B d b) : AeS W0 L b R b1 true b4 b5 b6 b8 (x.1, (B, d), x.2.2) v' :=
  ⟨h.hb.trans (hb.mono h.hb.size), fun e => ⟨(h.q1 e).1.later hb, (h.q1 e).2⟩, fun _ => E, fun e => ((h.q4 e).below hb).up hb.size, h.k5, h.k6, h.k8⟩
theorem EnO.mono {A : Option Addr} {c : Nat} {fs : List EnR} {lo lo' hi : Nat} {w : World} (h : EnO L A c fs lo hi w) (hl : lo' ≤ lo) : EnO L A c fs lo' hi w :=
  ⟨h.s, h.e, h.o.mono hl, fun f hf => ⟨(h.p f hf).1.mono hl, (h.p f hf).2⟩, h.d, h.h, h.k⟩
theorem AeS.c4 {B : Option Addr} {d : Nat} {fs : List EnR} (h : AeS W0 L b R b1 b3 b4 b5 b6 b8 x v) (hb : Below v.heap.size v v') (o : EnO R B d fs v.heap.size v'.heap.size v') : AeS W0 L b R b1 b3 true b5 b6 b8 (x.1, x.2.1, (B, d, fs)) v' :=
  ⟨h.hb.trans (hb.mono h.hb.size), fun e => ⟨(h.q1 e).1.later hb, (h.q1 e).2⟩, fun e => (h.q3 e).later hb, fun _ => o.mono h.hb.size, fun _ => rfl, h.k6, h.k8⟩
theorem AeS.s5 (h : AeS W0 L b R b1 b3 b4 b5 b6 b8 x v) (e : b4 = true) : AeS W0 L b R b1 b3 b4 true b6 b8 x v := ⟨h.hb, h.q1, h.q3, h.q4, fun _ => e, fun _ => rfl, h.k8⟩
theorem AeS.s6 (h : AeS W0 L b R b1 b3 b4 b5 b6 b8 x v) (e : b5 = true) : AeS W0 L b R b1 b3 b4 b5 true b8 x v := ⟨h.hb, h.q1, h.q3, h.q4, h.k5, fun _ => e, fun _ => rfl⟩
theorem AeS.s8 (h : AeS W0 L b R b1 b3 b4 b5 b6 b8 x v) (e : b6 = true) : AeS W0 L b R b1 b3 b4 b5 b6 true x v := ⟨h.hb, h.q1, h.q3, h.q4, h.k5, h.k6, fun _ => e⟩
theorem AeS.no (h : AeS W0 L b R b1 b3 b4 b5 b6 b8 x v) (e : b4 = false) : b5 = false ∧ b6 = false ∧ b8 = false := by
  have h5 : b5 = false := by cases hb : b5 with
    | false => rfl
    | true => have := h.k5 hb; rw [e] at this; cases this
  have h6 : b6 = false := by cases hb : b6 with
    | false => rfl
    | true => have := h.k6 hb; rw [h5] at this; cases this
  exact ⟨h5, h6, by cases hb : b8 with
    | false => rfl
    | true => have := h.k8 hb; rw [h6] at this; cases this⟩
end
end Go.Proofs.YtendoabjjfinhaaGreatDoor
namespace Go.Proofs.YtendoabjjfinhaaGreatDoor
open Go.RowKit
set_option maxRecDepth 100000 in
set_option maxHeartbeats 8000000 in
theorem implAddEntry_c (A : Option Addr) (c : Nat) (es : List EnR) (e : En) (B : Option Addr) (d : Nat) (w : World) (E : EnsIn w A es) (hc : es.length ≤ c) (X : EnIn w B d e) :
    Calls Tryz.prog 11 #[.slice A es.length c, .agg (e.cells B d).toArray] w (PostEns (addR (ens es) e) (addC (ens es) e) w) := by
  have hl := E.n
  have hlen := ens_len es
  have hs := Lib.hid E.s
  have hc' : Hid (es.length ≤ c) := hc
  have B0 := Blk.new w 48 (e.cells B d).toArray
  have hW : Below w.heap.size w (w.alloc (.cells (e.cells B d).toArray 48)) := (by repeat (first | with_reducible exact Below.refl _ _ | with_reducible apply below_drewN' | with_reducible apply Below.drew | (with_reducible refine Below.alloc ?_ (by first | omega | (simp; omega) | simp | (have := (Below.refl _ _).size; omega) | (have := (Below.refl _ _).size; simp; omega)) _) | (with_reducible refine Below.setCell ?_ (by first | omega | (simp; omega) | simp | (have := (Below.refl _ _).size; omega) | (have := (Below.refl _ _).size; simp; omega)) _) | exact Below.refl _ _))
  have HC := Lib.hid (fun W (hW : Below w.heap.size w W) => implIsCat_c A c es W (E.later hW) hc)
  have HE := Lib.hid (fun W (hW : Below w.heap.size w W) => isEntry_c A c es e B d W (E.later hW) (X.later hW))
  have HL := Lib.hid (fun W (hW : Below w.heap.size w W) => cloneEn_c A c es W (by omega) ((E.s.below hW).more hW.size))
  have hin : Hid (∀ x ∈ es ++ [⟨e, B, d⟩], x.In w) := Lib.hid (fun x hx => by
    rcases List.mem_append.1 hx with h | h
    · exact E.i x h
    · obtain rfl : x = ⟨e, B, d⟩ := by simpa using h
      exact X)
  have hR := Lib.hid (addC_cases (l := ens es) (e := e))
  have hcl : (e.cells B d).length = 20 := rfl
  have hone := e.one B d
  have hone1 : ∀ y ∈ [e.cells B d], ∀ u ∈ y, u.oneCell' = true := fun y hy u hu => by
    obtain rfl : y = e.cells B d := by simpa using hy
    exact hone u hu
  have hrw : es.map EnR.cells ++ [e.cells B d] = (es ++ [(⟨e, B, d⟩ : EnR)]).map EnR.cells := by rw [List.map_append]; rfl
  have hew : ens es ++ [e] = ens (es ++ [(⟨e, B, d⟩ : EnR)]) := by unfold ens; rw [List.map_append]; rfl
  obtain ⟨ii, hi, hz0, hz1, hz2⟩ := info_parts info_Entry
  have h12l : catB (ens es) = true → es.length ≤ 12 := fun h => hlen ▸ catB_len h
  rw [hlen, hew] at hR
  clear E X hc hlen hew
  generalize addR (ens es) e = RR at *
  generalize addC (ens es) e = cd at *
  generalize entB (ens es) e = eb at *
  generalize catB (ens es) = cb at *
  generalize hxs : es ++ [⟨e, B, d⟩] = xs at *
  have hxl : xs.length = es.length + 1 := by rw [← hxs]; simp
  generalize e.cells B d = ce at *
  clear hxs
  cases cb with
  | false =>
    obtain ⟨rfl, rfl⟩ := hR.out.1 rfl
    go_enter Tryz.func11, Tryz.ntmps11
    go_wp2_with fail
    refine Calls.mono (HC.out _ hW) ?_; rintro x w1 ⟨rfl, hb1⟩
    replace B0 := B0.below hb1 B0.lt
    replace hW := hW.trans (hb1.mono hW.size)
    clear hb1
    go_wp2
    go_ret2
    exact ⟨_, rfl, EnsOwn.nil _ _, hW⟩
  | true =>
  by_cases h12 : es.length = 12
  · obtain ⟨rfl, rfl⟩ := hR.out.2.1 rfl (.inl h12)
    have h12' : Hid ((es.length : Int) = 12) := Lib.hid (by omega)
    clear h12
    go_enter Tryz.func11, Tryz.ntmps11
    go_wp2_with fail
    refine Calls.mono (HC.out _ hW) ?_; rintro x w1 ⟨rfl, hb1⟩
    replace B0 := B0.below hb1 B0.lt
    replace hW := hW.trans (hb1.mono hW.size)
    clear hb1
    replace h12' := h12'.out
    go_wp2
    go_ret2
    exact ⟨_, rfl, EnsOwn.nil _ _, hW⟩
  have h12' : Hid (((es.length : Int) == 12) = false) := Lib.hid (by simpa using (by omega : ¬ (es.length : Int) = 12))
  cases eb with
  | false =>
    obtain ⟨rfl, rfl⟩ := hR.out.2.1 rfl (.inr rfl)
    go_enter Tryz.func11, Tryz.ntmps11
    go_wp2_with fail
    refine Calls.mono (HC.out _ hW) ?_; rintro x w1 ⟨rfl, hb1⟩
    replace B0 := B0.below hb1 B0.lt
    replace hW := hW.trans (hb1.mono hW.size)
    clear hb1
    have hr := B0.range
    clear h12
    replace h12' := h12'.out
    go_wp2_with (first | (refine wpList_load_g (by rfl) 48 _ rfl (w.heap.size) 0 rfl (ce) _ hr Tryz.underlying48 rfl (by kernel_rfl) ?_) | fail)
    refine Calls.mono (HE.out _ hW) ?_; rintro x w1 ⟨rfl, hb1⟩
    replace B0 := B0.below hb1 B0.lt
    replace hW := hW.trans (hb1.mono hW.size)
    clear hb1
    go_wp2
    go_ret2
    exact ⟨_, rfl, EnsOwn.nil _ _, hW⟩
  | true =>
  obtain ⟨rfl, rfl⟩ := hR.out.2.2 rfl h12 rfl
  clear hR
  have hl12 := h12l rfl
  clear h12l hl
  go_enter Tryz.func11, Tryz.ntmps11
  go_wp2_with fail
  refine Calls.mono (HC.out _ hW) ?_; rintro x w1 ⟨rfl, hb1⟩
  replace B0 := B0.below hb1 B0.lt
  replace hW := hW.trans (hb1.mono hW.size)
  clear hb1
  have hr := B0.range
  clear h12
  replace h12' := h12'.out
  go_wp2_with (first | (refine wpList_load_g (by rfl) 48 _ rfl (w.heap.size) 0 rfl (ce) _ hr Tryz.underlying48 rfl (by kernel_rfl) ?_) | fail)
  refine Calls.mono (HE.out _ hW) ?_; rintro x w2 ⟨rfl, hb1⟩
  replace B0 := B0.below hb1 B0.lt
  replace hW := hW.trans (hb1.mono hW.size)
  clear hb1
  clear hr HC HE
  have L0 : AdL w (ens xs) 0 [] (.slice (some ⟨w2.heap.size, 0, none⟩) 0 0) (w2.alloc (.cells #[] 48)) := ⟨(by repeat (first | with_reducible exact hW | with_reducible apply below_drewN' | with_reducible apply Below.drew | (with_reducible refine Below.alloc ?_ (by first | omega | (simp; omega) | simp | (have := (hW).size; omega) | (have := (hW).size; simp; omega)) _) | (with_reducible refine Below.setCell ?_ (by first | omega | (simp; omega) | simp | (have := (hW).size; omega) | (have := (hW).size; simp; omega)) _) | exact hW)), rfl, Own.empty hW.size, by simp, by simp, List.Pairwise.nil, rfl⟩
  have hW2 : Below w.heap.size w (w2.alloc (.cells #[] 48)) := (by repeat (first | with_reducible exact hW | with_reducible apply below_drewN' | with_reducible apply Below.drew | (with_reducible refine Below.alloc ?_ (by first | omega | (simp; omega) | simp | (have := (hW).size; omega) | (have := (hW).size; simp; omega)) _) | (with_reducible refine Below.setCell ?_ (by first | omega | (simp; omega) | simp | (have := (hW).size; omega) | (have := (hW).size; simp; omega)) _) | exact hW))
  replace B0 := B0.alloc (.cells #[] 48)
  clear hW
  go_wp2_with fail
  generalize hWW : w2.alloc (.cells #[] 48) = W at *
  have hws : w2.heap.size < W.heap.size := by rw [← hWW]; simp
  clear hWW
  have hBl := B0.lt
  refine wp_region_all (fun a0 fL bA v => ∃ v24 v25 v26 v27 v28 v29 v30 : Value, bA = ((((((a0.put (some 24) v24).put (some 25) v25).put (some 26) v26).put (some 27) v27).put (some 28) v28).put (some 29) v29).put (some 30) v30 ∧ (AdS W es.length (es.map EnR.cells) ce (fL 1) (fL 3) (fL 4) v25 v27 v28 v) ∧ (fL 0 = true → v24 = .slice A es.length c) ∧ (fL 1 = true → True) ∧ (fL 2 = true → v26 = .agg ce.toArray) ∧ (fL 3 = true → True) ∧ (fL 4 = true → True) ∧ (fL 5 = true → v29 = .int .i64 ((es.length + 1 : Nat) : Int)) ∧ (fL 6 = true → v30 = .int .i64 0)) (by kernel_rfl) (by decide +kernel) ?_ ?_ ?_
  · exact ⟨_, _, _, _, _, _, _, put_more (put_more (put_more (put_more (put_more (put_more (put_more (rfl) 24) 25) 26) 27) 28) 29) 30, ⟨(Below.refl _ _).drew, nofun, nofun, nofun⟩, nofun, nofun, nofun, nofun, nofun, nofun, nofun⟩
  · rintro fL bA v ⟨v24, v25, v26, v27, v28, v29, v30, rfl, hS, q0, q1, q2, q3, q4, q5, q6⟩ i hi hf o ho hall
    simp only [Act.put, List.setIfInBounds_toArray, List.set_cons_zero, List.set_cons_succ]
    simp only [List.length_cons, List.length_nil] at hi
    have hn : i = 0 ∨ i = 1 ∨ i = 2 ∨ i = 3 ∨ i = 4 ∨ i = 5 ∨ i = 6 := by omega
    clear hi
    rcases hn with rfl | rfl | rfl | rfl | rfl | rfl | rfl
    · obtain rfl := Option.some.inj ho
      clear hall ho
      refine wpOp_step rfl (fun K hK => ?_)
      go_simp
      exact hK _ _ ⟨_, _, _, _, _, _, _, rfl, hS, fun _ => rfl, fun _ => trivial, q2, fun _ => trivial, fun _ => trivial, q5, q6⟩
    · obtain rfl := Option.some.inj ho
      obtain rfl := q0 (hall ⟨0, .data⟩ (by simp) rfl)
      clear hall ho
      refine wpOp_step rfl (fun K hK => ?_)
      go_simp
      refine Calls.mono (HL.out v (hW2.trans (hS.hb.mono hW2.size))) ?_; rintro e w7 ⟨B7, d7, rfl, O7, hb7⟩
      go_simp
      exact hK _ _ ⟨_, _, _, _, _, _, _, rfl, ⟨hS.hb.trans (hb7.mono hS.hb.size), fun _ _ => ⟨B7, d7, rfl, O7.mono hS.hb.size⟩, fun e h4 => (hS.q3 e h4).elim fun g h => ⟨g, h.1, h.2.below hb7⟩, fun e => absurd (hS.q4 e).1.1 (by rw [hf]; simp)⟩, fun _ => rfl, fun _ => trivial, q2, fun _ => trivial, fun _ => trivial, q5, q6⟩
    · obtain rfl := Option.some.inj ho
      clear hall ho
      refine wpOp_step rfl (fun K hK => ?_)
      refine wp_load_mid 48 _ rfl w.heap.size 0 rfl ce _ (B0.below hS.hb hBl).range Tryz.underlying48 rfl (by rw [hcl]; kernel_rfl) ?_
      exact hK _ _ ⟨_, _, _, _, _, _, _, rfl, hS, q0, fun _ => trivial, fun _ => rfl, fun _ => trivial, fun _ => trivial, q5, q6⟩
    · obtain rfl := Option.some.inj ho
      obtain rfl := q2 (hall ⟨2, .data⟩ (by simp) rfl)
      clear hall ho
      refine wpOp_step rfl (fun K hK => ?_)
      refine wp_build_one 36 48 _ rfl ce 20 hcl (by decide) (by decide) rfl ii _ Tryz.underlying36 hi hz0 hz1 ?_
      exact hK _ _ ⟨_, _, _, _, _, _, _, rfl, ⟨hS.hb.alloc hS.hb.size _, fun e h4 => (hS.q1 e h4).elim fun B h => h.elim fun d h => ⟨B, d, h.1, h.2.alloc _⟩, fun _ _ => ⟨v.heap.size, rfl, Own.lit1 hS.hb.size hcl⟩, fun e => absurd (hS.q4 e).1.2 (by rw [hf]; simp)⟩, q0, fun _ => trivial, fun _ => rfl, fun _ => trivial, fun _ => trivial, q5, q6⟩
    · obtain rfl := Option.some.inj ho
      have e1 : fL 1 = true := hall ⟨1, .data⟩ (by simp) rfl
      have e3 : fL 3 = true := hall ⟨3, .data⟩ (by simp) rfl
      obtain ⟨B7, d7, rfl, O7⟩ := hS.q1 e1 hf
      obtain ⟨g8, rfl, O8⟩ := hS.q3 e3 hf
      clear hall ho
      refine wpOp_step rfl (fun K hK => ?_)
      refine wp_append_rows _ (.tmp 25) (.tmp 27) _ rfl W.heap.size 48 ii _ 20 192 Tryz.underlying36 hi hz0 hz1 hz2 rfl (by omega) _ _ rfl O7 _ _ _ _ [ce] rfl rfl O8.sl hone1 (by simp [maxLen]; omega) (by simp; omega) hS.hb.size ?_; intro v9 w9 hO9 hg9 hat9
      have hl9 : (es.map EnR.cells ++ [ce]).length = es.length + 1 := by simp
      obtain ⟨A9, c9, h9, _⟩ := hO9.form
      rw [hl9] at h9
      subst h9
      exact hK _ _ ⟨_, _, _, _, _, _, _, rfl, ⟨below_app hS.hb hg9 hS.hb.size O7.ownGe, fun _ h => absurd (show true = false from h) (by decide), fun _ h => absurd (show true = false from h) (by decide), fun _ => ⟨⟨e1, e3⟩, A9, c9, rfl, hO9⟩⟩, q0, fun _ => trivial, q2, fun _ => trivial, fun _ => trivial, q5, q6⟩
    · obtain rfl := Option.some.inj ho
      have e4 : fL 4 = true := hall ⟨4, .data⟩ (by simp) rfl
      obtain ⟨_, B9, d9, rfl, O9⟩ := hS.q4 e4
      clear hall ho
      refine wpOp_step rfl (fun K hK => ?_)
      go_simp
      exact hK _ _ ⟨_, _, _, _, _, _, _, rfl, hS, q0, fun _ => trivial, q2, fun _ => trivial, fun _ => trivial, fun _ => rfl, q6⟩
    · obtain rfl := Option.some.inj ho
      clear hall ho
      refine wpOp_step rfl (fun K hK => ?_)
      go_simp
      exact hK _ _ ⟨_, _, _, _, _, _, _, rfl, hS, q0, fun _ => trivial, q2, fun _ => trivial, fun _ => trivial, q5, fun _ => rfl⟩
  · rintro fL bA v ⟨v24, v25, v26, v27, v28, v29, v30, rfl, hS, q0, q1, q2, q3, q4, q5, q6⟩ hall
    simp only [Act.put, List.setIfInBounds_toArray, List.set_cons_zero, List.set_cons_succ]
    simp only [List.length_cons, List.length_nil] at hall
    obtain rfl := q0 (hall 0 (by omega))
    have e1 : fL 1 = true := hall 1 (by omega)
    obtain rfl := q2 (hall 2 (by omega))
    have e3 : fL 3 = true := hall 3 (by omega)
    have e4 : fL 4 = true := hall 4 (by omega)
    obtain rfl := q5 (hall 5 (by omega))
    obtain rfl := q6 (hall 6 (by omega))
    clear hall
    obtain ⟨_, B9, d9, rfl, O9⟩ := hS.q4 e4
    have hb1 := hS.hb
    clear hS
    rw [hrw] at O9
    have L1 := L0.below hb1
    have hT0 : (Value.slice B9 (es.length + 1) d9).ownBlock = none ∨ (Value.slice B9 (es.length + 1) d9).ownBlock ≠ (Value.slice (some ⟨w2.heap.size, 0, none⟩) 0 0).ownBlock := .inr (fun h => by
      have h2 : W.heap.size ≤ w2.heap.size := O9.ownGe _ h
      omega)
    clear L0 hrw B0 hb1 HL hs hone hone1
    have hex := Lib.hid (fun k (hk : k < xs.length) => ens_get hk)
    have hxe := ens_len xs
    go_wp2_with fail
    go_loopw [6, 30] (fun o i wr => ∃ (k : Nat) (fs : List EnR), k ≤ es.length + 1 ∧ i = .int .i64 k ∧ AdL w (ens xs) k fs o wr ∧ Own wr W.heap.size 48 20 (.slice B9 (es.length + 1) d9) (xs.map EnR.cells) ∧ ((Value.slice B9 (es.length + 1) d9).ownBlock = none ∨ (Value.slice B9 (es.length + 1) d9).ownBlock ≠ o.ownBlock)) (fun _ i _ => es.length + 1 - (intOf i).toNat)
    case atStart => exact ⟨0, [], Nat.zero_le _, rfl, L1, O9, hT0⟩
    case round =>
      clear L1 O9 hT0
      obtain ⟨k, fs, hk, rfl, hL, hT, hne⟩ := hrel
      by_cases hlt : k < es.length + 1
      · have hkx : k < xs.length := by omega
        obtain ⟨b, off, rfl, hbB, hc'⟩ := hT.sl.rg (i := k) (by simpa using hkx)
        simp only [List.getElem_map] at hc'
        have hxin := hin.out xs[k] (List.getElem_mem hkx)
        have hek := Lib.hid (hex.out k hkx)
        have hcl2 : xs[k].cells.length = 20 := rfl
        have hrl : (xs[k].e.r.cells xs[k].A xs[k].c).length = 17 := rfl
        have hon : ∀ v ∈ xs[k].cells, v.oneCell' = true := xs[k].e.one xs[k].A xs[k].c
        have D0 := Blk.new wr 48 xs[k].cells.toArray
        obtain ⟨_, _, x2, _⟩ := Blk.en (e := xs[k].e) D0
        have hbw : Below wr.heap.size wr (wr.alloc (.cells xs[k].cells.toArray 48)) := (Below.refl _ _).alloc (Nat.le_refl _) _
        have hW3 := hL.hb.trans (hbw.mono hL.hb.size)
        have hcall := Lib.hid (ownRelease_c xs[k].e.r xs[k].A xs[k].c _ hxin.r.h (((hxin.r.later hW3).s)))
        have hsp : ∀ X Y, (⟨xs[k].e, X, Y⟩ : EnR).cells = [.string xs[k].e.ti, .int .i64 xs[k].e.ve] ++ xs[k].e.r.cells X Y ++ [.int .i64 xs[k].e.ba] := fun X Y => rfl
        have hsp0 : xs[k].cells = [.string xs[k].e.ti, .int .i64 xs[k].e.ve] ++ xs[k].e.r.cells xs[k].A xs[k].c ++ [.int .i64 xs[k].e.ba] := rfl
        have hon2 := fun X Y => xs[k].e.one X Y
        have hon3 := fun X Y => xs[k].e.r.one X Y
        have hlen2 := fun X Y => xs[k].e.len X Y
        have hlen3 := fun X Y => xs[k].e.r.len X Y
        replace hsp := Lib.hid hsp
        replace hsp0 := Lib.hid hsp0
        replace hon2 := Lib.hid hon2
        replace hon3 := Lib.hid hon3
        replace hlen2 := Lib.hid hlen2
        replace hlen3 := Lib.hid hlen3
        have hVlt := Lib.hid hL.o.1.lt
        have hTlt := Lib.hid hT.1.lt
        have hflt : Hid (∀ f ∈ fs, ∀ b, f.sl.ownBlock = some b → b < wr.heap.size) := Lib.hid (fun f hf b hb => ((hL.p f hf).1.lt b hb).2)
        have hwsz := hL.hb.size
        have hfk := hL.fk
        replace hL := hL.below hbw
        replace hT := hT.below hbw
        generalize xs[k].e.r.cells xs[k].A xs[k].c = rc at *
        generalize xs[k].cells = cs at *
        go_wp2_with (first | (refine wpList_load_mid rfl 48 _ rfl (b) (off + k * 20) rfl (cs) _ hc' Tryz.underlying48 rfl (by kernel_rfl) ?_) | (refine wpList_store_new rfl _ _ rfl cs rfl rfl (by rw [hcl2]; kernel_rfl) (by rw [hcl2]; rfl) hon ?_) | (refine wpList_load_mid rfl 46 _ rfl wr.heap.size 2 rfl rc _ x2 Tryz.underlying46 rfl (by rw [hrl]; kernel_rfl) ?_) | fail)
        refine Calls.mono hcall.out ?_; rintro x w4 ⟨B2, d2, rfl, O2, hb2⟩
        replace hL := hL.below hb2
        replace hT := hT.below hb2
        have hsz4 := D0.lt
        replace D0 := D0.below hb2 D0.lt
        have hge2 : ∀ g, (Value.slice B2 xs[k].e.r.l.length d2).ownBlock = some g → wr.heap.size + 1 ≤ g := fun g h => by have := O2.ownGe g h; simpa using this
        replace O2 := O2.mono (base' := wr.heap.size + 1) (by simp)
        have hrbl := hlen3.out B2 d2
        have hrbo := hon3.out B2 d2
        have hel : (⟨xs[k].e, B2, d2⟩ : EnR).cells.length = 20 := hlen2.out B2 d2
        have heo : ∀ v ∈ (⟨xs[k].e, B2, d2⟩ : EnR).cells, v.oneCell' = true := hon2.out B2 d2
        have hecs := Lib.hid (hsp.out B2 d2)
        have hcl3 : 2 + 17 ≤ cs.length := by rw [hcl2]; omega
        generalize hec : (⟨xs[k].e, B2, d2⟩ : EnR).cells = ec at *
        replace hec := Lib.hid hec
        generalize xs[k].e.r.cells B2 d2 = rb at *
        clear hcall hb2 hbw hc' x2 hW3
        go_wp2_with (refine wpList_store_part rfl 46 _ _ rfl wr.heap.size 2 rb rfl rfl D0 (by rw [hrbl]; exact hcl3) (by rw [hrbl]; kernel_rfl) hrbo ?_; intro w5 hg5 D5; refine Hid.out ?_)
        refine Lib.hid ?_
        have D6 : Blk w5 wr.heap.size 48 ec.toArray := by
          have h := fill_mid rb rc [.string xs[k].e.ti, .int .i64 xs[k].e.ve] [.int .i64 xs[k].e.ba] (by rw [hrl, hrbl])
          rw [hecs.out, ← h]
          rw [hsp0.out] at D5
          exact D5
        have hL5 := hL.grown hg5 hwsz (fun h => by have := (hVlt.out _ h).2; omega) (fun f hf h => by have := hflt.out f hf _ h; omega)
        have hT5 := hT.kept hg5 (.inr (fun h => by have := (hTlt.out _ h).2; omega))
        have O5 := O2.kept hg5 (.inr (fun h => by have := hge2 _ h; omega))
        have hr5 := D6.range
        have OL := Own.lit1 (w := w5) (base := w.heap.size) (e := 48) (k := 20) (cs := ec) hL5.hb.size hel
        have hL6 := hL5.below ((Below.refl _ _).alloc (Nat.le_refl _) (.cells ec.toArray 48))
        have hT6 := hT5.alloc (.cells ec.toArray 48)
        have O6 := O5.alloc (.cells ec.toArray 48)
        have hone5 : ∀ y ∈ [ec], ∀ u ∈ y, u.oneCell' = true := fun y hy u hu => by
          obtain rfl : y = ec := by simpa using hy
          exact heo u hu
        clear hL hT D0 D5 O2 hL5 hT5 O5 D6 hg5
        go_wp2_with (first | (refine wpList_load_mid rfl 48 _ rfl (wr.heap.size) 0 rfl (ec) _ hr5 Tryz.underlying48 rfl (by kernel_rfl) ?_) | (refine wpList_build_one rfl 36 48 _ rfl ec 20 hel (by decide) (by decide) rfl ii _ Tryz.underlying36 hi hz0 hz1 ?_) | (at_builtin; refine wpList_append_rows _ rfl _ _ _ rfl w.heap.size 48 ii _ 20 192 Tryz.underlying36 hi hz0 hz1 hz2 rfl (by omega) _ _ rfl hL6.o _ _ _ _ [ec] rfl rfl OL.sl hone5 (by simp [maxLen]; omega) (by simp; omega) hL6.hb.size ?_; intro v9 w9 hO9 hg9 hat9))
        rw [← hec.out] at hO9
        have hL9 := hL6.app (f := ⟨xs[k].e, B2, d2⟩) (by omega) hek.out.symm ⟨hxin.t, hxin.r.h, hxin.r.hn, O6.sl⟩ (O6.mono (by omega)) (fun b h h2 => by have h3 := hge2 b h; have h4 := (hVlt.out _ h2).2; omega) (fun x hx g h1 h2 => by have h3 := hflt.out x hx _ h1; have h4 := hge2 g h2; omega) hg9 hO9 hat9
        have hT9 := hT6.kept hg9 hne
        have hne9 : (Value.slice (some ⟨b, off, none⟩) (es.length + 1) d9).ownBlock = none ∨ (Value.slice (some ⟨b, off, none⟩) (es.length + 1) d9).ownBlock ≠ v9.ownBlock := by
          rcases hat9 with e9 | e9
          · rw [e9]; exact hne
          · refine .inr (fun h => ?_)
            rw [e9] at h
            have := (hT6.1.lt _ h).2
            omega
        go_roundw
        case rel => exact ⟨k + 1, fs ++ [⟨xs[k].e, B2, d2⟩], by omega, by go_num, hL9, hT9, hne9⟩
        case measure => simp [intOf]; omega
      · have hk8 : ¬ ((k : Int) < (es.length : Int) + 1) := by omega
        clear hT hne
        have hk9 : k = (ens xs).length := by omega
        rw [hk9] at hL
        have hD := hL.done (by omega)
        have hbw := hL.hb
        obtain ⟨A9, c9, hv9, _⟩ := hL.o.form
        rw [List.length_map] at hv9
        subst hv9
        clear hL
        go_wp2
        go_ret2
        exact ⟨_, rfl, hD, hbw⟩
end Go.Proofs.YtendoabjjfinhaaGreatDoor
namespace Go.Proofs.YtendoabjjfinhaaGreatDoor
open Go.RowKit
theorem Own.store_part {w : World} {base : Nat} {e : TypeId} {k g n cap : Nat} {xs : List (List Value)} (h : Own w base e k (.slice (some ⟨g, 0, none⟩) n cap) xs) {i : Nat} (hi : i < xs.length) (P S T ys : List Value) (hx : xs[i] = P ++ S ++ T) (hy : ys.length = S.length) :
    Own (stores w g (i * k + P.length) ys) base e k (.slice (some ⟨g, 0, none⟩) n cap) (xs.set i (P ++ ys ++ T)) := by
  obtain ⟨h1, h2⟩ := h
  have hn : n = xs.length := by
    rcases h1.2 with ⟨h', _⟩ | ⟨g', cap', cur, h', _⟩
    · simp at h'
    · simp only [Value.slice.injEq] at h'; exact h'.2.1
  subst hn
  refine ⟨?_, fun y hm => ?_⟩
  · rw [List.length_set, flat_set hi]
    rw [flat_split hi, hx] at h1
    have h3 := ownsRow_stores ys (i * k + P.length) w ((xs.take i).flatten ++ P) S (T ++ (xs.drop (i + 1)).flatten) (by simpa only [List.append_assoc] using h1) (by
      rw [List.length_append, flat_length fun z hz => h2 z (List.mem_of_mem_take hz), List.length_take, Nat.min_eq_left (by omega)]) hy.symm
    simpa only [List.append_assoc] using h3
  · rcases List.mem_or_eq_of_mem_set hm with h | rfl
    · exact h2 y h
    · have := h2 _ (List.getElem_mem hi)
      rw [hx] at this
      simp only [List.length_append] at this ⊢
      omega
theorem Own.some1 {w : World} {base : Nat} {e : TypeId} {k : Nat} {v : Value} {xs : List (List Value)} (h : Own w base e k v xs) (hx : 0 < xs.length) : ∃ g c, v = .slice (some ⟨g, 0, none⟩) xs.length c := by
  rcases h.1.2 with ⟨_, h0⟩ | ⟨g, cap, cur, rfl, _⟩
  · omega
  · exact ⟨g, cap, rfl⟩
/-- a region that draws its order: an empty list, the old one laid on, an entry's literal, the two laid together -/
structure AdT (W0 : World) (n : Nat) (L : List (List Value)) (cs : List Value) (b0 b2 b4 b5 : Bool) (x0 x2 x4 x5 : Value) (v : World) : Prop where
  hb : Below W0.heap.size W0 v
  q0 : b0 = true → b2 = false → ∃ g, x0 = .slice (some ⟨g, 0, none⟩) 0 0 ∧ Own v W0.heap.size 48 20 x0 []
  q2 : b2 = true → b0 = true ∧ (b5 = false → ∃ B d, x2 = .slice B n d ∧ Own v W0.heap.size 48 20 x2 L)
  q4 : b4 = true → b5 = false → ∃ g, x4 = .slice (some ⟨g, 0, none⟩) 1 1 ∧ Own v W0.heap.size 48 20 x4 [cs]
  q5 : b5 = true → (b2 = true ∧ b4 = true) ∧ ∃ B d, x5 = .slice B (n + 1) d ∧ Own v W0.heap.size 48 20 x5 (L ++ [cs])
  ap : b0 = true → b4 = true → b2 = false → x4.ownBlock ≠ x0.ownBlock
theorem addC_cases2 {l : List En} {e : En} : (catB l = false → addC l e = 1 ∧ addR l e = []) ∧ (catB l = true → catB (l ++ [e]) = false → addC l e = 5 ∧ addR l e = []) ∧ (catB l = true → catB (l ++ [e]) = true → addC l e = 0 ∧ addR l e = l ++ [e]) := by
  refine ⟨addC_cases.1, fun h h2 => ?_, fun h h2 => ?_⟩
  · rw [catB_snoc e h] at h2
    refine addC_cases.2.1 h ?_
    by_cases h3 : l.length = 12
    · exact .inl h3
    · exact .inr (by simpa [h3] using h2)
  · rw [catB_snoc e h] at h2
    have h3 : ¬ l.length = 12 := fun h3 => by simp [h3] at h2
    exact addC_cases.2.2 h h3 (by simpa [h3] using h2)
theorem range_mid {w : World} {g o : Nat} {P S T : List Value} (h : w.rangeAt g o (P ++ S ++ T)) : w.rangeAt g (o + P.length) S := fun j v hv => by
  have hj : j < S.length := (List.getElem?_eq_some_iff.1 hv).1
  have h2 := h (P.length + j) v (by rw [List.getElem?_append_left (by simp; omega), List.getElem?_append_right (by omega), Nat.add_sub_cancel_left]; exact hv)
  rw [Nat.add_assoc]
  exact h2
/-- while a list's entries get formulas of their own, one after the other -/
structure SpL (w : World) (xs : List EnR) (k : Nat) (fs : List EnR) (g n c : Nat) (wr : World) : Prop where
  hb : Below w.heap.size w wr
  fk : fs.length = k
  o : Own wr w.heap.size 48 20 (.slice (some ⟨g, 0, none⟩) n c) ((fs ++ xs.drop k).map EnR.cells)
  i : ∀ f ∈ fs, f.In wr ∧ f.sl.ownBlock ≠ some g
  p : ∀ f ∈ fs, Own wr w.heap.size 2 1 f.sl (f.e.r.l.map ic)
  d : fs.Pairwise EnR.apart
  s : ens fs = (ens xs).take k
section
variable {w wr w2 : World} {xs : List EnR} {k g n c : Nat} {fs : List EnR}
theorem SpL.below (h : SpL w xs k fs g n c wr) (hb : Below wr.heap.size wr w2) : SpL w xs k fs g n c w2 :=
  ⟨h.hb.trans (hb.mono h.hb.size), h.fk, h.o.below hb, fun f hf => ⟨EnIn.later (h.i f hf).1 hb, (h.i f hf).2⟩, fun f hf => (h.p f hf).below hb, h.d, h.s⟩
theorem SpL.next (h : SpL w xs k fs g n c wr) (hk : k < xs.length) {f : EnR} (hf : f.e = xs[k].e) (hi : f.In wr) (hp : Own wr w.heap.size 2 1 f.sl (f.e.r.l.map ic)) (hV : f.sl.ownBlock ≠ some g) (hap : ∀ x ∈ fs, EnR.apart x f)
    (hg : wr.grownBy w2 (some g)) (h2 : Own w2 w.heap.size 48 20 (.slice (some ⟨g, 0, none⟩) n c) (((fs ++ xs.drop k).map EnR.cells).set k f.cells)) : SpL w xs (k + 1) (fs ++ [f]) g n c w2 := by
  have hpw : ∀ x ∈ fs ++ [f], Own wr w.heap.size 2 1 x.sl (x.e.r.l.map ic) ∧ x.In wr ∧ x.sl.ownBlock ≠ some g := fun x hx => by
    rcases List.mem_append.1 hx with hx | hx
    · exact ⟨h.p x hx, h.i x hx⟩
    · obtain rfl : x = f := by simpa using hx
      exact ⟨hp, hi, hV⟩
  have hp2 : ∀ x ∈ fs ++ [f], Own w2 w.heap.size 2 1 x.sl (x.e.r.l.map ic) := fun x hx => (hpw x hx).1.kept hg (.inr (hpw x hx).2.2)
  have hge := h.o.ownGe
  have hrow : ((fs ++ xs.drop k).map EnR.cells).set k f.cells = ((fs ++ [f]) ++ xs.drop (k + 1)).map EnR.cells := by
    rw [← List.map_set, List.set_append_right _ _ (Nat.le_of_eq h.fk), h.fk, Nat.sub_self, List.drop_eq_getElem_cons hk, List.set_cons_zero]
    simp
  refine ⟨h.hb.grown hg h.hb.size (fun b e => hge b e), by simp [h.fk], hrow ▸ h2, fun x hx => ⟨⟨(hpw x hx).2.1.t, (hpw x hx).2.1.r.h, (hpw x hx).2.1.r.hn, (hp2 x hx).sl⟩, (hpw x hx).2.2⟩, hp2, ?_, ?_⟩
  · rw [List.pairwise_append]
    refine ⟨h.d, List.pairwise_singleton _ _, fun x hx y hy => ?_⟩
    obtain rfl : y = f := by simpa using hy
    exact hap x hx
  · have hk2 : k < (ens xs).length := by rw [ens_len]; exact hk
    rw [List.take_succ_eq_append_getElem hk2, ← h.s, ens_get hk]
    simp [ens, hf]
theorem SpL.row (h : SpL w xs k fs g n c wr) (hk : k < xs.length) : ∃ hi : k < ((fs ++ xs.drop k).map EnR.cells).length, ((fs ++ xs.drop k).map EnR.cells)[k] = xs[k].cells ∧ wr.rangeAt g (k * 20) xs[k].cells := by
  have hi : k < ((fs ++ xs.drop k).map EnR.cells).length := by simp [h.fk]; omega
  have hx : ((fs ++ xs.drop k).map EnR.cells)[k] = xs[k].cells := by simp [List.getElem_append_right, h.fk]
  obtain ⟨b, off, he, _, hr⟩ := h.o.sl.rg hi
  simp only [Option.some.injEq, Addr.mk.injEq, and_true] at he
  obtain ⟨rfl, rfl⟩ := he
  rw [hx, Nat.zero_add] at hr
  exact ⟨hi, hx, hr⟩
theorem SpL.done (h : SpL w xs xs.length fs g n c wr) (hl : xs.length ≤ 1048576) (hn : n = xs.length) : EnsOwn (ens xs) (.slice (some ⟨g, 0, none⟩) n c) wr w.heap.size := by
  subst hn
  have ho := h.o
  rw [List.drop_length, List.append_nil] at ho
  have hE : (ens xs).length = xs.length := ens_len xs
  refine ⟨some ⟨g, 0, none⟩, c, fs, by rw [hE], by rw [h.s, ← hE, List.take_length], ⟨by rw [h.fk]; exact hl, ho.sl, fun f hf => (h.i f hf).1⟩, by rw [hE]; exact ho, fun f hf => ⟨h.p f hf, fun g' hg => ?_⟩, h.d⟩
  obtain rfl : g = g' := by simpa using hg
  exact off_of_ne (h.p f hf) (h.i f hf).2
end
end Go.Proofs.YtendoabjjfinhaaGreatDoor
namespace Go.Proofs.YtendoabjjfinhaaGreatDoor
open Go.RowKit
theorem h2x {b : Bool} (h1 : b = true) (h2 : b = false) : true = false := h1.symm.trans h2
theorem En.parts (e : En) (X : Option Addr) (Y : Nat) : e.cells X Y = [Value.string e.ti, .int .i64 e.ve] ++ formC e.r.fd e.r.ft e.r.nm X e.r.l.length Y ++ ([Value.int .i64 e.r.wd, .int .i64 e.r.lf, .int .i64 e.r.rt] ++ e.r.tail ++ [.int .i64 e.ba]) := by
  show [Value.string e.ti, .int .i64 e.ve] ++ e.r.cells X Y ++ [.int .i64 e.ba] = _
  rw [Rl.split]
  unfold chartC
  simp only [List.append_assoc]
set_option maxRecDepth 100000 in
set_option maxHeartbeats 8000000 in
theorem specAddEntry_c (A : Option Addr) (c : Nat) (es : List EnR) (e : En) (B : Option Addr) (d : Nat) (w : World) (E : EnsIn w A es) (X : EnIn w B d e) :
    Calls Tryz.prog 8 #[.slice A es.length c, .agg (e.cells B d).toArray] w (PostEns (addR (ens es) e) (addC (ens es) e) w) := by
  have hl := E.n
  have hlen := ens_len es
  have hs := Lib.hid (fun W (hW : Below w.heap.size w W) => ((E.s.below hW).more hW.size))
  have B0 := Blk.new w 48 (e.cells B d).toArray
  have hW : Below w.heap.size w (w.alloc (.cells (e.cells B d).toArray 48)) := (by repeat (first | with_reducible exact Below.refl _ _ | with_reducible apply below_drewN' | with_reducible apply Below.drew | (with_reducible refine Below.alloc ?_ (by first | omega | (simp; omega) | simp | (have := (Below.refl _ _).size; omega) | (have := (Below.refl _ _).size; simp; omega)) _) | (with_reducible refine Below.setCell ?_ (by first | omega | (simp; omega) | simp | (have := (Below.refl _ _).size; omega) | (have := (Below.refl _ _).size; simp; omega)) _) | exact Below.refl _ _))
  have HC := Lib.hid (fun W (hW : Below w.heap.size w W) => specIsCat_c A c es W (E.later hW))
  have hin : Hid (∀ x ∈ es ++ [(⟨e, B, d⟩ : EnR)], x.In w) := Lib.hid (fun x hx => by
    rcases List.mem_append.1 hx with h | h
    · exact E.i x h
    · obtain rfl : x = ⟨e, B, d⟩ := by simpa using h
      exact X)
  have hR := Lib.hid (addC_cases2 (l := ens es) (e := e))
  have hcl : (e.cells B d).length = 20 := rfl
  have hone := e.one B d
  have hone1 : ∀ y ∈ [e.cells B d], ∀ u ∈ y, u.oneCell' = true := fun y hy u hu => by
    obtain rfl : y = e.cells B d := by simpa using hy
    exact hone u hu
  have hrw : es.map EnR.cells ++ [e.cells B d] = (es ++ [(⟨e, B, d⟩ : EnR)]).map EnR.cells := by rw [List.map_append]; rfl
  have hew : ens es ++ [e] = ens (es ++ [(⟨e, B, d⟩ : EnR)]) := by unfold ens; rw [List.map_append]; rfl
  obtain ⟨ii, hi, hz0, hz1, hz2⟩ := info_parts info_Entry
  have h12l : catB (ens es) = true → es.length ≤ 12 := fun h => hlen ▸ catB_len h
  rw [hew] at hR
  clear E X hlen hew
  generalize addR (ens es) e = RR at *
  generalize addC (ens es) e = cd at *
  generalize catB (ens es) = cb at *
  generalize hxs : es ++ [(⟨e, B, d⟩ : EnR)] = xs at *
  have hxl : xs.length = es.length + 1 := by rw [← hxs]; simp
  generalize e.cells B d = ce at *
  clear hxs
  cases cb with
  | false =>
    obtain ⟨rfl, rfl⟩ := hR.out.1 rfl
    go_enter Tryz.func8, Tryz.ntmps8
    go_wp2_with fail
    refine Calls.mono (HC.out _ hW) ?_; rintro x w1 ⟨rfl, hb1⟩
    replace B0 := B0.below hb1 B0.lt
    replace hW := hW.trans (hb1.mono hW.size)
    clear hb1
    go_wp2
    go_ret2
    exact ⟨_, rfl, EnsOwn.nil _ _, hW⟩
  | true =>
  replace hR := Lib.hid hR.out.2
  have hl12 := h12l rfl
  clear h12l hl
  go_enter Tryz.func8, Tryz.ntmps8
  go_wp2_with fail
  refine Calls.mono (HC.out _ hW) ?_; rintro x W ⟨rfl, hb1⟩
  replace B0 := B0.below hb1 B0.lt
  replace hW := hW.trans (hb1.mono hW.size)
  clear hb1
  clear HC
  have hBl := B0.lt
  go_wp2_with fail
  refine wp_region_sink 6 (fun a0 fL bA v => ∃ v11 v12 v13 v14 v15 v16 : Value, bA = (((((a0.put (some 11) v11).put (some 12) v12).put (some 13) v13).put (some 14) v14).put (some 15) v15).put (some 16) v16 ∧ (AdT W es.length (es.map EnR.cells) ce (fL 0) (fL 2) (fL 4) (fL 5) v11 v13 v15 v16 v) ∧ (fL 0 = true → True) ∧ (fL 1 = true → v12 = .slice A es.length c) ∧ (fL 2 = true → True) ∧ (fL 3 = true → v14 = .agg ce.toArray) ∧ (fL 4 = true → True) ∧ (fL 5 = true → True)) (by kernel_rfl) (by decide +kernel) ?_ ?_ ?_
  · exact ⟨_, _, _, _, _, _, put_more (put_more (put_more (put_more (put_more (put_more (rfl) 11) 12) 13) 14) 15) 16, ⟨(Below.refl _ _).drew, nofun, nofun, nofun, nofun, nofun⟩, nofun, nofun, nofun, nofun, nofun, nofun⟩
  · rintro fL bA v ⟨v11, v12, v13, v14, v15, v16, rfl, hS, q0, q1, q2, q3, q4, q5⟩ i hi hf o ho hall
    simp only [Act.put, List.setIfInBounds_toArray, List.set_cons_zero, List.set_cons_succ]
    have hn : i = 0 ∨ i = 1 ∨ i = 2 ∨ i = 3 ∨ i = 4 ∨ i = 5 := by omega
    clear hi
    rcases hn with rfl | rfl | rfl | rfl | rfl | rfl
    · obtain rfl := Option.some.inj ho
      clear hall ho
      refine wpOp_step rfl (fun K hK => ?_)
      go_simp
      exact hK _ _ ⟨_, _, _, _, _, _, rfl, ⟨hS.hb.alloc hS.hb.size _, fun _ _ => ⟨v.heap.size, rfl, Own.empty hS.hb.size⟩, fun e => absurd (hS.q2 e).1 (by rw [hf]; simp), fun e h5 => (hS.q4 e h5).elim fun g h => ⟨g, h.1, h.2.alloc _⟩, fun e => absurd (hS.q2 (hS.q5 e).1.1).1 (by rw [hf]; simp), fun _ h4 h2 => fun h => by obtain ⟨g, hx, O⟩ := hS.q4 h4 (Bool.eq_false_iff.2 fun h5 => absurd (hS.q2 (hS.q5 h5).1.1).1 (by rw [hf]; simp)); exact absurd (O.1.lt _ h).2 (Nat.lt_irrefl _)⟩, fun _ => trivial, q1, fun _ => trivial, q3, fun _ => trivial, fun _ => trivial⟩
    · obtain rfl := Option.some.inj ho
      clear hall ho
      refine wpOp_step rfl (fun K hK => ?_)
      go_simp
      exact hK _ _ ⟨_, _, _, _, _, _, rfl, hS, fun _ => trivial, fun _ => rfl, fun _ => trivial, q3, fun _ => trivial, fun _ => trivial⟩
    · obtain rfl := Option.some.inj ho
      have e0 : fL 0 = true := hall ⟨0, .data⟩ (by simp) rfl
      obtain rfl := q1 (hall ⟨1, .data⟩ (by simp) rfl)
      obtain ⟨g7, rfl, O7⟩ := hS.q0 e0 hf
      clear hall ho
      refine wpOp_step rfl (fun K hK => ?_)
      refine wp_append_rows _ (.tmp 11) (.tmp 12) _ rfl W.heap.size 48 ii _ 20 192 Tryz.underlying36 hi hz0 hz1 hz2 rfl (by omega) _ [] rfl O7 _ A es.length c (es.map EnR.cells) rfl (by simp) (hs.out v (hW.trans (hS.hb.mono hW.size))) EnR.one (by simp [maxLen]; omega) (by simp; omega) hS.hb.size ?_; intro v9 w9 hO9 hg9 hat9
      obtain ⟨A9, c9, h9, _⟩ := hO9.form
      rw [List.nil_append, List.length_map] at h9
      subst h9
      exact hK _ _ ⟨_, _, _, _, _, _, rfl, ⟨below_app hS.hb hg9 hS.hb.size O7.ownGe, fun _ h => absurd (show true = false from h) (by decide), fun _ => ⟨e0, fun _ => ⟨A9, c9, rfl, hO9⟩⟩, fun e h5 => (hS.q4 e h5).elim fun g h => ⟨g, h.1, h.2.kept hg9 (.inr (hS.ap e0 e hf))⟩, fun e => absurd (hS.q5 e).1.1 (by rw [hf]; simp), fun _ _ h => absurd (show true = false from h) (by decide)⟩, fun _ => trivial, fun _ => rfl, fun _ => trivial, q3, fun _ => trivial, fun _ => trivial⟩
    · obtain rfl := Option.some.inj ho
      clear hall ho
      refine wpOp_step rfl (fun K hK => ?_)
      refine wp_load_mid 48 _ rfl w.heap.size 0 rfl ce _ (B0.below hS.hb hBl).range Tryz.underlying48 rfl (by rw [hcl]; kernel_rfl) ?_
      exact hK _ _ ⟨_, _, _, _, _, _, rfl, hS, fun _ => trivial, q1, fun _ => trivial, fun _ => rfl, fun _ => trivial, fun _ => trivial⟩
    · obtain rfl := Option.some.inj ho
      obtain rfl := q3 (hall ⟨3, .data⟩ (by simp) rfl)
      clear hall ho
      refine wpOp_step rfl (fun K hK => ?_)
      refine wp_build_one 36 48 _ rfl ce 20 hcl (by decide) (by decide) rfl ii _ Tryz.underlying36 hi hz0 hz1 ?_
      exact hK _ _ ⟨_, _, _, _, _, _, rfl, ⟨hS.hb.alloc hS.hb.size _, fun e h2 => (hS.q0 e h2).elim fun g h => ⟨g, h.1, h.2.alloc _⟩, fun e => ⟨(hS.q2 e).1, fun h5 => ((hS.q2 e).2 h5).elim fun B h => h.elim fun d h => ⟨B, d, h.1, h.2.alloc _⟩⟩, fun _ _ => ⟨v.heap.size, rfl, Own.lit1 hS.hb.size hcl⟩, fun e => absurd (hS.q5 e).1.2 (by rw [hf]; simp), fun h0 _ h2 => fun h => by obtain ⟨g, hx, O⟩ := hS.q0 h0 h2; exact absurd (O.1.lt _ h.symm).2 (Nat.lt_irrefl _)⟩, fun _ => trivial, q1, fun _ => trivial, fun _ => rfl, fun _ => trivial, fun _ => trivial⟩
    · obtain rfl := Option.some.inj ho
      have e2 : fL 2 = true := hall ⟨2, .data⟩ (by simp) rfl
      have e4 : fL 4 = true := hall ⟨4, .data⟩ (by simp) rfl
      obtain ⟨B7, d7, rfl, O7⟩ := (hS.q2 e2).2 hf
      obtain ⟨g8, rfl, O8⟩ := hS.q4 e4 hf
      clear hall ho
      refine wpOp_step rfl (fun K hK => ?_)
      refine wp_append_rows _ (.tmp 13) (.tmp 15) _ rfl W.heap.size 48 ii _ 20 192 Tryz.underlying36 hi hz0 hz1 hz2 rfl (by omega) _ _ rfl O7 _ _ _ _ [ce] rfl rfl O8.sl hone1 (by simp [maxLen]; omega) (by simp; omega) hS.hb.size ?_; intro v9 w9 hO9 hg9 hat9
      have hl9 : (es.map EnR.cells ++ [ce]).length = es.length + 1 := by simp
      obtain ⟨A9, c9, h9, _⟩ := hO9.form
      rw [hl9] at h9
      subst h9
      exact hK _ _ ⟨_, _, _, _, _, _, rfl, ⟨below_app hS.hb hg9 hS.hb.size O7.ownGe, fun _ h => absurd (show true = false from h2x e2 h) (by decide), fun _ => ⟨(hS.q2 e2).1, fun h => absurd (show true = false from h) (by decide)⟩, fun _ h => absurd (show true = false from h) (by decide), fun _ => ⟨⟨e2, e4⟩, A9, c9, rfl, hO9⟩, fun _ _ h => absurd (show true = false from h2x e2 h) (by decide)⟩, fun _ => trivial, q1, fun _ => trivial, q3, fun _ => trivial, fun _ => trivial⟩
  · rintro fL bA v ⟨v11, v12, v13, v14, v15, v16, rfl, hS, q0, q1, q2, q3, q4, q5⟩ hall
    simp only [Act.put, List.setIfInBounds_toArray, List.set_cons_zero, List.set_cons_succ]
    have e0 : fL 0 = true := hall 0 (by omega)
    obtain rfl := q1 (hall 1 (by omega))
    have e2 : fL 2 = true := hall 2 (by omega)
    obtain rfl := q3 (hall 3 (by omega))
    have e4 : fL 4 = true := hall 4 (by omega)
    have e5 : fL 5 = true := hall 5 (by omega)
    clear hall
    simp only [List.drop_succ_cons, List.drop_zero]
    obtain ⟨_, B9, d9, rfl, O9⟩ := hS.q5 e5
    have hb1 := hS.hb
    clear hS
    rw [hrw] at O9
    have hW1 := hW.trans (hb1.mono hW.size)
    have hcall : Hid _ := Lib.hid (by
      have h := specIsCat_c B9 d9 xs v ⟨by omega, O9.sl, fun x hx => EnIn.later (hin.out x hx) hW1⟩
      rwa [hxl] at h)
    have hxe := ens_len xs
    replace O9 := O9.mono hW.size
    clear hb1 hW B0 hs hone hone1 hrw hi hz0 hz1 hz2
    generalize catB (ens xs) = cb2 at *
    cases cb2 with
    | false =>
      obtain ⟨rfl, rfl⟩ := hR.out.1 (by trivial) (by trivial)
      go_wp2_with fail
      refine Calls.mono hcall.out ?_; rintro x w2 ⟨rfl, hb2⟩
      replace O9 := O9.below hb2
      replace hW1 := hW1.trans (hb2.mono hW1.size)
      clear hcall hb2
      go_wp2
      go_ret2
      exact ⟨_, rfl, EnsOwn.nil _ _, hW1⟩
    | true =>
    obtain ⟨rfl, rfl⟩ := hR.out.2 (by trivial) (by trivial)
    clear hR
    go_wp2_with fail
    refine Calls.mono hcall.out ?_; rintro x w2 ⟨rfl, hb2⟩
    replace O9 := O9.below hb2
    replace hW1 := hW1.trans (hb2.mono hW1.size)
    clear hcall hb2
    obtain ⟨g9, c9, hv9⟩ := Own.some1 O9 (by simp; omega)
    obtain ⟨rfl, -, -⟩ : B9 = some ⟨g9, 0, none⟩ ∧ _ ∧ _ := by simpa using hv9
    clear hv9
    have L0 : SpL w xs 0 [] g9 (es.length + 1) d9 w2 := ⟨hW1, rfl, O9, by simp, by simp, List.Pairwise.nil, rfl⟩
    clear O9 hW1
    go_wp2_with fail
    go_loopw [7] (fun i wr => ∃ (k : Nat) (fs : List EnR), k ≤ es.length + 1 ∧ i = .int .i64 k ∧ SpL w xs k fs g9 (es.length + 1) d9 wr) (fun i _ => es.length + 1 - (intOf i).toNat)
    case atStart => exact ⟨0, [], Nat.zero_le _, rfl, L0⟩
    case round =>
      clear L0
      obtain ⟨k, fs, hk, rfl, hL⟩ := hrel
      by_cases hlt : k < es.length + 1
      · have hkx : k < xs.length := by omega
        have k1 : (k : Int) < (es.length : Int) + 1 := by omega
        have k0 : (0 : Int) ≤ (k : Int) := by omega
        have hxin := EnIn.later (hin.out xs[k] (List.getElem_mem hkx)) hL.hb
        have hp0 := En.parts xs[k].e xs[k].A xs[k].c
        have x4 := (hL.row hkx).2.2
        have x5 : wr.rangeAt g9 (k * 20 + 2) (formC xs[k].e.r.fd xs[k].e.r.ft xs[k].e.r.nm xs[k].A xs[k].e.r.l.length xs[k].c) := range_mid (P := [Value.string xs[k].e.ti, .int .i64 xs[k].e.ve]) (by
          have h := x4
          unfold EnR.cells at h
          rw [hp0] at h
          exact h)
        have hcall := Lib.hid (l18Own_c xs[k].e.r.fd xs[k].e.r.ft xs[k].e.r.nm xs[k].A xs[k].c xs[k].e.r.l wr hxin.r.h hxin.r.s)
        have hfl : (formC xs[k].e.r.fd xs[k].e.r.ft xs[k].e.r.nm xs[k].A xs[k].e.r.l.length xs[k].c).length = 4 := rfl
        have hfo2 := Lib.hid (fun X Y => formC_one xs[k].e.r.fd xs[k].e.r.ft xs[k].e.r.nm X xs[k].e.r.l.length Y)
        have hp2 := Lib.hid (fun X Y => En.parts xs[k].e X Y)
        replace hp0 := Lib.hid hp0
        have hgl := hL.o.block_ge.2
        have hflt : Hid (∀ f ∈ fs, ∀ b, f.sl.ownBlock = some b → b < wr.heap.size) := Lib.hid (fun f hf b hb => ((hL.p f hf).1.lt b hb).2)
        have hwsz := hL.hb.size
        clear x4
        generalize hfc : formC xs[k].e.r.fd xs[k].e.r.ft xs[k].e.r.nm xs[k].A xs[k].e.r.l.length xs[k].c = fc at *
        replace hfc := Lib.hid hfc
        go_wp2_with (first | (refine wpList_load_mid rfl 42 _ rfl g9 (k * 20 + 2) rfl fc _ x5 Tryz.underlying42 rfl (by rw [hfl]; kernel_rfl) ?_) | fail)
        refine Calls.mono hcall.out ?_; rintro x w4 ⟨B2, d2, rfl, O2, hb2⟩
        replace hL := hL.below hb2
        have hge2 := O2.ownGe
        have hfbl : (formC xs[k].e.r.fd xs[k].e.r.ft xs[k].e.r.nm B2 xs[k].e.r.l.length d2).length = 4 := rfl
        have hfbo := hfo2.out B2 d2
        have hpb := hp2.out B2 d2
        generalize formC xs[k].e.r.fd xs[k].e.r.ft xs[k].e.r.nm B2 xs[k].e.r.l.length d2 = fb at *
        obtain ⟨hki, hkr, _⟩ := hL.row hkx
        have OS : Own (stores w4 g9 (k * 20 + 2) fb) w.heap.size 48 20 (.slice (some ⟨g9, 0, none⟩) (es.length + 1) d9) (((fs ++ xs.drop k).map EnR.cells).set k (⟨xs[k].e, B2, d2⟩ : EnR).cells) := by
          have h := Own.store_part hL.o hki [Value.string xs[k].e.ti, .int .i64 xs[k].e.ve] fc _ fb (hkr.trans hp0.out) (by rw [hfbl, hfl])
          unfold EnR.cells
          rw [hpb]
          exact h
        have hL9 := hL.next hkx (f := ⟨xs[k].e, B2, d2⟩) rfl ⟨hxin.t, hxin.r.h, hxin.r.hn, O2.sl⟩ (O2.mono hwsz) (fun h => by have := hge2 _ h; omega) (fun x hx g h1 h2 => by have h3 := hflt.out x hx _ h1; have h4 := hge2 g h2; omega) (grownBy_stores fb (k * 20 + 2) (World.grownBy.refl w4 (some g9))) OS
        have hce : ∀ j, j < fb.length → ∃ v, w4.cell? ⟨g9, k * 20 + 2 + j, none⟩ = some v := fun j hj => by
          obtain ⟨v, hv⟩ := hL.o.cell hki (j := 2 + j) (by omega)
          exact ⟨v, by rw [Nat.add_assoc]; exact hv⟩
        have hfz : ∀ j, w4.frozen? ⟨g9, j, none⟩ = false := fun j => hL.o.frozen j
        clear hcall hb2 x5 hL O2 OS hpb hkr hki
        go_wp2_with (refine wpList_store_row rfl 42 _ _ rfl g9 (k * 20 + 2) fb rfl rfl hce hfz (by rw [hfbl]; kernel_rfl) hfbo ?_)
        go_roundw
        case rel => exact ⟨k + 1, _, by omega, by go_num, hL9⟩
        case measure => simp [intOf]; omega
      · have hk8 : ¬ ((k : Int) < (es.length : Int) + 1) := by omega
        have hk9 : k = xs.length := by omega
        rw [hk9] at hL
        have hD := hL.done (by omega) (by omega)
        have hbw := hL.hb
        clear hL
        go_wp2
        go_ret2
        exact ⟨_, rfl, hD, hbw⟩
end Go.Proofs.YtendoabjjfinhaaGreatDoor
