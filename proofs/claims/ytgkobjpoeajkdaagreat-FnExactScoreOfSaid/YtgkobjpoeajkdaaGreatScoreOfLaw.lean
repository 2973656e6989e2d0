/- FnExactScoreOf: for every input the law returns true and leaves its arguments as they were. No condition. -/
import Derived.Test.YtgkobjpoeajkdaaGreatKScoreOf21
import Derived.Test.YtgkobjpoeajkdaaGreatKScoreOf15
import Derived.Test.YtgkobjpoeajkdaaGreatKScoreOf14
namespace Go.Proofs.YtgkobjpoeajkdaaGreat.fnExactScoreOf
open Go.ChangeShapes Go.WideShapes Go.ChangeAt Go.RowKit

theorem ans_of_rows {w : World} : ∀ rows : List (List Value), (∀ x ∈ rows, x.length = 3 ∧ AnsOk w x) → ∃ l : List AnR, rows = l.map AnR.cells ∧ ∀ e ∈ l, e.Laid w
  | [], _ => ⟨[], rfl, by simp⟩
  | x :: r, h => by
    obtain ⟨l, hl, hi⟩ := ans_of_rows r fun y hy => h y (by simp [hy])
    obtain ⟨A, c, m, a, b, hx, y1, y2, y3⟩ := (h x (by simp)).2
    exact ⟨⟨A, c, m, a, b⟩ :: l, by rw [List.map_cons, hl, hx]; rfl, fun e he => by
      rcases List.mem_cons.1 he with rfl | he
      · exact ⟨y2, y1, y3⟩
      · exact hi e he⟩
def AnssOk (w : World) (cs : List Value) : Prop := ∃ (A : Option Addr) (c : Nat) (es : List AnR), cs = [.slice A es.length c] ∧ es.length ≤ 140737488351232 ∧ (∀ e ∈ es, e.Laid w) ∧ Sl w w.heap.size 3 A (es.map AnR.cells)
theorem dec_anss {H : Type} {enc : TypeId × Value → H} {w : World} : Dec enc Tryz.prog w 76 (AnssOk w) :=
  (dec_slice (k := 3) Tryz.underlying76 (by kernel_rfl) (by omega) (of_decide_eq_true (by kernel_rfl)) dec_ans).imp fun cs ⟨A, c, xs, h1, h2, h3, h4, h5⟩ => by
    obtain ⟨l, rfl, hi⟩ := ans_of_rows xs h4
    rw [List.length_map] at h1 h2 h3
    exact ⟨A, c, l, h1, h3, hi, h5⟩
set_option maxRecDepth 100000 in
theorem lifted (os : Os) (started : os.Started) (H : Type) (enc : TypeId × Value → H) :
    ReturnsInHanded {} Tryz.checked os 9 .any (Rows.fnExactScoreOfSpec.pre6 enc Tryz.prog Tryz.f9 Rows.fnExactScoreOfRow.domain false) (Rows.fnExactScoreOfSpec.post enc Tryz.prog Tryz.f9 false true false false) := by
  refine lifted_of started (by kernel_rfl) Tryz.func9
    (ChangeSpec.witness6 (enc := enc) (C := Tryz.checked) false ⟨#[], #[.agg #[.int .i64 0, .slice none 0 0, .slice none 0 0, .slice none 0 0, .int .i64 0, .int .i64 0, .int .i64 0], .slice none 0 0], []⟩ 8 (by kernel_rfl) (by kernel_rfl) (by kernel_rfl) (by kernel_rfl)) rfl rfl ?_ (by kernel_rfl) ?_
  · intro ds hd
    rw [Tryz.params9] at hd
    match ds, hd with
    | [_, _], _ => rfl
  intro W base args ds ps hval hA hlt hsz
  rw [Tryz.params9] at hA hval hsz
  obtain ⟨v0, vs0, d0, ds0, p0, q0, hargs, rfl, rfl, h0, r0⟩ := trodAll_cons hA
  obtain ⟨v1, vs1, d1, ds1, p1, q1, rfl, rfl, rfl, h1, r1⟩ := trodAll_cons r0
  obtain ⟨rfl, rfl, rfl⟩ := trodAll_nil r1
  obtain rfl : args = #[v0, v1] := by cases args; simp_all
  have hlt0 : ∀ x ∈ p0, x.block < W.heap.size := fun x hx => hlt x (by simp [hx])
  have hlt1 : ∀ x ∈ p1, x.block < W.heap.size := fun x hx => hlt x (by simp [hx])
  obtain ⟨cs, rfl, L, A1, c1, l1, A2, c2, l2, A3, c3, l3, p, q, r, rfl, X⟩ := dec_arg Tryz.underlying29 dec_ex (hval 0 29 v0 rfl rfl) h0 hlt0 (sized_arg hsz (j := 0) rfl rfl)
  obtain ⟨A, n, c, rfl, A', c', es, hcs, hn, hi, hs⟩ := dec_argS Tryz.underlying76 dec_anss (hval 1 76 v1 rfl rfl) h1 hlt1 (sized_arg hsz (j := 1) rfl rfl)
  simp only [List.cons.injEq, Value.slice.injEq, and_true] at hcs
  obtain ⟨rfl, rfl, rfl⟩ := hcs
  exact (lawScoreOf_c L A1 c1 l1 A2 c2 l2 A3 c3 l3 p q r A c es W X hn hi hs)

theorem over : Rows.fnExactScoreOfRow.holds Tryz.pinned (OpenSpec.ofChange Rows.fnExactScoreOfSpec) :=
  OpenClaim.holds_of_wide 9 Tryz.f9 rfl rfl rfl rfl rfl rfl rfl ⟨rfl, rfl, rfl, rfl, rfl⟩ rfl rfl rfl rfl rfl (by kernel_rfl) Tryz.func9 (by kernel_rfl)
    (of_decide_eq_true (by kernel_rfl)) (by unfold Func.isWrapper; first | (rw [if_pos (by decide +kernel)]; kernel_rfl) | (rw [if_neg (by decide +kernel)]; exact ⟨rfl, rfl⟩))
    (fun os started H enc _ => lifted os started H enc)

theorem proved : Rows.FnExactScoreOfSaid := over
#print axioms proved
end Go.Proofs.YtgkobjpoeajkdaaGreat.fnExactScoreOf
