/- Tick: the structure, the laws' copies and comparisons of it. No condition beyond the length. slices.ContainsFunc at []impl.Tick, at a predicate that only computes. -/
import Derived.StillTailTactics
import Derived.Shelf.Abstract
import Derived.Test.YtkjommcmeinkaaaGreatKRw2
set_option linter.unusedSimpArgs false
namespace Go.Proofs.YtkjommcmeinkaaaGreat
open Go.RowKit
@[ext] structure Tick where
  mark : Int
  place : Int
  height : Int
deriving DecidableEq
def Tick.cells (s : Tick) : List Value := [.int .i64 s.mark, .int .i64 s.place, .int .i64 s.height]
def Tick.agg (s : Tick) : Value := .agg #[.int .i64 s.mark, .int .i64 s.place, .int .i64 s.height]

theorem Tick.of_rows : ∀ rows : List (List Int), (∀ x ∈ rows, x.length = 3) → ∃ l : List Tick, rows.map (·.map (Value.int .i64)) = l.map Tick.cells
  | [], _ => ⟨[], rfl⟩
  | x :: r, h => by
    obtain ⟨l, hl⟩ := Tick.of_rows r fun y hy => h y (by simp [hy])
    match x, h x (by simp) with
    | [a, b, c], _ => exact ⟨⟨a, b, c⟩ :: l, by rw [List.map_cons, hl]; rfl⟩





theorem info_Tick : (Tryz.prog.info? 25).map (fun i => (i.zero, i.size, i.bytes)) = some (some (.agg #[.int .i64 0, .int .i64 0, .int .i64 0]), 3, 24) := by kernel_rfl



end Go.Proofs.YtkjommcmeinkaaaGreat
namespace Go.Proofs.YtkjommcmeinkaaaGreat
open Go.RowKit
/-- the function value computes p in every world that keeps all that lies in w -/
def PredTick (g : FuncId) (lb : Array Value) (p : Tick → Bool) (w : World) : Prop :=
  ∀ (x : Tick) (W : World), Below w.heap.size w W → Calls Tryz.prog g (#[x.agg] ++ lb) W fun e w' => e = .returned (.bool (p x)) ∧ Below W.heap.size W w'
def IdxPostTick (p : Tick → Bool) (l : List Tick) (w : World) (e : Ending) (w' : World) : Prop :=
  ∃ r : Int, e = .returned (.int .i64 r) ∧ decide (0 ≤ r) = l.any p ∧ Below w.heap.size w w'
set_option maxRecDepth 100000 in
theorem indexFuncTick_c (A : Option Addr) (c : Nat) (l : List Tick) (g : FuncId) (lb : Array Value) (p : Tick → Bool) (w : World)
    (eg : ∀ args w, (callFunc g args).run Tryz.prog w = .ok (.enter g args) w) (hp : PredTick g lb p w) (hl : l.length ≤ 140737488351232) (hs : Sl w w.heap.size 3 A (l.map Tick.cells)) :
    Calls Tryz.prog 71 #[.slice A l.length c, .func (.func g) #[] lb] w (IdxPostTick p l w) := by
  go_enter Tryz.func71, Tryz.ntmps71
  go_wp2_with fail
  go_loopw [8] (fun i wr => ∃ k : Nat, k ≤ l.length ∧ i = .int .i64 k ∧ Below w.heap.size w wr ∧ Hid ((l.take k).any p = false)) (fun i _ => l.length - (intOf i).toNat)
  case atStart => exact ⟨0, Nat.zero_le _, rfl, Below.refl _ _, (show (l.take 0).any p = false from by simp)⟩
  case round =>
    obtain ⟨k, hk, rfl, hb, hn⟩ := hrel
    by_cases hlt : k < l.length
    · obtain ⟨b, off, rfl, hbB, hc⟩ := hs.at_ (i := k) (by simpa using hlt)
      simp only [List.getElem_map] at hc
      have c0 : wr.cell? ⟨b, off + k * 3, none⟩ = some (.int .i64 l[k].mark) := by rw [hb.cell hbB]; exact hc 0 _ rfl
      have c1 : wr.cell? ⟨b, off + k * 3 + 1, none⟩ = some (.int .i64 l[k].place) := by rw [hb.cell hbB]; exact hc 1 _ rfl
      have c2 : wr.cell? ⟨b, off + k * 3 + 2, none⟩ = some (.int .i64 l[k].height) := by rw [hb.cell hbB]; exact hc 2 _ rfl
      clear hc
      have hcall := hp l[k] wr hb
      have hnx : (l.take (k + 1)).any p = ((l.take k).any p || p l[k]) := by rw [List.take_succ_eq_append_getElem hlt, List.any_append]; simp
      have hnx := Lib.hid hnx
      clear hp
      cases hq : p l[k] with
      | true =>
        have hq' := Lib.hid hq
        rw [hq] at hcall
        have hcall := Lib.hid hcall
        clear hq
        go_wp2_with (go_at_fn g; refine hcall.out.mono ?_; rintro e w1 ⟨rfl, hb1⟩)
        go_ret
        refine ⟨k, rfl, ?_, hb.trans (hb1.mono hb.size)⟩
        rw [show l.any p = true from List.any_eq_true.2 ⟨l[k], List.getElem_mem hlt, hq'.out⟩]
        simp
      | false =>
        have hq' := Lib.hid hq
        rw [hq] at hcall
        have hcall := Lib.hid hcall
        clear hq
        go_wp2_with (go_at_fn g; refine hcall.out.mono ?_; rintro e w1 ⟨rfl, hb1⟩)
        go_roundw
        case rel => exact ⟨k + 1, by omega, by go_num, hb.trans (hb1.mono hb.size), (show _ = false from by rw [hnx.out, hn.out, hq'.out]; rfl)⟩
        case measure => simp [intOf]; omega
    · have : k = l.length := by omega
      subst this
      go_wp2
      go_ret
      refine ⟨-1, rfl, ?_, hb⟩
      have := hn.out
      rw [List.take_length] at this
      rw [this]
      rfl
theorem containsFuncTick_c (A : Option Addr) (c : Nat) (l : List Tick) (g : FuncId) (lb : Array Value) (p : Tick → Bool) (w : World)
    (eg : ∀ args w, (callFunc g args).run Tryz.prog w = .ok (.enter g args) w) (hp : PredTick g lb p w) (hl : l.length ≤ 140737488351232) (hs : Sl w w.heap.size 3 A (l.map Tick.cells)) :
    Calls Tryz.prog 57 #[.slice A l.length c, .func (.func g) #[] lb] w fun e w' => e = .returned (.bool (l.any p)) ∧ Below w.heap.size w w' := by
  have H := Lib.hid (indexFuncTick_c A c l g lb p w eg hp hl hs)
  clear hp hs eg
  go_enter Tryz.func57, Tryz.ntmps57
  go_wp2_with fail
  refine H.out.mono ?_
  rintro e w1 ⟨r, rfl, hr, hb⟩
  go_wp2
  go_ret
  exact ⟨rfl, hb⟩
end Go.Proofs.YtkjommcmeinkaaaGreat
