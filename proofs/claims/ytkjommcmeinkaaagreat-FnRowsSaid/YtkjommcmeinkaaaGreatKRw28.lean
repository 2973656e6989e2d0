/- The reference's draws of rows: of a scale and a row, and of a row. Condition: the code has at most 4096 bytes. Part: the structure, the laws' copies and comparisons of it. No condition beyond the length. -/
import Derived.StillTailTactics
import Derived.Test.YtkjommcmeinkaaaGreatKRw2
import Derived.Test.YtkjommcmeinkaaaGreatKRw27
set_option linter.unusedSimpArgs false
namespace Go.Proofs.YtkjommcmeinkaaaGreat
open Go.RowKit
set_option maxRecDepth 100000 in
set_option maxHeartbeats 800000 in
theorem drawIsOrdered_c (A : Option Addr) (n c : Nat) (w : World) (hn : n ≤ 4096) (hb : Bytes w A n w.heap.size) :
    Calls Tryz.prog 8 #[.slice A n c] w fun e w' => ∃ (sc : Int) (R : List Tick) (A' : Option Addr) (c' : Nat), e = .returned (.tuple #[.int .i64 sc, .slice A' R.length c']) ∧ R.length ≤ 100 ∧ Own w' w.heap.size 25 3 (.slice A' R.length c') (R.map Tick.cells) ∧ Below w.heap.size w w' := by
  have hF := Lib.hid (l01From_c A n c w hn hb)
  clear hb
  go_enter Tryz.func8, Tryz.ntmps8
  go_wp2_with (go_at_call 20; refine hF.out.mono ?_; rintro e w1 ⟨rfl, hS, hB⟩)
  have hw1 := hS.lt
  refine (l29Draw_c A n c _ _ hS).mono ?_; rintro e w2 ⟨sc, ln, R, A', c', rfl, hR, hO, hS, hg⟩
  have hlt1 := hB.size
  have hB := below_src hB hg hB.size (Nat.le_refl _)
  clear hg
  go_wp2_with fail
  refine bodyPost_ret (v := .tuple #[.int .i64 sc, .slice A' R.length c']) (by simp [results, Tryz.results8, go_sem]) rfl ⟨sc, R, A', c', rfl, hR, hO.mono hlt1, hB⟩
set_option maxRecDepth 100000 in
set_option maxHeartbeats 800000 in
theorem drawDoubleMarks_c (A : Option Addr) (n c : Nat) (w : World) (hn : n ≤ 4096) (hb : Bytes w A n w.heap.size) :
    Calls Tryz.prog 14 #[.slice A n c] w fun e w' => ∃ (R : List Tick) (A' : Option Addr) (c' : Nat), e = .returned (.slice A' R.length c') ∧ R.length ≤ 100 ∧ Own w' w.heap.size 25 3 (.slice A' R.length c') (R.map Tick.cells) ∧ Below w.heap.size w w' := by
  have hF := Lib.hid (l01From_c A n c w hn hb)
  clear hb
  go_enter Tryz.func14, Tryz.ntmps14
  go_wp2_with (go_at_call 20; refine hF.out.mono ?_; rintro e w1 ⟨rfl, hS, hB⟩)
  have hw1 := hS.lt
  refine (l29Draw_c A n c _ _ hS).mono ?_; rintro e w2 ⟨sc, ln, R, A', c', rfl, hR, hO, hS, hg⟩
  have hlt1 := hB.size
  have hB := below_src hB hg hB.size (Nat.le_refl _)
  clear hg
  go_wp2_with fail
  go_ret
  exact ⟨R, A', c', rfl, hR, hO.mono hlt1, hB⟩
end Go.Proofs.YtkjommcmeinkaaaGreat
namespace Go.Proofs.YtkjommcmeinkaaaGreat
open Go.RowKit
@[ext] structure Part where
  fr : Int
  to : Int
  st : Int
deriving DecidableEq
def Part.cells (s : Part) : List Value := [.int .i64 s.fr, .int .i64 s.to, .int .i64 s.st]
def Part.agg (s : Part) : Value := .agg #[.int .i64 s.fr, .int .i64 s.to, .int .i64 s.st]

theorem Part.of_rows : ∀ rows : List (List Int), (∀ x ∈ rows, x.length = 3) → ∃ l : List Part, rows.map (·.map (Value.int .i64)) = l.map Part.cells
  | [], _ => ⟨[], rfl⟩
  | x :: r, h => by
    obtain ⟨l, hl⟩ := Part.of_rows r fun y hy => h y (by simp [hy])
    match x, h x (by simp) with
    | [a, b, c], _ => exact ⟨⟨a, b, c⟩ :: l, by rw [List.map_cons, hl]; rfl⟩





theorem info_Part : (Tryz.prog.info? 78).map (fun i => (i.zero, i.size, i.bytes)) = some (some (.agg #[.int .i64 0, .int .i64 0, .int .i64 0]), 3, 24) := by kernel_rfl



end Go.Proofs.YtkjommcmeinkaaaGreat
