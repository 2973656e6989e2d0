/- slices.Clone and the reference's copy at []int64. Loads of whole structs by their range of cells: one step, where the walk's own load takes a step a cell. No condition. -/
import Derived.Lib.SliceRun
import Derived.Deep.MidRow
import Derived.Test.YtednjmldjbndhaaGreatDoorKMr3
import Derived.Test.YtednjmldjbndhaaGreatDoorKMr8
set_option linter.unusedSimpArgs false
set_option linter.unusedVariables false
set_option maxRecDepth 100000
set_option maxHeartbeats 8000000
namespace Go.Proofs.YtednjmldjbndhaaGreatDoor
open Go.RowKit
theorem l01Own_c (A:Option Addr) (c:Nat) (l:List Int) (w:World) (hl:l.length ≤ 4000000000) (hs:Sl w w.heap.size 1 A (l.map ic)) :
  Calls Tryz.prog 72 #[.slice A l.length c] w fun e w'=>∃ A' c',e=.returned (.slice A' l.length c')∧Own w' w.heap.size 2 1 (.slice A' l.length c') (l.map ic)∧Below w.heap.size w w':=by
 obtain ⟨i0,hi,hz0,hz1,hz2⟩:=info_parts info_Int64
 go_enter Tryz.func72,Tryz.ntmps72
 go_wp2_with (at_builtin;refine wpList_append_rows _ rfl (.tmp 3) (.tmp 4) _ rfl w.heap.size 2 i0 _ 1 8 Tryz.underlying27 hi hz0 hz1 hz2 rfl (by omega) _ [] rfl (Own.empty (Nat.le_refl _)) w.heap.size A l.length c (l.map ic) rfl (by simp) (hs.alloc (Nat.le_refl _) _) ic_one (by simp [maxLen];omega) (by simp;omega) (by simp) ?_;intro v1 w1 hO hg hat)
 go_ret
 obtain ⟨A',c',rfl,_⟩:=hO.form
 refine ⟨A',c',by simp,by simpa using hO,?_⟩
 exact below_app (((Below.refl _ _).alloc (Nat.le_refl _) _)) hg (by simp) (fun g hg'=>Nat.le_of_eq (Option.some.inj hg'))
end Go.Proofs.YtednjmldjbndhaaGreatDoor
namespace Go.Proofs.YtednjmldjbndhaaGreatDoor
open Go.RowKit
theorem Blk.range {w:World} {g:Nat} {t:TypeId} {cs:List Value} (h:Blk w g t cs.toArray):w.rangeAt g 0 cs:=fun j v hv=>by
 rw [Nat.zero_add,h.cell]
 simpa using hv
theorem Blk.part {w:World} {g:Nat} {t:TypeId} {xs cs ys:List Value} (h:Blk w g t (xs ++ cs ++ ys).toArray) {n:Nat} (hn:xs.length=n):w.rangeAt g n cs:=fun j v hv=>by
 subst hn
 have hj:j < cs.length:=(List.getElem?_eq_some_iff.1 hv).1
 rw [h.cell]
 simp only [List.getElem?_toArray]
 rw [List.append_assoc,List.getElem?_append_right (by omega),Nat.add_sub_cancel_left,List.getElem?_append_left hj]
 exact hv
end Go.Proofs.YtednjmldjbndhaaGreatDoor
