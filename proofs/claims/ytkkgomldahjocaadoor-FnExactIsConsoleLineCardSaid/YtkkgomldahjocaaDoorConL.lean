/- FnExactIsConsoleLine: both sides and the law's walk. Conditions: what the library's variables hold. -/
import Derived.Test.YtkkgomldahjocaaDoorConI
namespace Go.Proofs.YtkkgomldahjocaaDoor
open Go.RowKit
set_option linter.unusedSimpArgs false
set_option maxRecDepth 100000 in
theorem implConLine_c (s : List UInt8) (w : World) (hl : s.length ≤ 1048576) (L : LwP w) : Calls Tryd.prog 16 #[.string (bs s)] w fun e w' => e = .returned (.bool (parseC (splitC 32 s)).isSome) ∧ Below w.heap.size w w' := by
  have HW := Lib.hid (words_c s w hl L)
  clear L
  generalize splitC 32 s = ws at *
  generalize bs s = S at *
  go_enter Tryd.func16, Tryd.ntmps16
  go_wp2_with fail
  refine Calls.mono HW.out ?_; rintro e w1 hq
  rcases hq with ⟨ns, A, c, A', c', hp, rfl, _, _, hb⟩ | ⟨hp, rfl, hb⟩
  · go_wp2
    go_ret
    exact ⟨by rw [hp]; rfl, hb⟩
  · go_wp2
    go_ret
    exact ⟨by rw [hp]; rfl, hb⟩
set_option maxRecDepth 100000 in
theorem specConLine_c (s : List UInt8) (w : World) (hl : s.length ≤ 1048576) : Calls Tryd.prog 15 #[.string (bs s)] w fun e w' => e = .returned (.bool (parseC (splitC 32 s)).isSome) ∧ Below w.heap.size w w' := by
  have HW := Lib.hid (l34Parse_c s w hl)
  generalize splitC 32 s = ws at *
  generalize bs s = S at *
  go_enter Tryd.func15, Tryd.ntmps15
  go_wp2_with fail
  refine Calls.mono HW.out ?_; rintro e w1 hq
  rcases hq with ⟨ns, A, c, A', c', hp, rfl, _, _, hb⟩ | ⟨hp, rfl, hb⟩
  · go_wp2
    go_ret
    exact ⟨by rw [hp]; rfl, hb⟩
  · go_wp2
    go_ret
    exact ⟨by rw [hp]; rfl, hb⟩
set_option maxRecDepth 100000 in
theorem lawIsConsoleLine_c (S : ByteArray) (w : World) (L : LwP w) :
    Calls Tryd.prog 5 #[.string S] w fun e w' => e = .returned (.bool true) ∧ Below w.heap.size w w' := by
  obtain ⟨s, rfl⟩ : ∃ s, S = bs s := ⟨S.data.toList, (bs_of S).symm⟩
  have hsz := bs_size s
  by_cases hbig : 1048576 < s.length
  · have hb2 : (1048576 : Int) < (bs s).size := by omega
    generalize bs s = S at *
    go_enter Tryd.func5, Tryd.ntmps5
    go_wp2
    go_ret
    exact ⟨rfl, Below.refl _ _⟩
  · have hl : s.length ≤ 1048576 := by omega
    have hb2 : ¬ (1048576 : Int) < (bs s).size := by omega
    have HS := Lib.hid (specConLine_c s w hl)
    have HI := Lib.hid (fun W (hW : Below w.heap.size w W) => implConLine_c s W hl (L.below hW))
    clear L
    generalize (parseC (splitC 32 s)).isSome = b at *
    generalize bs s = S at *
    cases b <;>
    · go_enter Tryd.func5, Tryd.ntmps5
      go_wp2_with fail
      refine Calls.mono HS.out ?_; rintro e w1 ⟨rfl, hW⟩
      go_wp2_with fail
      refine Calls.mono (HI.out w1 hW) ?_; rintro e w2 ⟨rfl, hb⟩
      go_wp2
      go_ret
      exact ⟨rfl, hW.trans (hb.mono hW.size)⟩
end Go.Proofs.YtkkgomldahjocaaDoor
