/- An argument that is a slice of bytes, opened for a law's row. -/
import Derived.Test.YtednjmldjbndhaaGreatKSc1
import Derived.Test.YtednjmldjbndhaaGreatKSc31
set_option linter.unusedSimpArgs false
set_option linter.unusedVariables false
namespace Go.Proofs.YtednjmldjbndhaaGreat
open Go.ChangeShapes Go.WideShapes Go.ChangeAt Go.RowKit Go.Deep
def IsByte (cs : List Value) : Prop := ∃ m : Int, cs = [.int .u8 m] ∧ 0 ≤ m ∧ m ≤ 255
theorem byte_of {H : Type} {enc : TypeId × Value → H} {P : Program} {w : World} {base : Nat} {spare : Nat → Bool} {held : Bool} {n : Nat} {tI : TypeId} {cs : List Value} {y : DataW H × List MemPlace} (hI : P.underlying tI = some (.int .u8)) (h : DataW.trod enc P w base spare held n tI cs = some y) : IsByte cs := by
 obtain ⟨m, hm, _, hwf⟩ := DataW.trod_int hI h
 refine ⟨m, hm, ?_⟩
 simpa [Lit.wf, IntKind.min, IntKind.max, IntKind.signed, IntKind.bits] using hwf
theorem bytes_of_rows {w : World} {A : Option Addr} {n B : Nat} {xs : List (List Value)} (hl : xs.length = n) (hok : ∀ x ∈ xs, x.length = 1 ∧ IsByte x) (hs : Sl w B 1 A xs) : Bytes w A n B := fun i hi => by
 obtain ⟨b, off, rfl, hb, hc⟩ := hs.at_ (i := i) (by omega)
 obtain ⟨_, m, hm, h1, h2⟩ := hok xs[i] (List.getElem_mem _)
 refine ⟨b, off, m, rfl, hb, ⟨h1, h2⟩, ?_⟩
 have := hc 0 (.int .u8 m) (by rw [hm]; rfl)
 simpa using this
end Go.Proofs.YtednjmldjbndhaaGreat
