/- impl.position of a mark. No condition beyond bounds. -/
import Derived.Test.YtednjmldjbndhaaGreatKGr28
set_option linter.unusedSimpArgs false
set_option linter.unusedVariables false
set_option maxRecDepth 100000
set_option maxHeartbeats 8000000
namespace Go.Proofs.YtednjmldjbndhaaGreat
open Go.RowKit
theorem shift_c (n a b:Int) (g:Nat) (w:World) (h0:w.cell? ⟨g,0,none⟩=some (.int .i64 a)) (h1:w.cell? ⟨g,1,none⟩=some (.int .i64 b)) (hg:g < w.heap.size) (hn:0 ≤ n∧n ≤ 1099511627776) (ha:-1099511627776 ≤ a∧a ≤ 1099511627776) (hb:-1099511627776 ≤ b∧b ≤ 1099511627776) :
  Calls Tryz.prog 187 #[.int .i64 n,.pointer (some ⟨g,0,none⟩)] w fun e w'=>e=.returned (.agg #[.int .i64 (a+n),.int .i64 (b+n)])∧Below w.heap.size w w':=by
 obtain ⟨n1,n2⟩:=hn
 obtain ⟨a1,a2⟩:=ha
 obtain ⟨b1,b2⟩:=hb
 go_enter Tryz.func187,Tryz.ntmps187
 go_wp2
 refine bodyPost_ret (v:=.agg #[.int .i64 (a+n),.int .i64 (b+n)]) (by simp [results,Tryz.results187,go_sem]) rfl ⟨rfl,(by repeat first | with_reducible (first | exact Below.refl _ _ | apply below_drewN' | apply Below.drew | refine Below.alloc ?_ ?_ _ | refine Below.setCell ?_ ?_ _) | exact Below.refl _ _ | omega | (simp <;> omega) | (have:=(Below.refl _ _).size;first | omega | (simp <;> omega)))⟩
end Go.Proofs.YtednjmldjbndhaaGreat
