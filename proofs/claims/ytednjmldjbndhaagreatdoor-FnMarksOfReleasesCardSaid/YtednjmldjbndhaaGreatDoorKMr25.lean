/- A great region that draws its order: its frame is a function of what has come up. Plain. -/
import Derived.Test.YtednjmldjbndhaaGreatDoorKMr3
set_option linter.unusedSimpArgs false
set_option linter.unusedVariables false
set_option maxRecDepth 100000
set_option maxHeartbeats 8000000
namespace Go.Proofs.YtednjmldjbndhaaGreatDoor
open Go.RowKit
theorem region_fr {P:Program} {Q:Exit→Act→World→Prop} {l:List Oper} (n:Nat) {id:Nat} {w:World} {slots:List Value} {d:List Deferred}
  (fr:(Nat→Bool)→List Value→Value→List Value) (S:(Nat→Bool)→Value→World→Prop) (hm:P.follows .mixedOrders=true) (hB:sinkAll l.toArray n=true)
  (x0:Value) (h00:fr (fun _=>false) slots x0=slots) (h0:S (fun _=>false) x0 w.drew)
  (hI:∀ f x v,S f x v→∀ i,i < n→f i=false→∀ o,l.toArray[i]?=some o→(∀ e ∈ o.after,Region.binds .any e=true→f e.on=true)→wpOp P l.toArray Q i (fun a' w'=>∃ x',a'=⟨(fr (upd f i) slots x').toArray,d⟩∧S (upd f i) x' w') ⟨(fr f slots x).toArray,d⟩ v)
  (hE:∀ f x v,S f x v→(∀ i,i < n→f i=true)→wpList P l.toArray Q (l.drop n) ⟨(fr f slots x).toArray,d⟩ v):(Code.region id l.toArray true).wp P Q ⟨slots.toArray,d⟩ w :=
 wp_region_sink n (fun _ f b v=>∃ x,b=⟨(fr f slots x).toArray,d⟩∧S f x v) hm hB ⟨x0,by rw [h00],h0⟩
  (fun f b v ⟨x,hb,hS⟩ i hi hf o ho ha=>by subst hb;exact hI f x v hS i hi hf o ho ha)
  (fun f b v ⟨x,hb,hS⟩ hall=>by subst hb;exact hE f x v hS hall)
end Go.Proofs.YtednjmldjbndhaaGreatDoor
