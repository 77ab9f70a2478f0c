import Derived.Test.YtjnachnjfdgpgaaGreatDoorFnU
set_option linter.all false
set_option maxRecDepth 20000
set_option maxHeartbeats 1000000
namespace Go.Ab
open Go Go.Proofs.Tryz
@[push_cast] theorem attr_dec (a b:Attr):(decide (a.name=b.name)&&decide (a.value=b.value))=eqB a b:=by
 by_cases h:a=b
 ·subst h;simp [eqB_self]
 ·rw [eqB_ne h]
  cases a;cases b
  simp at h ⊢
  intro h1 h2
  exact h h1 h2
end Go.Ab
