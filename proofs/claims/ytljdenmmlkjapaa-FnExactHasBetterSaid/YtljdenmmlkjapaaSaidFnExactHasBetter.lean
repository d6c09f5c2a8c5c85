import Derived.Test.YtljdenmmlkjapaaPx3
namespace Go.Proofs.Ytljdenmmlkjapaa.P
open Go.RowKit Go.Proofs.YtljdenmmlkjapaaW.PrintWords Go.Proofs.YtljdenmmlkjapaaW.PrintLast
def wfS23 (s : S23) : Prop := (fun n : Int => (Lit.int .i64 n).wf = true) s.f0 ∧ (fun n : Int => (Lit.int .i64 n).wf = true) s.f1 ∧ (fun n : Int => (Lit.int .i64 n).wf = true) s.f2
/-- The one pure statement of laws_FnExactHasBetter. -/
def laws_FnExactHasBetter.Pure : Prop := ∀ (s0 : S23) (s1 : S23), wfS23 s0 → wfS23 s1 → laws_FnExactHasBetter.f s0.f0 s0.f1 s0.f2 s1.f0 s1.f1 s1.f2 = some true
end Go.Proofs.Ytljdenmmlkjapaa.P
