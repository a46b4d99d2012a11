import Derived.Test.YtfoaeigoajooeaaZ0
import Derived.Test.YtfoaeigoajooeaaXread
/- How the laws' arguments are read. -/
namespace Go.Proofs.Ytfoaeigoajooeaa.Z
open Go.RowKit Go.Proofs.YtfoaeigoajooeaaW.PrintWords Go.Proofs.YtfoaeigoajooeaaW.PrintLast Go.Proofs.YtfoaeigoajooeaaW.PrintMore
set_option maxRecDepth 100000
def G50 (x : S50) : Prop := ((Lit.int .i64 x.f0).wf = true) ∧ (True) ∧ ((Lit.int .i64 x.f2).wf = true) ∧ (x.f3.size ≤ maxLen)
theorem of50 : OfTrod Try.prog 50 k50 G50 :=
  ofTrod_iso _ (fun a => (⟨a.1, a.2.1, a.2.2.1, a.2.2.2⟩ : S50)) (fun _ => rfl) (ofTrod_struct (segs := [(3, 1), (4, 1), (2, 1), (9, 1)]) Try.underlying50 (by kernel_rfl) rfl
    (by
      intro i f hf
      rcases i with _ | _ | _ | _ | i <;> simp at hf <;> subst hf <;> exact ⟨congrArg some (Prod.ext rfl (by kernel_rfl)), rfl⟩) (ofSegs_cons (ofTrod_int Try.underlying3) (ofSegs_cons (ofTrod_bool Try.underlying4) (ofSegs_cons (ofTrod_int Try.underlying2) (ofSegs_one (ofTrod_string Try.underlying9))))))
theorem ho50 : HeapOnly k50 := heapOnly_iso _ (heapOnly_pair (heapOnly_int _) (heapOnly_pair heapOnly_bool (heapOnly_pair (heapOnly_int _) heapOnly_string)))
def G39 (x : S39) : Prop := ((Lit.int .i64 x.f0).wf = true) ∧ ((Lit.int .i64 x.f1).wf = true)
theorem of39 : OfTrod Try.prog 39 k39 G39 :=
  ofTrod_iso _ (fun a => (⟨a.1, a.2⟩ : S39)) (fun _ => rfl) (ofTrod_struct (segs := [(3, 1), (3, 1)]) Try.underlying39 (by kernel_rfl) rfl
    (by
      intro i f hf
      rcases i with _ | _ | i <;> simp at hf <;> subst hf <;> exact ⟨congrArg some (Prod.ext rfl (by kernel_rfl)), rfl⟩) (ofSegs_cons (ofTrod_int Try.underlying3) (ofSegs_one (ofTrod_int Try.underlying3))))
theorem ho39 : HeapOnly k39 := heapOnly_iso _ (heapOnly_pair (heapOnly_int _) (heapOnly_int _))
end Go.Proofs.Ytfoaeigoajooeaa.Z
