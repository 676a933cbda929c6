/- The contracts of sha.all, sha.padded and sha.Sum. -/
import Derived.Test.YtmeopnnhoodlaaaShaC
namespace Go.Proofs.Ytmeopnnhoodlaaa
open Go.RowKit Sha

theorem wpList_build_at {P : Program} {ops : Array Oper} {rest : List Oper} {o : Oper} {a : Act} {w : World} {Q : Exit → Act → World → Prop} (hg : o.guard = none) (t : TypeId) (parts : Array (Nat × Operand)) (ho : o.op = .build t parts)
    (cs : Array Value) (hf : P.built t (parts.map fun (i, x) => (i, a.eval x)).toList = some cs) (h : wpList P ops Q rest (a.put o.dst (.agg cs)) w) : wpList P ops Q (o :: rest) a w :=
  wpList_build hg t parts ho (by rw [hf]; rfl) (by rw [hf]; exact h)

set_option maxRecDepth 100000 in
set_option maxHeartbeats 400000 in
theorem all_calls (w : World) :
    Calls Try.prog 22 #[] w fun e w' => e = .returned (.pointer (some ⟨w.heap.size, 0, none⟩)) ∧ w.alloc (.cells (ints (first ++ K)) 48) = w' := by
  go_enter Try.func22, Try.ntmps22
  go_wp2_with (first
    | ((with_reducible show wpList _ _ _ (Oper.mk _ (Op.build 45 _) _ _ _ _ :: _) _ _); refine wpList_build_at rfl 45 _ rfl (ints first) ?_ ?_; kernel_rfl)
    | ((with_reducible show wpList _ _ _ (Oper.mk _ (Op.build 46 _) _ _ _ _ :: _) _ _); refine wpList_build_at rfl 46 _ rfl (ints K) ?_ ?_; kernel_rfl)
    | ((with_reducible show wpList _ _ _ (Oper.mk _ (Op.build 48 _) _ _ _ _ :: _) _ _); refine wpList_build_at rfl 48 _ rfl (ints (first ++ K)) ?_ ?_; kernel_rfl))
  go_ret
  exact ⟨rfl, rfl⟩
end Go.Proofs.Ytmeopnnhoodlaaa
