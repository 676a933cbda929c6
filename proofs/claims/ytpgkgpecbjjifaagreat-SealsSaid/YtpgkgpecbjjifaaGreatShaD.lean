/- The contracts of sha.all, sha.padded and sha.Sum. -/
import Derived.Test.YtpgkgpecbjjifaaGreatShaC
namespace Go.Proofs.YtpgkgpecbjjifaaGreat
open Go.RowKit Sha

theorem wpList_build_at {P : Program} {ops : Array Oper} {rest : List Oper} {o : Oper} {a : Act} {w : World} {Q : Exit → Act → World → Prop} (hg : o.guard = none) (t : TypeId) (parts : Array (Nat × Operand)) (ho : o.op = .build t parts)
    (cs : Array Value) (hf : P.built t (parts.map fun (i, x) => (i, a.eval x)).toList = some cs) (h : wpList P ops Q rest (a.put o.dst (.agg cs)) w) : wpList P ops Q (o :: rest) a w :=
  wpList_build hg t parts ho (by rw [hf]; rfl) (by rw [hf]; exact h)

set_option maxRecDepth 100000 in
set_option maxHeartbeats 400000 in
theorem all_calls (w : World) :
    Calls Tryz.prog 256 #[] w fun e w' => e = .returned (.pointer (some ⟨w.heap.size, 0, none⟩)) ∧ w.alloc (.cells (ints (first ++ K)) 332) = w' := by
  go_enter Tryz.func256, Tryz.ntmps256
  go_wp2_with (first
    | ((with_reducible show wpList _ _ _ (Oper.mk _ (Op.build 329 _) _ _ _ _ :: _) _ _); refine wpList_build_at rfl 329 _ rfl (ints first) ?_ ?_; kernel_rfl)
    | ((with_reducible show wpList _ _ _ (Oper.mk _ (Op.build 330 _) _ _ _ _ :: _) _ _); refine wpList_build_at rfl 330 _ rfl (ints K) ?_ ?_; kernel_rfl)
    | ((with_reducible show wpList _ _ _ (Oper.mk _ (Op.build 332 _) _ _ _ _ :: _) _ _); refine wpList_build_at rfl 332 _ rfl (ints (first ++ K)) ?_ ?_; kernel_rfl))
  go_ret
  exact ⟨rfl, rfl⟩
end Go.Proofs.YtpgkgpecbjjifaaGreat
