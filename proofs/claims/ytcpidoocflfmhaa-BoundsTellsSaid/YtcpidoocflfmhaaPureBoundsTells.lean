/- It is proved here that the printed function of the law BoundsTells answers true for every number: the size is cut to 0 .. 1048576, and at such a size no sum of the law wraps.
Conditions: none. -/
import Derived.Test.YtcpidoocflfmhaaPBoundsTellsx1
namespace Go.Proofs.Ytcpidoocflfmhaa.Pure
open Go.RowKit Go.Proofs.Ytcpidoocflfmhaa.PBoundsTells Go.Proofs.YtcpidoocflfmhaaW.PrintWords Go.Proofs.YtcpidoocflfmhaaW.PrintLast Go.Proofs.YtcpidoocflfmhaaW.PrintMore

private theorem wrap_id {n : Int} (h0 : 0 ≤ n) (h1 : n < 9223372036854775808) : wrap64 n = n := by
  unfold wrap64; omega

private theorem size_cut (a : Int) : arbourlaw27_size.f a = some (mn (mx a 0) 1048576) := by
  unfold arbourlaw27_size.f mn mx
  by_cases h : a < 0
  · simp [h]
  · by_cases h2 : a > 1048576
    · simp [h, h2]
    · simp [h, h2]

private theorem cut_bounds (a : Int) : 0 ≤ mn (mx a 0) 1048576 ∧ mn (mx a 0) 1048576 ≤ 1048576 := by
  unfold mn mx
  constructor <;> (split <;> split <;> omega)

private theorem known_true : arbourlaw27_known.f = some true := by decide +kernel

theorem BoundsTells : arbourlaw27_BoundsTells.Pure := by
  intro a _
  obtain ⟨h0, h1⟩ := cut_bounds a
  unfold arbourlaw27_BoundsTells.f bounds_Ops.f bounds_Nodes.f bounds_Tokens.f
  rw [size_cut, known_true]
  simp only [Option.bind_some]
  generalize mn (mx a 0) 1048576 = s at h0 h1
  rw [wrap_id (n := s + 1) (by omega) (by omega), wrap_id (n := s + 60) (by omega) (by omega)]
  simp only [if_true]

end Go.Proofs.Ytcpidoocflfmhaa.Pure
