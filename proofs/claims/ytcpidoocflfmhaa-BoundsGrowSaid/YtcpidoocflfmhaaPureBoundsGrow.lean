/- It is proved here that the printed function of the law BoundsGrow answers true for every two numbers: both are cut to 0 .. 524288, the bounds grow with the size there, and no sum of the law wraps.
Conditions: none. -/
import Derived.Test.YtcpidoocflfmhaaPBoundsGrowx1
namespace Go.Proofs.Ytcpidoocflfmhaa.Pure
open Go.RowKit Go.Proofs.Ytcpidoocflfmhaa.PBoundsGrow Go.Proofs.YtcpidoocflfmhaaW.PrintWords Go.Proofs.YtcpidoocflfmhaaW.PrintLast Go.Proofs.YtcpidoocflfmhaaW.PrintMore

private theorem wrap_id {n : Int} (h0 : 0 ≤ n) (h1 : n < 9223372036854775808) : wrap64 n = n := by
  unfold wrap64; omega

private theorem known_true : arbourlaw27_known.f = some true := by decide +kernel

private theorem within (a : Int) : ∃ s, arbourbook_Within.f a 0 524288 = some s ∧ 0 ≤ s ∧ s ≤ 524288 := by
  unfold arbourbook_Within.f
  have e : wrap64 (wrap64 (524288 - 0) + 1) = 524289 := by decide +kernel
  rw [e, if_neg (by decide)]
  have hlt : Int.tmod a 524289 < 524289 := Int.tmod_lt_of_pos a (by decide)
  have hgt : -524289 < Int.tmod a 524289 := by
    have := Int.tmod_lt_of_pos (-a) (b := 524289) (by decide)
    rw [Int.neg_tmod] at this; omega
  generalize Int.tmod a 524289 = m at hlt hgt
  split
  · refine ⟨m + 524289, ?_, by omega, by omega⟩
    congr 1
    unfold wrap64; omega
  · refine ⟨m, ?_, by omega, by omega⟩
    congr 1
    unfold wrap64; omega

private theorem cut_id {s : Int} (h0 : 0 ≤ s) (h1 : s ≤ 1048576) : mn (mx s 0) 1048576 = s := by
  unfold mn mx
  rw [if_neg (show ¬ s < 0 by omega), if_neg (by omega)]

private theorem tokens {s : Int} (h0 : 0 ≤ s) (h1 : s ≤ 1048576) : bounds_Tokens.f s = some (s + 1) := by
  unfold bounds_Tokens.f; rw [cut_id h0 h1]

private theorem prod_bounds {s : Int} (h0 : 0 ≤ s) (h1 : s ≤ 1048576) :
    0 ≤ (s + 1) * (s + 60) ∧ (s + 1) * (s + 60) ≤ 1048577 * 1048636 :=
  ⟨Int.mul_nonneg (by omega) (by omega), Int.mul_le_mul (by omega) (by omega) (by omega) (by omega)⟩

private theorem nodes {s : Int} (h0 : 0 ≤ s) (h1 : s ≤ 1048576) :
    bounds_Nodes.f s = some ((s + 1) * (s + 60) + 20) := by
  unfold bounds_Nodes.f
  rw [tokens h0 h1, Option.bind_some, cut_id h0 h1]
  have := prod_bounds h0 h1
  rw [wrap_id (n := (s + 1) * (s + 60)) this.1 (by omega), wrap_id (by omega) (by omega)]

private theorem ops {s : Int} (h0 : 0 ≤ s) (h1 : s ≤ 1048576) :
    bounds_Ops.f s = some (4 * ((s + 1) * (s + 60) + 20)) := by
  unfold bounds_Ops.f
  rw [nodes h0 h1, Option.bind_some]
  have := prod_bounds h0 h1
  rw [wrap_id (by omega) (by omega)]

theorem BoundsGrow : arbourlaw27_BoundsGrow.Pure := by
  intro a b _ _
  obtain ⟨s, es, s0, s1⟩ := within a
  obtain ⟨t, et, t0, t1⟩ := within b
  unfold arbourlaw27_BoundsGrow.f
  rw [es, et, known_true]
  simp only [Option.bind_some]
  rw [wrap_id (n := s + t) (by omega) (by omega),
    tokens (s := s + t) (by omega) (by omega), tokens (s := s) s0 (by omega),
    nodes (s := s + t) (by omega) (by omega), nodes (s := s) s0 (by omega),
    ops (s := s + t) (by omega) (by omega), ops (s := s) s0 (by omega)]
  simp only [Option.bind_some]
  have grow : (s + 1) * (s + 60) ≤ (s + t + 1) * (s + t + 60) :=
    Int.mul_le_mul (by omega) (by omega) (by omega) (by omega)
  have big : (s + 1) * 60 ≤ (s + 1) * (s + 60) := Int.mul_le_mul_of_nonneg_left (by omega) (by omega)
  have p0 := (prod_bounds s0 (show s ≤ 1048576 by omega)).1
  rw [if_pos (by omega), if_pos (by omega), if_pos (by omega), if_pos (by omega), if_pos (by omega), if_pos (by omega)]

end Go.Proofs.Ytcpidoocflfmhaa.Pure
