/- It is proved here that the printed function of the law BoundsNumbers answers true: its loop runs over a list of nine numbers, so ten rounds are enough and the kernel reckons them.
Conditions: none. -/
import Derived.Test.YtcpidoocflfmhaaPBoundsNumbersx1
namespace Go.Proofs.Ytcpidoocflfmhaa.Pure
open Go.RowKit Go.Proofs.Ytcpidoocflfmhaa.PBoundsNumbers Go.Proofs.YtcpidoocflfmhaaW.PrintWords Go.Proofs.YtcpidoocflfmhaaW.PrintLast

theorem BoundsNumbers : arbourlaw27_BoundsNumbers.Pure :=
  ⟨12, by decide +kernel⟩

end Go.Proofs.Ytcpidoocflfmhaa.Pure
