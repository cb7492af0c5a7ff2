/- WHOLE: a valid text's chunks are tight, and are the text again; two chunks that are joined are both, one behind the other. -/
import Derived.Test.YtgkjagfdlhcgjaaCb
namespace Go.Proofs.Ytgkjagfdlhcgjaa.Pure
theorem ChunkWhole : QC.styluslaw15_ChunkWhole.Pure := Cb.ChunkWhole
end Go.Proofs.Ytgkjagfdlhcgjaa.Pure
