/- Any text in chunks, and its halves, are what the page says. -/
import Derived.Test.YtgkjagfdlhcgjaaCb
namespace Go.Proofs.Ytgkjagfdlhcgjaa.Pure
theorem ChunkCuts : QC.styluslaw15_ChunkCuts.Pure := Cb.ChunkCuts
end Go.Proofs.Ytgkjagfdlhcgjaa.Pure
