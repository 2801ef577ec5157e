import Derived.Test.YtboenehajoaahaaAmA
namespace Go.Proofs.Ytboenehajoaahaa.Am
open Go
structure Edge where
  frm : Int
  to : Int
  kind : Int
  key : Int
  deriving DecidableEq
def Edge.u (e : Edge) : U := .agg [.int .i64 e.frm, .int .i64 e.to, .int .i64 e.kind, .int .i64 e.key]
end Go.Proofs.Ytboenehajoaahaa.Am
