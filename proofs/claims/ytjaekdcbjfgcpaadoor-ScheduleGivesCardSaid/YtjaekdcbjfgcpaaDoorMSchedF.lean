/- What an epoch's secrets are by definition, and the chapter's example. -/
import Derived.Test.YtjaekdcbjfgcpaaDoorMDerC
namespace Go.Proofs.YtjaekdcbjfgcpaaDoor.fn
open Go Go.Proofs Go.Ev Go.Dg

/-- A secret by a label; noughts of what is too long. -/
def secF (s : List Int) (label : List UInt8) (ctx : List Int) : List Int := if ctx.length ≤ 16384 then labelOf s label ctx 32 else z32

def joinF (init way ctx : List Int) : List Int := secF (hmac (cut (some 32) 0 init) (cut (some 32) 0 way)) [106, 111, 105, 110, 101, 114] ctx
def ofE (joiner ctx : List Int) : List Int := secF (hmac (cut (some 32) 0 joiner) []) [101, 112, 111, 99, 104] ctx
def ofK {R : Type} (r : List Int → List Int → List Int → List Int → List Int → List Int → List Int → List Int → Option R) (joiner ctx : List Int) : Option R :=
  r joiner (secF (hmac (cut (some 32) 0 joiner) []) [119, 101, 108, 99, 111, 109, 101] []) (ofE joiner ctx) (secF (ofE joiner ctx) [99, 111, 110, 102, 105, 114, 109] []) (secF (ofE joiner ctx) [101, 120, 112, 111, 114, 116, 101, 114] []) (secF (ofE joiner ctx) [97, 117, 116, 104, 101, 110, 116, 105, 99, 97, 116, 111, 114] [])
    (secF (ofE joiner ctx) [105, 100, 101, 110, 116, 105, 102, 105, 101, 114] []) (secF (ofE joiner ctx) [105, 110, 105, 116] [])
def beginJ (draw ctx : List Int) : List Int := joinF (secF draw [98, 101, 103, 105, 110] []) z32 ctx

def one32 : List Int := [1, 0, 0, 0, 0, 0, 0, 0, 0, 0, 0, 0, 0, 0, 0, 0, 0, 0, 0, 0, 0, 0, 0, 0, 0, 0, 0, 0, 0, 0, 0, 0]
def aliveE : List Int := ofE (beginJ one32 [99]) [99]
theorem alive_a : ((aliveE).getD 0 0 == 0 && (aliveE).getD 1 0 == 0 && (aliveE).getD 2 0 == 0) = false := by decide +kernel
theorem alive_b : ((aliveE).getD 0 0 == (secF aliveE [105, 110, 105, 116] []).getD 0 0 && (aliveE).getD 1 0 == (secF aliveE [105, 110, 105, 116] []).getD 1 0 && (aliveE).getD 2 0 == (secF aliveE [105, 110, 105, 116] []).getD 2 0) = false := by decide +kernel

end Go.Proofs.YtjaekdcbjfgcpaaDoor.fn
