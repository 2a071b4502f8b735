/- What label.Text, Parse tell. No conditions. -/
import Derived.Test.YtiagoiannccdmaaDoorCnfParse
import Derived.Test.YtiagoiannccdmaaDoorCut
import Derived.Test.YtiagoiannccdmaaDoorOrd2
namespace Go.Proofs.YtiagoiannccdmaaDoor
open Go.RowKit Go.Shelf
def textLb (a : Lz.Lab) : List UInt8 := textF a.1 ++ 47 :: textF a.2
def parseLb (t : List UInt8) : Lz.Lab × Bool :=
  if (cut47 t).2.2 = true then
    if (parseF (cut47 t).1).2 = true then
      if (parseF (cut47 t).2.1).2 = true then (((parseF (cut47 t).1).1, (parseF (cut47 t).2.1).1), true) else (([], []), false)
    else (([], []), false)
  else (([], []), false)
end Go.Proofs.YtiagoiannccdmaaDoor
