/- What direct and background steps are, and the tallies made of numbers: plain definitions. -/
import Derived.Test.YtikejheoakhojaaM1
namespace Go.Proofs.Ytikejheoakhojaa
def dirF (a5 a6 a7 a10 a11 a12 a13 a14 : Int) : Int :=
  if obF a5 = true then 1 else if wrF a6 a7 a10 a11 a13 a14 = true then 4 else if flF a10 a12 = true then 5 else 6
def bgT (a5 a6 a7 a8 : Int) (a9 : Bool) (a10 a11 a13 a14 : Int) : Int :=
  if obF a5 = true then 1 else if deF a6 a7 a8 = true then 2 else if spF a7 a9 = true then 3 else if inF a6 a7 a10 a11 a13 a14 = true then 4 else 0
def bgF (a4 : Bool) (a5 a6 a7 a8 : Int) (a9 : Bool) (a10 a11 a13 a14 : Int) : Int := if a4 = false then 0 else bgT a5 a6 a7 a8 a9 a10 a11 a13 a14
def mdN (l : List Int) (i : Nat) : Int := l.getD i 0 % 1048576
def mdF (l : List Int) : Int × Int × Int × Int × Bool × Int × Int × Int × Int × Bool × Int × Int × Int × Int × Int :=
  (mdN l 0 % 30, mdN l 1 % 8, mdN l 1 % 8 + 1 + mdN l 10 % 6, mdN l 1 % 8 + 1 + mdN l 10 % 6 + 1 + mdN l 11 % 6, mdN l 13 % 2 == 1,
    (if 0 < mdN l 9 % 3 then 0 else mdN l 9 % 30), mdN l 2 % 6, mdN l 3 % 5, mdN l 4 % 6, decide (0 < mdN l 3 % 5) && decide (1 < mdN l 13 % 4),
    mdN l 12 % (1 + mdN l 5 % 5 + 1), 1 + mdN l 5 % 5, mdN l 6 % 9 / 7, mdN l 7 % 8, mdN l 8 % 9)
end Go.Proofs.Ytikejheoakhojaa
