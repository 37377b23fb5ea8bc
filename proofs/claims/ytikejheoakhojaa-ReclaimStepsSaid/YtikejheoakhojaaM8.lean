/- What Check, Plan and Steps come to, in closed form: plain definitions. -/
import Derived.Test.YtikejheoakhojaaM6
namespace Go.Proofs.Ytikejheoakhojaa
def inB (lo hi x : Int) : Bool := decide (lo ≤ x) && decide (x ≤ hi)
def chkB (t : Ty) : Bool :=
  inB 0 256 t.f0 && inB 0 256 t.f5 && inB 0 256 t.f6 && inB 0 256 t.f7 && inB 0 256 t.f8 && inB 0 256 t.f14 && decide (0 ≤ t.f1) && decide (t.f1 < t.f2) && decide (t.f2 < t.f3) && decide (t.f3 ≤ 256) &&
    inB 1 16 t.f11 && inB 0 t.f11 t.f10 && inB 0 32 t.f12 && inB 0 32 t.f13
def chkE (t : Ty) : Int := if chkB t = true then (if t.f9 = true ∧ t.f7 = 0 then 3 else 0) else 2
def planE (t : Ty) (n : Int) : List Int × Int := if chkE t = 0 then (if 0 ≤ n ∧ n ≤ 1000 then (Ty.plan n.toNat t, 0) else ([], 2)) else ([], chkE t)
def stepsE (t : Ty) : Int × Int := if chkE t = 0 then (Ty.cnt 1000 t, 0) else (0, chkE t)
theorem Ty.Ok.of_chk {t : Ty} (h : chkE t = 0) : t.Ok := by
  unfold chkE at h
  split at h
  · rename_i hb
    simp [chkB, inB] at hb
    unfold Ty.Ok
    omega
  · omega
end Go.Proofs.Ytikejheoakhojaa
