/- Plain laws of netting: the chapter's examples, worked out. No Go in sight. -/
import Derived.Test.Ytolfgdkdghhidaaplain39g
namespace Go.Proofs.Ytolfgdkdghhidaa
abbrev exL : List Debt := [⟨0, 1, 10⟩, ⟨0, 1, 5⟩, ⟨1, 0, 4⟩, ⟨1, 2, 8⟩, ⟨2, 0, 6⟩]
abbrev exB : List Int := [-5, 3, 2, 0, 0, 0, 0, 0]
theorem ex_err : errN exL = 0 := by kernel_rfl
theorem ex_bal : balR exL = exB := by kernel_rfl
theorem ex_pair : pairR exL = [⟨0, 1, 11⟩, ⟨1, 2, 8⟩, ⟨2, 0, 6⟩] := by kernel_rfl
theorem ex_cyc : cycI exL = some [0, 1, 2] := by kernel_rfl
theorem ex_round : rndR exL = [⟨0, 1, 5⟩, ⟨1, 2, 2⟩] := by kernel_rfl
theorem ex_stl : (stlR exB).length = 2 := by kernel_rfl
theorem ex_errB : errI exB = 0 := by kernel_rfl
theorem ex_three : (stlR [5, -5, 3, 4, -7, 0, 0, 0]).length = 3 := by kernel_rfl
theorem ex_four : (stlR [5, -2, -3, 4, -4, 1, -1, 0]).length = 4 := by kernel_rfl
end Go.Proofs.Ytolfgdkdghhidaa
