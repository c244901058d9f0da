import Derived.Test.YtmgdkkkkanjadaaGreatDoorHandO
namespace Go.Proofs.YtmgdkkkkanjadaaGreatDoor.Eval
open Go.Proofs.YtmgdkkkkanjadaaGreatDoor.X Go.Proofs.YtmgdkkkkanjadaaGreatDoor.HandO
theorem e1 : exprsS 60 ⟨#[51, 32, 108, 105, 102, 101, 32, 109, 105, 110, 101, 32, 40, 43, 32, 49, 32, 112, 111, 119, 101, 114, 41]⟩ = some ([⟨0, 3, 0, z40, []⟩, ⟨1, 0, 0, z40, []⟩, ⟨4, 0, 0, z40, [⟨0, 1, 0, z40, []⟩, ⟨3, 0, 0, z40, []⟩]⟩], 0, 0, 0) := by kernel_rfl
theorem e2 : exprsS 60 ⟨#[40, 110, 111, 116, 41]⟩ = some ([], 5, 1, 5) := by kernel_rfl
theorem e3 : exprsS 60 ⟨#[40, 41]⟩ = some ([], 5, 1, 2) := by kernel_rfl
theorem e4 : exprsS 60 ⟨#[99, 111, 117, 110, 116, 32, 109, 105, 110, 101, 32, 114, 111, 119, 32, 117, 110, 105, 116]⟩ = some ([⟨2, 0, 0, ⟨0, 2, 1⟩, []⟩], 0, 0, 0) := by kernel_rfl
theorem p1 : poolS 60 ⟨#[117, 110, 105, 116, 32, 111, 103, 114, 101, 32, 52, 32, 49, 56, 48, 48, 32, 48, 32, 123, 32, 125]⟩ = some ([⟨⟨#[111, 103, 114, 101]⟩, 0, 4, 1800, 0, []⟩], 0, 0, 0) := by kernel_rfl
theorem p2 : poolS 200 ⟨#[115, 112, 101, 108, 108, 32, 114, 97, 105, 110, 32, 123, 32, 112, 108, 97, 121, 58, 32, 100, 97, 109, 97, 103, 101, 32, 116, 104, 101, 105, 114, 115, 32, 53, 48, 48, 59, 32, 125]⟩ = some ([⟨⟨#[114, 97, 105, 110]⟩, 1, 0, 0, 0, [⟨0, 0, 0, [], 0, 0, false, 0, z40, [⟨2, 1, ⟨0, 500, 0, z40, []⟩, false, z40⟩]⟩]⟩], 0, 0, 0) := by kernel_rfl
theorem p3 : poolS 60 ⟨#[117, 110, 105, 116, 32, 51]⟩ = some ([], 5, 1, 6) := by kernel_rfl
end Go.Proofs.YtmgdkkkkanjadaaGreatDoor.Eval
