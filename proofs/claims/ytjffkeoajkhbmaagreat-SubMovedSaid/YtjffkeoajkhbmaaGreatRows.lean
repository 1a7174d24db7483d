/-
  No cell of these rows narrows 'for every input' (looked for: loops, veiled, ifaces, maps, wideKeys, modest, calm, conditions, laid).
  DERIVED. THE GIVEN ROWS OF THIS SEAT. 10 by the template 'for every input the law returns true; each argument reads behind the call as it read before'; 0 by the template 'total and deterministic' (their statements: YtjffkeoajkhbmaaGreatTotals.lean).
  GIVEN WITH THE SEED: the statements are not yours to turn. If you find one false, say at which input.
  Laid BY PROGRAM, IN A SANDBOX (cutbox-rows.mjs): the forced cells as the released guide's own fill.sh prints them over the translation b79f23477507e4de… (all of the seat's roots in one cut). By AI agents, Wed Nov 11 2026. No macro, syntax, notation, axiom, sorry.
-/
import Derived.Test.YtjffkeoajkhbmaaGreatChecked
import GoSem.Claim
import GoSem.ClaimJoined
import GoSem.ClaimMapViews
import Derived.JoinedTies
import Derived.KernelRfl
namespace Go.Proofs.YtjffkeoajkhbmaaGreat
/- THE CELL 'sum', in the pinned program and in every row, IS THE sha256 OF THE DUMP (.gsa) THAT YtjffkeoajkhbmaaGreatProg.lean LOADS. Nothing in Lean hashes anything: it is a label: what it is worth is what the hold of that sum in a sandbox is worth. -/
noncomputable def Tryz.pinned : Pinned := { name := "ytjffkeoajkhbmaagreat", sum := "b79f23477507e4dea036aea99f135c12f23fd62e5f5f2e4aeea61560128bbb54", checked := Tryz.checked }
namespace Rows
def none {H : Type} : Left H := { results := [], args := [] }

/-- 'trestlelaw04.SubOrders': WHATEVER THE INPUT: true; the input reads as it did. -/
def subOrdersSpec : ChangeSpec := { name := "subOrders", fn := fun _ => fun
  | [d1, d2, d3, d4] => { results := [.lit (.bool true)], args := [d1, d2, d3, d4] }
  | _ => none }
def subOrdersRow : OpenClaim := { program := "ytjffkeoajkhbmaagreat", sum := "b79f23477507e4dea036aea99f135c12f23fd62e5f5f2e4aeea61560128bbb54", func := "trestle/trestlelaw04.SubOrders", spec := "subOrders", inPlace := ["internal/bytealg.IndexByteString", "internal/bytealg.IndexString"], unfollowed := true, recurses := true, named := ["internal/bytealg.MaxLen"], apart := false }
def SubOrdersSaid : Prop := subOrdersRow.holds Tryz.pinned (OpenSpec.ofChange subOrdersSpec)

/-- ITS FALSE NEIGHBOUR: 'it returns false'. Refute it at one input. -/
def subOrdersWrong : ChangeSpec := { name := "subOrders", fn := fun _ => fun
  | [d1, d2, d3, d4] => { results := [.lit (.bool false)], args := [d1, d2, d3, d4] }
  | _ => none }
def SubOrdersWrongFalsely : Prop := subOrdersRow.holds Tryz.pinned (OpenSpec.ofChange subOrdersWrong)

/-- 'trestlelaw04.SubMore': WHATEVER THE INPUT: true; the input reads as it did. -/
def subMoreSpec : ChangeSpec := { name := "subMore", fn := fun _ => fun
  | [d1, d2, d3] => { results := [.lit (.bool true)], args := [d1, d2, d3] }
  | _ => none }
def subMoreRow : OpenClaim := { program := "ytjffkeoajkhbmaagreat", sum := "b79f23477507e4dea036aea99f135c12f23fd62e5f5f2e4aeea61560128bbb54", func := "trestle/trestlelaw04.SubMore", spec := "subMore", inPlace := ["internal/bytealg.IndexByteString", "internal/bytealg.IndexString"], unfollowed := true, recurses := true, named := ["internal/bytealg.MaxLen"], apart := false }
def SubMoreSaid : Prop := subMoreRow.holds Tryz.pinned (OpenSpec.ofChange subMoreSpec)

/-- ITS FALSE NEIGHBOUR: 'it returns false'. Refute it at one input. -/
def subMoreWrong : ChangeSpec := { name := "subMore", fn := fun _ => fun
  | [d1, d2, d3] => { results := [.lit (.bool false)], args := [d1, d2, d3] }
  | _ => none }
def SubMoreWrongFalsely : Prop := subMoreRow.holds Tryz.pinned (OpenSpec.ofChange subMoreWrong)

/-- 'trestlelaw04.SubJoins': WHATEVER THE INPUT: true; the input reads as it did. -/
def subJoinsSpec : ChangeSpec := { name := "subJoins", fn := fun _ => fun
  | [d1, d2, d3, d4] => { results := [.lit (.bool true)], args := [d1, d2, d3, d4] }
  | _ => none }
def subJoinsRow : OpenClaim := { program := "ytjffkeoajkhbmaagreat", sum := "b79f23477507e4dea036aea99f135c12f23fd62e5f5f2e4aeea61560128bbb54", func := "trestle/trestlelaw04.SubJoins", spec := "subJoins", inPlace := ["internal/bytealg.IndexByteString", "internal/bytealg.IndexString"], unfollowed := true, recurses := true, named := ["internal/bytealg.MaxLen"], apart := false }
def SubJoinsSaid : Prop := subJoinsRow.holds Tryz.pinned (OpenSpec.ofChange subJoinsSpec)

/-- ITS FALSE NEIGHBOUR: 'it returns false'. Refute it at one input. -/
def subJoinsWrong : ChangeSpec := { name := "subJoins", fn := fun _ => fun
  | [d1, d2, d3, d4] => { results := [.lit (.bool false)], args := [d1, d2, d3, d4] }
  | _ => none }
def SubJoinsWrongFalsely : Prop := subJoinsRow.holds Tryz.pinned (OpenSpec.ofChange subJoinsWrong)

/-- 'trestlelaw04.SubMemory': WHATEVER THE INPUT: true; the input reads as it did. -/
def subMemorySpec : ChangeSpec := { name := "subMemory", fn := fun _ => fun
  | [d1, d2, d3] => { results := [.lit (.bool true)], args := [d1, d2, d3] }
  | _ => none }
def subMemoryRow : OpenClaim := { program := "ytjffkeoajkhbmaagreat", sum := "b79f23477507e4dea036aea99f135c12f23fd62e5f5f2e4aeea61560128bbb54", func := "trestle/trestlelaw04.SubMemory", spec := "subMemory", inPlace := ["internal/bytealg.IndexByteString", "internal/bytealg.IndexString"], unfollowed := true, recurses := true, named := ["internal/bytealg.MaxLen"], apart := false }
def SubMemorySaid : Prop := subMemoryRow.holds Tryz.pinned (OpenSpec.ofChange subMemorySpec)

/-- ITS FALSE NEIGHBOUR: 'it returns false'. Refute it at one input. -/
def subMemoryWrong : ChangeSpec := { name := "subMemory", fn := fun _ => fun
  | [d1, d2, d3] => { results := [.lit (.bool false)], args := [d1, d2, d3] }
  | _ => none }
def SubMemoryWrongFalsely : Prop := subMemoryRow.holds Tryz.pinned (OpenSpec.ofChange subMemoryWrong)

/-- 'trestlelaw04.SubAssignable': WHATEVER THE INPUT: true; the input reads as it did. -/
def subAssignableSpec : ChangeSpec := { name := "subAssignable", fn := fun _ => fun
  | [d1, d2, d3, d4] => { results := [.lit (.bool true)], args := [d1, d2, d3, d4] }
  | _ => none }
def subAssignableRow : OpenClaim := { program := "ytjffkeoajkhbmaagreat", sum := "b79f23477507e4dea036aea99f135c12f23fd62e5f5f2e4aeea61560128bbb54", func := "trestle/trestlelaw04.SubAssignable", spec := "subAssignable", inPlace := ["internal/bytealg.IndexByteString", "internal/bytealg.IndexString"], unfollowed := true, recurses := true, named := ["internal/bytealg.MaxLen"], apart := false }
def SubAssignableSaid : Prop := subAssignableRow.holds Tryz.pinned (OpenSpec.ofChange subAssignableSpec)

/-- ITS FALSE NEIGHBOUR: 'it returns false'. Refute it at one input. -/
def subAssignableWrong : ChangeSpec := { name := "subAssignable", fn := fun _ => fun
  | [d1, d2, d3, d4] => { results := [.lit (.bool false)], args := [d1, d2, d3, d4] }
  | _ => none }
def SubAssignableWrongFalsely : Prop := subAssignableRow.holds Tryz.pinned (OpenSpec.ofChange subAssignableWrong)

/-- 'trestlelaw04.SubAssigns': WHATEVER THE INPUT: true; the input reads as it did. -/
def subAssignsSpec : ChangeSpec := { name := "subAssigns", fn := fun _ => fun
  | [d1, d2, d3, d4, d5] => { results := [.lit (.bool true)], args := [d1, d2, d3, d4, d5] }
  | _ => none }
def subAssignsRow : OpenClaim := { program := "ytjffkeoajkhbmaagreat", sum := "b79f23477507e4dea036aea99f135c12f23fd62e5f5f2e4aeea61560128bbb54", func := "trestle/trestlelaw04.SubAssigns", spec := "subAssigns", inPlace := ["internal/bytealg.IndexByteString", "internal/bytealg.IndexString"], unfollowed := true, recurses := true, named := ["internal/bytealg.MaxLen"], apart := false }
def SubAssignsSaid : Prop := subAssignsRow.holds Tryz.pinned (OpenSpec.ofChange subAssignsSpec)

/-- ITS FALSE NEIGHBOUR: 'it returns false'. Refute it at one input. -/
def subAssignsWrong : ChangeSpec := { name := "subAssigns", fn := fun _ => fun
  | [d1, d2, d3, d4, d5] => { results := [.lit (.bool false)], args := [d1, d2, d3, d4, d5] }
  | _ => none }
def SubAssignsWrongFalsely : Prop := subAssignsRow.holds Tryz.pinned (OpenSpec.ofChange subAssignsWrong)

/-- 'trestlelaw04.SubLaws': WHATEVER THE INPUT: true; the input reads as it did. -/
def subLawsSpec : ChangeSpec := { name := "subLaws", fn := fun _ => fun
  | [d1, d2] => { results := [.lit (.bool true)], args := [d1, d2] }
  | _ => none }
def subLawsRow : OpenClaim := { program := "ytjffkeoajkhbmaagreat", sum := "b79f23477507e4dea036aea99f135c12f23fd62e5f5f2e4aeea61560128bbb54", func := "trestle/trestlelaw04.SubLaws", spec := "subLaws", inPlace := ["internal/bytealg.IndexByteString", "internal/bytealg.IndexString"], unfollowed := true, recurses := true, named := ["internal/bytealg.MaxLen"], apart := false }
def SubLawsSaid : Prop := subLawsRow.holds Tryz.pinned (OpenSpec.ofChange subLawsSpec)

/-- ITS FALSE NEIGHBOUR: 'it returns false'. Refute it at one input. -/
def subLawsWrong : ChangeSpec := { name := "subLaws", fn := fun _ => fun
  | [d1, d2] => { results := [.lit (.bool false)], args := [d1, d2] }
  | _ => none }
def SubLawsWrongFalsely : Prop := subLawsRow.holds Tryz.pinned (OpenSpec.ofChange subLawsWrong)

/-- 'trestlelaw04.SubDerives': WHATEVER THE INPUT: true; the input reads as it did. -/
def subDerivesSpec : ChangeSpec := { name := "subDerives", fn := fun _ => fun
  | [d1, d2, d3, d4, d5] => { results := [.lit (.bool true)], args := [d1, d2, d3, d4, d5] }
  | _ => none }
def subDerivesRow : OpenClaim := { program := "ytjffkeoajkhbmaagreat", sum := "b79f23477507e4dea036aea99f135c12f23fd62e5f5f2e4aeea61560128bbb54", func := "trestle/trestlelaw04.SubDerives", spec := "subDerives", inPlace := ["internal/bytealg.IndexByteString", "internal/bytealg.IndexString"], unfollowed := true, recurses := true, named := ["internal/bytealg.MaxLen"], apart := false }
def SubDerivesSaid : Prop := subDerivesRow.holds Tryz.pinned (OpenSpec.ofChange subDerivesSpec)

/-- ITS FALSE NEIGHBOUR: 'it returns false'. Refute it at one input. -/
def subDerivesWrong : ChangeSpec := { name := "subDerives", fn := fun _ => fun
  | [d1, d2, d3, d4, d5] => { results := [.lit (.bool false)], args := [d1, d2, d3, d4, d5] }
  | _ => none }
def SubDerivesWrongFalsely : Prop := subDerivesRow.holds Tryz.pinned (OpenSpec.ofChange subDerivesWrong)

/-- 'trestlelaw04.SubNil': WHATEVER THE INPUT: true; the input reads as it did. -/
def subNilSpec : ChangeSpec := { name := "subNil", fn := fun _ => fun
  | [d1, d2, d3] => { results := [.lit (.bool true)], args := [d1, d2, d3] }
  | _ => none }
def subNilRow : OpenClaim := { program := "ytjffkeoajkhbmaagreat", sum := "b79f23477507e4dea036aea99f135c12f23fd62e5f5f2e4aeea61560128bbb54", func := "trestle/trestlelaw04.SubNil", spec := "subNil", inPlace := ["internal/bytealg.IndexByteString", "internal/bytealg.IndexString"], unfollowed := true, recurses := true, named := ["internal/bytealg.MaxLen"], apart := false }
def SubNilSaid : Prop := subNilRow.holds Tryz.pinned (OpenSpec.ofChange subNilSpec)

/-- ITS FALSE NEIGHBOUR: 'it returns false'. Refute it at one input. -/
def subNilWrong : ChangeSpec := { name := "subNil", fn := fun _ => fun
  | [d1, d2, d3] => { results := [.lit (.bool false)], args := [d1, d2, d3] }
  | _ => none }
def SubNilWrongFalsely : Prop := subNilRow.holds Tryz.pinned (OpenSpec.ofChange subNilWrong)

/-- 'trestlelaw04.SubMoved': WHATEVER THE INPUT: true; the input reads as it did. -/
def subMovedSpec : ChangeSpec := { name := "subMoved", fn := fun _ => fun
  | [d1, d2, d3] => { results := [.lit (.bool true)], args := [d1, d2, d3] }
  | _ => none }
def subMovedRow : OpenClaim := { program := "ytjffkeoajkhbmaagreat", sum := "b79f23477507e4dea036aea99f135c12f23fd62e5f5f2e4aeea61560128bbb54", func := "trestle/trestlelaw04.SubMoved", spec := "subMoved", inPlace := ["internal/bytealg.IndexByteString", "internal/bytealg.IndexString"], unfollowed := true, recurses := true, named := ["internal/bytealg.MaxLen"], apart := false }
def SubMovedSaid : Prop := subMovedRow.holds Tryz.pinned (OpenSpec.ofChange subMovedSpec)

/-- ITS FALSE NEIGHBOUR: 'it returns false'. Refute it at one input. -/
def subMovedWrong : ChangeSpec := { name := "subMoved", fn := fun _ => fun
  | [d1, d2, d3] => { results := [.lit (.bool false)], args := [d1, d2, d3] }
  | _ => none }
def SubMovedWrongFalsely : Prop := subMovedRow.holds Tryz.pinned (OpenSpec.ofChange subMovedWrong)

/- THE SECOND FORM. 'bulk': how many values and letters a reading holds, each counted each time it is reached (what is shared counts as often as it is met; a slice's spare places count too). A statement '..UptoSaid' is the law's where the arguments, and the package variables that the reading takes, are together of bulk at most 1048576: NARROWER than '..Said'. Prove '..Said' where nothing that the law and all that it calls make is longer than what came in: it says more and counts as full. Else prove '..UptoSaid'. A law counts once. -/
mutual
def uptoBulk {H : Type} : DataW H → Nat
  | .lit (.string bytes) => bytes.length + 1
  | .lit _ => 1
  | .nil => 1
  | .ptr d => uptoBulk d + 1
  | .slice elems spare => uptoBulkAll elems + uptoBulkAll spare + 1
  | .agg parts => uptoBulkAll parts + 1
  | .iface _ d => uptoBulk d + 1
  | .map entries => uptoBulkEntries entries + 1
  | .held _ => 1
def uptoBulkAll {H : Type} : List (DataW H) → Nat
  | [] => 0
  | d :: r => uptoBulk d + uptoBulkAll r
def uptoBulkEntries {H : Type} : List (Lit × DataW H) → Nat
  | [] => 0
  | x :: r => uptoBulkEntry x + uptoBulkEntries r
def uptoBulkEntry {H : Type} : Lit × DataW H → Nat
  | (.string bytes, d) => bytes.length + uptoBulk d + 1
  | (_, d) => uptoBulk d + 1
 end
def uptoSmall : (H : Type) → List (DataW H) → Bool := fun _ ds => decide (uptoBulkAll ds ≤ 1048576)
def OpenSpec.upto (s : _root_.Go.ChangeSpec) : _root_.Go.OpenSpec := { _root_.Go.OpenSpec.ofChange s with cond := some uptoSmall }

/-- 'trestlelaw04.SubOrders', WHERE WHAT IT READS IS OF BULK AT MOST 1048576: true; the input reads as it did. -/
def subOrdersUptoRow : OpenClaim := { program := "ytjffkeoajkhbmaagreat", sum := "b79f23477507e4dea036aea99f135c12f23fd62e5f5f2e4aeea61560128bbb54", func := "trestle/trestlelaw04.SubOrders", spec := "subOrders", inPlace := ["internal/bytealg.IndexByteString", "internal/bytealg.IndexString"], unfollowed := true, recurses := true, named := ["internal/bytealg.MaxLen"], apart := false, narrowed := true }
def SubOrdersUptoSaid : Prop := subOrdersUptoRow.holds Tryz.pinned (OpenSpec.upto subOrdersSpec)

/-- 'trestlelaw04.SubMore', WHERE WHAT IT READS IS OF BULK AT MOST 1048576: true; the input reads as it did. -/
def subMoreUptoRow : OpenClaim := { program := "ytjffkeoajkhbmaagreat", sum := "b79f23477507e4dea036aea99f135c12f23fd62e5f5f2e4aeea61560128bbb54", func := "trestle/trestlelaw04.SubMore", spec := "subMore", inPlace := ["internal/bytealg.IndexByteString", "internal/bytealg.IndexString"], unfollowed := true, recurses := true, named := ["internal/bytealg.MaxLen"], apart := false, narrowed := true }
def SubMoreUptoSaid : Prop := subMoreUptoRow.holds Tryz.pinned (OpenSpec.upto subMoreSpec)

/-- 'trestlelaw04.SubJoins', WHERE WHAT IT READS IS OF BULK AT MOST 1048576: true; the input reads as it did. -/
def subJoinsUptoRow : OpenClaim := { program := "ytjffkeoajkhbmaagreat", sum := "b79f23477507e4dea036aea99f135c12f23fd62e5f5f2e4aeea61560128bbb54", func := "trestle/trestlelaw04.SubJoins", spec := "subJoins", inPlace := ["internal/bytealg.IndexByteString", "internal/bytealg.IndexString"], unfollowed := true, recurses := true, named := ["internal/bytealg.MaxLen"], apart := false, narrowed := true }
def SubJoinsUptoSaid : Prop := subJoinsUptoRow.holds Tryz.pinned (OpenSpec.upto subJoinsSpec)

/-- 'trestlelaw04.SubMemory', WHERE WHAT IT READS IS OF BULK AT MOST 1048576: true; the input reads as it did. -/
def subMemoryUptoRow : OpenClaim := { program := "ytjffkeoajkhbmaagreat", sum := "b79f23477507e4dea036aea99f135c12f23fd62e5f5f2e4aeea61560128bbb54", func := "trestle/trestlelaw04.SubMemory", spec := "subMemory", inPlace := ["internal/bytealg.IndexByteString", "internal/bytealg.IndexString"], unfollowed := true, recurses := true, named := ["internal/bytealg.MaxLen"], apart := false, narrowed := true }
def SubMemoryUptoSaid : Prop := subMemoryUptoRow.holds Tryz.pinned (OpenSpec.upto subMemorySpec)

/-- 'trestlelaw04.SubAssignable', WHERE WHAT IT READS IS OF BULK AT MOST 1048576: true; the input reads as it did. -/
def subAssignableUptoRow : OpenClaim := { program := "ytjffkeoajkhbmaagreat", sum := "b79f23477507e4dea036aea99f135c12f23fd62e5f5f2e4aeea61560128bbb54", func := "trestle/trestlelaw04.SubAssignable", spec := "subAssignable", inPlace := ["internal/bytealg.IndexByteString", "internal/bytealg.IndexString"], unfollowed := true, recurses := true, named := ["internal/bytealg.MaxLen"], apart := false, narrowed := true }
def SubAssignableUptoSaid : Prop := subAssignableUptoRow.holds Tryz.pinned (OpenSpec.upto subAssignableSpec)

/-- 'trestlelaw04.SubAssigns', WHERE WHAT IT READS IS OF BULK AT MOST 1048576: true; the input reads as it did. -/
def subAssignsUptoRow : OpenClaim := { program := "ytjffkeoajkhbmaagreat", sum := "b79f23477507e4dea036aea99f135c12f23fd62e5f5f2e4aeea61560128bbb54", func := "trestle/trestlelaw04.SubAssigns", spec := "subAssigns", inPlace := ["internal/bytealg.IndexByteString", "internal/bytealg.IndexString"], unfollowed := true, recurses := true, named := ["internal/bytealg.MaxLen"], apart := false, narrowed := true }
def SubAssignsUptoSaid : Prop := subAssignsUptoRow.holds Tryz.pinned (OpenSpec.upto subAssignsSpec)

/-- 'trestlelaw04.SubLaws', WHERE WHAT IT READS IS OF BULK AT MOST 1048576: true; the input reads as it did. -/
def subLawsUptoRow : OpenClaim := { program := "ytjffkeoajkhbmaagreat", sum := "b79f23477507e4dea036aea99f135c12f23fd62e5f5f2e4aeea61560128bbb54", func := "trestle/trestlelaw04.SubLaws", spec := "subLaws", inPlace := ["internal/bytealg.IndexByteString", "internal/bytealg.IndexString"], unfollowed := true, recurses := true, named := ["internal/bytealg.MaxLen"], apart := false, narrowed := true }
def SubLawsUptoSaid : Prop := subLawsUptoRow.holds Tryz.pinned (OpenSpec.upto subLawsSpec)

/-- 'trestlelaw04.SubDerives', WHERE WHAT IT READS IS OF BULK AT MOST 1048576: true; the input reads as it did. -/
def subDerivesUptoRow : OpenClaim := { program := "ytjffkeoajkhbmaagreat", sum := "b79f23477507e4dea036aea99f135c12f23fd62e5f5f2e4aeea61560128bbb54", func := "trestle/trestlelaw04.SubDerives", spec := "subDerives", inPlace := ["internal/bytealg.IndexByteString", "internal/bytealg.IndexString"], unfollowed := true, recurses := true, named := ["internal/bytealg.MaxLen"], apart := false, narrowed := true }
def SubDerivesUptoSaid : Prop := subDerivesUptoRow.holds Tryz.pinned (OpenSpec.upto subDerivesSpec)

/-- 'trestlelaw04.SubNil', WHERE WHAT IT READS IS OF BULK AT MOST 1048576: true; the input reads as it did. -/
def subNilUptoRow : OpenClaim := { program := "ytjffkeoajkhbmaagreat", sum := "b79f23477507e4dea036aea99f135c12f23fd62e5f5f2e4aeea61560128bbb54", func := "trestle/trestlelaw04.SubNil", spec := "subNil", inPlace := ["internal/bytealg.IndexByteString", "internal/bytealg.IndexString"], unfollowed := true, recurses := true, named := ["internal/bytealg.MaxLen"], apart := false, narrowed := true }
def SubNilUptoSaid : Prop := subNilUptoRow.holds Tryz.pinned (OpenSpec.upto subNilSpec)

/-- 'trestlelaw04.SubMoved', WHERE WHAT IT READS IS OF BULK AT MOST 1048576: true; the input reads as it did. -/
def subMovedUptoRow : OpenClaim := { program := "ytjffkeoajkhbmaagreat", sum := "b79f23477507e4dea036aea99f135c12f23fd62e5f5f2e4aeea61560128bbb54", func := "trestle/trestlelaw04.SubMoved", spec := "subMoved", inPlace := ["internal/bytealg.IndexByteString", "internal/bytealg.IndexString"], unfollowed := true, recurses := true, named := ["internal/bytealg.MaxLen"], apart := false, narrowed := true }
def SubMovedUptoSaid : Prop := subMovedUptoRow.holds Tryz.pinned (OpenSpec.upto subMovedSpec)

end Rows
end Go.Proofs.YtjffkeoajkhbmaaGreat
