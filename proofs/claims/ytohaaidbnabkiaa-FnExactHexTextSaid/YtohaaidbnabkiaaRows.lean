/-
  No cell of these rows narrows 'for every input' (looked for: loops, veiled, ifaces, maps, wideKeys, modest, calm, conditions, laid).
  DERIVED. THE GIVEN ROWS OF THIS SEAT. 10 by the template 'for every input the law returns true; each argument reads behind the call as it read before'; 0 by the template 'total and deterministic' (their statements: YtohaaidbnabkiaaTotals.lean).
  GIVEN WITH THE SEED: the statements are not yours to turn. If you find one false, say at which input.
  Laid BY PROGRAM, IN A SANDBOX (cutbox-rows.mjs): the forced cells as the released guide's own fill.sh prints them over the translation c610a174c66bcd7d… (all of the seat's roots in one cut). By AI agents, Wed Nov 11 2026. No macro, syntax, notation, axiom, sorry.
-/
import Derived.Test.YtohaaidbnabkiaaChecked
import GoSem.Claim
import GoSem.ClaimJoined
import GoSem.ClaimMapViews
import Derived.JoinedTies
import Derived.KernelRfl
namespace Go.Proofs.Ytohaaidbnabkiaa
/- THE CELL 'sum', in the pinned program and in every row, IS THE sha256 OF THE DUMP (.gsa) THAT YtohaaidbnabkiaaProg.lean LOADS. Nothing in Lean hashes anything: it is a label: what it is worth is what the hold of that sum in a sandbox is worth. -/
noncomputable def Try.pinned : Pinned := { name := "ytohaaidbnabkiaa", sum := "c610a174c66bcd7de486d6cc1d8009b8f61d27006ce3066abb4901860fed7f91", checked := Try.checked }
namespace Rows
def none {H : Type} : Left H := { results := [], args := [] }

/-- 'laws.FnExactConstants': WHATEVER THE INPUT: true; the input reads as it did. -/
def fnExactConstantsSpec : ChangeSpec := { name := "fnExactConstants", fn := fun _ => fun
  | [] => { results := [.lit (.bool true)], args := [] }
  | _ => none }
def fnExactConstantsRow : OpenClaim := { program := "ytohaaidbnabkiaa", sum := "c610a174c66bcd7de486d6cc1d8009b8f61d27006ce3066abb4901860fed7f91", func := "loop.example/g01202/laws.FnExactConstants", spec := "fnExactConstants", apart := false }
def FnExactConstantsSaid : Prop := fnExactConstantsRow.holds Try.pinned (OpenSpec.ofChange fnExactConstantsSpec)

/-- ITS FALSE NEIGHBOUR: 'it returns false'. Refute it at one input. -/
def fnExactConstantsWrong : ChangeSpec := { name := "fnExactConstants", fn := fun _ => fun
  | [] => { results := [.lit (.bool false)], args := [] }
  | _ => none }
def FnExactConstantsWrongFalsely : Prop := fnExactConstantsRow.holds Try.pinned (OpenSpec.ofChange fnExactConstantsWrong)

/-- 'laws.FnExactIsDigest': WHATEVER THE INPUT: true; the input reads as it did. -/
def fnExactIsDigestSpec : ChangeSpec := { name := "fnExactIsDigest", fn := fun _ => fun
  | [d] => { results := [.lit (.bool true)], args := [d] }
  | _ => none }
def fnExactIsDigestRow : OpenClaim := { program := "ytohaaidbnabkiaa", sum := "c610a174c66bcd7de486d6cc1d8009b8f61d27006ce3066abb4901860fed7f91", func := "loop.example/g01202/laws.FnExactIsDigest", spec := "fnExactIsDigest", apart := false }
def FnExactIsDigestSaid : Prop := fnExactIsDigestRow.holds Try.pinned (OpenSpec.ofChange fnExactIsDigestSpec)

/-- ITS FALSE NEIGHBOUR: 'it returns false'. Refute it at one input. -/
def fnExactIsDigestWrong : ChangeSpec := { name := "fnExactIsDigest", fn := fun _ => fun
  | [d] => { results := [.lit (.bool false)], args := [d] }
  | _ => none }
def FnExactIsDigestWrongFalsely : Prop := fnExactIsDigestRow.holds Try.pinned (OpenSpec.ofChange fnExactIsDigestWrong)

/-- 'laws.FnExactIsToken': WHATEVER THE INPUT: true; the input reads as it did. -/
def fnExactIsTokenSpec : ChangeSpec := { name := "fnExactIsToken", fn := fun _ => fun
  | [d] => { results := [.lit (.bool true)], args := [d] }
  | _ => none }
def fnExactIsTokenRow : OpenClaim := { program := "ytohaaidbnabkiaa", sum := "c610a174c66bcd7de486d6cc1d8009b8f61d27006ce3066abb4901860fed7f91", func := "loop.example/g01202/laws.FnExactIsToken", spec := "fnExactIsToken", apart := false }
def FnExactIsTokenSaid : Prop := fnExactIsTokenRow.holds Try.pinned (OpenSpec.ofChange fnExactIsTokenSpec)

/-- ITS FALSE NEIGHBOUR: 'it returns false'. Refute it at one input. -/
def fnExactIsTokenWrong : ChangeSpec := { name := "fnExactIsToken", fn := fun _ => fun
  | [d] => { results := [.lit (.bool false)], args := [d] }
  | _ => none }
def FnExactIsTokenWrongFalsely : Prop := fnExactIsTokenRow.holds Try.pinned (OpenSpec.ofChange fnExactIsTokenWrong)

/-- 'laws.FnExactIsName': WHATEVER THE INPUT: true; the input reads as it did. -/
def fnExactIsNameSpec : ChangeSpec := { name := "fnExactIsName", fn := fun _ => fun
  | [d] => { results := [.lit (.bool true)], args := [d] }
  | _ => none }
def fnExactIsNameRow : OpenClaim := { program := "ytohaaidbnabkiaa", sum := "c610a174c66bcd7de486d6cc1d8009b8f61d27006ce3066abb4901860fed7f91", func := "loop.example/g01202/laws.FnExactIsName", spec := "fnExactIsName", apart := false }
def FnExactIsNameSaid : Prop := fnExactIsNameRow.holds Try.pinned (OpenSpec.ofChange fnExactIsNameSpec)

/-- ITS FALSE NEIGHBOUR: 'it returns false'. Refute it at one input. -/
def fnExactIsNameWrong : ChangeSpec := { name := "fnExactIsName", fn := fun _ => fun
  | [d] => { results := [.lit (.bool false)], args := [d] }
  | _ => none }
def FnExactIsNameWrongFalsely : Prop := fnExactIsNameRow.holds Try.pinned (OpenSpec.ofChange fnExactIsNameWrong)

/-- 'laws.FnExactIsText': WHATEVER THE INPUT: true; the input reads as it did. -/
def fnExactIsTextSpec : ChangeSpec := { name := "fnExactIsText", fn := fun _ => fun
  | [d] => { results := [.lit (.bool true)], args := [d] }
  | _ => none }
def fnExactIsTextRow : OpenClaim := { program := "ytohaaidbnabkiaa", sum := "c610a174c66bcd7de486d6cc1d8009b8f61d27006ce3066abb4901860fed7f91", func := "loop.example/g01202/laws.FnExactIsText", spec := "fnExactIsText", apart := false }
def FnExactIsTextSaid : Prop := fnExactIsTextRow.holds Try.pinned (OpenSpec.ofChange fnExactIsTextSpec)

/-- ITS FALSE NEIGHBOUR: 'it returns false'. Refute it at one input. -/
def fnExactIsTextWrong : ChangeSpec := { name := "fnExactIsText", fn := fun _ => fun
  | [d] => { results := [.lit (.bool false)], args := [d] }
  | _ => none }
def FnExactIsTextWrongFalsely : Prop := fnExactIsTextRow.holds Try.pinned (OpenSpec.ofChange fnExactIsTextWrong)

/-- 'laws.FnExactCheckOf': WHATEVER THE INPUT: true; the input reads as it did. -/
def fnExactCheckOfSpec : ChangeSpec := { name := "fnExactCheckOf", fn := fun _ => fun
  | [d1, d2] => { results := [.lit (.bool true)], args := [d1, d2] }
  | _ => none }
def fnExactCheckOfRow : OpenClaim := { program := "ytohaaidbnabkiaa", sum := "c610a174c66bcd7de486d6cc1d8009b8f61d27006ce3066abb4901860fed7f91", func := "loop.example/g01202/laws.FnExactCheckOf", spec := "fnExactCheckOf", apart := false }
def FnExactCheckOfSaid : Prop := fnExactCheckOfRow.holds Try.pinned (OpenSpec.ofChange fnExactCheckOfSpec)

/-- ITS FALSE NEIGHBOUR: 'it returns false'. Refute it at one input. -/
def fnExactCheckOfWrong : ChangeSpec := { name := "fnExactCheckOf", fn := fun _ => fun
  | [d1, d2] => { results := [.lit (.bool false)], args := [d1, d2] }
  | _ => none }
def FnExactCheckOfWrongFalsely : Prop := fnExactCheckOfRow.holds Try.pinned (OpenSpec.ofChange fnExactCheckOfWrong)

/-- 'laws.FnExactHexText': WHATEVER THE INPUT: true; the input reads as it did. -/
def fnExactHexTextSpec : ChangeSpec := { name := "fnExactHexText", fn := fun _ => fun
  | [d] => { results := [.lit (.bool true)], args := [d] }
  | _ => none }
def fnExactHexTextRow : OpenClaim := { program := "ytohaaidbnabkiaa", sum := "c610a174c66bcd7de486d6cc1d8009b8f61d27006ce3066abb4901860fed7f91", func := "loop.example/g01202/laws.FnExactHexText", spec := "fnExactHexText", apart := false }
def FnExactHexTextSaid : Prop := fnExactHexTextRow.holds Try.pinned (OpenSpec.ofChange fnExactHexTextSpec)

/-- ITS FALSE NEIGHBOUR: 'it returns false'. Refute it at one input. -/
def fnExactHexTextWrong : ChangeSpec := { name := "fnExactHexText", fn := fun _ => fun
  | [d] => { results := [.lit (.bool false)], args := [d] }
  | _ => none }
def FnExactHexTextWrongFalsely : Prop := fnExactHexTextRow.holds Try.pinned (OpenSpec.ofChange fnExactHexTextWrong)

/-- 'laws.FnExactRoleMay': WHATEVER THE INPUT: true; the input reads as it did. -/
def fnExactRoleMaySpec : ChangeSpec := { name := "fnExactRoleMay", fn := fun _ => fun
  | [d1, d2] => { results := [.lit (.bool true)], args := [d1, d2] }
  | _ => none }
def fnExactRoleMayRow : OpenClaim := { program := "ytohaaidbnabkiaa", sum := "c610a174c66bcd7de486d6cc1d8009b8f61d27006ce3066abb4901860fed7f91", func := "loop.example/g01202/laws.FnExactRoleMay", spec := "fnExactRoleMay", apart := false }
def FnExactRoleMaySaid : Prop := fnExactRoleMayRow.holds Try.pinned (OpenSpec.ofChange fnExactRoleMaySpec)

/-- ITS FALSE NEIGHBOUR: 'it returns false'. Refute it at one input. -/
def fnExactRoleMayWrong : ChangeSpec := { name := "fnExactRoleMay", fn := fun _ => fun
  | [d1, d2] => { results := [.lit (.bool false)], args := [d1, d2] }
  | _ => none }
def FnExactRoleMayWrongFalsely : Prop := fnExactRoleMayRow.holds Try.pinned (OpenSpec.ofChange fnExactRoleMayWrong)

/-- 'laws.FnExactTokenOf': WHATEVER THE INPUT: true; the input reads as it did. -/
def fnExactTokenOfSpec : ChangeSpec := { name := "fnExactTokenOf", fn := fun _ => fun
  | [d1, d2] => { results := [.lit (.bool true)], args := [d1, d2] }
  | _ => none }
def fnExactTokenOfRow : OpenClaim := { program := "ytohaaidbnabkiaa", sum := "c610a174c66bcd7de486d6cc1d8009b8f61d27006ce3066abb4901860fed7f91", func := "loop.example/g01202/laws.FnExactTokenOf", spec := "fnExactTokenOf", apart := false }
def FnExactTokenOfSaid : Prop := fnExactTokenOfRow.holds Try.pinned (OpenSpec.ofChange fnExactTokenOfSpec)

/-- ITS FALSE NEIGHBOUR: 'it returns false'. Refute it at one input. -/
def fnExactTokenOfWrong : ChangeSpec := { name := "fnExactTokenOf", fn := fun _ => fun
  | [d1, d2] => { results := [.lit (.bool false)], args := [d1, d2] }
  | _ => none }
def FnExactTokenOfWrongFalsely : Prop := fnExactTokenOfRow.holds Try.pinned (OpenSpec.ofChange fnExactTokenOfWrong)

/-- 'laws.FnExactIsMembers': WHATEVER THE INPUT: true; the input reads as it did. -/
def fnExactIsMembersSpec : ChangeSpec := { name := "fnExactIsMembers", fn := fun _ => fun
  | [d] => { results := [.lit (.bool true)], args := [d] }
  | _ => none }
def fnExactIsMembersRow : OpenClaim := { program := "ytohaaidbnabkiaa", sum := "c610a174c66bcd7de486d6cc1d8009b8f61d27006ce3066abb4901860fed7f91", func := "loop.example/g01202/laws.FnExactIsMembers", spec := "fnExactIsMembers", unfollowed := true, recurses := true, apart := false }
def FnExactIsMembersSaid : Prop := fnExactIsMembersRow.holds Try.pinned (OpenSpec.ofChange fnExactIsMembersSpec)

/-- ITS FALSE NEIGHBOUR: 'it returns false'. Refute it at one input. -/
def fnExactIsMembersWrong : ChangeSpec := { name := "fnExactIsMembers", fn := fun _ => fun
  | [d] => { results := [.lit (.bool false)], args := [d] }
  | _ => none }
def FnExactIsMembersWrongFalsely : Prop := fnExactIsMembersRow.holds Try.pinned (OpenSpec.ofChange fnExactIsMembersWrong)

/- THE SECOND FORM. 'bulk': how many values and letters a reading holds, each counted each time it is reached (what is shared counts as often as it is met; a slice's spare places count too). A statement '..UptoSaid' is the law's where the arguments, and the package variables that the reading takes, are together of bulk at most 1048576: NARROWER than '..Said'. Prove '..Said' where nothing that the law and all that it calls make is longer than what came in: it says more and counts as full. Else prove '..UptoSaid'. A law counts once. -/
mutual
def uptoBulk {H : Type} : DataW H → Nat
  | .lit (.string bytes) => bytes.length + 1
  | .lit _ => 1
  | .nil => 1
  | .ptr d => uptoBulk d + 1
  | .slice elems spare => uptoBulkAll elems + uptoBulkAll spare + 1
  | .agg parts => uptoBulkAll parts + 1
  | .iface _ d => uptoBulk d + 1
  | .map entries => uptoBulkEntries entries + 1
  | .held _ => 1
def uptoBulkAll {H : Type} : List (DataW H) → Nat
  | [] => 0
  | d :: r => uptoBulk d + uptoBulkAll r
def uptoBulkEntries {H : Type} : List (Lit × DataW H) → Nat
  | [] => 0
  | x :: r => uptoBulkEntry x + uptoBulkEntries r
def uptoBulkEntry {H : Type} : Lit × DataW H → Nat
  | (.string bytes, d) => bytes.length + uptoBulk d + 1
  | (_, d) => uptoBulk d + 1
 end
def uptoSmall : (H : Type) → List (DataW H) → Bool := fun _ ds => decide (uptoBulkAll ds ≤ 1048576)
def OpenSpec.upto (s : _root_.Go.ChangeSpec) : _root_.Go.OpenSpec := { _root_.Go.OpenSpec.ofChange s with cond := some uptoSmall }

/-- 'laws.FnExactConstants', WHERE WHAT IT READS IS OF BULK AT MOST 1048576: true; the input reads as it did. -/
def fnExactConstantsUptoRow : OpenClaim := { program := "ytohaaidbnabkiaa", sum := "c610a174c66bcd7de486d6cc1d8009b8f61d27006ce3066abb4901860fed7f91", func := "loop.example/g01202/laws.FnExactConstants", spec := "fnExactConstants", apart := false, narrowed := true }
def FnExactConstantsUptoSaid : Prop := fnExactConstantsUptoRow.holds Try.pinned (OpenSpec.upto fnExactConstantsSpec)

/-- 'laws.FnExactIsDigest', WHERE WHAT IT READS IS OF BULK AT MOST 1048576: true; the input reads as it did. -/
def fnExactIsDigestUptoRow : OpenClaim := { program := "ytohaaidbnabkiaa", sum := "c610a174c66bcd7de486d6cc1d8009b8f61d27006ce3066abb4901860fed7f91", func := "loop.example/g01202/laws.FnExactIsDigest", spec := "fnExactIsDigest", apart := false, narrowed := true }
def FnExactIsDigestUptoSaid : Prop := fnExactIsDigestUptoRow.holds Try.pinned (OpenSpec.upto fnExactIsDigestSpec)

/-- 'laws.FnExactIsToken', WHERE WHAT IT READS IS OF BULK AT MOST 1048576: true; the input reads as it did. -/
def fnExactIsTokenUptoRow : OpenClaim := { program := "ytohaaidbnabkiaa", sum := "c610a174c66bcd7de486d6cc1d8009b8f61d27006ce3066abb4901860fed7f91", func := "loop.example/g01202/laws.FnExactIsToken", spec := "fnExactIsToken", apart := false, narrowed := true }
def FnExactIsTokenUptoSaid : Prop := fnExactIsTokenUptoRow.holds Try.pinned (OpenSpec.upto fnExactIsTokenSpec)

/-- 'laws.FnExactIsName', WHERE WHAT IT READS IS OF BULK AT MOST 1048576: true; the input reads as it did. -/
def fnExactIsNameUptoRow : OpenClaim := { program := "ytohaaidbnabkiaa", sum := "c610a174c66bcd7de486d6cc1d8009b8f61d27006ce3066abb4901860fed7f91", func := "loop.example/g01202/laws.FnExactIsName", spec := "fnExactIsName", apart := false, narrowed := true }
def FnExactIsNameUptoSaid : Prop := fnExactIsNameUptoRow.holds Try.pinned (OpenSpec.upto fnExactIsNameSpec)

/-- 'laws.FnExactIsText', WHERE WHAT IT READS IS OF BULK AT MOST 1048576: true; the input reads as it did. -/
def fnExactIsTextUptoRow : OpenClaim := { program := "ytohaaidbnabkiaa", sum := "c610a174c66bcd7de486d6cc1d8009b8f61d27006ce3066abb4901860fed7f91", func := "loop.example/g01202/laws.FnExactIsText", spec := "fnExactIsText", apart := false, narrowed := true }
def FnExactIsTextUptoSaid : Prop := fnExactIsTextUptoRow.holds Try.pinned (OpenSpec.upto fnExactIsTextSpec)

/-- 'laws.FnExactCheckOf', WHERE WHAT IT READS IS OF BULK AT MOST 1048576: true; the input reads as it did. -/
def fnExactCheckOfUptoRow : OpenClaim := { program := "ytohaaidbnabkiaa", sum := "c610a174c66bcd7de486d6cc1d8009b8f61d27006ce3066abb4901860fed7f91", func := "loop.example/g01202/laws.FnExactCheckOf", spec := "fnExactCheckOf", apart := false, narrowed := true }
def FnExactCheckOfUptoSaid : Prop := fnExactCheckOfUptoRow.holds Try.pinned (OpenSpec.upto fnExactCheckOfSpec)

/-- 'laws.FnExactHexText', WHERE WHAT IT READS IS OF BULK AT MOST 1048576: true; the input reads as it did. -/
def fnExactHexTextUptoRow : OpenClaim := { program := "ytohaaidbnabkiaa", sum := "c610a174c66bcd7de486d6cc1d8009b8f61d27006ce3066abb4901860fed7f91", func := "loop.example/g01202/laws.FnExactHexText", spec := "fnExactHexText", apart := false, narrowed := true }
def FnExactHexTextUptoSaid : Prop := fnExactHexTextUptoRow.holds Try.pinned (OpenSpec.upto fnExactHexTextSpec)

/-- 'laws.FnExactRoleMay', WHERE WHAT IT READS IS OF BULK AT MOST 1048576: true; the input reads as it did. -/
def fnExactRoleMayUptoRow : OpenClaim := { program := "ytohaaidbnabkiaa", sum := "c610a174c66bcd7de486d6cc1d8009b8f61d27006ce3066abb4901860fed7f91", func := "loop.example/g01202/laws.FnExactRoleMay", spec := "fnExactRoleMay", apart := false, narrowed := true }
def FnExactRoleMayUptoSaid : Prop := fnExactRoleMayUptoRow.holds Try.pinned (OpenSpec.upto fnExactRoleMaySpec)

/-- 'laws.FnExactTokenOf', WHERE WHAT IT READS IS OF BULK AT MOST 1048576: true; the input reads as it did. -/
def fnExactTokenOfUptoRow : OpenClaim := { program := "ytohaaidbnabkiaa", sum := "c610a174c66bcd7de486d6cc1d8009b8f61d27006ce3066abb4901860fed7f91", func := "loop.example/g01202/laws.FnExactTokenOf", spec := "fnExactTokenOf", apart := false, narrowed := true }
def FnExactTokenOfUptoSaid : Prop := fnExactTokenOfUptoRow.holds Try.pinned (OpenSpec.upto fnExactTokenOfSpec)

/-- 'laws.FnExactIsMembers', WHERE WHAT IT READS IS OF BULK AT MOST 1048576: true; the input reads as it did. -/
def fnExactIsMembersUptoRow : OpenClaim := { program := "ytohaaidbnabkiaa", sum := "c610a174c66bcd7de486d6cc1d8009b8f61d27006ce3066abb4901860fed7f91", func := "loop.example/g01202/laws.FnExactIsMembers", spec := "fnExactIsMembers", unfollowed := true, recurses := true, apart := false, narrowed := true }
def FnExactIsMembersUptoSaid : Prop := fnExactIsMembersUptoRow.holds Try.pinned (OpenSpec.upto fnExactIsMembersSpec)

end Rows
end Go.Proofs.Ytohaaidbnabkiaa
