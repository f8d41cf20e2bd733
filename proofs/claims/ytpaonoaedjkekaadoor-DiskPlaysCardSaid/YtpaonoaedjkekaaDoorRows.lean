/-
  NARROWER THAN 'FOR EVERY INPUT', by the rows' own cells (each row's printed sentence says how): DiskSubset: laid · DiskSeen: laid · DiskBack: laid · DiskStays: laid · DiskAll: laid · DiskPlays: laid · DiskOwn: laid · DiskNil: laid.
  DERIVED. THE GIVEN ROWS OF THIS SEAT. 8 by the template 'for every input the law returns true; each argument reads behind the call as it read before'; 0 by the template 'total and deterministic' (their statements: YtpaonoaedjkekaaDoorTotals.lean).
  GIVEN WITH THE SEED: the statements are not yours to turn. If you find one false, say at which input.
  Laid BY PROGRAM, IN A SANDBOX (cutbox-rows.mjs): the forced cells as the released guide's own fill.sh prints them over the translation 80195833945071d9… (all of the seat's roots in one cut). By AI agents, Wed Nov 11 2026. No macro, syntax, notation, axiom, sorry.
-/
import Derived.Test.YtpaonoaedjkekaaDoorChecked
import GoSem.Claim
import GoSem.ClaimJoined
import GoSem.ClaimMapViews
import Derived.JoinedTies
import Derived.KernelRfl
namespace Go.Proofs.YtpaonoaedjkekaaDoor
/- THE CELL 'sum', in the pinned program and in every row, IS THE sha256 OF THE DUMP (.gsa) THAT YtpaonoaedjkekaaDoorProg.lean LOADS. Nothing in Lean hashes anything: it is a label: what it is worth is what the hold of that sum in a sandbox is worth. -/
noncomputable def Tryd.pinned : Pinned := { name := "ytpaonoaedjkekaadoor", sum := "80195833945071d9186b91662390bbc394f5369f5353587629eba9ac92d67929", checked := Tryd.checked }
namespace Rows
def none {H : Type} : Left H := { results := [], args := [] }

/- WHAT THE LISTED PACKAGE-LEVEL VARIABLES READ AS WHEN THE CALL BEGINS. Each datum BY PROGRAM (the guide's laid-datum.mjs) off the statement by which the dump's own 'gosem.cut.vars' lays the variable. In a bare row this is a premise. The card (YtpaonoaedjkekaaDoorCards.lean) ties it to the program's text. -/
def laid_larder_disk_flush {H : Type} : DataW H := .agg [.lit (.int .i64 (-1)), .agg [.lit (.int .u8 0), .lit (.int .u8 0), .lit (.int .u8 0), .lit (.int .u8 0), .lit (.int .u8 0), .lit (.int .u8 0), .lit (.int .u8 0), .lit (.int .u8 0), .lit (.int .u8 0), .lit (.int .u8 0), .lit (.int .u8 0), .lit (.int .u8 0), .lit (.int .u8 0), .lit (.int .u8 0), .lit (.int .u8 0), .lit (.int .u8 0), .lit (.int .u8 0), .lit (.int .u8 0), .lit (.int .u8 0), .lit (.int .u8 0), .lit (.int .u8 0), .lit (.int .u8 0), .lit (.int .u8 0), .lit (.int .u8 0), .lit (.int .u8 0), .lit (.int .u8 0), .lit (.int .u8 0), .lit (.int .u8 0), .lit (.int .u8 0), .lit (.int .u8 0), .lit (.int .u8 0), .lit (.int .u8 0), .lit (.int .u8 0), .lit (.int .u8 0), .lit (.int .u8 0), .lit (.int .u8 0), .lit (.int .u8 0), .lit (.int .u8 0), .lit (.int .u8 0), .lit (.int .u8 0), .lit (.int .u8 0), .lit (.int .u8 0), .lit (.int .u8 0), .lit (.int .u8 0), .lit (.int .u8 0), .lit (.int .u8 0), .lit (.int .u8 0), .lit (.int .u8 0), .lit (.int .u8 0), .lit (.int .u8 0), .lit (.int .u8 0), .lit (.int .u8 0), .lit (.int .u8 0), .lit (.int .u8 0), .lit (.int .u8 0), .lit (.int .u8 0), .lit (.int .u8 0), .lit (.int .u8 0), .lit (.int .u8 0), .lit (.int .u8 0), .lit (.int .u8 0), .lit (.int .u8 0), .lit (.int .u8 0), .lit (.int .u8 0), .lit (.int .u8 0), .lit (.int .u8 0), .lit (.int .u8 0), .lit (.int .u8 0), .lit (.int .u8 0), .lit (.int .u8 0), .lit (.int .u8 0), .lit (.int .u8 0), .lit (.int .u8 0), .lit (.int .u8 0), .lit (.int .u8 0), .lit (.int .u8 0), .lit (.int .u8 0), .lit (.int .u8 0), .lit (.int .u8 0), .lit (.int .u8 0), .lit (.int .u8 0), .lit (.int .u8 0), .lit (.int .u8 0), .lit (.int .u8 0), .lit (.int .u8 0), .lit (.int .u8 0), .lit (.int .u8 0), .lit (.int .u8 0), .lit (.int .u8 0), .lit (.int .u8 0), .lit (.int .u8 0), .lit (.int .u8 0), .lit (.int .u8 0), .lit (.int .u8 0), .lit (.int .u8 0), .lit (.int .u8 0), .lit (.int .u8 0), .lit (.int .u8 0), .lit (.int .u8 0), .lit (.int .u8 0), .lit (.int .u8 0), .lit (.int .u8 0), .lit (.int .u8 0), .lit (.int .u8 0), .lit (.int .u8 0), .lit (.int .u8 0), .lit (.int .u8 0), .lit (.int .u8 0), .lit (.int .u8 0), .lit (.int .u8 0), .lit (.int .u8 0), .lit (.int .u8 0), .lit (.int .u8 0), .lit (.int .u8 0), .lit (.int .u8 0), .lit (.int .u8 0), .lit (.int .u8 0), .lit (.int .u8 0), .lit (.int .u8 0), .lit (.int .u8 0), .lit (.int .u8 0), .lit (.int .u8 0), .lit (.int .u8 0), .lit (.int .u8 0), .lit (.int .u8 0), .lit (.int .u8 0), .lit (.int .u8 0), .lit (.int .u8 0)]]

/-- 'larderlaw06.DiskSubset': WHATEVER THE INPUT: true; the input reads as it did. -/
def diskSubsetSpec : ChangeSpec := { name := "diskSubset", fn := fun _ => fun
  | [d1, d2, d3, d4, d5] => { results := [.lit (.bool true)], args := [d1, d2, d3, d4, d5] }
  | _ => none }
def diskSubsetRow : OpenClaim := { program := "ytpaonoaedjkekaadoor", sum := "80195833945071d9186b91662390bbc394f5369f5353587629eba9ac92d67929", func := "larder/larderlaw06.DiskSubset", spec := "diskSubset", named := ["larder/disk.flush"], apart := false, laid := [("larder/disk.flush", laid_larder_disk_flush)] }
def DiskSubsetSaid : Prop := diskSubsetRow.holds Tryd.pinned (OpenSpec.ofChange diskSubsetSpec)

/-- ITS FALSE NEIGHBOUR: 'it returns false'. Refute it at one input. -/
def diskSubsetWrong : ChangeSpec := { name := "diskSubset", fn := fun _ => fun
  | [d1, d2, d3, d4, d5] => { results := [.lit (.bool false)], args := [d1, d2, d3, d4, d5] }
  | _ => none }
def DiskSubsetWrongFalsely : Prop := diskSubsetRow.holds Tryd.pinned (OpenSpec.ofChange diskSubsetWrong)

/-- 'larderlaw06.DiskSeen': WHATEVER THE INPUT: true; the input reads as it did. -/
def diskSeenSpec : ChangeSpec := { name := "diskSeen", fn := fun _ => fun
  | [d] => { results := [.lit (.bool true)], args := [d] }
  | _ => none }
def diskSeenRow : OpenClaim := { program := "ytpaonoaedjkekaadoor", sum := "80195833945071d9186b91662390bbc394f5369f5353587629eba9ac92d67929", func := "larder/larderlaw06.DiskSeen", spec := "diskSeen", named := ["larder/disk.flush"], apart := false, laid := [("larder/disk.flush", laid_larder_disk_flush)] }
def DiskSeenSaid : Prop := diskSeenRow.holds Tryd.pinned (OpenSpec.ofChange diskSeenSpec)

/-- ITS FALSE NEIGHBOUR: 'it returns false'. Refute it at one input. -/
def diskSeenWrong : ChangeSpec := { name := "diskSeen", fn := fun _ => fun
  | [d] => { results := [.lit (.bool false)], args := [d] }
  | _ => none }
def DiskSeenWrongFalsely : Prop := diskSeenRow.holds Tryd.pinned (OpenSpec.ofChange diskSeenWrong)

/-- 'larderlaw06.DiskBack': WHATEVER THE INPUT: true; the input reads as it did. -/
def diskBackSpec : ChangeSpec := { name := "diskBack", fn := fun _ => fun
  | [d1, d2, d3, d4] => { results := [.lit (.bool true)], args := [d1, d2, d3, d4] }
  | _ => none }
def diskBackRow : OpenClaim := { program := "ytpaonoaedjkekaadoor", sum := "80195833945071d9186b91662390bbc394f5369f5353587629eba9ac92d67929", func := "larder/larderlaw06.DiskBack", spec := "diskBack", named := ["larder/disk.flush"], apart := false, laid := [("larder/disk.flush", laid_larder_disk_flush)] }
def DiskBackSaid : Prop := diskBackRow.holds Tryd.pinned (OpenSpec.ofChange diskBackSpec)

/-- ITS FALSE NEIGHBOUR: 'it returns false'. Refute it at one input. -/
def diskBackWrong : ChangeSpec := { name := "diskBack", fn := fun _ => fun
  | [d1, d2, d3, d4] => { results := [.lit (.bool false)], args := [d1, d2, d3, d4] }
  | _ => none }
def DiskBackWrongFalsely : Prop := diskBackRow.holds Tryd.pinned (OpenSpec.ofChange diskBackWrong)

/-- 'larderlaw06.DiskStays': WHATEVER THE INPUT: true; the input reads as it did. -/
def diskStaysSpec : ChangeSpec := { name := "diskStays", fn := fun _ => fun
  | [d1, d2, d3, d4] => { results := [.lit (.bool true)], args := [d1, d2, d3, d4] }
  | _ => none }
def diskStaysRow : OpenClaim := { program := "ytpaonoaedjkekaadoor", sum := "80195833945071d9186b91662390bbc394f5369f5353587629eba9ac92d67929", func := "larder/larderlaw06.DiskStays", spec := "diskStays", named := ["larder/disk.flush"], apart := false, laid := [("larder/disk.flush", laid_larder_disk_flush)] }
def DiskStaysSaid : Prop := diskStaysRow.holds Tryd.pinned (OpenSpec.ofChange diskStaysSpec)

/-- ITS FALSE NEIGHBOUR: 'it returns false'. Refute it at one input. -/
def diskStaysWrong : ChangeSpec := { name := "diskStays", fn := fun _ => fun
  | [d1, d2, d3, d4] => { results := [.lit (.bool false)], args := [d1, d2, d3, d4] }
  | _ => none }
def DiskStaysWrongFalsely : Prop := diskStaysRow.holds Tryd.pinned (OpenSpec.ofChange diskStaysWrong)

/-- 'larderlaw06.DiskAll': WHATEVER THE INPUT: true; the input reads as it did. -/
def diskAllSpec : ChangeSpec := { name := "diskAll", fn := fun _ => fun
  | [d] => { results := [.lit (.bool true)], args := [d] }
  | _ => none }
def diskAllRow : OpenClaim := { program := "ytpaonoaedjkekaadoor", sum := "80195833945071d9186b91662390bbc394f5369f5353587629eba9ac92d67929", func := "larder/larderlaw06.DiskAll", spec := "diskAll", unfollowed := true, recurses := true, named := ["larder/disk.flush"], apart := false, laid := [("larder/disk.flush", laid_larder_disk_flush)] }
def DiskAllSaid : Prop := diskAllRow.holds Tryd.pinned (OpenSpec.ofChange diskAllSpec)

/-- ITS FALSE NEIGHBOUR: 'it returns false'. Refute it at one input. -/
def diskAllWrong : ChangeSpec := { name := "diskAll", fn := fun _ => fun
  | [d] => { results := [.lit (.bool false)], args := [d] }
  | _ => none }
def DiskAllWrongFalsely : Prop := diskAllRow.holds Tryd.pinned (OpenSpec.ofChange diskAllWrong)

/-- 'larderlaw06.DiskPlays': WHATEVER THE INPUT: true; the input reads as it did. -/
def diskPlaysSpec : ChangeSpec := { name := "diskPlays", fn := fun _ => fun
  | [d1, d2, d3] => { results := [.lit (.bool true)], args := [d1, d2, d3] }
  | _ => none }
def diskPlaysRow : OpenClaim := { program := "ytpaonoaedjkekaadoor", sum := "80195833945071d9186b91662390bbc394f5369f5353587629eba9ac92d67929", func := "larder/larderlaw06.DiskPlays", spec := "diskPlays", unfollowed := true, recurses := true, named := ["larder/disk.flush"], apart := false, laid := [("larder/disk.flush", laid_larder_disk_flush)] }
def DiskPlaysSaid : Prop := diskPlaysRow.holds Tryd.pinned (OpenSpec.ofChange diskPlaysSpec)

/-- ITS FALSE NEIGHBOUR: 'it returns false'. Refute it at one input. -/
def diskPlaysWrong : ChangeSpec := { name := "diskPlays", fn := fun _ => fun
  | [d1, d2, d3] => { results := [.lit (.bool false)], args := [d1, d2, d3] }
  | _ => none }
def DiskPlaysWrongFalsely : Prop := diskPlaysRow.holds Tryd.pinned (OpenSpec.ofChange diskPlaysWrong)

/-- 'larderlaw06.DiskOwn': WHATEVER THE INPUT: true; the input reads as it did. -/
def diskOwnSpec : ChangeSpec := { name := "diskOwn", fn := fun _ => fun
  | [d1, d2, d3] => { results := [.lit (.bool true)], args := [d1, d2, d3] }
  | _ => none }
def diskOwnRow : OpenClaim := { program := "ytpaonoaedjkekaadoor", sum := "80195833945071d9186b91662390bbc394f5369f5353587629eba9ac92d67929", func := "larder/larderlaw06.DiskOwn", spec := "diskOwn", unfollowed := true, recurses := true, named := ["larder/disk.flush"], apart := false, laid := [("larder/disk.flush", laid_larder_disk_flush)] }
def DiskOwnSaid : Prop := diskOwnRow.holds Tryd.pinned (OpenSpec.ofChange diskOwnSpec)

/-- ITS FALSE NEIGHBOUR: 'it returns false'. Refute it at one input. -/
def diskOwnWrong : ChangeSpec := { name := "diskOwn", fn := fun _ => fun
  | [d1, d2, d3] => { results := [.lit (.bool false)], args := [d1, d2, d3] }
  | _ => none }
def DiskOwnWrongFalsely : Prop := diskOwnRow.holds Tryd.pinned (OpenSpec.ofChange diskOwnWrong)

/-- 'larderlaw06.DiskNil': WHATEVER THE INPUT: true; the input reads as it did. -/
def diskNilSpec : ChangeSpec := { name := "diskNil", fn := fun _ => fun
  | [] => { results := [.lit (.bool true)], args := [] }
  | _ => none }
def diskNilRow : OpenClaim := { program := "ytpaonoaedjkekaadoor", sum := "80195833945071d9186b91662390bbc394f5369f5353587629eba9ac92d67929", func := "larder/larderlaw06.DiskNil", spec := "diskNil", unfollowed := true, recurses := true, named := ["larder/disk.flush"], apart := false, laid := [("larder/disk.flush", laid_larder_disk_flush)] }
def DiskNilSaid : Prop := diskNilRow.holds Tryd.pinned (OpenSpec.ofChange diskNilSpec)

/-- ITS FALSE NEIGHBOUR: 'it returns false'. Refute it at one input. -/
def diskNilWrong : ChangeSpec := { name := "diskNil", fn := fun _ => fun
  | [] => { results := [.lit (.bool false)], args := [] }
  | _ => none }
def DiskNilWrongFalsely : Prop := diskNilRow.holds Tryd.pinned (OpenSpec.ofChange diskNilWrong)

/- THE SECOND FORM. 'bulk': how many values and letters a reading holds, each counted each time it is reached (what is shared counts as often as it is met; a slice's spare places count too). A statement '..UptoSaid' is the law's where the arguments, and the package variables that the reading takes, are together of bulk at most 1048576: NARROWER than '..Said'. Prove '..Said' where nothing that the law and all that it calls make is longer than what came in: it says more and counts as full. Else prove '..UptoSaid'. A law counts once. -/
mutual
def uptoBulk {H : Type} : DataW H → Nat
  | .lit (.string bytes) => bytes.length + 1
  | .lit _ => 1
  | .nil => 1
  | .ptr d => uptoBulk d + 1
  | .slice elems spare => uptoBulkAll elems + uptoBulkAll spare + 1
  | .agg parts => uptoBulkAll parts + 1
  | .iface _ d => uptoBulk d + 1
  | .map entries => uptoBulkEntries entries + 1
  | .held _ => 1
def uptoBulkAll {H : Type} : List (DataW H) → Nat
  | [] => 0
  | d :: r => uptoBulk d + uptoBulkAll r
def uptoBulkEntries {H : Type} : List (Lit × DataW H) → Nat
  | [] => 0
  | x :: r => uptoBulkEntry x + uptoBulkEntries r
def uptoBulkEntry {H : Type} : Lit × DataW H → Nat
  | (.string bytes, d) => bytes.length + uptoBulk d + 1
  | (_, d) => uptoBulk d + 1
 end
def uptoSmall : (H : Type) → List (DataW H) → Bool := fun _ ds => decide (uptoBulkAll ds ≤ 1048576)
def OpenSpec.upto (s : _root_.Go.ChangeSpec) : _root_.Go.OpenSpec := { _root_.Go.OpenSpec.ofChange s with cond := some uptoSmall }

/-- 'larderlaw06.DiskSubset', WHERE WHAT IT READS IS OF BULK AT MOST 1048576: true; the input reads as it did. -/
def diskSubsetUptoRow : OpenClaim := { program := "ytpaonoaedjkekaadoor", sum := "80195833945071d9186b91662390bbc394f5369f5353587629eba9ac92d67929", func := "larder/larderlaw06.DiskSubset", spec := "diskSubset", named := ["larder/disk.flush"], apart := false, laid := [("larder/disk.flush", laid_larder_disk_flush)], narrowed := true }
def DiskSubsetUptoSaid : Prop := diskSubsetUptoRow.holds Tryd.pinned (OpenSpec.upto diskSubsetSpec)

/-- 'larderlaw06.DiskSeen', WHERE WHAT IT READS IS OF BULK AT MOST 1048576: true; the input reads as it did. -/
def diskSeenUptoRow : OpenClaim := { program := "ytpaonoaedjkekaadoor", sum := "80195833945071d9186b91662390bbc394f5369f5353587629eba9ac92d67929", func := "larder/larderlaw06.DiskSeen", spec := "diskSeen", named := ["larder/disk.flush"], apart := false, laid := [("larder/disk.flush", laid_larder_disk_flush)], narrowed := true }
def DiskSeenUptoSaid : Prop := diskSeenUptoRow.holds Tryd.pinned (OpenSpec.upto diskSeenSpec)

/-- 'larderlaw06.DiskBack', WHERE WHAT IT READS IS OF BULK AT MOST 1048576: true; the input reads as it did. -/
def diskBackUptoRow : OpenClaim := { program := "ytpaonoaedjkekaadoor", sum := "80195833945071d9186b91662390bbc394f5369f5353587629eba9ac92d67929", func := "larder/larderlaw06.DiskBack", spec := "diskBack", named := ["larder/disk.flush"], apart := false, laid := [("larder/disk.flush", laid_larder_disk_flush)], narrowed := true }
def DiskBackUptoSaid : Prop := diskBackUptoRow.holds Tryd.pinned (OpenSpec.upto diskBackSpec)

/-- 'larderlaw06.DiskStays', WHERE WHAT IT READS IS OF BULK AT MOST 1048576: true; the input reads as it did. -/
def diskStaysUptoRow : OpenClaim := { program := "ytpaonoaedjkekaadoor", sum := "80195833945071d9186b91662390bbc394f5369f5353587629eba9ac92d67929", func := "larder/larderlaw06.DiskStays", spec := "diskStays", named := ["larder/disk.flush"], apart := false, laid := [("larder/disk.flush", laid_larder_disk_flush)], narrowed := true }
def DiskStaysUptoSaid : Prop := diskStaysUptoRow.holds Tryd.pinned (OpenSpec.upto diskStaysSpec)

/-- 'larderlaw06.DiskAll', WHERE WHAT IT READS IS OF BULK AT MOST 1048576: true; the input reads as it did. -/
def diskAllUptoRow : OpenClaim := { program := "ytpaonoaedjkekaadoor", sum := "80195833945071d9186b91662390bbc394f5369f5353587629eba9ac92d67929", func := "larder/larderlaw06.DiskAll", spec := "diskAll", unfollowed := true, recurses := true, named := ["larder/disk.flush"], apart := false, laid := [("larder/disk.flush", laid_larder_disk_flush)], narrowed := true }
def DiskAllUptoSaid : Prop := diskAllUptoRow.holds Tryd.pinned (OpenSpec.upto diskAllSpec)

/-- 'larderlaw06.DiskPlays', WHERE WHAT IT READS IS OF BULK AT MOST 1048576: true; the input reads as it did. -/
def diskPlaysUptoRow : OpenClaim := { program := "ytpaonoaedjkekaadoor", sum := "80195833945071d9186b91662390bbc394f5369f5353587629eba9ac92d67929", func := "larder/larderlaw06.DiskPlays", spec := "diskPlays", unfollowed := true, recurses := true, named := ["larder/disk.flush"], apart := false, laid := [("larder/disk.flush", laid_larder_disk_flush)], narrowed := true }
def DiskPlaysUptoSaid : Prop := diskPlaysUptoRow.holds Tryd.pinned (OpenSpec.upto diskPlaysSpec)

/-- 'larderlaw06.DiskOwn', WHERE WHAT IT READS IS OF BULK AT MOST 1048576: true; the input reads as it did. -/
def diskOwnUptoRow : OpenClaim := { program := "ytpaonoaedjkekaadoor", sum := "80195833945071d9186b91662390bbc394f5369f5353587629eba9ac92d67929", func := "larder/larderlaw06.DiskOwn", spec := "diskOwn", unfollowed := true, recurses := true, named := ["larder/disk.flush"], apart := false, laid := [("larder/disk.flush", laid_larder_disk_flush)], narrowed := true }
def DiskOwnUptoSaid : Prop := diskOwnUptoRow.holds Tryd.pinned (OpenSpec.upto diskOwnSpec)

/-- 'larderlaw06.DiskNil', WHERE WHAT IT READS IS OF BULK AT MOST 1048576: true; the input reads as it did. -/
def diskNilUptoRow : OpenClaim := { program := "ytpaonoaedjkekaadoor", sum := "80195833945071d9186b91662390bbc394f5369f5353587629eba9ac92d67929", func := "larder/larderlaw06.DiskNil", spec := "diskNil", unfollowed := true, recurses := true, named := ["larder/disk.flush"], apart := false, laid := [("larder/disk.flush", laid_larder_disk_flush)], narrowed := true }
def DiskNilUptoSaid : Prop := diskNilUptoRow.holds Tryd.pinned (OpenSpec.upto diskNilSpec)

end Rows
end Go.Proofs.YtpaonoaedjkekaaDoor
