/-
  NARROWER THAN 'FOR EVERY INPUT', by the rows' own cells (each row's printed sentence says how): TopUndo: laid.
  DERIVED. THE GIVEN ROWS OF THIS SEAT. 1 by the template 'for every input the law returns true; each argument reads behind the call as it read before'; 0 by the template 'total and deterministic' (their statements: YthdoelcgdgcncaaGreatDoorTotals.lean).
  GIVEN WITH THE SEED: the statements are not yours to turn. If you find one false, say at which input.
  Laid BY PROGRAM, IN A SANDBOX (cutbox-rows.mjs): the forced cells as the released guide's own fill.sh prints them over the translation 6575c353ef9cc3f3… (all of the seat's roots in one cut). By AI agents, Wed Nov 11 2026. No macro, syntax, notation, axiom, sorry.
-/
import Derived.Test.YthdoelcgdgcncaaGreatDoorChecked
import GoSem.Claim
import GoSem.ClaimJoined
import GoSem.ClaimMapViews
import Derived.JoinedTies
import Derived.KernelRfl
namespace Go.Proofs.YthdoelcgdgcncaaGreatDoor
/- THE CELL 'sum', in the pinned program and in every row, IS THE sha256 OF THE DUMP (.gsa) THAT YthdoelcgdgcncaaGreatDoorProg.lean LOADS. Nothing in Lean hashes anything: it is a label: what it is worth is what the hold of that sum in a sandbox is worth. -/
noncomputable def Tryz.pinned : Pinned := { name := "ythdoelcgdgcncaagreatdoor", sum := "6575c353ef9cc3f3edb36873ffadb86e7fc162ab38d6f6e29510ab3ac4045630", checked := Tryz.checked }
namespace Rows
def none {H : Type} : Left H := { results := [], args := [] }

/- WHAT THE LISTED PACKAGE-LEVEL VARIABLES READ AS WHEN THE CALL BEGINS. Each datum BY PROGRAM (the guide's laid-datum.mjs) off the statement by which the dump's own 'gosem.cut.vars' lays the variable. In a bare row this is a premise. The card (YthdoelcgdgcncaaGreatDoorCards.lean) ties it to the program's text. -/
def laid_math_bits_deBruijn64tab {H : Type} : DataW H := .agg [.lit (.int .u8 0), .lit (.int .u8 1), .lit (.int .u8 56), .lit (.int .u8 2), .lit (.int .u8 57), .lit (.int .u8 49), .lit (.int .u8 28), .lit (.int .u8 3), .lit (.int .u8 61), .lit (.int .u8 58), .lit (.int .u8 42), .lit (.int .u8 50), .lit (.int .u8 38), .lit (.int .u8 29), .lit (.int .u8 17), .lit (.int .u8 4), .lit (.int .u8 62), .lit (.int .u8 47), .lit (.int .u8 59), .lit (.int .u8 36), .lit (.int .u8 45), .lit (.int .u8 43), .lit (.int .u8 51), .lit (.int .u8 22), .lit (.int .u8 53), .lit (.int .u8 39), .lit (.int .u8 33), .lit (.int .u8 30), .lit (.int .u8 24), .lit (.int .u8 18), .lit (.int .u8 12), .lit (.int .u8 5), .lit (.int .u8 63), .lit (.int .u8 55), .lit (.int .u8 48), .lit (.int .u8 27), .lit (.int .u8 60), .lit (.int .u8 41), .lit (.int .u8 37), .lit (.int .u8 16), .lit (.int .u8 46), .lit (.int .u8 35), .lit (.int .u8 44), .lit (.int .u8 21), .lit (.int .u8 52), .lit (.int .u8 32), .lit (.int .u8 23), .lit (.int .u8 11), .lit (.int .u8 54), .lit (.int .u8 26), .lit (.int .u8 40), .lit (.int .u8 15), .lit (.int .u8 34), .lit (.int .u8 20), .lit (.int .u8 31), .lit (.int .u8 10), .lit (.int .u8 25), .lit (.int .u8 14), .lit (.int .u8 19), .lit (.int .u8 9), .lit (.int .u8 13), .lit (.int .u8 8), .lit (.int .u8 7), .lit (.int .u8 6)]
def laid_tenement_alu_shapes {H : Type} : DataW H := .agg [.agg [.lit (.bool false), .lit (.bool false), .lit (.bool false), .lit (.int .i64 0), .lit (.int .i64 0)], .agg [.lit (.bool true), .lit (.bool false), .lit (.bool false), .lit (.int .i64 0), .lit (.int .i64 65535)], .agg [.lit (.bool true), .lit (.bool true), .lit (.bool true), .lit (.int .i64 0), .lit (.int .i64 0)], .agg [.lit (.bool true), .lit (.bool true), .lit (.bool true), .lit (.int .i64 0), .lit (.int .i64 0)], .agg [.lit (.bool true), .lit (.bool true), .lit (.bool true), .lit (.int .i64 0), .lit (.int .i64 0)], .agg [.lit (.bool true), .lit (.bool true), .lit (.bool true), .lit (.int .i64 0), .lit (.int .i64 0)], .agg [.lit (.bool true), .lit (.bool true), .lit (.bool true), .lit (.int .i64 0), .lit (.int .i64 0)], .agg [.lit (.bool true), .lit (.bool true), .lit (.bool false), .lit (.int .i64 (-2048)), .lit (.int .i64 2047)], .agg [.lit (.bool true), .lit (.bool true), .lit (.bool false), .lit (.int .i64 0), .lit (.int .i64 0)], .agg [.lit (.bool true), .lit (.bool true), .lit (.bool false), .lit (.int .i64 0), .lit (.int .i64 0)], .agg [.lit (.bool true), .lit (.bool true), .lit (.bool false), .lit (.int .i64 0), .lit (.int .i64 0)], .agg [.lit (.bool true), .lit (.bool true), .lit (.bool true), .lit (.int .i64 0), .lit (.int .i64 0)], .agg [.lit (.bool true), .lit (.bool true), .lit (.bool false), .lit (.int .i64 0), .lit (.int .i64 0)], .agg [.lit (.bool false), .lit (.bool false), .lit (.bool false), .lit (.int .i64 0), .lit (.int .i64 0)], .agg [.lit (.bool false), .lit (.bool false), .lit (.bool false), .lit (.int .i64 (-1024)), .lit (.int .i64 1023)], .agg [.lit (.bool true), .lit (.bool false), .lit (.bool false), .lit (.int .i64 (-1024)), .lit (.int .i64 1023)], .agg [.lit (.bool true), .lit (.bool false), .lit (.bool false), .lit (.int .i64 (-1024)), .lit (.int .i64 1023)], .agg [.lit (.bool false), .lit (.bool false), .lit (.bool false), .lit (.int .i64 0), .lit (.int .i64 0)], .agg [.lit (.bool false), .lit (.bool false), .lit (.bool false), .lit (.int .i64 0), .lit (.int .i64 0)]]
def laid_tenement_buffer_kinds {H : Type} : DataW H := .agg [.agg [.lit (.bool true), .lit (.bool false), .lit (.bool false)], .agg [.lit (.bool false), .lit (.bool false), .lit (.bool false)], .agg [.lit (.bool false), .lit (.bool true), .lit (.bool false)], .agg [.lit (.bool false), .lit (.bool true), .lit (.bool true)]]
def laid_tenement_desc_places {H : Type} : DataW H := .agg [.agg [.lit (.int .i64 6), .lit (.int .i64 6)], .agg [.lit (.int .i64 7), .lit (.int .i64 7)], .agg [.lit (.int .i64 10), .lit (.int .i64 10)], .agg [.lit (.int .i64 11), .lit (.int .i64 11)], .agg [.lit (.int .i64 47), .lit (.int .i64 12)]]
def laid_tenement_desc_named {H : Type} : DataW H := .agg [.lit (.int .u64 0), .lit (.int .u64 281474976706563), .lit (.int .u64 281474976709827)]
def laid_tenement_desc_low {H : Type} : DataW H := .agg [.lit (.int .u64 0), .lit (.int .u64 3), .lit (.int .u64 3)]
def laid_tenement_desc_kinds {H : Type} : DataW H := .agg [.lit (.int .i8 1), .lit (.int .i8 1), .lit (.int .i8 1), .lit (.int .i8 2)]
def laid_tenement_isa_words {H : Type} : DataW H := .agg [.lit (.int .u32 3573751839), .lit (.int .u32 3531603968), .lit (.int .u32 2332033024), .lit (.int .u32 3405774848), .lit (.int .u32 2315255808), .lit (.int .u32 2852126720), .lit (.int .u32 3388997632), .lit (.int .u32 2432696320), .lit (.int .u32 4181721088), .lit (.int .u32 4177526784), .lit (.int .u32 3361700864), .lit (.int .u32 3355474944), .lit (.int .u32 3365927936), .lit (.int .u32 3573759935), .lit (.int .u32 335544320), .lit (.int .u32 3019898880), .lit (.int .u32 3036676096), .lit (.int .u32 3556769793), .lit (.int .u32 0)]
def laid_tenement_isa_masks {H : Type} : DataW H := .agg [.lit (.int .u32 4294967295), .lit (.int .u32 4292870144), .lit (.int .u32 4292934656), .lit (.int .u32 4292934656), .lit (.int .u32 4292934656), .lit (.int .u32 4292934656), .lit (.int .u32 4292934656), .lit (.int .u32 4290772992), .lit (.int .u32 4294966272), .lit (.int .u32 4294966272), .lit (.int .u32 4294966272), .lit (.int .u32 4292934656), .lit (.int .u32 4294966272), .lit (.int .u32 4294967295), .lit (.int .u32 4227858432), .lit (.int .u32 4278190080), .lit (.int .u32 4278190080), .lit (.int .u32 4294967295)]

/-- 'tenementtop.TopUndo': WHATEVER THE INPUT: true; the input reads as it did. -/
def topUndoSpec : ChangeSpec := { name := "topUndo", fn := fun _ => fun
  | [d1, d2, d3] => { results := [.lit (.bool true)], args := [d1, d2, d3] }
  | _ => none }
def topUndoRow : OpenClaim := { program := "ythdoelcgdgcncaagreatdoor", sum := "6575c353ef9cc3f3edb36873ffadb86e7fc162ab38d6f6e29510ab3ac4045630", func := "tenement/tenementtop.TopUndo", spec := "topUndo", inPlace := ["sync/atomic.StoreInt64", "sync/atomic.AddInt64", "sync/atomic.LoadUint32", "(*internal/sync.Mutex).Lock", "internal/race.Disable", "sync/atomic.CompareAndSwapInt32", "internal/race.Enable", "internal/race.Acquire", "(*internal/sync.Mutex).lockSlow", "internal/sync.runtime_canSpin", "internal/sync.runtime_doSpin", "internal/sync.throw", "internal/sync.runtime_nanotime", "internal/sync.runtime_SemacquireMutex", "sync/atomic.AddInt32", "(*internal/sync.Mutex).Unlock", "internal/race.ReleaseMerge", "(*internal/sync.Mutex).unlockSlow", "internal/sync.fatal", "internal/sync.runtime_Semrelease", "sync/atomic.StoreUint32", "maps.clone", "slices.overlaps[tenement/api.Region]"], unfollowed := true, recurses := true, named := ["math/bits.deBruijn64tab", "tenement/isa.masks", "tenement/isa.words", "tenement/alu.shapes", "tenement/buffer.kinds", "tenement/desc.kinds", "tenement/desc.low", "tenement/desc.named", "tenement/desc.places"], plainKeys := false, apart := false, laid := [("math/bits.deBruijn64tab", laid_math_bits_deBruijn64tab), ("tenement/alu.shapes", laid_tenement_alu_shapes), ("tenement/buffer.kinds", laid_tenement_buffer_kinds), ("tenement/desc.places", laid_tenement_desc_places), ("tenement/desc.named", laid_tenement_desc_named), ("tenement/desc.low", laid_tenement_desc_low), ("tenement/desc.kinds", laid_tenement_desc_kinds), ("tenement/isa.words", laid_tenement_isa_words), ("tenement/isa.masks", laid_tenement_isa_masks)] }
def TopUndoSaid : Prop := topUndoRow.holds Tryz.pinned (OpenSpec.ofChange topUndoSpec)

/-- ITS FALSE NEIGHBOUR: 'it returns false'. Refute it at one input. -/
def topUndoWrong : ChangeSpec := { name := "topUndo", fn := fun _ => fun
  | [d1, d2, d3] => { results := [.lit (.bool false)], args := [d1, d2, d3] }
  | _ => none }
def TopUndoWrongFalsely : Prop := topUndoRow.holds Tryz.pinned (OpenSpec.ofChange topUndoWrong)

/- THE SECOND FORM. 'bulk': how many values and letters a reading holds, each counted each time it is reached (what is shared counts as often as it is met; a slice's spare places count too). A statement '..UptoSaid' is the law's where the arguments, and the package variables that the reading takes, are together of bulk at most 1048576: NARROWER than '..Said'. Prove '..Said' where nothing that the law and all that it calls make is longer than what came in: it says more and counts as full. Else prove '..UptoSaid'. A law counts once. -/
mutual
def uptoBulk {H : Type} : DataW H → Nat
  | .lit (.string bytes) => bytes.length + 1
  | .lit _ => 1
  | .nil => 1
  | .ptr d => uptoBulk d + 1
  | .slice elems spare => uptoBulkAll elems + uptoBulkAll spare + 1
  | .agg parts => uptoBulkAll parts + 1
  | .iface _ d => uptoBulk d + 1
  | .map entries => uptoBulkEntries entries + 1
  | .held _ => 1
def uptoBulkAll {H : Type} : List (DataW H) → Nat
  | [] => 0
  | d :: r => uptoBulk d + uptoBulkAll r
def uptoBulkEntries {H : Type} : List (Lit × DataW H) → Nat
  | [] => 0
  | x :: r => uptoBulkEntry x + uptoBulkEntries r
def uptoBulkEntry {H : Type} : Lit × DataW H → Nat
  | (.string bytes, d) => bytes.length + uptoBulk d + 1
  | (_, d) => uptoBulk d + 1
 end
def uptoSmall : (H : Type) → List (DataW H) → Bool := fun _ ds => decide (uptoBulkAll ds ≤ 1048576)
def OpenSpec.upto (s : _root_.Go.ChangeSpec) : _root_.Go.OpenSpec := { _root_.Go.OpenSpec.ofChange s with cond := some uptoSmall }

/-- 'tenementtop.TopUndo', WHERE WHAT IT READS IS OF BULK AT MOST 1048576: true; the input reads as it did. -/
def topUndoUptoRow : OpenClaim := { program := "ythdoelcgdgcncaagreatdoor", sum := "6575c353ef9cc3f3edb36873ffadb86e7fc162ab38d6f6e29510ab3ac4045630", func := "tenement/tenementtop.TopUndo", spec := "topUndo", inPlace := ["sync/atomic.StoreInt64", "sync/atomic.AddInt64", "sync/atomic.LoadUint32", "(*internal/sync.Mutex).Lock", "internal/race.Disable", "sync/atomic.CompareAndSwapInt32", "internal/race.Enable", "internal/race.Acquire", "(*internal/sync.Mutex).lockSlow", "internal/sync.runtime_canSpin", "internal/sync.runtime_doSpin", "internal/sync.throw", "internal/sync.runtime_nanotime", "internal/sync.runtime_SemacquireMutex", "sync/atomic.AddInt32", "(*internal/sync.Mutex).Unlock", "internal/race.ReleaseMerge", "(*internal/sync.Mutex).unlockSlow", "internal/sync.fatal", "internal/sync.runtime_Semrelease", "sync/atomic.StoreUint32", "maps.clone", "slices.overlaps[tenement/api.Region]"], unfollowed := true, recurses := true, named := ["math/bits.deBruijn64tab", "tenement/isa.masks", "tenement/isa.words", "tenement/alu.shapes", "tenement/buffer.kinds", "tenement/desc.kinds", "tenement/desc.low", "tenement/desc.named", "tenement/desc.places"], plainKeys := false, apart := false, laid := [("math/bits.deBruijn64tab", laid_math_bits_deBruijn64tab), ("tenement/alu.shapes", laid_tenement_alu_shapes), ("tenement/buffer.kinds", laid_tenement_buffer_kinds), ("tenement/desc.places", laid_tenement_desc_places), ("tenement/desc.named", laid_tenement_desc_named), ("tenement/desc.low", laid_tenement_desc_low), ("tenement/desc.kinds", laid_tenement_desc_kinds), ("tenement/isa.words", laid_tenement_isa_words), ("tenement/isa.masks", laid_tenement_isa_masks)], narrowed := true }
def TopUndoUptoSaid : Prop := topUndoUptoRow.holds Tryz.pinned (OpenSpec.upto topUndoSpec)

end Rows
end Go.Proofs.YthdoelcgdgcncaaGreatDoor
