/-
  No cell of these rows narrows 'for every input' (looked for: loops, veiled, ifaces, maps, wideKeys, modest, calm, conditions, laid).
  DERIVED. THE GIVEN ROWS OF THIS SEAT. 24 by the template 'for every input the law returns true; each argument reads behind the call as it read before'; 0 by the template 'total and deterministic' (their statements: YtandenkoejbloaaTotals.lean).
  GIVEN WITH THE SEED: the statements are not yours to turn. If you find one false, say at which input.
  Laid BY PROGRAM, IN A SANDBOX (cutbox-rows.mjs): the forced cells as the released guide's own fill.sh prints them over the translation 9a0173009660f448… (all of the seat's roots in one cut). By AI agents, Wed Nov 11 2026. No macro, syntax, notation, axiom, sorry.
-/
import Derived.Test.YtandenkoejbloaaChecked
import GoSem.Claim
import GoSem.ClaimJoined
import GoSem.ClaimMapViews
import Derived.JoinedTies
import Derived.KernelRfl
namespace Go.Proofs.Ytandenkoejbloaa
/- THE CELL 'sum', in the pinned program and in every row, IS THE sha256 OF THE DUMP (.gsa) THAT YtandenkoejbloaaProg.lean LOADS. Nothing in Lean hashes anything: it is a label: what it is worth is what the hold of that sum in a sandbox is worth. -/
noncomputable def Try.pinned : Pinned := { name := "ytandenkoejbloaa", sum := "9a0173009660f448a92d7c8b30b8b35b8fb9b06949ed406d84ddc2eeadd1db8c", checked := Try.checked }
namespace Rows
def none {H : Type} : Left H := { results := [], args := [] }

/-- 'quorumitelaw1.SipAsks': WHATEVER THE INPUT: true; the input reads as it did. -/
def sipAsksSpec : ChangeSpec := { name := "sipAsks", fn := fun _ => fun
  | [d1, d2, d3, d4] => { results := [.lit (.bool true)], args := [d1, d2, d3, d4] }
  | _ => none }
def sipAsksRow : OpenClaim := { program := "ytandenkoejbloaa", sum := "9a0173009660f448a92d7c8b30b8b35b8fb9b06949ed406d84ddc2eeadd1db8c", func := "quorumite/quorumitelaw1.SipAsks", spec := "sipAsks", apart := false }
def SipAsksSaid : Prop := sipAsksRow.holds Try.pinned (OpenSpec.ofChange sipAsksSpec)

/-- ITS FALSE NEIGHBOUR: 'it returns false'. Refute it at one input. -/
def sipAsksWrong : ChangeSpec := { name := "sipAsks", fn := fun _ => fun
  | [d1, d2, d3, d4] => { results := [.lit (.bool false)], args := [d1, d2, d3, d4] }
  | _ => none }
def SipAsksWrongFalsely : Prop := sipAsksRow.holds Try.pinned (OpenSpec.ofChange sipAsksWrong)

/-- 'quorumitelaw1.SipParts': WHATEVER THE INPUT: true; the input reads as it did. -/
def sipPartsSpec : ChangeSpec := { name := "sipParts", fn := fun _ => fun
  | [d1, d2] => { results := [.lit (.bool true)], args := [d1, d2] }
  | _ => none }
def sipPartsRow : OpenClaim := { program := "ytandenkoejbloaa", sum := "9a0173009660f448a92d7c8b30b8b35b8fb9b06949ed406d84ddc2eeadd1db8c", func := "quorumite/quorumitelaw1.SipParts", spec := "sipParts", apart := false }
def SipPartsSaid : Prop := sipPartsRow.holds Try.pinned (OpenSpec.ofChange sipPartsSpec)

/-- ITS FALSE NEIGHBOUR: 'it returns false'. Refute it at one input. -/
def sipPartsWrong : ChangeSpec := { name := "sipParts", fn := fun _ => fun
  | [d1, d2] => { results := [.lit (.bool false)], args := [d1, d2] }
  | _ => none }
def SipPartsWrongFalsely : Prop := sipPartsRow.holds Try.pinned (OpenSpec.ofChange sipPartsWrong)

/-- 'quorumitelaw1.SipNumbers': WHATEVER THE INPUT: true; the input reads as it did. -/
def sipNumbersSpec : ChangeSpec := { name := "sipNumbers", fn := fun _ => fun
  | [d1, d2] => { results := [.lit (.bool true)], args := [d1, d2] }
  | _ => none }
def sipNumbersRow : OpenClaim := { program := "ytandenkoejbloaa", sum := "9a0173009660f448a92d7c8b30b8b35b8fb9b06949ed406d84ddc2eeadd1db8c", func := "quorumite/quorumitelaw1.SipNumbers", spec := "sipNumbers", apart := false }
def SipNumbersSaid : Prop := sipNumbersRow.holds Try.pinned (OpenSpec.ofChange sipNumbersSpec)

/-- ITS FALSE NEIGHBOUR: 'it returns false'. Refute it at one input. -/
def sipNumbersWrong : ChangeSpec := { name := "sipNumbers", fn := fun _ => fun
  | [d1, d2] => { results := [.lit (.bool false)], args := [d1, d2] }
  | _ => none }
def SipNumbersWrongFalsely : Prop := sipNumbersRow.holds Try.pinned (OpenSpec.ofChange sipNumbersWrong)

/-- 'quorumitelaw1.SipRounds': WHATEVER THE INPUT: true; the input reads as it did. -/
def sipRoundsSpec : ChangeSpec := { name := "sipRounds", fn := fun _ => fun
  | [d1, d2, d3] => { results := [.lit (.bool true)], args := [d1, d2, d3] }
  | _ => none }
def sipRoundsRow : OpenClaim := { program := "ytandenkoejbloaa", sum := "9a0173009660f448a92d7c8b30b8b35b8fb9b06949ed406d84ddc2eeadd1db8c", func := "quorumite/quorumitelaw1.SipRounds", spec := "sipRounds", apart := false }
def SipRoundsSaid : Prop := sipRoundsRow.holds Try.pinned (OpenSpec.ofChange sipRoundsSpec)

/-- ITS FALSE NEIGHBOUR: 'it returns false'. Refute it at one input. -/
def sipRoundsWrong : ChangeSpec := { name := "sipRounds", fn := fun _ => fun
  | [d1, d2, d3] => { results := [.lit (.bool false)], args := [d1, d2, d3] }
  | _ => none }
def SipRoundsWrongFalsely : Prop := sipRoundsRow.holds Try.pinned (OpenSpec.ofChange sipRoundsWrong)

/-- 'quorumitelaw1.SipBlocks': WHATEVER THE INPUT: true; the input reads as it did. -/
def sipBlocksSpec : ChangeSpec := { name := "sipBlocks", fn := fun _ => fun
  | [d1, d2, d3] => { results := [.lit (.bool true)], args := [d1, d2, d3] }
  | _ => none }
def sipBlocksRow : OpenClaim := { program := "ytandenkoejbloaa", sum := "9a0173009660f448a92d7c8b30b8b35b8fb9b06949ed406d84ddc2eeadd1db8c", func := "quorumite/quorumitelaw1.SipBlocks", spec := "sipBlocks", apart := false }
def SipBlocksSaid : Prop := sipBlocksRow.holds Try.pinned (OpenSpec.ofChange sipBlocksSpec)

/-- ITS FALSE NEIGHBOUR: 'it returns false'. Refute it at one input. -/
def sipBlocksWrong : ChangeSpec := { name := "sipBlocks", fn := fun _ => fun
  | [d1, d2, d3] => { results := [.lit (.bool false)], args := [d1, d2, d3] }
  | _ => none }
def SipBlocksWrongFalsely : Prop := sipBlocksRow.holds Try.pinned (OpenSpec.ofChange sipBlocksWrong)

/-- 'quorumitelaw1.SipTwo': WHATEVER THE INPUT: true; the input reads as it did. -/
def sipTwoSpec : ChangeSpec := { name := "sipTwo", fn := fun _ => fun
  | [d1, d2, d3] => { results := [.lit (.bool true)], args := [d1, d2, d3] }
  | _ => none }
def sipTwoRow : OpenClaim := { program := "ytandenkoejbloaa", sum := "9a0173009660f448a92d7c8b30b8b35b8fb9b06949ed406d84ddc2eeadd1db8c", func := "quorumite/quorumitelaw1.SipTwo", spec := "sipTwo", apart := false }
def SipTwoSaid : Prop := sipTwoRow.holds Try.pinned (OpenSpec.ofChange sipTwoSpec)

/-- ITS FALSE NEIGHBOUR: 'it returns false'. Refute it at one input. -/
def sipTwoWrong : ChangeSpec := { name := "sipTwo", fn := fun _ => fun
  | [d1, d2, d3] => { results := [.lit (.bool false)], args := [d1, d2, d3] }
  | _ => none }
def SipTwoWrongFalsely : Prop := sipTwoRow.holds Try.pinned (OpenSpec.ofChange sipTwoWrong)

/-- 'quorumitelaw2.MacBytes': WHATEVER THE INPUT: true; the input reads as it did. -/
def macBytesSpec : ChangeSpec := { name := "macBytes", fn := fun _ => fun
  | [d1, d2, d3] => { results := [.lit (.bool true)], args := [d1, d2, d3] }
  | _ => none }
def macBytesRow : OpenClaim := { program := "ytandenkoejbloaa", sum := "9a0173009660f448a92d7c8b30b8b35b8fb9b06949ed406d84ddc2eeadd1db8c", func := "quorumite/quorumitelaw2.MacBytes", spec := "macBytes", apart := false }
def MacBytesSaid : Prop := macBytesRow.holds Try.pinned (OpenSpec.ofChange macBytesSpec)

/-- ITS FALSE NEIGHBOUR: 'it returns false'. Refute it at one input. -/
def macBytesWrong : ChangeSpec := { name := "macBytes", fn := fun _ => fun
  | [d1, d2, d3] => { results := [.lit (.bool false)], args := [d1, d2, d3] }
  | _ => none }
def MacBytesWrongFalsely : Prop := macBytesRow.holds Try.pinned (OpenSpec.ofChange macBytesWrong)

/-- 'quorumitelaw2.MacAsks': WHATEVER THE INPUT: true; the input reads as it did. -/
def macAsksSpec : ChangeSpec := { name := "macAsks", fn := fun _ => fun
  | [d1, d2, d3, d4, d5, d6] => { results := [.lit (.bool true)], args := [d1, d2, d3, d4, d5, d6] }
  | _ => none }
def macAsksRow : OpenClaim := { program := "ytandenkoejbloaa", sum := "9a0173009660f448a92d7c8b30b8b35b8fb9b06949ed406d84ddc2eeadd1db8c", func := "quorumite/quorumitelaw2.MacAsks", spec := "macAsks", apart := false }
def MacAsksSaid : Prop := macAsksRow.holds Try.pinned (OpenSpec.ofChange macAsksSpec)

/-- ITS FALSE NEIGHBOUR: 'it returns false'. Refute it at one input. -/
def macAsksWrong : ChangeSpec := { name := "macAsks", fn := fun _ => fun
  | [d1, d2, d3, d4, d5, d6] => { results := [.lit (.bool false)], args := [d1, d2, d3, d4, d5, d6] }
  | _ => none }
def MacAsksWrongFalsely : Prop := macAsksRow.holds Try.pinned (OpenSpec.ofChange macAsksWrong)

/-- 'quorumitelaw2.MacSame': WHATEVER THE INPUT: true; the input reads as it did. -/
def macSameSpec : ChangeSpec := { name := "macSame", fn := fun _ => fun
  | [d1, d2, d3] => { results := [.lit (.bool true)], args := [d1, d2, d3] }
  | _ => none }
def macSameRow : OpenClaim := { program := "ytandenkoejbloaa", sum := "9a0173009660f448a92d7c8b30b8b35b8fb9b06949ed406d84ddc2eeadd1db8c", func := "quorumite/quorumitelaw2.MacSame", spec := "macSame", apart := false }
def MacSameSaid : Prop := macSameRow.holds Try.pinned (OpenSpec.ofChange macSameSpec)

/-- ITS FALSE NEIGHBOUR: 'it returns false'. Refute it at one input. -/
def macSameWrong : ChangeSpec := { name := "macSame", fn := fun _ => fun
  | [d1, d2, d3] => { results := [.lit (.bool false)], args := [d1, d2, d3] }
  | _ => none }
def MacSameWrongFalsely : Prop := macSameRow.holds Try.pinned (OpenSpec.ofChange macSameWrong)

/-- 'quorumitelaw2.MacLabels': WHATEVER THE INPUT: true; the input reads as it did. -/
def macLabelsSpec : ChangeSpec := { name := "macLabels", fn := fun _ => fun
  | [d1, d2, d3] => { results := [.lit (.bool true)], args := [d1, d2, d3] }
  | _ => none }
def macLabelsRow : OpenClaim := { program := "ytandenkoejbloaa", sum := "9a0173009660f448a92d7c8b30b8b35b8fb9b06949ed406d84ddc2eeadd1db8c", func := "quorumite/quorumitelaw2.MacLabels", spec := "macLabels", apart := false }
def MacLabelsSaid : Prop := macLabelsRow.holds Try.pinned (OpenSpec.ofChange macLabelsSpec)

/-- ITS FALSE NEIGHBOUR: 'it returns false'. Refute it at one input. -/
def macLabelsWrong : ChangeSpec := { name := "macLabels", fn := fun _ => fun
  | [d1, d2, d3] => { results := [.lit (.bool false)], args := [d1, d2, d3] }
  | _ => none }
def MacLabelsWrongFalsely : Prop := macLabelsRow.holds Try.pinned (OpenSpec.ofChange macLabelsWrong)

/-- 'quorumitelaw2.MacWords': WHATEVER THE INPUT: true; the input reads as it did. -/
def macWordsSpec : ChangeSpec := { name := "macWords", fn := fun _ => fun
  | [d1, d2] => { results := [.lit (.bool true)], args := [d1, d2] }
  | _ => none }
def macWordsRow : OpenClaim := { program := "ytandenkoejbloaa", sum := "9a0173009660f448a92d7c8b30b8b35b8fb9b06949ed406d84ddc2eeadd1db8c", func := "quorumite/quorumitelaw2.MacWords", spec := "macWords", apart := false }
def MacWordsSaid : Prop := macWordsRow.holds Try.pinned (OpenSpec.ofChange macWordsSpec)

/-- ITS FALSE NEIGHBOUR: 'it returns false'. Refute it at one input. -/
def macWordsWrong : ChangeSpec := { name := "macWords", fn := fun _ => fun
  | [d1, d2] => { results := [.lit (.bool false)], args := [d1, d2] }
  | _ => none }
def MacWordsWrongFalsely : Prop := macWordsRow.holds Try.pinned (OpenSpec.ofChange macWordsWrong)

/-- 'quorumitelaw2.MacKeys': WHATEVER THE INPUT: true; the input reads as it did. -/
def macKeysSpec : ChangeSpec := { name := "macKeys", fn := fun _ => fun
  | [d1, d2, d3] => { results := [.lit (.bool true)], args := [d1, d2, d3] }
  | _ => none }
def macKeysRow : OpenClaim := { program := "ytandenkoejbloaa", sum := "9a0173009660f448a92d7c8b30b8b35b8fb9b06949ed406d84ddc2eeadd1db8c", func := "quorumite/quorumitelaw2.MacKeys", spec := "macKeys", apart := false }
def MacKeysSaid : Prop := macKeysRow.holds Try.pinned (OpenSpec.ofChange macKeysSpec)

/-- ITS FALSE NEIGHBOUR: 'it returns false'. Refute it at one input. -/
def macKeysWrong : ChangeSpec := { name := "macKeys", fn := fun _ => fun
  | [d1, d2, d3] => { results := [.lit (.bool false)], args := [d1, d2, d3] }
  | _ => none }
def MacKeysWrongFalsely : Prop := macKeysRow.holds Try.pinned (OpenSpec.ofChange macKeysWrong)

/-- 'quorumitelaw4.WireAsks': WHATEVER THE INPUT: true; the input reads as it did. -/
def wireAsksSpec : ChangeSpec := { name := "wireAsks", fn := fun _ => fun
  | [d1, d2, d3] => { results := [.lit (.bool true)], args := [d1, d2, d3] }
  | _ => none }
def wireAsksRow : OpenClaim := { program := "ytandenkoejbloaa", sum := "9a0173009660f448a92d7c8b30b8b35b8fb9b06949ed406d84ddc2eeadd1db8c", func := "quorumite/quorumitelaw4.WireAsks", spec := "wireAsks", unfollowed := true, recurses := true, apart := false }
def WireAsksSaid : Prop := wireAsksRow.holds Try.pinned (OpenSpec.ofChange wireAsksSpec)

/-- ITS FALSE NEIGHBOUR: 'it returns false'. Refute it at one input. -/
def wireAsksWrong : ChangeSpec := { name := "wireAsks", fn := fun _ => fun
  | [d1, d2, d3] => { results := [.lit (.bool false)], args := [d1, d2, d3] }
  | _ => none }
def WireAsksWrongFalsely : Prop := wireAsksRow.holds Try.pinned (OpenSpec.ofChange wireAsksWrong)

/-- 'quorumitelaw4.WireBack': WHATEVER THE INPUT: true; the input reads as it did. -/
def wireBackSpec : ChangeSpec := { name := "wireBack", fn := fun _ => fun
  | [d1, d2, d3, d4] => { results := [.lit (.bool true)], args := [d1, d2, d3, d4] }
  | _ => none }
def wireBackRow : OpenClaim := { program := "ytandenkoejbloaa", sum := "9a0173009660f448a92d7c8b30b8b35b8fb9b06949ed406d84ddc2eeadd1db8c", func := "quorumite/quorumitelaw4.WireBack", spec := "wireBack", unfollowed := true, recurses := true, apart := false }
def WireBackSaid : Prop := wireBackRow.holds Try.pinned (OpenSpec.ofChange wireBackSpec)

/-- ITS FALSE NEIGHBOUR: 'it returns false'. Refute it at one input. -/
def wireBackWrong : ChangeSpec := { name := "wireBack", fn := fun _ => fun
  | [d1, d2, d3, d4] => { results := [.lit (.bool false)], args := [d1, d2, d3, d4] }
  | _ => none }
def WireBackWrongFalsely : Prop := wireBackRow.holds Try.pinned (OpenSpec.ofChange wireBackWrong)

/-- 'quorumitelaw4.WireBounds': WHATEVER THE INPUT: true; the input reads as it did. -/
def wireBoundsSpec : ChangeSpec := { name := "wireBounds", fn := fun _ => fun
  | [d1, d2, d3] => { results := [.lit (.bool true)], args := [d1, d2, d3] }
  | _ => none }
def wireBoundsRow : OpenClaim := { program := "ytandenkoejbloaa", sum := "9a0173009660f448a92d7c8b30b8b35b8fb9b06949ed406d84ddc2eeadd1db8c", func := "quorumite/quorumitelaw4.WireBounds", spec := "wireBounds", unfollowed := true, recurses := true, apart := false }
def WireBoundsSaid : Prop := wireBoundsRow.holds Try.pinned (OpenSpec.ofChange wireBoundsSpec)

/-- ITS FALSE NEIGHBOUR: 'it returns false'. Refute it at one input. -/
def wireBoundsWrong : ChangeSpec := { name := "wireBounds", fn := fun _ => fun
  | [d1, d2, d3] => { results := [.lit (.bool false)], args := [d1, d2, d3] }
  | _ => none }
def WireBoundsWrongFalsely : Prop := wireBoundsRow.holds Try.pinned (OpenSpec.ofChange wireBoundsWrong)

/-- 'quorumitelaw4.WireKinds': WHATEVER THE INPUT: true; the input reads as it did. -/
def wireKindsSpec : ChangeSpec := { name := "wireKinds", fn := fun _ => fun
  | [d1, d2] => { results := [.lit (.bool true)], args := [d1, d2] }
  | _ => none }
def wireKindsRow : OpenClaim := { program := "ytandenkoejbloaa", sum := "9a0173009660f448a92d7c8b30b8b35b8fb9b06949ed406d84ddc2eeadd1db8c", func := "quorumite/quorumitelaw4.WireKinds", spec := "wireKinds", unfollowed := true, recurses := true, apart := false }
def WireKindsSaid : Prop := wireKindsRow.holds Try.pinned (OpenSpec.ofChange wireKindsSpec)

/-- ITS FALSE NEIGHBOUR: 'it returns false'. Refute it at one input. -/
def wireKindsWrong : ChangeSpec := { name := "wireKinds", fn := fun _ => fun
  | [d1, d2] => { results := [.lit (.bool false)], args := [d1, d2] }
  | _ => none }
def WireKindsWrongFalsely : Prop := wireKindsRow.holds Try.pinned (OpenSpec.ofChange wireKindsWrong)

/-- 'quorumitelaw4.WireSeals': WHATEVER THE INPUT: true; the input reads as it did. -/
def wireSealsSpec : ChangeSpec := { name := "wireSeals", fn := fun _ => fun
  | [d1, d2] => { results := [.lit (.bool true)], args := [d1, d2] }
  | _ => none }
def wireSealsRow : OpenClaim := { program := "ytandenkoejbloaa", sum := "9a0173009660f448a92d7c8b30b8b35b8fb9b06949ed406d84ddc2eeadd1db8c", func := "quorumite/quorumitelaw4.WireSeals", spec := "wireSeals", unfollowed := true, recurses := true, apart := false }
def WireSealsSaid : Prop := wireSealsRow.holds Try.pinned (OpenSpec.ofChange wireSealsSpec)

/-- ITS FALSE NEIGHBOUR: 'it returns false'. Refute it at one input. -/
def wireSealsWrong : ChangeSpec := { name := "wireSeals", fn := fun _ => fun
  | [d1, d2] => { results := [.lit (.bool false)], args := [d1, d2] }
  | _ => none }
def WireSealsWrongFalsely : Prop := wireSealsRow.holds Try.pinned (OpenSpec.ofChange wireSealsWrong)

/-- 'quorumitelaw5.RingPlays': WHATEVER THE INPUT: true; the input reads as it did. -/
def ringPlaysSpec : ChangeSpec := { name := "ringPlays", fn := fun _ => fun
  | [d1, d2, d3, d4] => { results := [.lit (.bool true)], args := [d1, d2, d3, d4] }
  | _ => none }
def ringPlaysRow : OpenClaim := { program := "ytandenkoejbloaa", sum := "9a0173009660f448a92d7c8b30b8b35b8fb9b06949ed406d84ddc2eeadd1db8c", func := "quorumite/quorumitelaw5.RingPlays", spec := "ringPlays", inPlace := ["sync/atomic.AddInt64"], apart := false }
def RingPlaysSaid : Prop := ringPlaysRow.holds Try.pinned (OpenSpec.ofChange ringPlaysSpec)

/-- ITS FALSE NEIGHBOUR: 'it returns false'. Refute it at one input. -/
def ringPlaysWrong : ChangeSpec := { name := "ringPlays", fn := fun _ => fun
  | [d1, d2, d3, d4] => { results := [.lit (.bool false)], args := [d1, d2, d3, d4] }
  | _ => none }
def RingPlaysWrongFalsely : Prop := ringPlaysRow.holds Try.pinned (OpenSpec.ofChange ringPlaysWrong)

/-- 'quorumitelaw5.RingGrace': WHATEVER THE INPUT: true; the input reads as it did. -/
def ringGraceSpec : ChangeSpec := { name := "ringGrace", fn := fun _ => fun
  | [d1, d2, d3, d4, d5] => { results := [.lit (.bool true)], args := [d1, d2, d3, d4, d5] }
  | _ => none }
def ringGraceRow : OpenClaim := { program := "ytandenkoejbloaa", sum := "9a0173009660f448a92d7c8b30b8b35b8fb9b06949ed406d84ddc2eeadd1db8c", func := "quorumite/quorumitelaw5.RingGrace", spec := "ringGrace", inPlace := ["sync/atomic.AddInt64"], apart := false }
def RingGraceSaid : Prop := ringGraceRow.holds Try.pinned (OpenSpec.ofChange ringGraceSpec)

/-- ITS FALSE NEIGHBOUR: 'it returns false'. Refute it at one input. -/
def ringGraceWrong : ChangeSpec := { name := "ringGrace", fn := fun _ => fun
  | [d1, d2, d3, d4, d5] => { results := [.lit (.bool false)], args := [d1, d2, d3, d4, d5] }
  | _ => none }
def RingGraceWrongFalsely : Prop := ringGraceRow.holds Try.pinned (OpenSpec.ofChange ringGraceWrong)

/-- 'quorumitelaw5.RingOthers': WHATEVER THE INPUT: true; the input reads as it did. -/
def ringOthersSpec : ChangeSpec := { name := "ringOthers", fn := fun _ => fun
  | [d1, d2, d3, d4] => { results := [.lit (.bool true)], args := [d1, d2, d3, d4] }
  | _ => none }
def ringOthersRow : OpenClaim := { program := "ytandenkoejbloaa", sum := "9a0173009660f448a92d7c8b30b8b35b8fb9b06949ed406d84ddc2eeadd1db8c", func := "quorumite/quorumitelaw5.RingOthers", spec := "ringOthers", inPlace := ["sync/atomic.AddInt64"], apart := false }
def RingOthersSaid : Prop := ringOthersRow.holds Try.pinned (OpenSpec.ofChange ringOthersSpec)

/-- ITS FALSE NEIGHBOUR: 'it returns false'. Refute it at one input. -/
def ringOthersWrong : ChangeSpec := { name := "ringOthers", fn := fun _ => fun
  | [d1, d2, d3, d4] => { results := [.lit (.bool false)], args := [d1, d2, d3, d4] }
  | _ => none }
def RingOthersWrongFalsely : Prop := ringOthersRow.holds Try.pinned (OpenSpec.ofChange ringOthersWrong)

/-- 'quorumitelaw7.SealPlays': WHATEVER THE INPUT: true; the input reads as it did. -/
def sealPlaysSpec : ChangeSpec := { name := "sealPlays", fn := fun _ => fun
  | [d1, d2, d3] => { results := [.lit (.bool true)], args := [d1, d2, d3] }
  | _ => none }
def sealPlaysRow : OpenClaim := { program := "ytandenkoejbloaa", sum := "9a0173009660f448a92d7c8b30b8b35b8fb9b06949ed406d84ddc2eeadd1db8c", func := "quorumite/quorumitelaw7.SealPlays", spec := "sealPlays", inPlace := ["sync/atomic.LoadInt64", "sync/atomic.AddInt64", "sync/atomic.StoreInt64"], unfollowed := true, recurses := true, apart := false }
def SealPlaysSaid : Prop := sealPlaysRow.holds Try.pinned (OpenSpec.ofChange sealPlaysSpec)

/-- ITS FALSE NEIGHBOUR: 'it returns false'. Refute it at one input. -/
def sealPlaysWrong : ChangeSpec := { name := "sealPlays", fn := fun _ => fun
  | [d1, d2, d3] => { results := [.lit (.bool false)], args := [d1, d2, d3] }
  | _ => none }
def SealPlaysWrongFalsely : Prop := sealPlaysRow.holds Try.pinned (OpenSpec.ofChange sealPlaysWrong)

/-- 'quorumitelaw7.SealNumbers': WHATEVER THE INPUT: true; the input reads as it did. -/
def sealNumbersSpec : ChangeSpec := { name := "sealNumbers", fn := fun _ => fun
  | [d1, d2, d3] => { results := [.lit (.bool true)], args := [d1, d2, d3] }
  | _ => none }
def sealNumbersRow : OpenClaim := { program := "ytandenkoejbloaa", sum := "9a0173009660f448a92d7c8b30b8b35b8fb9b06949ed406d84ddc2eeadd1db8c", func := "quorumite/quorumitelaw7.SealNumbers", spec := "sealNumbers", inPlace := ["sync/atomic.LoadInt64", "sync/atomic.AddInt64", "sync/atomic.StoreInt64"], unfollowed := true, recurses := true, apart := false }
def SealNumbersSaid : Prop := sealNumbersRow.holds Try.pinned (OpenSpec.ofChange sealNumbersSpec)

/-- ITS FALSE NEIGHBOUR: 'it returns false'. Refute it at one input. -/
def sealNumbersWrong : ChangeSpec := { name := "sealNumbers", fn := fun _ => fun
  | [d1, d2, d3] => { results := [.lit (.bool false)], args := [d1, d2, d3] }
  | _ => none }
def SealNumbersWrongFalsely : Prop := sealNumbersRow.holds Try.pinned (OpenSpec.ofChange sealNumbersWrong)

/-- 'quorumitelaw7.SealApart': WHATEVER THE INPUT: true; the input reads as it did. -/
def sealApartSpec : ChangeSpec := { name := "sealApart", fn := fun _ => fun
  | [d1, d2, d3, d4, d5] => { results := [.lit (.bool true)], args := [d1, d2, d3, d4, d5] }
  | _ => none }
def sealApartRow : OpenClaim := { program := "ytandenkoejbloaa", sum := "9a0173009660f448a92d7c8b30b8b35b8fb9b06949ed406d84ddc2eeadd1db8c", func := "quorumite/quorumitelaw7.SealApart", spec := "sealApart", inPlace := ["sync/atomic.LoadInt64", "sync/atomic.AddInt64", "sync/atomic.StoreInt64"], unfollowed := true, recurses := true, apart := false }
def SealApartSaid : Prop := sealApartRow.holds Try.pinned (OpenSpec.ofChange sealApartSpec)

/-- ITS FALSE NEIGHBOUR: 'it returns false'. Refute it at one input. -/
def sealApartWrong : ChangeSpec := { name := "sealApart", fn := fun _ => fun
  | [d1, d2, d3, d4, d5] => { results := [.lit (.bool false)], args := [d1, d2, d3, d4, d5] }
  | _ => none }
def SealApartWrongFalsely : Prop := sealApartRow.holds Try.pinned (OpenSpec.ofChange sealApartWrong)

/-- 'quorumitelaw7.SealBeats': WHATEVER THE INPUT: true; the input reads as it did. -/
def sealBeatsSpec : ChangeSpec := { name := "sealBeats", fn := fun _ => fun
  | [d1, d2] => { results := [.lit (.bool true)], args := [d1, d2] }
  | _ => none }
def sealBeatsRow : OpenClaim := { program := "ytandenkoejbloaa", sum := "9a0173009660f448a92d7c8b30b8b35b8fb9b06949ed406d84ddc2eeadd1db8c", func := "quorumite/quorumitelaw7.SealBeats", spec := "sealBeats", inPlace := ["sync/atomic.LoadInt64", "sync/atomic.AddInt64", "sync/atomic.StoreInt64"], unfollowed := true, recurses := true, apart := false }
def SealBeatsSaid : Prop := sealBeatsRow.holds Try.pinned (OpenSpec.ofChange sealBeatsSpec)

/-- ITS FALSE NEIGHBOUR: 'it returns false'. Refute it at one input. -/
def sealBeatsWrong : ChangeSpec := { name := "sealBeats", fn := fun _ => fun
  | [d1, d2] => { results := [.lit (.bool false)], args := [d1, d2] }
  | _ => none }
def SealBeatsWrongFalsely : Prop := sealBeatsRow.holds Try.pinned (OpenSpec.ofChange sealBeatsWrong)

/- THE SECOND FORM. 'bulk': how many values and letters a reading holds, each counted each time it is reached (what is shared counts as often as it is met; a slice's spare places count too). A statement '..UptoSaid' is the law's where the arguments, and the package variables that the reading takes, are together of bulk at most 1048576: NARROWER than '..Said'. Prove '..Said' where nothing that the law and all that it calls make is longer than what came in: it says more and counts as full. Else prove '..UptoSaid'. A law counts once. -/
mutual
def uptoBulk {H : Type} : DataW H → Nat
  | .lit (.string bytes) => bytes.length + 1
  | .lit _ => 1
  | .nil => 1
  | .ptr d => uptoBulk d + 1
  | .slice elems spare => uptoBulkAll elems + uptoBulkAll spare + 1
  | .agg parts => uptoBulkAll parts + 1
  | .iface _ d => uptoBulk d + 1
  | .map entries => uptoBulkEntries entries + 1
  | .held _ => 1
def uptoBulkAll {H : Type} : List (DataW H) → Nat
  | [] => 0
  | d :: r => uptoBulk d + uptoBulkAll r
def uptoBulkEntries {H : Type} : List (Lit × DataW H) → Nat
  | [] => 0
  | x :: r => uptoBulkEntry x + uptoBulkEntries r
def uptoBulkEntry {H : Type} : Lit × DataW H → Nat
  | (.string bytes, d) => bytes.length + uptoBulk d + 1
  | (_, d) => uptoBulk d + 1
 end
def uptoSmall : (H : Type) → List (DataW H) → Bool := fun _ ds => decide (uptoBulkAll ds ≤ 1048576)
def OpenSpec.upto (s : _root_.Go.ChangeSpec) : _root_.Go.OpenSpec := { _root_.Go.OpenSpec.ofChange s with cond := some uptoSmall }

/-- 'quorumitelaw1.SipAsks', WHERE WHAT IT READS IS OF BULK AT MOST 1048576: true; the input reads as it did. -/
def sipAsksUptoRow : OpenClaim := { program := "ytandenkoejbloaa", sum := "9a0173009660f448a92d7c8b30b8b35b8fb9b06949ed406d84ddc2eeadd1db8c", func := "quorumite/quorumitelaw1.SipAsks", spec := "sipAsks", apart := false, narrowed := true }
def SipAsksUptoSaid : Prop := sipAsksUptoRow.holds Try.pinned (OpenSpec.upto sipAsksSpec)

/-- 'quorumitelaw1.SipParts', WHERE WHAT IT READS IS OF BULK AT MOST 1048576: true; the input reads as it did. -/
def sipPartsUptoRow : OpenClaim := { program := "ytandenkoejbloaa", sum := "9a0173009660f448a92d7c8b30b8b35b8fb9b06949ed406d84ddc2eeadd1db8c", func := "quorumite/quorumitelaw1.SipParts", spec := "sipParts", apart := false, narrowed := true }
def SipPartsUptoSaid : Prop := sipPartsUptoRow.holds Try.pinned (OpenSpec.upto sipPartsSpec)

/-- 'quorumitelaw1.SipNumbers', WHERE WHAT IT READS IS OF BULK AT MOST 1048576: true; the input reads as it did. -/
def sipNumbersUptoRow : OpenClaim := { program := "ytandenkoejbloaa", sum := "9a0173009660f448a92d7c8b30b8b35b8fb9b06949ed406d84ddc2eeadd1db8c", func := "quorumite/quorumitelaw1.SipNumbers", spec := "sipNumbers", apart := false, narrowed := true }
def SipNumbersUptoSaid : Prop := sipNumbersUptoRow.holds Try.pinned (OpenSpec.upto sipNumbersSpec)

/-- 'quorumitelaw1.SipRounds', WHERE WHAT IT READS IS OF BULK AT MOST 1048576: true; the input reads as it did. -/
def sipRoundsUptoRow : OpenClaim := { program := "ytandenkoejbloaa", sum := "9a0173009660f448a92d7c8b30b8b35b8fb9b06949ed406d84ddc2eeadd1db8c", func := "quorumite/quorumitelaw1.SipRounds", spec := "sipRounds", apart := false, narrowed := true }
def SipRoundsUptoSaid : Prop := sipRoundsUptoRow.holds Try.pinned (OpenSpec.upto sipRoundsSpec)

/-- 'quorumitelaw1.SipBlocks', WHERE WHAT IT READS IS OF BULK AT MOST 1048576: true; the input reads as it did. -/
def sipBlocksUptoRow : OpenClaim := { program := "ytandenkoejbloaa", sum := "9a0173009660f448a92d7c8b30b8b35b8fb9b06949ed406d84ddc2eeadd1db8c", func := "quorumite/quorumitelaw1.SipBlocks", spec := "sipBlocks", apart := false, narrowed := true }
def SipBlocksUptoSaid : Prop := sipBlocksUptoRow.holds Try.pinned (OpenSpec.upto sipBlocksSpec)

/-- 'quorumitelaw1.SipTwo', WHERE WHAT IT READS IS OF BULK AT MOST 1048576: true; the input reads as it did. -/
def sipTwoUptoRow : OpenClaim := { program := "ytandenkoejbloaa", sum := "9a0173009660f448a92d7c8b30b8b35b8fb9b06949ed406d84ddc2eeadd1db8c", func := "quorumite/quorumitelaw1.SipTwo", spec := "sipTwo", apart := false, narrowed := true }
def SipTwoUptoSaid : Prop := sipTwoUptoRow.holds Try.pinned (OpenSpec.upto sipTwoSpec)

/-- 'quorumitelaw2.MacBytes', WHERE WHAT IT READS IS OF BULK AT MOST 1048576: true; the input reads as it did. -/
def macBytesUptoRow : OpenClaim := { program := "ytandenkoejbloaa", sum := "9a0173009660f448a92d7c8b30b8b35b8fb9b06949ed406d84ddc2eeadd1db8c", func := "quorumite/quorumitelaw2.MacBytes", spec := "macBytes", apart := false, narrowed := true }
def MacBytesUptoSaid : Prop := macBytesUptoRow.holds Try.pinned (OpenSpec.upto macBytesSpec)

/-- 'quorumitelaw2.MacAsks', WHERE WHAT IT READS IS OF BULK AT MOST 1048576: true; the input reads as it did. -/
def macAsksUptoRow : OpenClaim := { program := "ytandenkoejbloaa", sum := "9a0173009660f448a92d7c8b30b8b35b8fb9b06949ed406d84ddc2eeadd1db8c", func := "quorumite/quorumitelaw2.MacAsks", spec := "macAsks", apart := false, narrowed := true }
def MacAsksUptoSaid : Prop := macAsksUptoRow.holds Try.pinned (OpenSpec.upto macAsksSpec)

/-- 'quorumitelaw2.MacSame', WHERE WHAT IT READS IS OF BULK AT MOST 1048576: true; the input reads as it did. -/
def macSameUptoRow : OpenClaim := { program := "ytandenkoejbloaa", sum := "9a0173009660f448a92d7c8b30b8b35b8fb9b06949ed406d84ddc2eeadd1db8c", func := "quorumite/quorumitelaw2.MacSame", spec := "macSame", apart := false, narrowed := true }
def MacSameUptoSaid : Prop := macSameUptoRow.holds Try.pinned (OpenSpec.upto macSameSpec)

/-- 'quorumitelaw2.MacLabels', WHERE WHAT IT READS IS OF BULK AT MOST 1048576: true; the input reads as it did. -/
def macLabelsUptoRow : OpenClaim := { program := "ytandenkoejbloaa", sum := "9a0173009660f448a92d7c8b30b8b35b8fb9b06949ed406d84ddc2eeadd1db8c", func := "quorumite/quorumitelaw2.MacLabels", spec := "macLabels", apart := false, narrowed := true }
def MacLabelsUptoSaid : Prop := macLabelsUptoRow.holds Try.pinned (OpenSpec.upto macLabelsSpec)

/-- 'quorumitelaw2.MacWords', WHERE WHAT IT READS IS OF BULK AT MOST 1048576: true; the input reads as it did. -/
def macWordsUptoRow : OpenClaim := { program := "ytandenkoejbloaa", sum := "9a0173009660f448a92d7c8b30b8b35b8fb9b06949ed406d84ddc2eeadd1db8c", func := "quorumite/quorumitelaw2.MacWords", spec := "macWords", apart := false, narrowed := true }
def MacWordsUptoSaid : Prop := macWordsUptoRow.holds Try.pinned (OpenSpec.upto macWordsSpec)

/-- 'quorumitelaw2.MacKeys', WHERE WHAT IT READS IS OF BULK AT MOST 1048576: true; the input reads as it did. -/
def macKeysUptoRow : OpenClaim := { program := "ytandenkoejbloaa", sum := "9a0173009660f448a92d7c8b30b8b35b8fb9b06949ed406d84ddc2eeadd1db8c", func := "quorumite/quorumitelaw2.MacKeys", spec := "macKeys", apart := false, narrowed := true }
def MacKeysUptoSaid : Prop := macKeysUptoRow.holds Try.pinned (OpenSpec.upto macKeysSpec)

/-- 'quorumitelaw4.WireAsks', WHERE WHAT IT READS IS OF BULK AT MOST 1048576: true; the input reads as it did. -/
def wireAsksUptoRow : OpenClaim := { program := "ytandenkoejbloaa", sum := "9a0173009660f448a92d7c8b30b8b35b8fb9b06949ed406d84ddc2eeadd1db8c", func := "quorumite/quorumitelaw4.WireAsks", spec := "wireAsks", unfollowed := true, recurses := true, apart := false, narrowed := true }
def WireAsksUptoSaid : Prop := wireAsksUptoRow.holds Try.pinned (OpenSpec.upto wireAsksSpec)

/-- 'quorumitelaw4.WireBack', WHERE WHAT IT READS IS OF BULK AT MOST 1048576: true; the input reads as it did. -/
def wireBackUptoRow : OpenClaim := { program := "ytandenkoejbloaa", sum := "9a0173009660f448a92d7c8b30b8b35b8fb9b06949ed406d84ddc2eeadd1db8c", func := "quorumite/quorumitelaw4.WireBack", spec := "wireBack", unfollowed := true, recurses := true, apart := false, narrowed := true }
def WireBackUptoSaid : Prop := wireBackUptoRow.holds Try.pinned (OpenSpec.upto wireBackSpec)

/-- 'quorumitelaw4.WireBounds', WHERE WHAT IT READS IS OF BULK AT MOST 1048576: true; the input reads as it did. -/
def wireBoundsUptoRow : OpenClaim := { program := "ytandenkoejbloaa", sum := "9a0173009660f448a92d7c8b30b8b35b8fb9b06949ed406d84ddc2eeadd1db8c", func := "quorumite/quorumitelaw4.WireBounds", spec := "wireBounds", unfollowed := true, recurses := true, apart := false, narrowed := true }
def WireBoundsUptoSaid : Prop := wireBoundsUptoRow.holds Try.pinned (OpenSpec.upto wireBoundsSpec)

/-- 'quorumitelaw4.WireKinds', WHERE WHAT IT READS IS OF BULK AT MOST 1048576: true; the input reads as it did. -/
def wireKindsUptoRow : OpenClaim := { program := "ytandenkoejbloaa", sum := "9a0173009660f448a92d7c8b30b8b35b8fb9b06949ed406d84ddc2eeadd1db8c", func := "quorumite/quorumitelaw4.WireKinds", spec := "wireKinds", unfollowed := true, recurses := true, apart := false, narrowed := true }
def WireKindsUptoSaid : Prop := wireKindsUptoRow.holds Try.pinned (OpenSpec.upto wireKindsSpec)

/-- 'quorumitelaw4.WireSeals', WHERE WHAT IT READS IS OF BULK AT MOST 1048576: true; the input reads as it did. -/
def wireSealsUptoRow : OpenClaim := { program := "ytandenkoejbloaa", sum := "9a0173009660f448a92d7c8b30b8b35b8fb9b06949ed406d84ddc2eeadd1db8c", func := "quorumite/quorumitelaw4.WireSeals", spec := "wireSeals", unfollowed := true, recurses := true, apart := false, narrowed := true }
def WireSealsUptoSaid : Prop := wireSealsUptoRow.holds Try.pinned (OpenSpec.upto wireSealsSpec)

/-- 'quorumitelaw5.RingPlays', WHERE WHAT IT READS IS OF BULK AT MOST 1048576: true; the input reads as it did. -/
def ringPlaysUptoRow : OpenClaim := { program := "ytandenkoejbloaa", sum := "9a0173009660f448a92d7c8b30b8b35b8fb9b06949ed406d84ddc2eeadd1db8c", func := "quorumite/quorumitelaw5.RingPlays", spec := "ringPlays", inPlace := ["sync/atomic.AddInt64"], apart := false, narrowed := true }
def RingPlaysUptoSaid : Prop := ringPlaysUptoRow.holds Try.pinned (OpenSpec.upto ringPlaysSpec)

/-- 'quorumitelaw5.RingGrace', WHERE WHAT IT READS IS OF BULK AT MOST 1048576: true; the input reads as it did. -/
def ringGraceUptoRow : OpenClaim := { program := "ytandenkoejbloaa", sum := "9a0173009660f448a92d7c8b30b8b35b8fb9b06949ed406d84ddc2eeadd1db8c", func := "quorumite/quorumitelaw5.RingGrace", spec := "ringGrace", inPlace := ["sync/atomic.AddInt64"], apart := false, narrowed := true }
def RingGraceUptoSaid : Prop := ringGraceUptoRow.holds Try.pinned (OpenSpec.upto ringGraceSpec)

/-- 'quorumitelaw5.RingOthers', WHERE WHAT IT READS IS OF BULK AT MOST 1048576: true; the input reads as it did. -/
def ringOthersUptoRow : OpenClaim := { program := "ytandenkoejbloaa", sum := "9a0173009660f448a92d7c8b30b8b35b8fb9b06949ed406d84ddc2eeadd1db8c", func := "quorumite/quorumitelaw5.RingOthers", spec := "ringOthers", inPlace := ["sync/atomic.AddInt64"], apart := false, narrowed := true }
def RingOthersUptoSaid : Prop := ringOthersUptoRow.holds Try.pinned (OpenSpec.upto ringOthersSpec)

/-- 'quorumitelaw7.SealPlays', WHERE WHAT IT READS IS OF BULK AT MOST 1048576: true; the input reads as it did. -/
def sealPlaysUptoRow : OpenClaim := { program := "ytandenkoejbloaa", sum := "9a0173009660f448a92d7c8b30b8b35b8fb9b06949ed406d84ddc2eeadd1db8c", func := "quorumite/quorumitelaw7.SealPlays", spec := "sealPlays", inPlace := ["sync/atomic.LoadInt64", "sync/atomic.AddInt64", "sync/atomic.StoreInt64"], unfollowed := true, recurses := true, apart := false, narrowed := true }
def SealPlaysUptoSaid : Prop := sealPlaysUptoRow.holds Try.pinned (OpenSpec.upto sealPlaysSpec)

/-- 'quorumitelaw7.SealNumbers', WHERE WHAT IT READS IS OF BULK AT MOST 1048576: true; the input reads as it did. -/
def sealNumbersUptoRow : OpenClaim := { program := "ytandenkoejbloaa", sum := "9a0173009660f448a92d7c8b30b8b35b8fb9b06949ed406d84ddc2eeadd1db8c", func := "quorumite/quorumitelaw7.SealNumbers", spec := "sealNumbers", inPlace := ["sync/atomic.LoadInt64", "sync/atomic.AddInt64", "sync/atomic.StoreInt64"], unfollowed := true, recurses := true, apart := false, narrowed := true }
def SealNumbersUptoSaid : Prop := sealNumbersUptoRow.holds Try.pinned (OpenSpec.upto sealNumbersSpec)

/-- 'quorumitelaw7.SealApart', WHERE WHAT IT READS IS OF BULK AT MOST 1048576: true; the input reads as it did. -/
def sealApartUptoRow : OpenClaim := { program := "ytandenkoejbloaa", sum := "9a0173009660f448a92d7c8b30b8b35b8fb9b06949ed406d84ddc2eeadd1db8c", func := "quorumite/quorumitelaw7.SealApart", spec := "sealApart", inPlace := ["sync/atomic.LoadInt64", "sync/atomic.AddInt64", "sync/atomic.StoreInt64"], unfollowed := true, recurses := true, apart := false, narrowed := true }
def SealApartUptoSaid : Prop := sealApartUptoRow.holds Try.pinned (OpenSpec.upto sealApartSpec)

/-- 'quorumitelaw7.SealBeats', WHERE WHAT IT READS IS OF BULK AT MOST 1048576: true; the input reads as it did. -/
def sealBeatsUptoRow : OpenClaim := { program := "ytandenkoejbloaa", sum := "9a0173009660f448a92d7c8b30b8b35b8fb9b06949ed406d84ddc2eeadd1db8c", func := "quorumite/quorumitelaw7.SealBeats", spec := "sealBeats", inPlace := ["sync/atomic.LoadInt64", "sync/atomic.AddInt64", "sync/atomic.StoreInt64"], unfollowed := true, recurses := true, apart := false, narrowed := true }
def SealBeatsUptoSaid : Prop := sealBeatsUptoRow.holds Try.pinned (OpenSpec.upto sealBeatsSpec)

end Rows
end Go.Proofs.Ytandenkoejbloaa
