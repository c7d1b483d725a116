/-
  No cell of these rows narrows 'for every input' (looked for: loops, veiled, ifaces, maps, wideKeys, modest, calm, conditions, laid).
  DERIVED. THE GIVEN ROWS OF THIS SEAT. 16 by the template 'for every input the law returns true; each argument reads behind the call as it read before'; 0 by the template 'total and deterministic' (their statements: YtibaapaglocpjaaGreatTotals.lean).
  GIVEN WITH THE SEED: the statements are not yours to turn. If you find one false, say at which input.
  Laid BY PROGRAM, IN A SANDBOX (cutbox-rows.mjs): the forced cells as the released guide's own fill.sh prints them over the translation 22ea991ac6c4a16d… (all of the seat's roots in one cut). By AI agents, Wed Nov 11 2026. No macro, syntax, notation, axiom, sorry.
-/
import Derived.Test.YtibaapaglocpjaaGreatChecked
import GoSem.Claim
import GoSem.ClaimJoined
import GoSem.ClaimMapViews
import Derived.JoinedTies
import Derived.KernelRfl
namespace Go.Proofs.YtibaapaglocpjaaGreat
/- THE CELL 'sum', in the pinned program and in every row, IS THE sha256 OF THE DUMP (.gsa) THAT YtibaapaglocpjaaGreatProg.lean LOADS. Nothing in Lean hashes anything: it is a label: what it is worth is what the hold of that sum in a sandbox is worth. -/
noncomputable def Tryz.pinned : Pinned := { name := "ytibaapaglocpjaagreat", sum := "22ea991ac6c4a16d0234c9742588363652fa2c8b1ea64c59f21bf3cc3a3dd5f1", checked := Tryz.checked }
namespace Rows
def none {H : Type} : Left H := { results := [], args := [] }

/-- 'besomlaw03.IceWeights': WHATEVER THE INPUT: true; the input reads as it did. -/
def iceWeightsSpec : ChangeSpec := { name := "iceWeights", fn := fun _ => fun
  | [d1, d2, d3, d4] => { results := [.lit (.bool true)], args := [d1, d2, d3, d4] }
  | _ => none }
def iceWeightsRow : OpenClaim := { program := "ytibaapaglocpjaagreat", sum := "22ea991ac6c4a16d0234c9742588363652fa2c8b1ea64c59f21bf3cc3a3dd5f1", func := "besom/besomlaw03.IceWeights", spec := "iceWeights", inPlace := ["math/bits.Add64"], unfollowed := true, recurses := true, named := ["math/bits.divideError", "math/bits.overflowError"], plainKeys := false, apart := false }
def IceWeightsSaid : Prop := iceWeightsRow.holds Tryz.pinned (OpenSpec.ofChange iceWeightsSpec)

/-- ITS FALSE NEIGHBOUR: 'it returns false'. Refute it at one input. -/
def iceWeightsWrong : ChangeSpec := { name := "iceWeights", fn := fun _ => fun
  | [d1, d2, d3, d4] => { results := [.lit (.bool false)], args := [d1, d2, d3, d4] }
  | _ => none }
def IceWeightsWrongFalsely : Prop := iceWeightsRow.holds Tryz.pinned (OpenSpec.ofChange iceWeightsWrong)

/-- 'besomlaw03.IceChecks': WHATEVER THE INPUT: true; the input reads as it did. -/
def iceChecksSpec : ChangeSpec := { name := "iceChecks", fn := fun _ => fun
  | [d1, d2, d3] => { results := [.lit (.bool true)], args := [d1, d2, d3] }
  | _ => none }
def iceChecksRow : OpenClaim := { program := "ytibaapaglocpjaagreat", sum := "22ea991ac6c4a16d0234c9742588363652fa2c8b1ea64c59f21bf3cc3a3dd5f1", func := "besom/besomlaw03.IceChecks", spec := "iceChecks", inPlace := ["math/bits.Add64"], unfollowed := true, recurses := true, named := ["math/bits.divideError", "math/bits.overflowError"], plainKeys := false, apart := false }
def IceChecksSaid : Prop := iceChecksRow.holds Tryz.pinned (OpenSpec.ofChange iceChecksSpec)

/-- ITS FALSE NEIGHBOUR: 'it returns false'. Refute it at one input. -/
def iceChecksWrong : ChangeSpec := { name := "iceChecks", fn := fun _ => fun
  | [d1, d2, d3] => { results := [.lit (.bool false)], args := [d1, d2, d3] }
  | _ => none }
def IceChecksWrongFalsely : Prop := iceChecksRow.holds Tryz.pinned (OpenSpec.ofChange iceChecksWrong)

/-- 'besomtop.TopWeight': WHATEVER THE INPUT: true; the input reads as it did. -/
def topWeightSpec : ChangeSpec := { name := "topWeight", fn := fun _ => fun
  | [d1, d2, d3, d4, d5] => { results := [.lit (.bool true)], args := [d1, d2, d3, d4, d5] }
  | _ => none }
def topWeightRow : OpenClaim := { program := "ytibaapaglocpjaagreat", sum := "22ea991ac6c4a16d0234c9742588363652fa2c8b1ea64c59f21bf3cc3a3dd5f1", func := "besom/besomtop.TopWeight", spec := "topWeight", inPlace := ["math/bits.Add64"], unfollowed := true, recurses := true, named := ["math/bits.divideError", "math/bits.overflowError"], plainKeys := false, apart := false }
def TopWeightSaid : Prop := topWeightRow.holds Tryz.pinned (OpenSpec.ofChange topWeightSpec)

/-- ITS FALSE NEIGHBOUR: 'it returns false'. Refute it at one input. -/
def topWeightWrong : ChangeSpec := { name := "topWeight", fn := fun _ => fun
  | [d1, d2, d3, d4, d5] => { results := [.lit (.bool false)], args := [d1, d2, d3, d4, d5] }
  | _ => none }
def TopWeightWrongFalsely : Prop := topWeightRow.holds Tryz.pinned (OpenSpec.ofChange topWeightWrong)

/-- 'besomlaw03.IceWays': WHATEVER THE INPUT: true; the input reads as it did. -/
def iceWaysSpec : ChangeSpec := { name := "iceWays", fn := fun _ => fun
  | [d1, d2, d3, d4, d5] => { results := [.lit (.bool true)], args := [d1, d2, d3, d4, d5] }
  | _ => none }
def iceWaysRow : OpenClaim := { program := "ytibaapaglocpjaagreat", sum := "22ea991ac6c4a16d0234c9742588363652fa2c8b1ea64c59f21bf3cc3a3dd5f1", func := "besom/besomlaw03.IceWays", spec := "iceWays", inPlace := ["math/bits.Add64"], unfollowed := true, recurses := true, named := ["math/bits.divideError", "math/bits.overflowError"], plainKeys := false, apart := false }
def IceWaysSaid : Prop := iceWaysRow.holds Tryz.pinned (OpenSpec.ofChange iceWaysSpec)

/-- ITS FALSE NEIGHBOUR: 'it returns false'. Refute it at one input. -/
def iceWaysWrong : ChangeSpec := { name := "iceWays", fn := fun _ => fun
  | [d1, d2, d3, d4, d5] => { results := [.lit (.bool false)], args := [d1, d2, d3, d4, d5] }
  | _ => none }
def IceWaysWrongFalsely : Prop := iceWaysRow.holds Tryz.pinned (OpenSpec.ofChange iceWaysWrong)

/-- 'besomtop.TopStanding': WHATEVER THE INPUT: true; the input reads as it did. -/
def topStandingSpec : ChangeSpec := { name := "topStanding", fn := fun _ => fun
  | [d1, d2, d3, d4] => { results := [.lit (.bool true)], args := [d1, d2, d3, d4] }
  | _ => none }
def topStandingRow : OpenClaim := { program := "ytibaapaglocpjaagreat", sum := "22ea991ac6c4a16d0234c9742588363652fa2c8b1ea64c59f21bf3cc3a3dd5f1", func := "besom/besomtop.TopStanding", spec := "topStanding", inPlace := ["math/bits.Add64"], unfollowed := true, recurses := true, named := ["math/bits.divideError", "math/bits.overflowError"], plainKeys := false, apart := false }
def TopStandingSaid : Prop := topStandingRow.holds Tryz.pinned (OpenSpec.ofChange topStandingSpec)

/-- ITS FALSE NEIGHBOUR: 'it returns false'. Refute it at one input. -/
def topStandingWrong : ChangeSpec := { name := "topStanding", fn := fun _ => fun
  | [d1, d2, d3, d4] => { results := [.lit (.bool false)], args := [d1, d2, d3, d4] }
  | _ => none }
def TopStandingWrongFalsely : Prop := topStandingRow.holds Tryz.pinned (OpenSpec.ofChange topStandingWrong)

/-- 'besomlaw04.GlideMirrors': WHATEVER THE INPUT: true; the input reads as it did. -/
def glideMirrorsSpec : ChangeSpec := { name := "glideMirrors", fn := fun _ => fun
  | [d1, d2, d3, d4, d5, d6] => { results := [.lit (.bool true)], args := [d1, d2, d3, d4, d5, d6] }
  | _ => none }
def glideMirrorsRow : OpenClaim := { program := "ytibaapaglocpjaagreat", sum := "22ea991ac6c4a16d0234c9742588363652fa2c8b1ea64c59f21bf3cc3a3dd5f1", func := "besom/besomlaw04.GlideMirrors", spec := "glideMirrors", inPlace := ["math/bits.Add64"], unfollowed := true, recurses := true, named := ["math/bits.divideError", "math/bits.overflowError"], plainKeys := false, apart := false }
def GlideMirrorsSaid : Prop := glideMirrorsRow.holds Tryz.pinned (OpenSpec.ofChange glideMirrorsSpec)

/-- ITS FALSE NEIGHBOUR: 'it returns false'. Refute it at one input. -/
def glideMirrorsWrong : ChangeSpec := { name := "glideMirrors", fn := fun _ => fun
  | [d1, d2, d3, d4, d5, d6] => { results := [.lit (.bool false)], args := [d1, d2, d3, d4, d5, d6] }
  | _ => none }
def GlideMirrorsWrongFalsely : Prop := glideMirrorsRow.holds Tryz.pinned (OpenSpec.ofChange glideMirrorsWrong)

/-- 'besomtop.TopElsewhere': WHATEVER THE INPUT: true; the input reads as it did. -/
def topElsewhereSpec : ChangeSpec := { name := "topElsewhere", fn := fun _ => fun
  | [d1, d2, d3, d4, d5, d6] => { results := [.lit (.bool true)], args := [d1, d2, d3, d4, d5, d6] }
  | _ => none }
def topElsewhereRow : OpenClaim := { program := "ytibaapaglocpjaagreat", sum := "22ea991ac6c4a16d0234c9742588363652fa2c8b1ea64c59f21bf3cc3a3dd5f1", func := "besom/besomtop.TopElsewhere", spec := "topElsewhere", inPlace := ["math/bits.Add64"], unfollowed := true, recurses := true, named := ["math/bits.divideError", "math/bits.overflowError"], plainKeys := false, apart := false }
def TopElsewhereSaid : Prop := topElsewhereRow.holds Tryz.pinned (OpenSpec.ofChange topElsewhereSpec)

/-- ITS FALSE NEIGHBOUR: 'it returns false'. Refute it at one input. -/
def topElsewhereWrong : ChangeSpec := { name := "topElsewhere", fn := fun _ => fun
  | [d1, d2, d3, d4, d5, d6] => { results := [.lit (.bool false)], args := [d1, d2, d3, d4, d5, d6] }
  | _ => none }
def TopElsewhereWrongFalsely : Prop := topElsewhereRow.holds Tryz.pinned (OpenSpec.ofChange topElsewhereWrong)

/-- 'besomlaw04.GlideParted': WHATEVER THE INPUT: true; the input reads as it did. -/
def glidePartedSpec : ChangeSpec := { name := "glideParted", fn := fun _ => fun
  | [d1, d2, d3, d4, d5] => { results := [.lit (.bool true)], args := [d1, d2, d3, d4, d5] }
  | _ => none }
def glidePartedRow : OpenClaim := { program := "ytibaapaglocpjaagreat", sum := "22ea991ac6c4a16d0234c9742588363652fa2c8b1ea64c59f21bf3cc3a3dd5f1", func := "besom/besomlaw04.GlideParted", spec := "glideParted", inPlace := ["math/bits.Add64"], unfollowed := true, recurses := true, named := ["math/bits.divideError", "math/bits.overflowError"], plainKeys := false, apart := false }
def GlidePartedSaid : Prop := glidePartedRow.holds Tryz.pinned (OpenSpec.ofChange glidePartedSpec)

/-- ITS FALSE NEIGHBOUR: 'it returns false'. Refute it at one input. -/
def glidePartedWrong : ChangeSpec := { name := "glideParted", fn := fun _ => fun
  | [d1, d2, d3, d4, d5] => { results := [.lit (.bool false)], args := [d1, d2, d3, d4, d5] }
  | _ => none }
def GlidePartedWrongFalsely : Prop := glidePartedRow.holds Tryz.pinned (OpenSpec.ofChange glidePartedWrong)

/-- 'besomlaw04.GlideStraight': WHATEVER THE INPUT: true; the input reads as it did. -/
def glideStraightSpec : ChangeSpec := { name := "glideStraight", fn := fun _ => fun
  | [d1, d2, d3, d4] => { results := [.lit (.bool true)], args := [d1, d2, d3, d4] }
  | _ => none }
def glideStraightRow : OpenClaim := { program := "ytibaapaglocpjaagreat", sum := "22ea991ac6c4a16d0234c9742588363652fa2c8b1ea64c59f21bf3cc3a3dd5f1", func := "besom/besomlaw04.GlideStraight", spec := "glideStraight", inPlace := ["math/bits.Add64"], unfollowed := true, recurses := true, named := ["math/bits.divideError", "math/bits.overflowError"], plainKeys := false, apart := false }
def GlideStraightSaid : Prop := glideStraightRow.holds Tryz.pinned (OpenSpec.ofChange glideStraightSpec)

/-- ITS FALSE NEIGHBOUR: 'it returns false'. Refute it at one input. -/
def glideStraightWrong : ChangeSpec := { name := "glideStraight", fn := fun _ => fun
  | [d1, d2, d3, d4] => { results := [.lit (.bool false)], args := [d1, d2, d3, d4] }
  | _ => none }
def GlideStraightWrongFalsely : Prop := glideStraightRow.holds Tryz.pinned (OpenSpec.ofChange glideStraightWrong)

/-- 'besomlaw04.GlideFarther': WHATEVER THE INPUT: true; the input reads as it did. -/
def glideFartherSpec : ChangeSpec := { name := "glideFarther", fn := fun _ => fun
  | [d1, d2, d3, d4, d5, d6] => { results := [.lit (.bool true)], args := [d1, d2, d3, d4, d5, d6] }
  | _ => none }
def glideFartherRow : OpenClaim := { program := "ytibaapaglocpjaagreat", sum := "22ea991ac6c4a16d0234c9742588363652fa2c8b1ea64c59f21bf3cc3a3dd5f1", func := "besom/besomlaw04.GlideFarther", spec := "glideFarther", inPlace := ["math/bits.Add64"], unfollowed := true, recurses := true, named := ["math/bits.divideError", "math/bits.overflowError"], plainKeys := false, apart := false }
def GlideFartherSaid : Prop := glideFartherRow.holds Tryz.pinned (OpenSpec.ofChange glideFartherSpec)

/-- ITS FALSE NEIGHBOUR: 'it returns false'. Refute it at one input. -/
def glideFartherWrong : ChangeSpec := { name := "glideFarther", fn := fun _ => fun
  | [d1, d2, d3, d4, d5, d6] => { results := [.lit (.bool false)], args := [d1, d2, d3, d4, d5, d6] }
  | _ => none }
def GlideFartherWrongFalsely : Prop := glideFartherRow.holds Tryz.pinned (OpenSpec.ofChange glideFartherWrong)

/-- 'besomlaw04.GlideSlows': WHATEVER THE INPUT: true; the input reads as it did. -/
def glideSlowsSpec : ChangeSpec := { name := "glideSlows", fn := fun _ => fun
  | [d1, d2, d3] => { results := [.lit (.bool true)], args := [d1, d2, d3] }
  | _ => none }
def glideSlowsRow : OpenClaim := { program := "ytibaapaglocpjaagreat", sum := "22ea991ac6c4a16d0234c9742588363652fa2c8b1ea64c59f21bf3cc3a3dd5f1", func := "besom/besomlaw04.GlideSlows", spec := "glideSlows", inPlace := ["math/bits.Add64"], unfollowed := true, recurses := true, named := ["math/bits.divideError", "math/bits.overflowError"], plainKeys := false, apart := false }
def GlideSlowsSaid : Prop := glideSlowsRow.holds Tryz.pinned (OpenSpec.ofChange glideSlowsSpec)

/-- ITS FALSE NEIGHBOUR: 'it returns false'. Refute it at one input. -/
def glideSlowsWrong : ChangeSpec := { name := "glideSlows", fn := fun _ => fun
  | [d1, d2, d3] => { results := [.lit (.bool false)], args := [d1, d2, d3] }
  | _ => none }
def GlideSlowsWrongFalsely : Prop := glideSlowsRow.holds Tryz.pinned (OpenSpec.ofChange glideSlowsWrong)

/-- 'besomlaw04.GlideTicks': WHATEVER THE INPUT: true; the input reads as it did. -/
def glideTicksSpec : ChangeSpec := { name := "glideTicks", fn := fun _ => fun
  | [d1, d2, d3, d4, d5] => { results := [.lit (.bool true)], args := [d1, d2, d3, d4, d5] }
  | _ => none }
def glideTicksRow : OpenClaim := { program := "ytibaapaglocpjaagreat", sum := "22ea991ac6c4a16d0234c9742588363652fa2c8b1ea64c59f21bf3cc3a3dd5f1", func := "besom/besomlaw04.GlideTicks", spec := "glideTicks", inPlace := ["math/bits.Add64"], unfollowed := true, recurses := true, named := ["math/bits.divideError", "math/bits.overflowError"], plainKeys := false, apart := false }
def GlideTicksSaid : Prop := glideTicksRow.holds Tryz.pinned (OpenSpec.ofChange glideTicksSpec)

/-- ITS FALSE NEIGHBOUR: 'it returns false'. Refute it at one input. -/
def glideTicksWrong : ChangeSpec := { name := "glideTicks", fn := fun _ => fun
  | [d1, d2, d3, d4, d5] => { results := [.lit (.bool false)], args := [d1, d2, d3, d4, d5] }
  | _ => none }
def GlideTicksWrongFalsely : Prop := glideTicksRow.holds Tryz.pinned (OpenSpec.ofChange glideTicksWrong)

/-- 'besomlaw03.IceMaker': WHATEVER THE INPUT: true; the input reads as it did. -/
def iceMakerSpec : ChangeSpec := { name := "iceMaker", fn := fun _ => fun
  | [d1, d2, d3, d4, d5] => { results := [.lit (.bool true)], args := [d1, d2, d3, d4, d5] }
  | _ => none }
def iceMakerRow : OpenClaim := { program := "ytibaapaglocpjaagreat", sum := "22ea991ac6c4a16d0234c9742588363652fa2c8b1ea64c59f21bf3cc3a3dd5f1", func := "besom/besomlaw03.IceMaker", spec := "iceMaker", inPlace := ["math/bits.Add64"], unfollowed := true, recurses := true, named := ["math/bits.divideError", "math/bits.overflowError"], plainKeys := false, apart := false }
def IceMakerSaid : Prop := iceMakerRow.holds Tryz.pinned (OpenSpec.ofChange iceMakerSpec)

/-- ITS FALSE NEIGHBOUR: 'it returns false'. Refute it at one input. -/
def iceMakerWrong : ChangeSpec := { name := "iceMaker", fn := fun _ => fun
  | [d1, d2, d3, d4, d5] => { results := [.lit (.bool false)], args := [d1, d2, d3, d4, d5] }
  | _ => none }
def IceMakerWrongFalsely : Prop := iceMakerRow.holds Tryz.pinned (OpenSpec.ofChange iceMakerWrong)

/-- 'besomlaw04.GlideRuns': WHATEVER THE INPUT: true; the input reads as it did. -/
def glideRunsSpec : ChangeSpec := { name := "glideRuns", fn := fun _ => fun
  | [d1, d2, d3, d4, d5] => { results := [.lit (.bool true)], args := [d1, d2, d3, d4, d5] }
  | _ => none }
def glideRunsRow : OpenClaim := { program := "ytibaapaglocpjaagreat", sum := "22ea991ac6c4a16d0234c9742588363652fa2c8b1ea64c59f21bf3cc3a3dd5f1", func := "besom/besomlaw04.GlideRuns", spec := "glideRuns", inPlace := ["math/bits.Add64"], unfollowed := true, recurses := true, named := ["math/bits.divideError", "math/bits.overflowError"], plainKeys := false, apart := false }
def GlideRunsSaid : Prop := glideRunsRow.holds Tryz.pinned (OpenSpec.ofChange glideRunsSpec)

/-- ITS FALSE NEIGHBOUR: 'it returns false'. Refute it at one input. -/
def glideRunsWrong : ChangeSpec := { name := "glideRuns", fn := fun _ => fun
  | [d1, d2, d3, d4, d5] => { results := [.lit (.bool false)], args := [d1, d2, d3, d4, d5] }
  | _ => none }
def GlideRunsWrongFalsely : Prop := glideRunsRow.holds Tryz.pinned (OpenSpec.ofChange glideRunsWrong)

/-- 'besomlaw04.GlideWears': WHATEVER THE INPUT: true; the input reads as it did. -/
def glideWearsSpec : ChangeSpec := { name := "glideWears", fn := fun _ => fun
  | [d1, d2, d3, d4] => { results := [.lit (.bool true)], args := [d1, d2, d3, d4] }
  | _ => none }
def glideWearsRow : OpenClaim := { program := "ytibaapaglocpjaagreat", sum := "22ea991ac6c4a16d0234c9742588363652fa2c8b1ea64c59f21bf3cc3a3dd5f1", func := "besom/besomlaw04.GlideWears", spec := "glideWears", inPlace := ["math/bits.Add64"], unfollowed := true, recurses := true, named := ["math/bits.divideError", "math/bits.overflowError"], plainKeys := false, apart := false }
def GlideWearsSaid : Prop := glideWearsRow.holds Tryz.pinned (OpenSpec.ofChange glideWearsSpec)

/-- ITS FALSE NEIGHBOUR: 'it returns false'. Refute it at one input. -/
def glideWearsWrong : ChangeSpec := { name := "glideWears", fn := fun _ => fun
  | [d1, d2, d3, d4] => { results := [.lit (.bool false)], args := [d1, d2, d3, d4] }
  | _ => none }
def GlideWearsWrongFalsely : Prop := glideWearsRow.holds Tryz.pinned (OpenSpec.ofChange glideWearsWrong)

/-- 'besomlaw04.GlideNames': WHATEVER THE INPUT: true; the input reads as it did. -/
def glideNamesSpec : ChangeSpec := { name := "glideNames", fn := fun _ => fun
  | [] => { results := [.lit (.bool true)], args := [] }
  | _ => none }
def glideNamesRow : OpenClaim := { program := "ytibaapaglocpjaagreat", sum := "22ea991ac6c4a16d0234c9742588363652fa2c8b1ea64c59f21bf3cc3a3dd5f1", func := "besom/besomlaw04.GlideNames", spec := "glideNames", inPlace := ["math/bits.Add64"], unfollowed := true, recurses := true, named := ["math/bits.divideError", "math/bits.overflowError"], plainKeys := false, apart := false }
def GlideNamesSaid : Prop := glideNamesRow.holds Tryz.pinned (OpenSpec.ofChange glideNamesSpec)

/-- ITS FALSE NEIGHBOUR: 'it returns false'. Refute it at one input. -/
def glideNamesWrong : ChangeSpec := { name := "glideNames", fn := fun _ => fun
  | [] => { results := [.lit (.bool false)], args := [] }
  | _ => none }
def GlideNamesWrongFalsely : Prop := glideNamesRow.holds Tryz.pinned (OpenSpec.ofChange glideNamesWrong)

/- THE SECOND FORM. 'bulk': how many values and letters a reading holds, each counted each time it is reached (what is shared counts as often as it is met; a slice's spare places count too). A statement '..UptoSaid' is the law's where the arguments, and the package variables that the reading takes, are together of bulk at most 1048576: NARROWER than '..Said'. Prove '..Said' where nothing that the law and all that it calls make is longer than what came in: it says more and counts as full. Else prove '..UptoSaid'. A law counts once. -/
mutual
def uptoBulk {H : Type} : DataW H → Nat
  | .lit (.string bytes) => bytes.length + 1
  | .lit _ => 1
  | .nil => 1
  | .ptr d => uptoBulk d + 1
  | .slice elems spare => uptoBulkAll elems + uptoBulkAll spare + 1
  | .agg parts => uptoBulkAll parts + 1
  | .iface _ d => uptoBulk d + 1
  | .map entries => uptoBulkEntries entries + 1
  | .held _ => 1
def uptoBulkAll {H : Type} : List (DataW H) → Nat
  | [] => 0
  | d :: r => uptoBulk d + uptoBulkAll r
def uptoBulkEntries {H : Type} : List (Lit × DataW H) → Nat
  | [] => 0
  | x :: r => uptoBulkEntry x + uptoBulkEntries r
def uptoBulkEntry {H : Type} : Lit × DataW H → Nat
  | (.string bytes, d) => bytes.length + uptoBulk d + 1
  | (_, d) => uptoBulk d + 1
 end
def uptoSmall : (H : Type) → List (DataW H) → Bool := fun _ ds => decide (uptoBulkAll ds ≤ 1048576)
def OpenSpec.upto (s : _root_.Go.ChangeSpec) : _root_.Go.OpenSpec := { _root_.Go.OpenSpec.ofChange s with cond := some uptoSmall }

/-- 'besomlaw03.IceWeights', WHERE WHAT IT READS IS OF BULK AT MOST 1048576: true; the input reads as it did. -/
def iceWeightsUptoRow : OpenClaim := { program := "ytibaapaglocpjaagreat", sum := "22ea991ac6c4a16d0234c9742588363652fa2c8b1ea64c59f21bf3cc3a3dd5f1", func := "besom/besomlaw03.IceWeights", spec := "iceWeights", inPlace := ["math/bits.Add64"], unfollowed := true, recurses := true, named := ["math/bits.divideError", "math/bits.overflowError"], plainKeys := false, apart := false, narrowed := true }
def IceWeightsUptoSaid : Prop := iceWeightsUptoRow.holds Tryz.pinned (OpenSpec.upto iceWeightsSpec)

/-- 'besomlaw03.IceChecks', WHERE WHAT IT READS IS OF BULK AT MOST 1048576: true; the input reads as it did. -/
def iceChecksUptoRow : OpenClaim := { program := "ytibaapaglocpjaagreat", sum := "22ea991ac6c4a16d0234c9742588363652fa2c8b1ea64c59f21bf3cc3a3dd5f1", func := "besom/besomlaw03.IceChecks", spec := "iceChecks", inPlace := ["math/bits.Add64"], unfollowed := true, recurses := true, named := ["math/bits.divideError", "math/bits.overflowError"], plainKeys := false, apart := false, narrowed := true }
def IceChecksUptoSaid : Prop := iceChecksUptoRow.holds Tryz.pinned (OpenSpec.upto iceChecksSpec)

/-- 'besomtop.TopWeight', WHERE WHAT IT READS IS OF BULK AT MOST 1048576: true; the input reads as it did. -/
def topWeightUptoRow : OpenClaim := { program := "ytibaapaglocpjaagreat", sum := "22ea991ac6c4a16d0234c9742588363652fa2c8b1ea64c59f21bf3cc3a3dd5f1", func := "besom/besomtop.TopWeight", spec := "topWeight", inPlace := ["math/bits.Add64"], unfollowed := true, recurses := true, named := ["math/bits.divideError", "math/bits.overflowError"], plainKeys := false, apart := false, narrowed := true }
def TopWeightUptoSaid : Prop := topWeightUptoRow.holds Tryz.pinned (OpenSpec.upto topWeightSpec)

/-- 'besomlaw03.IceWays', WHERE WHAT IT READS IS OF BULK AT MOST 1048576: true; the input reads as it did. -/
def iceWaysUptoRow : OpenClaim := { program := "ytibaapaglocpjaagreat", sum := "22ea991ac6c4a16d0234c9742588363652fa2c8b1ea64c59f21bf3cc3a3dd5f1", func := "besom/besomlaw03.IceWays", spec := "iceWays", inPlace := ["math/bits.Add64"], unfollowed := true, recurses := true, named := ["math/bits.divideError", "math/bits.overflowError"], plainKeys := false, apart := false, narrowed := true }
def IceWaysUptoSaid : Prop := iceWaysUptoRow.holds Tryz.pinned (OpenSpec.upto iceWaysSpec)

/-- 'besomtop.TopStanding', WHERE WHAT IT READS IS OF BULK AT MOST 1048576: true; the input reads as it did. -/
def topStandingUptoRow : OpenClaim := { program := "ytibaapaglocpjaagreat", sum := "22ea991ac6c4a16d0234c9742588363652fa2c8b1ea64c59f21bf3cc3a3dd5f1", func := "besom/besomtop.TopStanding", spec := "topStanding", inPlace := ["math/bits.Add64"], unfollowed := true, recurses := true, named := ["math/bits.divideError", "math/bits.overflowError"], plainKeys := false, apart := false, narrowed := true }
def TopStandingUptoSaid : Prop := topStandingUptoRow.holds Tryz.pinned (OpenSpec.upto topStandingSpec)

/-- 'besomlaw04.GlideMirrors', WHERE WHAT IT READS IS OF BULK AT MOST 1048576: true; the input reads as it did. -/
def glideMirrorsUptoRow : OpenClaim := { program := "ytibaapaglocpjaagreat", sum := "22ea991ac6c4a16d0234c9742588363652fa2c8b1ea64c59f21bf3cc3a3dd5f1", func := "besom/besomlaw04.GlideMirrors", spec := "glideMirrors", inPlace := ["math/bits.Add64"], unfollowed := true, recurses := true, named := ["math/bits.divideError", "math/bits.overflowError"], plainKeys := false, apart := false, narrowed := true }
def GlideMirrorsUptoSaid : Prop := glideMirrorsUptoRow.holds Tryz.pinned (OpenSpec.upto glideMirrorsSpec)

/-- 'besomtop.TopElsewhere', WHERE WHAT IT READS IS OF BULK AT MOST 1048576: true; the input reads as it did. -/
def topElsewhereUptoRow : OpenClaim := { program := "ytibaapaglocpjaagreat", sum := "22ea991ac6c4a16d0234c9742588363652fa2c8b1ea64c59f21bf3cc3a3dd5f1", func := "besom/besomtop.TopElsewhere", spec := "topElsewhere", inPlace := ["math/bits.Add64"], unfollowed := true, recurses := true, named := ["math/bits.divideError", "math/bits.overflowError"], plainKeys := false, apart := false, narrowed := true }
def TopElsewhereUptoSaid : Prop := topElsewhereUptoRow.holds Tryz.pinned (OpenSpec.upto topElsewhereSpec)

/-- 'besomlaw04.GlideParted', WHERE WHAT IT READS IS OF BULK AT MOST 1048576: true; the input reads as it did. -/
def glidePartedUptoRow : OpenClaim := { program := "ytibaapaglocpjaagreat", sum := "22ea991ac6c4a16d0234c9742588363652fa2c8b1ea64c59f21bf3cc3a3dd5f1", func := "besom/besomlaw04.GlideParted", spec := "glideParted", inPlace := ["math/bits.Add64"], unfollowed := true, recurses := true, named := ["math/bits.divideError", "math/bits.overflowError"], plainKeys := false, apart := false, narrowed := true }
def GlidePartedUptoSaid : Prop := glidePartedUptoRow.holds Tryz.pinned (OpenSpec.upto glidePartedSpec)

/-- 'besomlaw04.GlideStraight', WHERE WHAT IT READS IS OF BULK AT MOST 1048576: true; the input reads as it did. -/
def glideStraightUptoRow : OpenClaim := { program := "ytibaapaglocpjaagreat", sum := "22ea991ac6c4a16d0234c9742588363652fa2c8b1ea64c59f21bf3cc3a3dd5f1", func := "besom/besomlaw04.GlideStraight", spec := "glideStraight", inPlace := ["math/bits.Add64"], unfollowed := true, recurses := true, named := ["math/bits.divideError", "math/bits.overflowError"], plainKeys := false, apart := false, narrowed := true }
def GlideStraightUptoSaid : Prop := glideStraightUptoRow.holds Tryz.pinned (OpenSpec.upto glideStraightSpec)

/-- 'besomlaw04.GlideFarther', WHERE WHAT IT READS IS OF BULK AT MOST 1048576: true; the input reads as it did. -/
def glideFartherUptoRow : OpenClaim := { program := "ytibaapaglocpjaagreat", sum := "22ea991ac6c4a16d0234c9742588363652fa2c8b1ea64c59f21bf3cc3a3dd5f1", func := "besom/besomlaw04.GlideFarther", spec := "glideFarther", inPlace := ["math/bits.Add64"], unfollowed := true, recurses := true, named := ["math/bits.divideError", "math/bits.overflowError"], plainKeys := false, apart := false, narrowed := true }
def GlideFartherUptoSaid : Prop := glideFartherUptoRow.holds Tryz.pinned (OpenSpec.upto glideFartherSpec)

/-- 'besomlaw04.GlideSlows', WHERE WHAT IT READS IS OF BULK AT MOST 1048576: true; the input reads as it did. -/
def glideSlowsUptoRow : OpenClaim := { program := "ytibaapaglocpjaagreat", sum := "22ea991ac6c4a16d0234c9742588363652fa2c8b1ea64c59f21bf3cc3a3dd5f1", func := "besom/besomlaw04.GlideSlows", spec := "glideSlows", inPlace := ["math/bits.Add64"], unfollowed := true, recurses := true, named := ["math/bits.divideError", "math/bits.overflowError"], plainKeys := false, apart := false, narrowed := true }
def GlideSlowsUptoSaid : Prop := glideSlowsUptoRow.holds Tryz.pinned (OpenSpec.upto glideSlowsSpec)

/-- 'besomlaw04.GlideTicks', WHERE WHAT IT READS IS OF BULK AT MOST 1048576: true; the input reads as it did. -/
def glideTicksUptoRow : OpenClaim := { program := "ytibaapaglocpjaagreat", sum := "22ea991ac6c4a16d0234c9742588363652fa2c8b1ea64c59f21bf3cc3a3dd5f1", func := "besom/besomlaw04.GlideTicks", spec := "glideTicks", inPlace := ["math/bits.Add64"], unfollowed := true, recurses := true, named := ["math/bits.divideError", "math/bits.overflowError"], plainKeys := false, apart := false, narrowed := true }
def GlideTicksUptoSaid : Prop := glideTicksUptoRow.holds Tryz.pinned (OpenSpec.upto glideTicksSpec)

/-- 'besomlaw03.IceMaker', WHERE WHAT IT READS IS OF BULK AT MOST 1048576: true; the input reads as it did. -/
def iceMakerUptoRow : OpenClaim := { program := "ytibaapaglocpjaagreat", sum := "22ea991ac6c4a16d0234c9742588363652fa2c8b1ea64c59f21bf3cc3a3dd5f1", func := "besom/besomlaw03.IceMaker", spec := "iceMaker", inPlace := ["math/bits.Add64"], unfollowed := true, recurses := true, named := ["math/bits.divideError", "math/bits.overflowError"], plainKeys := false, apart := false, narrowed := true }
def IceMakerUptoSaid : Prop := iceMakerUptoRow.holds Tryz.pinned (OpenSpec.upto iceMakerSpec)

/-- 'besomlaw04.GlideRuns', WHERE WHAT IT READS IS OF BULK AT MOST 1048576: true; the input reads as it did. -/
def glideRunsUptoRow : OpenClaim := { program := "ytibaapaglocpjaagreat", sum := "22ea991ac6c4a16d0234c9742588363652fa2c8b1ea64c59f21bf3cc3a3dd5f1", func := "besom/besomlaw04.GlideRuns", spec := "glideRuns", inPlace := ["math/bits.Add64"], unfollowed := true, recurses := true, named := ["math/bits.divideError", "math/bits.overflowError"], plainKeys := false, apart := false, narrowed := true }
def GlideRunsUptoSaid : Prop := glideRunsUptoRow.holds Tryz.pinned (OpenSpec.upto glideRunsSpec)

/-- 'besomlaw04.GlideWears', WHERE WHAT IT READS IS OF BULK AT MOST 1048576: true; the input reads as it did. -/
def glideWearsUptoRow : OpenClaim := { program := "ytibaapaglocpjaagreat", sum := "22ea991ac6c4a16d0234c9742588363652fa2c8b1ea64c59f21bf3cc3a3dd5f1", func := "besom/besomlaw04.GlideWears", spec := "glideWears", inPlace := ["math/bits.Add64"], unfollowed := true, recurses := true, named := ["math/bits.divideError", "math/bits.overflowError"], plainKeys := false, apart := false, narrowed := true }
def GlideWearsUptoSaid : Prop := glideWearsUptoRow.holds Tryz.pinned (OpenSpec.upto glideWearsSpec)

/-- 'besomlaw04.GlideNames', WHERE WHAT IT READS IS OF BULK AT MOST 1048576: true; the input reads as it did. -/
def glideNamesUptoRow : OpenClaim := { program := "ytibaapaglocpjaagreat", sum := "22ea991ac6c4a16d0234c9742588363652fa2c8b1ea64c59f21bf3cc3a3dd5f1", func := "besom/besomlaw04.GlideNames", spec := "glideNames", inPlace := ["math/bits.Add64"], unfollowed := true, recurses := true, named := ["math/bits.divideError", "math/bits.overflowError"], plainKeys := false, apart := false, narrowed := true }
def GlideNamesUptoSaid : Prop := glideNamesUptoRow.holds Tryz.pinned (OpenSpec.upto glideNamesSpec)

end Rows
end Go.Proofs.YtibaapaglocpjaaGreat
