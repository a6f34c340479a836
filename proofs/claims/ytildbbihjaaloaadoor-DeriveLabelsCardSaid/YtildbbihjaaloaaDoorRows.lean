/-
  NARROWER THAN 'FOR EVERY INPUT', by the rows' own cells (each row's printed sentence says how): ShaSums: laid · ShaPieces: laid · ShaEnds: laid · ShawideSums: laid · ShawideParts: laid · ShawideBlocks: laid · MacSums: laid · MacKeys: laid · MacRight: laid · DeriveUnlike: laid · DeriveExpands: laid · DeriveLabels: laid.
  DERIVED. THE GIVEN ROWS OF THIS SEAT. 12 by the template 'for every input the law returns true; each argument reads behind the call as it read before'; 0 by the template 'total and deterministic' (their statements: YtildbbihjaaloaaDoorTotals.lean).
  GIVEN WITH THE SEED: the statements are not yours to turn. If you find one false, say at which input.
  Laid BY PROGRAM, IN A SANDBOX (cutbox-rows.mjs): the forced cells as the released guide's own fill.sh prints them over the translation 60619dce1cfc0e05… (all of the seat's roots in one cut). By AI agents, Wed Nov 11 2026. No macro, syntax, notation, axiom, sorry.
-/
import Derived.Test.YtildbbihjaaloaaDoorChecked
import GoSem.Claim
import GoSem.ClaimJoined
import GoSem.ClaimMapViews
import Derived.JoinedTies
import Derived.KernelRfl
namespace Go.Proofs.YtildbbihjaaloaaDoor
/- THE CELL 'sum', in the pinned program and in every row, IS THE sha256 OF THE DUMP (.gsa) THAT YtildbbihjaaloaaDoorProg.lean LOADS. Nothing in Lean hashes anything: it is a label: what it is worth is what the hold of that sum in a sandbox is worth. -/
noncomputable def Tryd.pinned : Pinned := { name := "ytildbbihjaaloaadoor", sum := "60619dce1cfc0e05f297a770a140dae6831b48ab970e0478eeb7e68b87d19708", checked := Tryd.checked }
namespace Rows
def none {H : Type} : Left H := { results := [], args := [] }

/- WHAT THE LISTED PACKAGE-LEVEL VARIABLES READ AS WHEN THE CALL BEGINS. Each datum BY PROGRAM (the guide's laid-datum.mjs) off the statement by which the dump's own 'gosem.cut.vars' lays the variable. In a bare row this is a premise. The card (YtildbbihjaaloaaDoorCards.lean) ties it to the program's text. -/
def laid_fellowship_api_ErrRange {H : Type} : DataW H := .iface "*errors.errorString" (.ptr (.agg [.lit (.string [102, 101, 108, 108, 111, 119, 115, 104, 105, 112, 58, 32, 114, 97, 110, 103, 101])]))
def laid_fellowship_sha_constants {H : Type} : DataW H := .agg [.lit (.int .u32 1116352408), .lit (.int .u32 1899447441), .lit (.int .u32 3049323471), .lit (.int .u32 3921009573), .lit (.int .u32 961987163), .lit (.int .u32 1508970993), .lit (.int .u32 2453635748), .lit (.int .u32 2870763221), .lit (.int .u32 3624381080), .lit (.int .u32 310598401), .lit (.int .u32 607225278), .lit (.int .u32 1426881987), .lit (.int .u32 1925078388), .lit (.int .u32 2162078206), .lit (.int .u32 2614888103), .lit (.int .u32 3248222580), .lit (.int .u32 3835390401), .lit (.int .u32 4022224774), .lit (.int .u32 264347078), .lit (.int .u32 604807628), .lit (.int .u32 770255983), .lit (.int .u32 1249150122), .lit (.int .u32 1555081692), .lit (.int .u32 1996064986), .lit (.int .u32 2554220882), .lit (.int .u32 2821834349), .lit (.int .u32 2952996808), .lit (.int .u32 3210313671), .lit (.int .u32 3336571891), .lit (.int .u32 3584528711), .lit (.int .u32 113926993), .lit (.int .u32 338241895), .lit (.int .u32 666307205), .lit (.int .u32 773529912), .lit (.int .u32 1294757372), .lit (.int .u32 1396182291), .lit (.int .u32 1695183700), .lit (.int .u32 1986661051), .lit (.int .u32 2177026350), .lit (.int .u32 2456956037), .lit (.int .u32 2730485921), .lit (.int .u32 2820302411), .lit (.int .u32 3259730800), .lit (.int .u32 3345764771), .lit (.int .u32 3516065817), .lit (.int .u32 3600352804), .lit (.int .u32 4094571909), .lit (.int .u32 275423344), .lit (.int .u32 430227734), .lit (.int .u32 506948616), .lit (.int .u32 659060556), .lit (.int .u32 883997877), .lit (.int .u32 958139571), .lit (.int .u32 1322822218), .lit (.int .u32 1537002063), .lit (.int .u32 1747873779), .lit (.int .u32 1955562222), .lit (.int .u32 2024104815), .lit (.int .u32 2227730452), .lit (.int .u32 2361852424), .lit (.int .u32 2428436474), .lit (.int .u32 2756734187), .lit (.int .u32 3204031479), .lit (.int .u32 3329325298)]
def laid_fellowship_shawide_constants {H : Type} : DataW H := .agg [.lit (.int .u64 4794697086780616226), .lit (.int .u64 8158064640168781261), .lit (.int .u64 13096744586834688815), .lit (.int .u64 16840607885511220156), .lit (.int .u64 4131703408338449720), .lit (.int .u64 6480981068601479193), .lit (.int .u64 10538285296894168987), .lit (.int .u64 12329834152419229976), .lit (.int .u64 15566598209576043074), .lit (.int .u64 1334009975649890238), .lit (.int .u64 2608012711638119052), .lit (.int .u64 6128411473006802146), .lit (.int .u64 8268148722764581231), .lit (.int .u64 9286055187155687089), .lit (.int .u64 11230858885718282805), .lit (.int .u64 13951009754708518548), .lit (.int .u64 16472876342353939154), .lit (.int .u64 17275323862435702243), .lit (.int .u64 1135362057144423861), .lit (.int .u64 2597628984639134821), .lit (.int .u64 3308224258029322869), .lit (.int .u64 5365058923640841347), .lit (.int .u64 6679025012923562964), .lit (.int .u64 8573033837759648693), .lit (.int .u64 10970295158949994411), .lit (.int .u64 12119686244451234320), .lit (.int .u64 12683024718118986047), .lit (.int .u64 13788192230050041572), .lit (.int .u64 14330467153632333762), .lit (.int .u64 15395433587784984357), .lit (.int .u64 489312712824947311), .lit (.int .u64 1452737877330783856), .lit (.int .u64 2861767655752347644), .lit (.int .u64 3322285676063803686), .lit (.int .u64 5560940570517711597), .lit (.int .u64 5996557281743188959), .lit (.int .u64 7280758554555802590), .lit (.int .u64 8532644243296465576), .lit (.int .u64 9350256976987008742), .lit (.int .u64 10552545826968843579), .lit (.int .u64 11727347734174303076), .lit (.int .u64 12113106623233404929), .lit (.int .u64 14000437183269869457), .lit (.int .u64 14369950271660146224), .lit (.int .u64 15101387698204529176), .lit (.int .u64 15463397548674623760), .lit (.int .u64 17586052441742319658), .lit (.int .u64 1182934255886127544), .lit (.int .u64 1847814050463011016), .lit (.int .u64 2177327727835720531), .lit (.int .u64 2830643537854262169), .lit (.int .u64 3796741975233480872), .lit (.int .u64 4115178125766777443), .lit (.int .u64 5681478168544905931), .lit (.int .u64 6601373596472566643), .lit (.int .u64 7507060721942968483), .lit (.int .u64 8399075790359081724), .lit (.int .u64 8693463985226723168), .lit (.int .u64 9568029438360202098), .lit (.int .u64 10144078919501101548), .lit (.int .u64 10430055236837252648), .lit (.int .u64 11840083180663258601), .lit (.int .u64 13761210420658862357), .lit (.int .u64 14299343276471374635), .lit (.int .u64 14566680578165727644), .lit (.int .u64 15097957966210449927), .lit (.int .u64 16922976911328602910), .lit (.int .u64 17689382322260857208), .lit (.int .u64 500013540394364858), .lit (.int .u64 748580250866718886), .lit (.int .u64 1242879168328830382), .lit (.int .u64 1977374033974150939), .lit (.int .u64 2944078676154940804), .lit (.int .u64 3659926193048069267), .lit (.int .u64 4368137639120453308), .lit (.int .u64 4836135668995329356), .lit (.int .u64 5532061633213252278), .lit (.int .u64 6448918945643986474), .lit (.int .u64 6902733635092675308), .lit (.int .u64 7801388544844847127)]
def laid_fellowship_api_ErrShort {H : Type} : DataW H := .iface "*errors.errorString" (.ptr (.agg [.lit (.string [102, 101, 108, 108, 111, 119, 115, 104, 105, 112, 58, 32, 115, 104, 111, 114, 116])]))
def laid_fellowship_api_ErrLong {H : Type} : DataW H := .iface "*errors.errorString" (.ptr (.agg [.lit (.string [102, 101, 108, 108, 111, 119, 115, 104, 105, 112, 58, 32, 108, 111, 110, 103])]))
def laid_fellowship_api_ErrForm {H : Type} : DataW H := .iface "*errors.errorString" (.ptr (.agg [.lit (.string [102, 101, 108, 108, 111, 119, 115, 104, 105, 112, 58, 32, 102, 111, 114, 109])]))
def laid_fellowship_api_ErrKey {H : Type} : DataW H := .iface "*errors.errorString" (.ptr (.agg [.lit (.string [102, 101, 108, 108, 111, 119, 115, 104, 105, 112, 58, 32, 107, 101, 121])]))
def laid_fellowship_api_ErrSign {H : Type} : DataW H := .iface "*errors.errorString" (.ptr (.agg [.lit (.string [102, 101, 108, 108, 111, 119, 115, 104, 105, 112, 58, 32, 115, 105, 103, 110])]))
def laid_fellowship_api_ErrSeal {H : Type} : DataW H := .iface "*errors.errorString" (.ptr (.agg [.lit (.string [102, 101, 108, 108, 111, 119, 115, 104, 105, 112, 58, 32, 115, 101, 97, 108])]))
def laid_fellowship_api_ErrEpoch {H : Type} : DataW H := .iface "*errors.errorString" (.ptr (.agg [.lit (.string [102, 101, 108, 108, 111, 119, 115, 104, 105, 112, 58, 32, 101, 112, 111, 99, 104])]))
def laid_fellowship_api_ErrGroup {H : Type} : DataW H := .iface "*errors.errorString" (.ptr (.agg [.lit (.string [102, 101, 108, 108, 111, 119, 115, 104, 105, 112, 58, 32, 103, 114, 111, 117, 112])]))
def laid_fellowship_api_ErrSender {H : Type} : DataW H := .iface "*errors.errorString" (.ptr (.agg [.lit (.string [102, 101, 108, 108, 111, 119, 115, 104, 105, 112, 58, 32, 115, 101, 110, 100, 101, 114])]))
def laid_fellowship_api_ErrLeaf {H : Type} : DataW H := .iface "*errors.errorString" (.ptr (.agg [.lit (.string [102, 101, 108, 108, 111, 119, 115, 104, 105, 112, 58, 32, 108, 101, 97, 102])]))
def laid_fellowship_api_ErrOffer {H : Type} : DataW H := .iface "*errors.errorString" (.ptr (.agg [.lit (.string [102, 101, 108, 108, 111, 119, 115, 104, 105, 112, 58, 32, 111, 102, 102, 101, 114])]))
def laid_fellowship_api_ErrPath {H : Type} : DataW H := .iface "*errors.errorString" (.ptr (.agg [.lit (.string [102, 101, 108, 108, 111, 119, 115, 104, 105, 112, 58, 32, 112, 97, 116, 104])]))
def laid_fellowship_api_ErrTag {H : Type} : DataW H := .iface "*errors.errorString" (.ptr (.agg [.lit (.string [102, 101, 108, 108, 111, 119, 115, 104, 105, 112, 58, 32, 116, 97, 103])]))
def laid_fellowship_api_ErrNone {H : Type} : DataW H := .iface "*errors.errorString" (.ptr (.agg [.lit (.string [102, 101, 108, 108, 111, 119, 115, 104, 105, 112, 58, 32, 110, 111, 110, 101])]))
def laid_fellowship_api_ErrRemoved {H : Type} : DataW H := .iface "*errors.errorString" (.ptr (.agg [.lit (.string [102, 101, 108, 108, 111, 119, 115, 104, 105, 112, 58, 32, 114, 101, 109, 111, 118, 101, 100])]))
def laid_fellowship_api_ErrFull {H : Type} : DataW H := .iface "*errors.errorString" (.ptr (.agg [.lit (.string [102, 101, 108, 108, 111, 119, 115, 104, 105, 112, 58, 32, 102, 117, 108, 108])]))
def laid_fellowship_api_ErrState {H : Type} : DataW H := .iface "*errors.errorString" (.ptr (.agg [.lit (.string [102, 101, 108, 108, 111, 119, 115, 104, 105, 112, 58, 32, 115, 116, 97, 116, 101])]))
def laid_fellowship_api_ErrTwice {H : Type} : DataW H := .iface "*errors.errorString" (.ptr (.agg [.lit (.string [102, 101, 108, 108, 111, 119, 115, 104, 105, 112, 58, 32, 116, 119, 105, 99, 101])]))

/-- 'fellowshiplaw02.ShaSums': WHATEVER THE INPUT: true; the input reads as it did. -/
def shaSumsSpec : ChangeSpec := { name := "shaSums", fn := fun _ => fun
  | [d] => { results := [.lit (.bool true)], args := [d] }
  | _ => none }
def shaSumsRow : OpenClaim := { program := "ytildbbihjaaloaadoor", sum := "60619dce1cfc0e05f297a770a140dae6831b48ab970e0478eeb7e68b87d19708", func := "fellowship/fellowshiplaw02.ShaSums", spec := "shaSums", named := ["fellowship/sha.constants", "fellowship/api.ErrRange"], apart := false, laid := [("fellowship/api.ErrRange", laid_fellowship_api_ErrRange), ("fellowship/sha.constants", laid_fellowship_sha_constants)] }
def ShaSumsSaid : Prop := shaSumsRow.holds Tryd.pinned (OpenSpec.ofChange shaSumsSpec)

/-- ITS FALSE NEIGHBOUR: 'it returns false'. Refute it at one input. -/
def shaSumsWrong : ChangeSpec := { name := "shaSums", fn := fun _ => fun
  | [d] => { results := [.lit (.bool false)], args := [d] }
  | _ => none }
def ShaSumsWrongFalsely : Prop := shaSumsRow.holds Tryd.pinned (OpenSpec.ofChange shaSumsWrong)

/-- 'fellowshiplaw02.ShaPieces': WHATEVER THE INPUT: true; the input reads as it did. -/
def shaPiecesSpec : ChangeSpec := { name := "shaPieces", fn := fun _ => fun
  | [d1, d2] => { results := [.lit (.bool true)], args := [d1, d2] }
  | _ => none }
def shaPiecesRow : OpenClaim := { program := "ytildbbihjaaloaadoor", sum := "60619dce1cfc0e05f297a770a140dae6831b48ab970e0478eeb7e68b87d19708", func := "fellowship/fellowshiplaw02.ShaPieces", spec := "shaPieces", named := ["fellowship/sha.constants", "fellowship/api.ErrRange"], apart := false, laid := [("fellowship/api.ErrRange", laid_fellowship_api_ErrRange), ("fellowship/sha.constants", laid_fellowship_sha_constants)] }
def ShaPiecesSaid : Prop := shaPiecesRow.holds Tryd.pinned (OpenSpec.ofChange shaPiecesSpec)

/-- ITS FALSE NEIGHBOUR: 'it returns false'. Refute it at one input. -/
def shaPiecesWrong : ChangeSpec := { name := "shaPieces", fn := fun _ => fun
  | [d1, d2] => { results := [.lit (.bool false)], args := [d1, d2] }
  | _ => none }
def ShaPiecesWrongFalsely : Prop := shaPiecesRow.holds Tryd.pinned (OpenSpec.ofChange shaPiecesWrong)

/-- 'fellowshiplaw02.ShaEnds': WHATEVER THE INPUT: true; the input reads as it did. -/
def shaEndsSpec : ChangeSpec := { name := "shaEnds", fn := fun _ => fun
  | [d1, d2] => { results := [.lit (.bool true)], args := [d1, d2] }
  | _ => none }
def shaEndsRow : OpenClaim := { program := "ytildbbihjaaloaadoor", sum := "60619dce1cfc0e05f297a770a140dae6831b48ab970e0478eeb7e68b87d19708", func := "fellowship/fellowshiplaw02.ShaEnds", spec := "shaEnds", named := ["fellowship/sha.constants", "fellowship/api.ErrRange"], apart := false, laid := [("fellowship/api.ErrRange", laid_fellowship_api_ErrRange), ("fellowship/sha.constants", laid_fellowship_sha_constants)] }
def ShaEndsSaid : Prop := shaEndsRow.holds Tryd.pinned (OpenSpec.ofChange shaEndsSpec)

/-- ITS FALSE NEIGHBOUR: 'it returns false'. Refute it at one input. -/
def shaEndsWrong : ChangeSpec := { name := "shaEnds", fn := fun _ => fun
  | [d1, d2] => { results := [.lit (.bool false)], args := [d1, d2] }
  | _ => none }
def ShaEndsWrongFalsely : Prop := shaEndsRow.holds Tryd.pinned (OpenSpec.ofChange shaEndsWrong)

/-- 'fellowshiplaw03.ShawideSums': WHATEVER THE INPUT: true; the input reads as it did. -/
def shawideSumsSpec : ChangeSpec := { name := "shawideSums", fn := fun _ => fun
  | [d] => { results := [.lit (.bool true)], args := [d] }
  | _ => none }
def shawideSumsRow : OpenClaim := { program := "ytildbbihjaaloaadoor", sum := "60619dce1cfc0e05f297a770a140dae6831b48ab970e0478eeb7e68b87d19708", func := "fellowship/fellowshiplaw03.ShawideSums", spec := "shawideSums", unfollowed := true, recurses := true, named := ["fellowship/shawide.constants"], apart := false, laid := [("fellowship/shawide.constants", laid_fellowship_shawide_constants)] }
def ShawideSumsSaid : Prop := shawideSumsRow.holds Tryd.pinned (OpenSpec.ofChange shawideSumsSpec)

/-- ITS FALSE NEIGHBOUR: 'it returns false'. Refute it at one input. -/
def shawideSumsWrong : ChangeSpec := { name := "shawideSums", fn := fun _ => fun
  | [d] => { results := [.lit (.bool false)], args := [d] }
  | _ => none }
def ShawideSumsWrongFalsely : Prop := shawideSumsRow.holds Tryd.pinned (OpenSpec.ofChange shawideSumsWrong)

/-- 'fellowshiplaw03.ShawideParts': WHATEVER THE INPUT: true; the input reads as it did. -/
def shawidePartsSpec : ChangeSpec := { name := "shawideParts", fn := fun _ => fun
  | [d1, d2] => { results := [.lit (.bool true)], args := [d1, d2] }
  | _ => none }
def shawidePartsRow : OpenClaim := { program := "ytildbbihjaaloaadoor", sum := "60619dce1cfc0e05f297a770a140dae6831b48ab970e0478eeb7e68b87d19708", func := "fellowship/fellowshiplaw03.ShawideParts", spec := "shawideParts", unfollowed := true, recurses := true, named := ["fellowship/shawide.constants"], apart := false, laid := [("fellowship/shawide.constants", laid_fellowship_shawide_constants)] }
def ShawidePartsSaid : Prop := shawidePartsRow.holds Tryd.pinned (OpenSpec.ofChange shawidePartsSpec)

/-- ITS FALSE NEIGHBOUR: 'it returns false'. Refute it at one input. -/
def shawidePartsWrong : ChangeSpec := { name := "shawideParts", fn := fun _ => fun
  | [d1, d2] => { results := [.lit (.bool false)], args := [d1, d2] }
  | _ => none }
def ShawidePartsWrongFalsely : Prop := shawidePartsRow.holds Tryd.pinned (OpenSpec.ofChange shawidePartsWrong)

/-- 'fellowshiplaw03.ShawideBlocks': WHATEVER THE INPUT: true; the input reads as it did. -/
def shawideBlocksSpec : ChangeSpec := { name := "shawideBlocks", fn := fun _ => fun
  | [d1, d2] => { results := [.lit (.bool true)], args := [d1, d2] }
  | _ => none }
def shawideBlocksRow : OpenClaim := { program := "ytildbbihjaaloaadoor", sum := "60619dce1cfc0e05f297a770a140dae6831b48ab970e0478eeb7e68b87d19708", func := "fellowship/fellowshiplaw03.ShawideBlocks", spec := "shawideBlocks", inPlace := ["internal/reflectlite.TypeOf"], unfollowed := true, recurses := true, named := ["fellowship/shawide.constants", "fellowship/api.ErrRange", "fellowship/api.ErrShort", "fellowship/api.ErrLong", "fellowship/api.ErrForm", "fellowship/api.ErrKey", "fellowship/api.ErrSign", "fellowship/api.ErrSeal", "fellowship/api.ErrEpoch", "fellowship/api.ErrGroup", "fellowship/api.ErrSender", "fellowship/api.ErrLeaf", "fellowship/api.ErrOffer", "fellowship/api.ErrPath", "fellowship/api.ErrTag", "fellowship/api.ErrNone", "fellowship/api.ErrRemoved", "fellowship/api.ErrFull", "fellowship/api.ErrState", "fellowship/api.ErrTwice"], apart := false, laid := [("fellowship/api.ErrRange", laid_fellowship_api_ErrRange), ("fellowship/api.ErrShort", laid_fellowship_api_ErrShort), ("fellowship/api.ErrLong", laid_fellowship_api_ErrLong), ("fellowship/api.ErrForm", laid_fellowship_api_ErrForm), ("fellowship/api.ErrKey", laid_fellowship_api_ErrKey), ("fellowship/api.ErrSign", laid_fellowship_api_ErrSign), ("fellowship/api.ErrSeal", laid_fellowship_api_ErrSeal), ("fellowship/api.ErrEpoch", laid_fellowship_api_ErrEpoch), ("fellowship/api.ErrGroup", laid_fellowship_api_ErrGroup), ("fellowship/api.ErrSender", laid_fellowship_api_ErrSender), ("fellowship/api.ErrLeaf", laid_fellowship_api_ErrLeaf), ("fellowship/api.ErrOffer", laid_fellowship_api_ErrOffer), ("fellowship/api.ErrPath", laid_fellowship_api_ErrPath), ("fellowship/api.ErrTag", laid_fellowship_api_ErrTag), ("fellowship/api.ErrNone", laid_fellowship_api_ErrNone), ("fellowship/api.ErrRemoved", laid_fellowship_api_ErrRemoved), ("fellowship/api.ErrFull", laid_fellowship_api_ErrFull), ("fellowship/api.ErrState", laid_fellowship_api_ErrState), ("fellowship/api.ErrTwice", laid_fellowship_api_ErrTwice), ("fellowship/shawide.constants", laid_fellowship_shawide_constants)] }
def ShawideBlocksSaid : Prop := shawideBlocksRow.holds Tryd.pinned (OpenSpec.ofChange shawideBlocksSpec)

/-- ITS FALSE NEIGHBOUR: 'it returns false'. Refute it at one input. -/
def shawideBlocksWrong : ChangeSpec := { name := "shawideBlocks", fn := fun _ => fun
  | [d1, d2] => { results := [.lit (.bool false)], args := [d1, d2] }
  | _ => none }
def ShawideBlocksWrongFalsely : Prop := shawideBlocksRow.holds Tryd.pinned (OpenSpec.ofChange shawideBlocksWrong)

/-- 'fellowshiplaw04.MacSums': WHATEVER THE INPUT: true; the input reads as it did. -/
def macSumsSpec : ChangeSpec := { name := "macSums", fn := fun _ => fun
  | [d1, d2] => { results := [.lit (.bool true)], args := [d1, d2] }
  | _ => none }
def macSumsRow : OpenClaim := { program := "ytildbbihjaaloaadoor", sum := "60619dce1cfc0e05f297a770a140dae6831b48ab970e0478eeb7e68b87d19708", func := "fellowship/fellowshiplaw04.MacSums", spec := "macSums", named := ["fellowship/sha.constants", "fellowship/api.ErrRange"], apart := false, laid := [("fellowship/api.ErrRange", laid_fellowship_api_ErrRange), ("fellowship/sha.constants", laid_fellowship_sha_constants)] }
def MacSumsSaid : Prop := macSumsRow.holds Tryd.pinned (OpenSpec.ofChange macSumsSpec)

/-- ITS FALSE NEIGHBOUR: 'it returns false'. Refute it at one input. -/
def macSumsWrong : ChangeSpec := { name := "macSums", fn := fun _ => fun
  | [d1, d2] => { results := [.lit (.bool false)], args := [d1, d2] }
  | _ => none }
def MacSumsWrongFalsely : Prop := macSumsRow.holds Tryd.pinned (OpenSpec.ofChange macSumsWrong)

/-- 'fellowshiplaw04.MacKeys': WHATEVER THE INPUT: true; the input reads as it did. -/
def macKeysSpec : ChangeSpec := { name := "macKeys", fn := fun _ => fun
  | [d1, d2, d3] => { results := [.lit (.bool true)], args := [d1, d2, d3] }
  | _ => none }
def macKeysRow : OpenClaim := { program := "ytildbbihjaaloaadoor", sum := "60619dce1cfc0e05f297a770a140dae6831b48ab970e0478eeb7e68b87d19708", func := "fellowship/fellowshiplaw04.MacKeys", spec := "macKeys", named := ["fellowship/sha.constants", "fellowship/api.ErrRange"], apart := false, laid := [("fellowship/api.ErrRange", laid_fellowship_api_ErrRange), ("fellowship/sha.constants", laid_fellowship_sha_constants)] }
def MacKeysSaid : Prop := macKeysRow.holds Tryd.pinned (OpenSpec.ofChange macKeysSpec)

/-- ITS FALSE NEIGHBOUR: 'it returns false'. Refute it at one input. -/
def macKeysWrong : ChangeSpec := { name := "macKeys", fn := fun _ => fun
  | [d1, d2, d3] => { results := [.lit (.bool false)], args := [d1, d2, d3] }
  | _ => none }
def MacKeysWrongFalsely : Prop := macKeysRow.holds Tryd.pinned (OpenSpec.ofChange macKeysWrong)

/-- 'fellowshiplaw04.MacRight': WHATEVER THE INPUT: true; the input reads as it did. -/
def macRightSpec : ChangeSpec := { name := "macRight", fn := fun _ => fun
  | [d1, d2, d3] => { results := [.lit (.bool true)], args := [d1, d2, d3] }
  | _ => none }
def macRightRow : OpenClaim := { program := "ytildbbihjaaloaadoor", sum := "60619dce1cfc0e05f297a770a140dae6831b48ab970e0478eeb7e68b87d19708", func := "fellowship/fellowshiplaw04.MacRight", spec := "macRight", named := ["fellowship/sha.constants", "fellowship/api.ErrRange"], apart := false, laid := [("fellowship/api.ErrRange", laid_fellowship_api_ErrRange), ("fellowship/sha.constants", laid_fellowship_sha_constants)] }
def MacRightSaid : Prop := macRightRow.holds Tryd.pinned (OpenSpec.ofChange macRightSpec)

/-- ITS FALSE NEIGHBOUR: 'it returns false'. Refute it at one input. -/
def macRightWrong : ChangeSpec := { name := "macRight", fn := fun _ => fun
  | [d1, d2, d3] => { results := [.lit (.bool false)], args := [d1, d2, d3] }
  | _ => none }
def MacRightWrongFalsely : Prop := macRightRow.holds Tryd.pinned (OpenSpec.ofChange macRightWrong)

/-- 'fellowshiplaw05.DeriveUnlike': WHATEVER THE INPUT: true; the input reads as it did. -/
def deriveUnlikeSpec : ChangeSpec := { name := "deriveUnlike", fn := fun _ => fun
  | [d1, d2, d3] => { results := [.lit (.bool true)], args := [d1, d2, d3] }
  | _ => none }
def deriveUnlikeRow : OpenClaim := { program := "ytildbbihjaaloaadoor", sum := "60619dce1cfc0e05f297a770a140dae6831b48ab970e0478eeb7e68b87d19708", func := "fellowship/fellowshiplaw05.DeriveUnlike", spec := "deriveUnlike", named := ["fellowship/api.ErrRange", "fellowship/api.ErrLong", "fellowship/sha.constants"], apart := false, laid := [("fellowship/api.ErrRange", laid_fellowship_api_ErrRange), ("fellowship/api.ErrLong", laid_fellowship_api_ErrLong), ("fellowship/sha.constants", laid_fellowship_sha_constants)] }
def DeriveUnlikeSaid : Prop := deriveUnlikeRow.holds Tryd.pinned (OpenSpec.ofChange deriveUnlikeSpec)

/-- ITS FALSE NEIGHBOUR: 'it returns false'. Refute it at one input. -/
def deriveUnlikeWrong : ChangeSpec := { name := "deriveUnlike", fn := fun _ => fun
  | [d1, d2, d3] => { results := [.lit (.bool false)], args := [d1, d2, d3] }
  | _ => none }
def DeriveUnlikeWrongFalsely : Prop := deriveUnlikeRow.holds Tryd.pinned (OpenSpec.ofChange deriveUnlikeWrong)

/-- 'fellowshiplaw05.DeriveExpands': WHATEVER THE INPUT: true; the input reads as it did. -/
def deriveExpandsSpec : ChangeSpec := { name := "deriveExpands", fn := fun _ => fun
  | [d1, d2, d3] => { results := [.lit (.bool true)], args := [d1, d2, d3] }
  | _ => none }
def deriveExpandsRow : OpenClaim := { program := "ytildbbihjaaloaadoor", sum := "60619dce1cfc0e05f297a770a140dae6831b48ab970e0478eeb7e68b87d19708", func := "fellowship/fellowshiplaw05.DeriveExpands", spec := "deriveExpands", inPlace := ["internal/reflectlite.TypeOf"], unfollowed := true, recurses := true, named := ["fellowship/api.ErrRange", "fellowship/api.ErrLong", "fellowship/sha.constants", "fellowship/api.ErrShort", "fellowship/api.ErrForm", "fellowship/api.ErrKey", "fellowship/api.ErrSign", "fellowship/api.ErrSeal", "fellowship/api.ErrEpoch", "fellowship/api.ErrGroup", "fellowship/api.ErrSender", "fellowship/api.ErrLeaf", "fellowship/api.ErrOffer", "fellowship/api.ErrPath", "fellowship/api.ErrTag", "fellowship/api.ErrNone", "fellowship/api.ErrRemoved", "fellowship/api.ErrFull", "fellowship/api.ErrState", "fellowship/api.ErrTwice"], apart := false, laid := [("fellowship/api.ErrRange", laid_fellowship_api_ErrRange), ("fellowship/api.ErrShort", laid_fellowship_api_ErrShort), ("fellowship/api.ErrLong", laid_fellowship_api_ErrLong), ("fellowship/api.ErrForm", laid_fellowship_api_ErrForm), ("fellowship/api.ErrKey", laid_fellowship_api_ErrKey), ("fellowship/api.ErrSign", laid_fellowship_api_ErrSign), ("fellowship/api.ErrSeal", laid_fellowship_api_ErrSeal), ("fellowship/api.ErrEpoch", laid_fellowship_api_ErrEpoch), ("fellowship/api.ErrGroup", laid_fellowship_api_ErrGroup), ("fellowship/api.ErrSender", laid_fellowship_api_ErrSender), ("fellowship/api.ErrLeaf", laid_fellowship_api_ErrLeaf), ("fellowship/api.ErrOffer", laid_fellowship_api_ErrOffer), ("fellowship/api.ErrPath", laid_fellowship_api_ErrPath), ("fellowship/api.ErrTag", laid_fellowship_api_ErrTag), ("fellowship/api.ErrNone", laid_fellowship_api_ErrNone), ("fellowship/api.ErrRemoved", laid_fellowship_api_ErrRemoved), ("fellowship/api.ErrFull", laid_fellowship_api_ErrFull), ("fellowship/api.ErrState", laid_fellowship_api_ErrState), ("fellowship/api.ErrTwice", laid_fellowship_api_ErrTwice), ("fellowship/sha.constants", laid_fellowship_sha_constants)] }
def DeriveExpandsSaid : Prop := deriveExpandsRow.holds Tryd.pinned (OpenSpec.ofChange deriveExpandsSpec)

/-- ITS FALSE NEIGHBOUR: 'it returns false'. Refute it at one input. -/
def deriveExpandsWrong : ChangeSpec := { name := "deriveExpands", fn := fun _ => fun
  | [d1, d2, d3] => { results := [.lit (.bool false)], args := [d1, d2, d3] }
  | _ => none }
def DeriveExpandsWrongFalsely : Prop := deriveExpandsRow.holds Tryd.pinned (OpenSpec.ofChange deriveExpandsWrong)

/-- 'fellowshiplaw05.DeriveLabels': WHATEVER THE INPUT: true; the input reads as it did. -/
def deriveLabelsSpec : ChangeSpec := { name := "deriveLabels", fn := fun _ => fun
  | [d1, d2, d3] => { results := [.lit (.bool true)], args := [d1, d2, d3] }
  | _ => none }
def deriveLabelsRow : OpenClaim := { program := "ytildbbihjaaloaadoor", sum := "60619dce1cfc0e05f297a770a140dae6831b48ab970e0478eeb7e68b87d19708", func := "fellowship/fellowshiplaw05.DeriveLabels", spec := "deriveLabels", inPlace := ["internal/reflectlite.TypeOf"], unfollowed := true, recurses := true, named := ["fellowship/api.ErrRange", "fellowship/api.ErrLong", "fellowship/sha.constants", "fellowship/api.ErrShort", "fellowship/api.ErrForm", "fellowship/api.ErrKey", "fellowship/api.ErrSign", "fellowship/api.ErrSeal", "fellowship/api.ErrEpoch", "fellowship/api.ErrGroup", "fellowship/api.ErrSender", "fellowship/api.ErrLeaf", "fellowship/api.ErrOffer", "fellowship/api.ErrPath", "fellowship/api.ErrTag", "fellowship/api.ErrNone", "fellowship/api.ErrRemoved", "fellowship/api.ErrFull", "fellowship/api.ErrState", "fellowship/api.ErrTwice"], apart := false, laid := [("fellowship/api.ErrRange", laid_fellowship_api_ErrRange), ("fellowship/api.ErrShort", laid_fellowship_api_ErrShort), ("fellowship/api.ErrLong", laid_fellowship_api_ErrLong), ("fellowship/api.ErrForm", laid_fellowship_api_ErrForm), ("fellowship/api.ErrKey", laid_fellowship_api_ErrKey), ("fellowship/api.ErrSign", laid_fellowship_api_ErrSign), ("fellowship/api.ErrSeal", laid_fellowship_api_ErrSeal), ("fellowship/api.ErrEpoch", laid_fellowship_api_ErrEpoch), ("fellowship/api.ErrGroup", laid_fellowship_api_ErrGroup), ("fellowship/api.ErrSender", laid_fellowship_api_ErrSender), ("fellowship/api.ErrLeaf", laid_fellowship_api_ErrLeaf), ("fellowship/api.ErrOffer", laid_fellowship_api_ErrOffer), ("fellowship/api.ErrPath", laid_fellowship_api_ErrPath), ("fellowship/api.ErrTag", laid_fellowship_api_ErrTag), ("fellowship/api.ErrNone", laid_fellowship_api_ErrNone), ("fellowship/api.ErrRemoved", laid_fellowship_api_ErrRemoved), ("fellowship/api.ErrFull", laid_fellowship_api_ErrFull), ("fellowship/api.ErrState", laid_fellowship_api_ErrState), ("fellowship/api.ErrTwice", laid_fellowship_api_ErrTwice), ("fellowship/sha.constants", laid_fellowship_sha_constants)] }
def DeriveLabelsSaid : Prop := deriveLabelsRow.holds Tryd.pinned (OpenSpec.ofChange deriveLabelsSpec)

/-- ITS FALSE NEIGHBOUR: 'it returns false'. Refute it at one input. -/
def deriveLabelsWrong : ChangeSpec := { name := "deriveLabels", fn := fun _ => fun
  | [d1, d2, d3] => { results := [.lit (.bool false)], args := [d1, d2, d3] }
  | _ => none }
def DeriveLabelsWrongFalsely : Prop := deriveLabelsRow.holds Tryd.pinned (OpenSpec.ofChange deriveLabelsWrong)

/- THE SECOND FORM. 'bulk': how many values and letters a reading holds, each counted each time it is reached (what is shared counts as often as it is met; a slice's spare places count too). A statement '..UptoSaid' is the law's where the arguments, and the package variables that the reading takes, are together of bulk at most 1048576: NARROWER than '..Said'. Prove '..Said' where nothing that the law and all that it calls make is longer than what came in: it says more and counts as full. Else prove '..UptoSaid'. A law counts once. -/
mutual
def uptoBulk {H : Type} : DataW H → Nat
  | .lit (.string bytes) => bytes.length + 1
  | .lit _ => 1
  | .nil => 1
  | .ptr d => uptoBulk d + 1
  | .slice elems spare => uptoBulkAll elems + uptoBulkAll spare + 1
  | .agg parts => uptoBulkAll parts + 1
  | .iface _ d => uptoBulk d + 1
  | .map entries => uptoBulkEntries entries + 1
  | .held _ => 1
def uptoBulkAll {H : Type} : List (DataW H) → Nat
  | [] => 0
  | d :: r => uptoBulk d + uptoBulkAll r
def uptoBulkEntries {H : Type} : List (Lit × DataW H) → Nat
  | [] => 0
  | x :: r => uptoBulkEntry x + uptoBulkEntries r
def uptoBulkEntry {H : Type} : Lit × DataW H → Nat
  | (.string bytes, d) => bytes.length + uptoBulk d + 1
  | (_, d) => uptoBulk d + 1
 end
def uptoSmall : (H : Type) → List (DataW H) → Bool := fun _ ds => decide (uptoBulkAll ds ≤ 1048576)
def OpenSpec.upto (s : _root_.Go.ChangeSpec) : _root_.Go.OpenSpec := { _root_.Go.OpenSpec.ofChange s with cond := some uptoSmall }

/-- 'fellowshiplaw02.ShaSums', WHERE WHAT IT READS IS OF BULK AT MOST 1048576: true; the input reads as it did. -/
def shaSumsUptoRow : OpenClaim := { program := "ytildbbihjaaloaadoor", sum := "60619dce1cfc0e05f297a770a140dae6831b48ab970e0478eeb7e68b87d19708", func := "fellowship/fellowshiplaw02.ShaSums", spec := "shaSums", named := ["fellowship/sha.constants", "fellowship/api.ErrRange"], apart := false, laid := [("fellowship/api.ErrRange", laid_fellowship_api_ErrRange), ("fellowship/sha.constants", laid_fellowship_sha_constants)], narrowed := true }
def ShaSumsUptoSaid : Prop := shaSumsUptoRow.holds Tryd.pinned (OpenSpec.upto shaSumsSpec)

/-- 'fellowshiplaw02.ShaPieces', WHERE WHAT IT READS IS OF BULK AT MOST 1048576: true; the input reads as it did. -/
def shaPiecesUptoRow : OpenClaim := { program := "ytildbbihjaaloaadoor", sum := "60619dce1cfc0e05f297a770a140dae6831b48ab970e0478eeb7e68b87d19708", func := "fellowship/fellowshiplaw02.ShaPieces", spec := "shaPieces", named := ["fellowship/sha.constants", "fellowship/api.ErrRange"], apart := false, laid := [("fellowship/api.ErrRange", laid_fellowship_api_ErrRange), ("fellowship/sha.constants", laid_fellowship_sha_constants)], narrowed := true }
def ShaPiecesUptoSaid : Prop := shaPiecesUptoRow.holds Tryd.pinned (OpenSpec.upto shaPiecesSpec)

/-- 'fellowshiplaw02.ShaEnds', WHERE WHAT IT READS IS OF BULK AT MOST 1048576: true; the input reads as it did. -/
def shaEndsUptoRow : OpenClaim := { program := "ytildbbihjaaloaadoor", sum := "60619dce1cfc0e05f297a770a140dae6831b48ab970e0478eeb7e68b87d19708", func := "fellowship/fellowshiplaw02.ShaEnds", spec := "shaEnds", named := ["fellowship/sha.constants", "fellowship/api.ErrRange"], apart := false, laid := [("fellowship/api.ErrRange", laid_fellowship_api_ErrRange), ("fellowship/sha.constants", laid_fellowship_sha_constants)], narrowed := true }
def ShaEndsUptoSaid : Prop := shaEndsUptoRow.holds Tryd.pinned (OpenSpec.upto shaEndsSpec)

/-- 'fellowshiplaw03.ShawideSums', WHERE WHAT IT READS IS OF BULK AT MOST 1048576: true; the input reads as it did. -/
def shawideSumsUptoRow : OpenClaim := { program := "ytildbbihjaaloaadoor", sum := "60619dce1cfc0e05f297a770a140dae6831b48ab970e0478eeb7e68b87d19708", func := "fellowship/fellowshiplaw03.ShawideSums", spec := "shawideSums", unfollowed := true, recurses := true, named := ["fellowship/shawide.constants"], apart := false, laid := [("fellowship/shawide.constants", laid_fellowship_shawide_constants)], narrowed := true }
def ShawideSumsUptoSaid : Prop := shawideSumsUptoRow.holds Tryd.pinned (OpenSpec.upto shawideSumsSpec)

/-- 'fellowshiplaw03.ShawideParts', WHERE WHAT IT READS IS OF BULK AT MOST 1048576: true; the input reads as it did. -/
def shawidePartsUptoRow : OpenClaim := { program := "ytildbbihjaaloaadoor", sum := "60619dce1cfc0e05f297a770a140dae6831b48ab970e0478eeb7e68b87d19708", func := "fellowship/fellowshiplaw03.ShawideParts", spec := "shawideParts", unfollowed := true, recurses := true, named := ["fellowship/shawide.constants"], apart := false, laid := [("fellowship/shawide.constants", laid_fellowship_shawide_constants)], narrowed := true }
def ShawidePartsUptoSaid : Prop := shawidePartsUptoRow.holds Tryd.pinned (OpenSpec.upto shawidePartsSpec)

/-- 'fellowshiplaw03.ShawideBlocks', WHERE WHAT IT READS IS OF BULK AT MOST 1048576: true; the input reads as it did. -/
def shawideBlocksUptoRow : OpenClaim := { program := "ytildbbihjaaloaadoor", sum := "60619dce1cfc0e05f297a770a140dae6831b48ab970e0478eeb7e68b87d19708", func := "fellowship/fellowshiplaw03.ShawideBlocks", spec := "shawideBlocks", inPlace := ["internal/reflectlite.TypeOf"], unfollowed := true, recurses := true, named := ["fellowship/shawide.constants", "fellowship/api.ErrRange", "fellowship/api.ErrShort", "fellowship/api.ErrLong", "fellowship/api.ErrForm", "fellowship/api.ErrKey", "fellowship/api.ErrSign", "fellowship/api.ErrSeal", "fellowship/api.ErrEpoch", "fellowship/api.ErrGroup", "fellowship/api.ErrSender", "fellowship/api.ErrLeaf", "fellowship/api.ErrOffer", "fellowship/api.ErrPath", "fellowship/api.ErrTag", "fellowship/api.ErrNone", "fellowship/api.ErrRemoved", "fellowship/api.ErrFull", "fellowship/api.ErrState", "fellowship/api.ErrTwice"], apart := false, laid := [("fellowship/api.ErrRange", laid_fellowship_api_ErrRange), ("fellowship/api.ErrShort", laid_fellowship_api_ErrShort), ("fellowship/api.ErrLong", laid_fellowship_api_ErrLong), ("fellowship/api.ErrForm", laid_fellowship_api_ErrForm), ("fellowship/api.ErrKey", laid_fellowship_api_ErrKey), ("fellowship/api.ErrSign", laid_fellowship_api_ErrSign), ("fellowship/api.ErrSeal", laid_fellowship_api_ErrSeal), ("fellowship/api.ErrEpoch", laid_fellowship_api_ErrEpoch), ("fellowship/api.ErrGroup", laid_fellowship_api_ErrGroup), ("fellowship/api.ErrSender", laid_fellowship_api_ErrSender), ("fellowship/api.ErrLeaf", laid_fellowship_api_ErrLeaf), ("fellowship/api.ErrOffer", laid_fellowship_api_ErrOffer), ("fellowship/api.ErrPath", laid_fellowship_api_ErrPath), ("fellowship/api.ErrTag", laid_fellowship_api_ErrTag), ("fellowship/api.ErrNone", laid_fellowship_api_ErrNone), ("fellowship/api.ErrRemoved", laid_fellowship_api_ErrRemoved), ("fellowship/api.ErrFull", laid_fellowship_api_ErrFull), ("fellowship/api.ErrState", laid_fellowship_api_ErrState), ("fellowship/api.ErrTwice", laid_fellowship_api_ErrTwice), ("fellowship/shawide.constants", laid_fellowship_shawide_constants)], narrowed := true }
def ShawideBlocksUptoSaid : Prop := shawideBlocksUptoRow.holds Tryd.pinned (OpenSpec.upto shawideBlocksSpec)

/-- 'fellowshiplaw04.MacSums', WHERE WHAT IT READS IS OF BULK AT MOST 1048576: true; the input reads as it did. -/
def macSumsUptoRow : OpenClaim := { program := "ytildbbihjaaloaadoor", sum := "60619dce1cfc0e05f297a770a140dae6831b48ab970e0478eeb7e68b87d19708", func := "fellowship/fellowshiplaw04.MacSums", spec := "macSums", named := ["fellowship/sha.constants", "fellowship/api.ErrRange"], apart := false, laid := [("fellowship/api.ErrRange", laid_fellowship_api_ErrRange), ("fellowship/sha.constants", laid_fellowship_sha_constants)], narrowed := true }
def MacSumsUptoSaid : Prop := macSumsUptoRow.holds Tryd.pinned (OpenSpec.upto macSumsSpec)

/-- 'fellowshiplaw04.MacKeys', WHERE WHAT IT READS IS OF BULK AT MOST 1048576: true; the input reads as it did. -/
def macKeysUptoRow : OpenClaim := { program := "ytildbbihjaaloaadoor", sum := "60619dce1cfc0e05f297a770a140dae6831b48ab970e0478eeb7e68b87d19708", func := "fellowship/fellowshiplaw04.MacKeys", spec := "macKeys", named := ["fellowship/sha.constants", "fellowship/api.ErrRange"], apart := false, laid := [("fellowship/api.ErrRange", laid_fellowship_api_ErrRange), ("fellowship/sha.constants", laid_fellowship_sha_constants)], narrowed := true }
def MacKeysUptoSaid : Prop := macKeysUptoRow.holds Tryd.pinned (OpenSpec.upto macKeysSpec)

/-- 'fellowshiplaw04.MacRight', WHERE WHAT IT READS IS OF BULK AT MOST 1048576: true; the input reads as it did. -/
def macRightUptoRow : OpenClaim := { program := "ytildbbihjaaloaadoor", sum := "60619dce1cfc0e05f297a770a140dae6831b48ab970e0478eeb7e68b87d19708", func := "fellowship/fellowshiplaw04.MacRight", spec := "macRight", named := ["fellowship/sha.constants", "fellowship/api.ErrRange"], apart := false, laid := [("fellowship/api.ErrRange", laid_fellowship_api_ErrRange), ("fellowship/sha.constants", laid_fellowship_sha_constants)], narrowed := true }
def MacRightUptoSaid : Prop := macRightUptoRow.holds Tryd.pinned (OpenSpec.upto macRightSpec)

/-- 'fellowshiplaw05.DeriveUnlike', WHERE WHAT IT READS IS OF BULK AT MOST 1048576: true; the input reads as it did. -/
def deriveUnlikeUptoRow : OpenClaim := { program := "ytildbbihjaaloaadoor", sum := "60619dce1cfc0e05f297a770a140dae6831b48ab970e0478eeb7e68b87d19708", func := "fellowship/fellowshiplaw05.DeriveUnlike", spec := "deriveUnlike", named := ["fellowship/api.ErrRange", "fellowship/api.ErrLong", "fellowship/sha.constants"], apart := false, laid := [("fellowship/api.ErrRange", laid_fellowship_api_ErrRange), ("fellowship/api.ErrLong", laid_fellowship_api_ErrLong), ("fellowship/sha.constants", laid_fellowship_sha_constants)], narrowed := true }
def DeriveUnlikeUptoSaid : Prop := deriveUnlikeUptoRow.holds Tryd.pinned (OpenSpec.upto deriveUnlikeSpec)

/-- 'fellowshiplaw05.DeriveExpands', WHERE WHAT IT READS IS OF BULK AT MOST 1048576: true; the input reads as it did. -/
def deriveExpandsUptoRow : OpenClaim := { program := "ytildbbihjaaloaadoor", sum := "60619dce1cfc0e05f297a770a140dae6831b48ab970e0478eeb7e68b87d19708", func := "fellowship/fellowshiplaw05.DeriveExpands", spec := "deriveExpands", inPlace := ["internal/reflectlite.TypeOf"], unfollowed := true, recurses := true, named := ["fellowship/api.ErrRange", "fellowship/api.ErrLong", "fellowship/sha.constants", "fellowship/api.ErrShort", "fellowship/api.ErrForm", "fellowship/api.ErrKey", "fellowship/api.ErrSign", "fellowship/api.ErrSeal", "fellowship/api.ErrEpoch", "fellowship/api.ErrGroup", "fellowship/api.ErrSender", "fellowship/api.ErrLeaf", "fellowship/api.ErrOffer", "fellowship/api.ErrPath", "fellowship/api.ErrTag", "fellowship/api.ErrNone", "fellowship/api.ErrRemoved", "fellowship/api.ErrFull", "fellowship/api.ErrState", "fellowship/api.ErrTwice"], apart := false, laid := [("fellowship/api.ErrRange", laid_fellowship_api_ErrRange), ("fellowship/api.ErrShort", laid_fellowship_api_ErrShort), ("fellowship/api.ErrLong", laid_fellowship_api_ErrLong), ("fellowship/api.ErrForm", laid_fellowship_api_ErrForm), ("fellowship/api.ErrKey", laid_fellowship_api_ErrKey), ("fellowship/api.ErrSign", laid_fellowship_api_ErrSign), ("fellowship/api.ErrSeal", laid_fellowship_api_ErrSeal), ("fellowship/api.ErrEpoch", laid_fellowship_api_ErrEpoch), ("fellowship/api.ErrGroup", laid_fellowship_api_ErrGroup), ("fellowship/api.ErrSender", laid_fellowship_api_ErrSender), ("fellowship/api.ErrLeaf", laid_fellowship_api_ErrLeaf), ("fellowship/api.ErrOffer", laid_fellowship_api_ErrOffer), ("fellowship/api.ErrPath", laid_fellowship_api_ErrPath), ("fellowship/api.ErrTag", laid_fellowship_api_ErrTag), ("fellowship/api.ErrNone", laid_fellowship_api_ErrNone), ("fellowship/api.ErrRemoved", laid_fellowship_api_ErrRemoved), ("fellowship/api.ErrFull", laid_fellowship_api_ErrFull), ("fellowship/api.ErrState", laid_fellowship_api_ErrState), ("fellowship/api.ErrTwice", laid_fellowship_api_ErrTwice), ("fellowship/sha.constants", laid_fellowship_sha_constants)], narrowed := true }
def DeriveExpandsUptoSaid : Prop := deriveExpandsUptoRow.holds Tryd.pinned (OpenSpec.upto deriveExpandsSpec)

/-- 'fellowshiplaw05.DeriveLabels', WHERE WHAT IT READS IS OF BULK AT MOST 1048576: true; the input reads as it did. -/
def deriveLabelsUptoRow : OpenClaim := { program := "ytildbbihjaaloaadoor", sum := "60619dce1cfc0e05f297a770a140dae6831b48ab970e0478eeb7e68b87d19708", func := "fellowship/fellowshiplaw05.DeriveLabels", spec := "deriveLabels", inPlace := ["internal/reflectlite.TypeOf"], unfollowed := true, recurses := true, named := ["fellowship/api.ErrRange", "fellowship/api.ErrLong", "fellowship/sha.constants", "fellowship/api.ErrShort", "fellowship/api.ErrForm", "fellowship/api.ErrKey", "fellowship/api.ErrSign", "fellowship/api.ErrSeal", "fellowship/api.ErrEpoch", "fellowship/api.ErrGroup", "fellowship/api.ErrSender", "fellowship/api.ErrLeaf", "fellowship/api.ErrOffer", "fellowship/api.ErrPath", "fellowship/api.ErrTag", "fellowship/api.ErrNone", "fellowship/api.ErrRemoved", "fellowship/api.ErrFull", "fellowship/api.ErrState", "fellowship/api.ErrTwice"], apart := false, laid := [("fellowship/api.ErrRange", laid_fellowship_api_ErrRange), ("fellowship/api.ErrShort", laid_fellowship_api_ErrShort), ("fellowship/api.ErrLong", laid_fellowship_api_ErrLong), ("fellowship/api.ErrForm", laid_fellowship_api_ErrForm), ("fellowship/api.ErrKey", laid_fellowship_api_ErrKey), ("fellowship/api.ErrSign", laid_fellowship_api_ErrSign), ("fellowship/api.ErrSeal", laid_fellowship_api_ErrSeal), ("fellowship/api.ErrEpoch", laid_fellowship_api_ErrEpoch), ("fellowship/api.ErrGroup", laid_fellowship_api_ErrGroup), ("fellowship/api.ErrSender", laid_fellowship_api_ErrSender), ("fellowship/api.ErrLeaf", laid_fellowship_api_ErrLeaf), ("fellowship/api.ErrOffer", laid_fellowship_api_ErrOffer), ("fellowship/api.ErrPath", laid_fellowship_api_ErrPath), ("fellowship/api.ErrTag", laid_fellowship_api_ErrTag), ("fellowship/api.ErrNone", laid_fellowship_api_ErrNone), ("fellowship/api.ErrRemoved", laid_fellowship_api_ErrRemoved), ("fellowship/api.ErrFull", laid_fellowship_api_ErrFull), ("fellowship/api.ErrState", laid_fellowship_api_ErrState), ("fellowship/api.ErrTwice", laid_fellowship_api_ErrTwice), ("fellowship/sha.constants", laid_fellowship_sha_constants)], narrowed := true }
def DeriveLabelsUptoSaid : Prop := deriveLabelsUptoRow.holds Tryd.pinned (OpenSpec.upto deriveLabelsSpec)

end Rows
end Go.Proofs.YtildbbihjaaloaaDoor
