/-
  NARROWER THAN 'FOR EVERY INPUT', by the rows' own cells (each row's printed sentence says how): HMACIsRFC2104: laid · EdgesAreServed: laid.
  DERIVED. THE GIVEN ROWS OF THIS SEAT. 2 by the template 'for every input the law returns true; each argument reads behind the call as it read before'; 0 by the template 'total and deterministic' (their statements: Qxb6500863aDoorTotals.lean).
  GIVEN WITH THE SEED: the statements are not yours to turn. If you find one false, say at which input.
  Laid BY PROGRAM, IN A SANDBOX (cutbox-rows.mjs): the forced cells as the released guide's own fill.sh prints them over the translation 098989655ee3fe93… (all of the seat's roots in one cut). By AI agents, Wed Nov 11 2026. No macro, syntax, notation, axiom, sorry.
-/
import Derived.Test.Qxb6500863aDoorChecked
import GoSem.Claim
import GoSem.ClaimJoined
import GoSem.ClaimMapViews
import Derived.JoinedTies
import Derived.KernelRfl
namespace Go.Proofs.Qxb6500863aDoor
/- THE CELL 'sum', in the pinned program and in every row, IS THE sha256 OF THE DUMP (.gsa) THAT Qxb6500863aDoorProg.lean LOADS. Nothing in Lean hashes anything: it is a label: what it is worth is what the hold of that sum in a sandbox is worth. -/
noncomputable def Tryd.pinned : Pinned := { name := "qxb6500863adoor", sum := "098989655ee3fe9307bfca6cfc4ac660090aa6bc1d272700a0e8431b1d519285", checked := Tryd.checked }
namespace Rows
def none {H : Type} : Left H := { results := [], args := [] }

/- WHAT THE LISTED PACKAGE-LEVEL VARIABLES READ AS WHEN THE CALL BEGINS. Each datum BY PROGRAM (the guide's laid-datum.mjs) off the statement by which the dump's own 'gosem.cut.vars' lays the variable. In a bare row this is a premise. The card (Qxb6500863aDoorCards.lean) ties it to the program's text. -/
def laid_e2e_digestm_sines {H : Type} : DataW H := .agg [.lit (.int .u32 3614090360), .lit (.int .u32 3905402710), .lit (.int .u32 606105819), .lit (.int .u32 3250441966), .lit (.int .u32 4118548399), .lit (.int .u32 1200080426), .lit (.int .u32 2821735955), .lit (.int .u32 4249261313), .lit (.int .u32 1770035416), .lit (.int .u32 2336552879), .lit (.int .u32 4294925233), .lit (.int .u32 2304563134), .lit (.int .u32 1804603682), .lit (.int .u32 4254626195), .lit (.int .u32 2792965006), .lit (.int .u32 1236535329), .lit (.int .u32 4129170786), .lit (.int .u32 3225465664), .lit (.int .u32 643717713), .lit (.int .u32 3921069994), .lit (.int .u32 3593408605), .lit (.int .u32 38016083), .lit (.int .u32 3634488961), .lit (.int .u32 3889429448), .lit (.int .u32 568446438), .lit (.int .u32 3275163606), .lit (.int .u32 4107603335), .lit (.int .u32 1163531501), .lit (.int .u32 2850285829), .lit (.int .u32 4243563512), .lit (.int .u32 1735328473), .lit (.int .u32 2368359562), .lit (.int .u32 4294588738), .lit (.int .u32 2272392833), .lit (.int .u32 1839030562), .lit (.int .u32 4259657740), .lit (.int .u32 2763975236), .lit (.int .u32 1272893353), .lit (.int .u32 4139469664), .lit (.int .u32 3200236656), .lit (.int .u32 681279174), .lit (.int .u32 3936430074), .lit (.int .u32 3572445317), .lit (.int .u32 76029189), .lit (.int .u32 3654602809), .lit (.int .u32 3873151461), .lit (.int .u32 530742520), .lit (.int .u32 3299628645), .lit (.int .u32 4096336452), .lit (.int .u32 1126891415), .lit (.int .u32 2878612391), .lit (.int .u32 4237533241), .lit (.int .u32 1700485571), .lit (.int .u32 2399980690), .lit (.int .u32 4293915773), .lit (.int .u32 2240044497), .lit (.int .u32 1873313359), .lit (.int .u32 4264355552), .lit (.int .u32 2734768916), .lit (.int .u32 1309151649), .lit (.int .u32 4149444226), .lit (.int .u32 3174756917), .lit (.int .u32 718787259), .lit (.int .u32 3951481745)]
def laid_e2e_digestm_cubeRoots {H : Type} : DataW H := .agg [.lit (.int .u64 4794697086780616226), .lit (.int .u64 8158064640168781261), .lit (.int .u64 13096744586834688815), .lit (.int .u64 16840607885511220156), .lit (.int .u64 4131703408338449720), .lit (.int .u64 6480981068601479193), .lit (.int .u64 10538285296894168987), .lit (.int .u64 12329834152419229976), .lit (.int .u64 15566598209576043074), .lit (.int .u64 1334009975649890238), .lit (.int .u64 2608012711638119052), .lit (.int .u64 6128411473006802146), .lit (.int .u64 8268148722764581231), .lit (.int .u64 9286055187155687089), .lit (.int .u64 11230858885718282805), .lit (.int .u64 13951009754708518548), .lit (.int .u64 16472876342353939154), .lit (.int .u64 17275323862435702243), .lit (.int .u64 1135362057144423861), .lit (.int .u64 2597628984639134821), .lit (.int .u64 3308224258029322869), .lit (.int .u64 5365058923640841347), .lit (.int .u64 6679025012923562964), .lit (.int .u64 8573033837759648693), .lit (.int .u64 10970295158949994411), .lit (.int .u64 12119686244451234320), .lit (.int .u64 12683024718118986047), .lit (.int .u64 13788192230050041572), .lit (.int .u64 14330467153632333762), .lit (.int .u64 15395433587784984357), .lit (.int .u64 489312712824947311), .lit (.int .u64 1452737877330783856), .lit (.int .u64 2861767655752347644), .lit (.int .u64 3322285676063803686), .lit (.int .u64 5560940570517711597), .lit (.int .u64 5996557281743188959), .lit (.int .u64 7280758554555802590), .lit (.int .u64 8532644243296465576), .lit (.int .u64 9350256976987008742), .lit (.int .u64 10552545826968843579), .lit (.int .u64 11727347734174303076), .lit (.int .u64 12113106623233404929), .lit (.int .u64 14000437183269869457), .lit (.int .u64 14369950271660146224), .lit (.int .u64 15101387698204529176), .lit (.int .u64 15463397548674623760), .lit (.int .u64 17586052441742319658), .lit (.int .u64 1182934255886127544), .lit (.int .u64 1847814050463011016), .lit (.int .u64 2177327727835720531), .lit (.int .u64 2830643537854262169), .lit (.int .u64 3796741975233480872), .lit (.int .u64 4115178125766777443), .lit (.int .u64 5681478168544905931), .lit (.int .u64 6601373596472566643), .lit (.int .u64 7507060721942968483), .lit (.int .u64 8399075790359081724), .lit (.int .u64 8693463985226723168), .lit (.int .u64 9568029438360202098), .lit (.int .u64 10144078919501101548), .lit (.int .u64 10430055236837252648), .lit (.int .u64 11840083180663258601), .lit (.int .u64 13761210420658862357), .lit (.int .u64 14299343276471374635), .lit (.int .u64 14566680578165727644), .lit (.int .u64 15097957966210449927), .lit (.int .u64 16922976911328602910), .lit (.int .u64 17689382322260857208), .lit (.int .u64 500013540394364858), .lit (.int .u64 748580250866718886), .lit (.int .u64 1242879168328830382), .lit (.int .u64 1977374033974150939), .lit (.int .u64 2944078676154940804), .lit (.int .u64 3659926193048069267), .lit (.int .u64 4368137639120453308), .lit (.int .u64 4836135668995329356), .lit (.int .u64 5532061633213252278), .lit (.int .u64 6448918945643986474), .lit (.int .u64 6902733635092675308), .lit (.int .u64 7801388544844847127)]

/-- 'modeslaw.HMACIsRFC2104': WHATEVER THE INPUT: true; the input reads as it did. -/
def hMACIsRFC2104Spec : ChangeSpec := { name := "hMACIsRFC2104", fn := fun _ => fun
  | [d] => { results := [.lit (.bool true)], args := [d] }
  | _ => none }
def hMACIsRFC2104Row : OpenClaim := { program := "qxb6500863adoor", sum := "098989655ee3fe9307bfca6cfc4ac660090aa6bc1d272700a0e8431b1d519285", func := "e2e/modeslaw.HMACIsRFC2104", spec := "hMACIsRFC2104", unfollowed := true, recurses := true, named := ["e2e/digestm.sines", "e2e/digestm.cubeRoots"], apart := false, laid := [("e2e/digestm.sines", laid_e2e_digestm_sines), ("e2e/digestm.cubeRoots", laid_e2e_digestm_cubeRoots)] }
def HMACIsRFC2104Said : Prop := hMACIsRFC2104Row.holds Tryd.pinned (OpenSpec.ofChange hMACIsRFC2104Spec)

/-- ITS FALSE NEIGHBOUR: 'it returns false'. Refute it at one input. -/
def hMACIsRFC2104Wrong : ChangeSpec := { name := "hMACIsRFC2104", fn := fun _ => fun
  | [d] => { results := [.lit (.bool false)], args := [d] }
  | _ => none }
def HMACIsRFC2104WrongFalsely : Prop := hMACIsRFC2104Row.holds Tryd.pinned (OpenSpec.ofChange hMACIsRFC2104Wrong)

/-- 'modeslaw.EdgesAreServed': WHATEVER THE INPUT: true; the input reads as it did. -/
def edgesAreServedSpec : ChangeSpec := { name := "edgesAreServed", fn := fun _ => fun
  | [] => { results := [.lit (.bool true)], args := [] }
  | _ => none }
def edgesAreServedRow : OpenClaim := { program := "qxb6500863adoor", sum := "098989655ee3fe9307bfca6cfc4ac660090aa6bc1d272700a0e8431b1d519285", func := "e2e/modeslaw.EdgesAreServed", spec := "edgesAreServed", unfollowed := true, recurses := true, named := ["e2e/digestm.sines", "e2e/digestm.cubeRoots"], apart := false, laid := [("e2e/digestm.sines", laid_e2e_digestm_sines), ("e2e/digestm.cubeRoots", laid_e2e_digestm_cubeRoots)] }
def EdgesAreServedSaid : Prop := edgesAreServedRow.holds Tryd.pinned (OpenSpec.ofChange edgesAreServedSpec)

/-- ITS FALSE NEIGHBOUR: 'it returns false'. Refute it at one input. -/
def edgesAreServedWrong : ChangeSpec := { name := "edgesAreServed", fn := fun _ => fun
  | [] => { results := [.lit (.bool false)], args := [] }
  | _ => none }
def EdgesAreServedWrongFalsely : Prop := edgesAreServedRow.holds Tryd.pinned (OpenSpec.ofChange edgesAreServedWrong)

end Rows
end Go.Proofs.Qxb6500863aDoor
