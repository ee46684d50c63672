/- What the types of this seat are. Printed by facts.py (own work). -/
import Derived.Test.YtjkijjellghlhaaDoorVmTac
import Derived.Test.YtjkijjellghlhaaDoorProg
namespace Go.Proofs.YtjkijjellghlhaaDoor
open Go Go.Vm Go.Proofs
theorem sz1 : szOf Tryd.prog 1 = some 1 := by kernel_rfl
theorem ag1 : isAggT Tryd.prog 1 = some false := by kernel_rfl
theorem zc1 : zeroC Tryd.prog 1 = some [.nfn] := by kernel_rfl
theorem npl1 : placesT Tryd.prog 1 = none := by kernel_rfl
theorem nar1 : arrT Tryd.prog 1 = none := by kernel_rfl
theorem nel1 : elemT Tryd.prog 1 = none := by kernel_rfl
theorem sz2 : szOf Tryd.prog 2 = some 1 := by kernel_rfl
theorem ag2 : isAggT Tryd.prog 2 = some false := by kernel_rfl
theorem zc2 : zeroC Tryd.prog 2 = some [.int .i64 0] := by kernel_rfl
theorem npl2 : placesT Tryd.prog 2 = none := by kernel_rfl
theorem un2 : Tryd.prog.underlying 2 = some (.int .i64) := by kernel_rfl
theorem nar2 : arrT Tryd.prog 2 = none := by kernel_rfl
theorem nel2 : elemT Tryd.prog 2 = none := by kernel_rfl
theorem sz3 : szOf Tryd.prog 3 = some 1 := by kernel_rfl
theorem ag3 : isAggT Tryd.prog 3 = some false := by kernel_rfl
theorem zc3 : zeroC Tryd.prog 3 = some [.int .i64 0] := by kernel_rfl
theorem npl3 : placesT Tryd.prog 3 = none := by kernel_rfl
theorem un3 : Tryd.prog.underlying 3 = some (.int .i64) := by kernel_rfl
theorem nar3 : arrT Tryd.prog 3 = none := by kernel_rfl
theorem nel3 : elemT Tryd.prog 3 = none := by kernel_rfl
theorem sz4 : szOf Tryd.prog 4 = some 1 := by kernel_rfl
theorem ag4 : isAggT Tryd.prog 4 = some false := by kernel_rfl
theorem zc4 : zeroC Tryd.prog 4 = some [.bool false] := by kernel_rfl
theorem npl4 : placesT Tryd.prog 4 = none := by kernel_rfl
theorem un4 : Tryd.prog.underlying 4 = some .bool := by kernel_rfl
theorem nar4 : arrT Tryd.prog 4 = none := by kernel_rfl
theorem nel4 : elemT Tryd.prog 4 = none := by kernel_rfl
theorem sz5 : szOf Tryd.prog 5 = some 1 := by kernel_rfl
theorem by5 : byOf Tryd.prog 5 = some 1 := by kernel_rfl
theorem ag5 : isAggT Tryd.prog 5 = some false := by kernel_rfl
theorem zc5 : zeroC Tryd.prog 5 = some [.int .u8 0] := by kernel_rfl
theorem npl5 : placesT Tryd.prog 5 = none := by kernel_rfl
theorem un5 : Tryd.prog.underlying 5 = some (.int .u8) := by kernel_rfl
theorem nar5 : arrT Tryd.prog 5 = none := by kernel_rfl
theorem nel5 : elemT Tryd.prog 5 = none := by kernel_rfl
theorem sz6 : szOf Tryd.prog 6 = some 1 := by kernel_rfl
theorem ag6 : isAggT Tryd.prog 6 = some false := by kernel_rfl
theorem zc6 : zeroC Tryd.prog 6 = some [.int .u8 0] := by kernel_rfl
theorem npl6 : placesT Tryd.prog 6 = none := by kernel_rfl
theorem un6 : Tryd.prog.underlying 6 = some (.int .u8) := by kernel_rfl
theorem nar6 : arrT Tryd.prog 6 = none := by kernel_rfl
theorem nel6 : elemT Tryd.prog 6 = none := by kernel_rfl
theorem sz7 : szOf Tryd.prog 7 = some 4 := by kernel_rfl
theorem ag7 : isAggT Tryd.prog 7 = some true := by kernel_rfl
theorem zc7 : zeroC Tryd.prog 7 = some [.int .i64 0, .int .i64 0, .bool false, .int .u8 0] := by kernel_rfl
theorem pl7 : placesT Tryd.prog 7 = some [(0, 1), (1, 1), (2, 1), (3, 1)] := by kernel_rfl
theorem nar7 : arrT Tryd.prog 7 = none := by kernel_rfl
theorem nel7 : elemT Tryd.prog 7 = none := by kernel_rfl
theorem fo7_0 : fieldOT Tryd.prog 7 0 = some (0, 2) := by kernel_rfl
theorem fo7_1 : fieldOT Tryd.prog 7 1 = some (1, 3) := by kernel_rfl
theorem fo7_2 : fieldOT Tryd.prog 7 2 = some (2, 4) := by kernel_rfl
theorem fo7_3 : fieldOT Tryd.prog 7 3 = some (3, 6) := by kernel_rfl
theorem sz8 : szOf Tryd.prog 8 = some 4 := by kernel_rfl
theorem ag8 : isAggT Tryd.prog 8 = some true := by kernel_rfl
theorem zc8 : zeroC Tryd.prog 8 = some [.int .i64 0, .int .i64 0, .bool false, .int .u8 0] := by kernel_rfl
theorem pl8 : placesT Tryd.prog 8 = some [(0, 1), (1, 1), (2, 1), (3, 1)] := by kernel_rfl
theorem nar8 : arrT Tryd.prog 8 = none := by kernel_rfl
theorem nel8 : elemT Tryd.prog 8 = none := by kernel_rfl
theorem fo8_0 : fieldOT Tryd.prog 8 0 = some (0, 2) := by kernel_rfl
theorem fo8_1 : fieldOT Tryd.prog 8 1 = some (1, 3) := by kernel_rfl
theorem fo8_2 : fieldOT Tryd.prog 8 2 = some (2, 4) := by kernel_rfl
theorem fo8_3 : fieldOT Tryd.prog 8 3 = some (3, 6) := by kernel_rfl
theorem sz9 : szOf Tryd.prog 9 = some 1 := by kernel_rfl
theorem ag9 : isAggT Tryd.prog 9 = some false := by kernel_rfl
theorem zc9 : zeroC Tryd.prog 9 = some [.str ⟨#[]⟩] := by kernel_rfl
theorem npl9 : placesT Tryd.prog 9 = none := by kernel_rfl
theorem un9 : Tryd.prog.underlying 9 = some .string := by kernel_rfl
theorem nar9 : arrT Tryd.prog 9 = none := by kernel_rfl
theorem nel9 : elemT Tryd.prog 9 = none := by kernel_rfl
theorem sz10 : szOf Tryd.prog 10 = some 1 := by kernel_rfl
theorem ag10 : isAggT Tryd.prog 10 = some false := by kernel_rfl
theorem zc10 : zeroC Tryd.prog 10 = some [.str ⟨#[]⟩] := by kernel_rfl
theorem npl10 : placesT Tryd.prog 10 = none := by kernel_rfl
theorem un10 : Tryd.prog.underlying 10 = some .string := by kernel_rfl
theorem nar10 : arrT Tryd.prog 10 = none := by kernel_rfl
theorem nel10 : elemT Tryd.prog 10 = none := by kernel_rfl
theorem sz11 : szOf Tryd.prog 11 = some 1 := by kernel_rfl
theorem ag11 : isAggT Tryd.prog 11 = some false := by kernel_rfl
theorem zc11 : zeroC Tryd.prog 11 = some [.str ⟨#[]⟩] := by kernel_rfl
theorem npl11 : placesT Tryd.prog 11 = none := by kernel_rfl
theorem un11 : Tryd.prog.underlying 11 = some .string := by kernel_rfl
theorem nar11 : arrT Tryd.prog 11 = none := by kernel_rfl
theorem nel11 : elemT Tryd.prog 11 = none := by kernel_rfl
theorem sz12 : szOf Tryd.prog 12 = some 1 := by kernel_rfl
theorem ag12 : isAggT Tryd.prog 12 = some false := by kernel_rfl
theorem zc12 : zeroC Tryd.prog 12 = some [.int .u64 0] := by kernel_rfl
theorem npl12 : placesT Tryd.prog 12 = none := by kernel_rfl
theorem un12 : Tryd.prog.underlying 12 = some (.int .u64) := by kernel_rfl
theorem nar12 : arrT Tryd.prog 12 = none := by kernel_rfl
theorem nel12 : elemT Tryd.prog 12 = none := by kernel_rfl
theorem sz13 : szOf Tryd.prog 13 = some 2 := by kernel_rfl
theorem ag13 : isAggT Tryd.prog 13 = some true := by kernel_rfl
theorem zc13 : zeroC Tryd.prog 13 = some [.str ⟨#[]⟩, .int .u64 0] := by kernel_rfl
theorem pl13 : placesT Tryd.prog 13 = some [(0, 1), (1, 1)] := by kernel_rfl
theorem nar13 : arrT Tryd.prog 13 = none := by kernel_rfl
theorem nel13 : elemT Tryd.prog 13 = none := by kernel_rfl
theorem fo13_0 : fieldOT Tryd.prog 13 0 = some (0, 9) := by kernel_rfl
theorem fo13_1 : fieldOT Tryd.prog 13 1 = some (1, 12) := by kernel_rfl
theorem sz14 : szOf Tryd.prog 14 = some 2 := by kernel_rfl
theorem ag14 : isAggT Tryd.prog 14 = some true := by kernel_rfl
theorem zc14 : zeroC Tryd.prog 14 = some [.str ⟨#[]⟩, .int .u64 0] := by kernel_rfl
theorem pl14 : placesT Tryd.prog 14 = some [(0, 1), (1, 1)] := by kernel_rfl
theorem nar14 : arrT Tryd.prog 14 = none := by kernel_rfl
theorem nel14 : elemT Tryd.prog 14 = none := by kernel_rfl
theorem fo14_0 : fieldOT Tryd.prog 14 0 = some (0, 9) := by kernel_rfl
theorem fo14_1 : fieldOT Tryd.prog 14 1 = some (1, 12) := by kernel_rfl
theorem sz15 : szOf Tryd.prog 15 = some 1 := by kernel_rfl
theorem ag15 : isAggT Tryd.prog 15 = some false := by kernel_rfl
theorem zc15 : zeroC Tryd.prog 15 = some [.nptr] := by kernel_rfl
theorem npl15 : placesT Tryd.prog 15 = none := by kernel_rfl
theorem un15 : Tryd.prog.underlying 15 = some (.pointer 55) := by kernel_rfl
theorem nar15 : arrT Tryd.prog 15 = none := by kernel_rfl
theorem nel15 : elemT Tryd.prog 15 = none := by kernel_rfl
theorem sz16 : szOf Tryd.prog 16 = some 1 := by kernel_rfl
theorem ag16 : isAggT Tryd.prog 16 = some false := by kernel_rfl
theorem zc16 : zeroC Tryd.prog 16 = some [.nptr] := by kernel_rfl
theorem npl16 : placesT Tryd.prog 16 = none := by kernel_rfl
theorem un16 : Tryd.prog.underlying 16 = some (.pointer 58) := by kernel_rfl
theorem nar16 : arrT Tryd.prog 16 = none := by kernel_rfl
theorem nel16 : elemT Tryd.prog 16 = none := by kernel_rfl
theorem sz17 : szOf Tryd.prog 17 = some 1 := by kernel_rfl
theorem ag17 : isAggT Tryd.prog 17 = some false := by kernel_rfl
theorem zc17 : zeroC Tryd.prog 17 = some [.nptr] := by kernel_rfl
theorem npl17 : placesT Tryd.prog 17 = none := by kernel_rfl
theorem un17 : Tryd.prog.underlying 17 = some (.pointer 67) := by kernel_rfl
theorem nar17 : arrT Tryd.prog 17 = none := by kernel_rfl
theorem nel17 : elemT Tryd.prog 17 = none := by kernel_rfl
theorem sz18 : szOf Tryd.prog 18 = some 1 := by kernel_rfl
theorem ag18 : isAggT Tryd.prog 18 = some true := by kernel_rfl
theorem zc18 : zeroC Tryd.prog 18 = some [.nptr] := by kernel_rfl
theorem pl18 : placesT Tryd.prog 18 = some [(0, 1)] := by kernel_rfl
theorem nar18 : arrT Tryd.prog 18 = none := by kernel_rfl
theorem nel18 : elemT Tryd.prog 18 = none := by kernel_rfl
theorem fo18_0 : fieldOT Tryd.prog 18 0 = some (0, 17) := by kernel_rfl
theorem sz19 : szOf Tryd.prog 19 = some 1 := by kernel_rfl
theorem ag19 : isAggT Tryd.prog 19 = some true := by kernel_rfl
theorem zc19 : zeroC Tryd.prog 19 = some [.nptr] := by kernel_rfl
theorem pl19 : placesT Tryd.prog 19 = some [(0, 1)] := by kernel_rfl
theorem nar19 : arrT Tryd.prog 19 = none := by kernel_rfl
theorem nel19 : elemT Tryd.prog 19 = none := by kernel_rfl
theorem fo19_0 : fieldOT Tryd.prog 19 0 = some (0, 17) := by kernel_rfl
theorem sz20 : szOf Tryd.prog 20 = some 1 := by kernel_rfl
theorem ag20 : isAggT Tryd.prog 20 = some false := by kernel_rfl
theorem zc20 : zeroC Tryd.prog 20 = some [.nif] := by kernel_rfl
theorem npl20 : placesT Tryd.prog 20 = none := by kernel_rfl
theorem nar20 : arrT Tryd.prog 20 = none := by kernel_rfl
theorem nel20 : elemT Tryd.prog 20 = none := by kernel_rfl
theorem sz21 : szOf Tryd.prog 21 = some 1 := by kernel_rfl
theorem ag21 : isAggT Tryd.prog 21 = some false := by kernel_rfl
theorem zc21 : zeroC Tryd.prog 21 = some [.int .i32 0] := by kernel_rfl
theorem npl21 : placesT Tryd.prog 21 = none := by kernel_rfl
theorem un21 : Tryd.prog.underlying 21 = some (.int .i32) := by kernel_rfl
theorem nar21 : arrT Tryd.prog 21 = none := by kernel_rfl
theorem nel21 : elemT Tryd.prog 21 = none := by kernel_rfl
theorem sz22 : szOf Tryd.prog 22 = some 1 := by kernel_rfl
theorem by22 : byOf Tryd.prog 22 = some 24 := by kernel_rfl
theorem ag22 : isAggT Tryd.prog 22 = some false := by kernel_rfl
theorem zc22 : zeroC Tryd.prog 22 = some [.nsl] := by kernel_rfl
theorem npl22 : placesT Tryd.prog 22 = none := by kernel_rfl
theorem un22 : Tryd.prog.underlying 22 = some (.slice 5) := by kernel_rfl
theorem el22 : elemT Tryd.prog 22 = some 5 := by kernel_rfl
theorem ap22 : appT Tryd.prog 22 22 = some (1, 1) := by kernel_rfl
theorem nar22 : arrT Tryd.prog 22 = none := by kernel_rfl
theorem sz23 : szOf Tryd.prog 23 = some 1 := by kernel_rfl
theorem ag23 : isAggT Tryd.prog 23 = some false := by kernel_rfl
theorem zc23 : zeroC Tryd.prog 23 = some [.nfn] := by kernel_rfl
theorem npl23 : placesT Tryd.prog 23 = none := by kernel_rfl
theorem nar23 : arrT Tryd.prog 23 = none := by kernel_rfl
theorem nel23 : elemT Tryd.prog 23 = none := by kernel_rfl
theorem sz24 : szOf Tryd.prog 24 = some 1 := by kernel_rfl
theorem ag24 : isAggT Tryd.prog 24 = some false := by kernel_rfl
theorem zc24 : zeroC Tryd.prog 24 = some [.int .i64 0] := by kernel_rfl
theorem npl24 : placesT Tryd.prog 24 = none := by kernel_rfl
theorem un24 : Tryd.prog.underlying 24 = some (.int .i64) := by kernel_rfl
theorem nar24 : arrT Tryd.prog 24 = none := by kernel_rfl
theorem nel24 : elemT Tryd.prog 24 = none := by kernel_rfl
theorem sz26 : szOf Tryd.prog 26 = some 1 := by kernel_rfl
theorem ag26 : isAggT Tryd.prog 26 = some false := by kernel_rfl
theorem zc26 : zeroC Tryd.prog 26 = some [.nfn] := by kernel_rfl
theorem npl26 : placesT Tryd.prog 26 = none := by kernel_rfl
theorem nar26 : arrT Tryd.prog 26 = none := by kernel_rfl
theorem nel26 : elemT Tryd.prog 26 = none := by kernel_rfl
theorem sz28 : szOf Tryd.prog 28 = some 1 := by kernel_rfl
theorem ag28 : isAggT Tryd.prog 28 = some false := by kernel_rfl
theorem zc28 : zeroC Tryd.prog 28 = some [.nfn] := by kernel_rfl
theorem npl28 : placesT Tryd.prog 28 = none := by kernel_rfl
theorem nar28 : arrT Tryd.prog 28 = none := by kernel_rfl
theorem nel28 : elemT Tryd.prog 28 = none := by kernel_rfl
theorem sz29 : szOf Tryd.prog 29 = some 1 := by kernel_rfl
theorem ag29 : isAggT Tryd.prog 29 = some false := by kernel_rfl
theorem zc29 : zeroC Tryd.prog 29 = some [.nfn] := by kernel_rfl
theorem npl29 : placesT Tryd.prog 29 = none := by kernel_rfl
theorem nar29 : arrT Tryd.prog 29 = none := by kernel_rfl
theorem nel29 : elemT Tryd.prog 29 = none := by kernel_rfl
theorem sz30 : szOf Tryd.prog 30 = some 1 := by kernel_rfl
theorem ag30 : isAggT Tryd.prog 30 = some false := by kernel_rfl
theorem zc30 : zeroC Tryd.prog 30 = some [.nfn] := by kernel_rfl
theorem npl30 : placesT Tryd.prog 30 = none := by kernel_rfl
theorem nar30 : arrT Tryd.prog 30 = none := by kernel_rfl
theorem nel30 : elemT Tryd.prog 30 = none := by kernel_rfl
theorem sz31 : szOf Tryd.prog 31 = some 1 := by kernel_rfl
theorem ag31 : isAggT Tryd.prog 31 = some false := by kernel_rfl
theorem zc31 : zeroC Tryd.prog 31 = some [.nfn] := by kernel_rfl
theorem npl31 : placesT Tryd.prog 31 = none := by kernel_rfl
theorem nar31 : arrT Tryd.prog 31 = none := by kernel_rfl
theorem nel31 : elemT Tryd.prog 31 = none := by kernel_rfl
theorem sz33 : szOf Tryd.prog 33 = some 1 := by kernel_rfl
theorem ag33 : isAggT Tryd.prog 33 = some false := by kernel_rfl
theorem zc33 : zeroC Tryd.prog 33 = some [.nfn] := by kernel_rfl
theorem npl33 : placesT Tryd.prog 33 = none := by kernel_rfl
theorem nar33 : arrT Tryd.prog 33 = none := by kernel_rfl
theorem nel33 : elemT Tryd.prog 33 = none := by kernel_rfl
theorem sz34 : szOf Tryd.prog 34 = some 1 := by kernel_rfl
theorem ag34 : isAggT Tryd.prog 34 = some false := by kernel_rfl
theorem zc34 : zeroC Tryd.prog 34 = some [.nfn] := by kernel_rfl
theorem npl34 : placesT Tryd.prog 34 = none := by kernel_rfl
theorem nar34 : arrT Tryd.prog 34 = none := by kernel_rfl
theorem nel34 : elemT Tryd.prog 34 = none := by kernel_rfl
theorem sz35 : szOf Tryd.prog 35 = some 1 := by kernel_rfl
theorem ag35 : isAggT Tryd.prog 35 = some false := by kernel_rfl
theorem zc35 : zeroC Tryd.prog 35 = some [.nfn] := by kernel_rfl
theorem npl35 : placesT Tryd.prog 35 = none := by kernel_rfl
theorem nar35 : arrT Tryd.prog 35 = none := by kernel_rfl
theorem nel35 : elemT Tryd.prog 35 = none := by kernel_rfl
theorem sz36 : szOf Tryd.prog 36 = some 1 := by kernel_rfl
theorem ag36 : isAggT Tryd.prog 36 = some false := by kernel_rfl
theorem zc36 : zeroC Tryd.prog 36 = some [.nsl] := by kernel_rfl
theorem npl36 : placesT Tryd.prog 36 = none := by kernel_rfl
theorem un36 : Tryd.prog.underlying 36 = some (.slice 22) := by kernel_rfl
theorem el36 : elemT Tryd.prog 36 = some 22 := by kernel_rfl
theorem ap36 : appT Tryd.prog 36 36 = some (1, 24) := by kernel_rfl
theorem nar36 : arrT Tryd.prog 36 = none := by kernel_rfl
theorem sz38 : szOf Tryd.prog 38 = some 1 := by kernel_rfl
theorem ag38 : isAggT Tryd.prog 38 = some false := by kernel_rfl
theorem zc38 : zeroC Tryd.prog 38 = some [.nfn] := by kernel_rfl
theorem npl38 : placesT Tryd.prog 38 = none := by kernel_rfl
theorem nar38 : arrT Tryd.prog 38 = none := by kernel_rfl
theorem nel38 : elemT Tryd.prog 38 = none := by kernel_rfl
theorem sz39 : szOf Tryd.prog 39 = some 1 := by kernel_rfl
theorem ag39 : isAggT Tryd.prog 39 = some false := by kernel_rfl
theorem zc39 : zeroC Tryd.prog 39 = some [.nfn] := by kernel_rfl
theorem npl39 : placesT Tryd.prog 39 = none := by kernel_rfl
theorem nar39 : arrT Tryd.prog 39 = none := by kernel_rfl
theorem nel39 : elemT Tryd.prog 39 = none := by kernel_rfl
theorem sz40 : szOf Tryd.prog 40 = some 1 := by kernel_rfl
theorem ag40 : isAggT Tryd.prog 40 = some false := by kernel_rfl
theorem zc40 : zeroC Tryd.prog 40 = some [.nfn] := by kernel_rfl
theorem npl40 : placesT Tryd.prog 40 = none := by kernel_rfl
theorem nar40 : arrT Tryd.prog 40 = none := by kernel_rfl
theorem nel40 : elemT Tryd.prog 40 = none := by kernel_rfl
theorem sz41 : szOf Tryd.prog 41 = some 4 := by kernel_rfl
theorem ag41 : isAggT Tryd.prog 41 = some true := by kernel_rfl
theorem zc41 : zeroC Tryd.prog 41 = some [.int .u8 0, .int .u8 0, .int .u8 0, .int .u8 0] := by kernel_rfl
theorem npl41 : placesT Tryd.prog 41 = none := by kernel_rfl
theorem un41 : Tryd.prog.underlying 41 = some (.array 4 5) := by kernel_rfl
theorem ar41 : arrT Tryd.prog 41 = some (4, 5) := by kernel_rfl
theorem nel41 : elemT Tryd.prog 41 = none := by kernel_rfl
theorem sz42 : szOf Tryd.prog 42 = some 1 := by kernel_rfl
theorem ag42 : isAggT Tryd.prog 42 = some false := by kernel_rfl
theorem zc42 : zeroC Tryd.prog 42 = some [.nfn] := by kernel_rfl
theorem npl42 : placesT Tryd.prog 42 = none := by kernel_rfl
theorem nar42 : arrT Tryd.prog 42 = none := by kernel_rfl
theorem nel42 : elemT Tryd.prog 42 = none := by kernel_rfl
theorem sz43 : szOf Tryd.prog 43 = some 1 := by kernel_rfl
theorem ag43 : isAggT Tryd.prog 43 = some false := by kernel_rfl
theorem zc43 : zeroC Tryd.prog 43 = some [.nfn] := by kernel_rfl
theorem npl43 : placesT Tryd.prog 43 = none := by kernel_rfl
theorem nar43 : arrT Tryd.prog 43 = none := by kernel_rfl
theorem nel43 : elemT Tryd.prog 43 = none := by kernel_rfl
theorem sz44 : szOf Tryd.prog 44 = some 1 := by kernel_rfl
theorem ag44 : isAggT Tryd.prog 44 = some false := by kernel_rfl
theorem zc44 : zeroC Tryd.prog 44 = some [.nfn] := by kernel_rfl
theorem npl44 : placesT Tryd.prog 44 = none := by kernel_rfl
theorem nar44 : arrT Tryd.prog 44 = none := by kernel_rfl
theorem nel44 : elemT Tryd.prog 44 = none := by kernel_rfl
theorem sz45 : szOf Tryd.prog 45 = some 1 := by kernel_rfl
theorem ag45 : isAggT Tryd.prog 45 = some false := by kernel_rfl
theorem zc45 : zeroC Tryd.prog 45 = some [.nfn] := by kernel_rfl
theorem npl45 : placesT Tryd.prog 45 = none := by kernel_rfl
theorem nar45 : arrT Tryd.prog 45 = none := by kernel_rfl
theorem nel45 : elemT Tryd.prog 45 = none := by kernel_rfl
theorem sz47 : szOf Tryd.prog 47 = some 1 := by kernel_rfl
theorem ag47 : isAggT Tryd.prog 47 = some false := by kernel_rfl
theorem zc47 : zeroC Tryd.prog 47 = some [.nfn] := by kernel_rfl
theorem npl47 : placesT Tryd.prog 47 = none := by kernel_rfl
theorem nar47 : arrT Tryd.prog 47 = none := by kernel_rfl
theorem nel47 : elemT Tryd.prog 47 = none := by kernel_rfl
theorem sz48 : szOf Tryd.prog 48 = some 1 := by kernel_rfl
theorem ag48 : isAggT Tryd.prog 48 = some false := by kernel_rfl
theorem zc48 : zeroC Tryd.prog 48 = some [.nfn] := by kernel_rfl
theorem npl48 : placesT Tryd.prog 48 = none := by kernel_rfl
theorem nar48 : arrT Tryd.prog 48 = none := by kernel_rfl
theorem nel48 : elemT Tryd.prog 48 = none := by kernel_rfl
theorem sz49 : szOf Tryd.prog 49 = some 1 := by kernel_rfl
theorem ag49 : isAggT Tryd.prog 49 = some false := by kernel_rfl
theorem zc49 : zeroC Tryd.prog 49 = some [.int .u64 0] := by kernel_rfl
theorem npl49 : placesT Tryd.prog 49 = none := by kernel_rfl
theorem un49 : Tryd.prog.underlying 49 = some (.int .u64) := by kernel_rfl
theorem nar49 : arrT Tryd.prog 49 = none := by kernel_rfl
theorem nel49 : elemT Tryd.prog 49 = none := by kernel_rfl
theorem sz50 : szOf Tryd.prog 50 = some 1 := by kernel_rfl
theorem ag50 : isAggT Tryd.prog 50 = some false := by kernel_rfl
theorem zc50 : zeroC Tryd.prog 50 = some [.int .u64 0] := by kernel_rfl
theorem npl50 : placesT Tryd.prog 50 = none := by kernel_rfl
theorem un50 : Tryd.prog.underlying 50 = some (.int .u64) := by kernel_rfl
theorem nar50 : arrT Tryd.prog 50 = none := by kernel_rfl
theorem nel50 : elemT Tryd.prog 50 = none := by kernel_rfl
theorem sz51 : szOf Tryd.prog 51 = some 1 := by kernel_rfl
theorem ag51 : isAggT Tryd.prog 51 = some false := by kernel_rfl
theorem zc51 : zeroC Tryd.prog 51 = some [.int .u32 0] := by kernel_rfl
theorem npl51 : placesT Tryd.prog 51 = none := by kernel_rfl
theorem un51 : Tryd.prog.underlying 51 = some (.int .u32) := by kernel_rfl
theorem nar51 : arrT Tryd.prog 51 = none := by kernel_rfl
theorem nel51 : elemT Tryd.prog 51 = none := by kernel_rfl
theorem sz52 : szOf Tryd.prog 52 = some 16 := by kernel_rfl
theorem ag52 : isAggT Tryd.prog 52 = some true := by kernel_rfl
theorem zc52 : zeroC Tryd.prog 52 = some [.int .u32 0, .int .u32 0, .int .u32 0, .int .u32 0, .int .u32 0, .int .u32 0, .int .u32 0, .int .u32 0, .int .u32 0, .int .u32 0, .int .u32 0, .int .u32 0, .int .u32 0, .int .u32 0, .int .u32 0, .int .u32 0] := by kernel_rfl
theorem npl52 : placesT Tryd.prog 52 = none := by kernel_rfl
theorem un52 : Tryd.prog.underlying 52 = some (.array 16 51) := by kernel_rfl
theorem ar52 : arrT Tryd.prog 52 = some (16, 51) := by kernel_rfl
theorem nel52 : elemT Tryd.prog 52 = none := by kernel_rfl
theorem sz53 : szOf Tryd.prog 53 = some 1 := by kernel_rfl
theorem ag53 : isAggT Tryd.prog 53 = some false := by kernel_rfl
theorem zc53 : zeroC Tryd.prog 53 = some [.nfn] := by kernel_rfl
theorem npl53 : placesT Tryd.prog 53 = none := by kernel_rfl
theorem nar53 : arrT Tryd.prog 53 = none := by kernel_rfl
theorem nel53 : elemT Tryd.prog 53 = none := by kernel_rfl
theorem sz54 : szOf Tryd.prog 54 = some 4 := by kernel_rfl
theorem ag54 : isAggT Tryd.prog 54 = some true := by kernel_rfl
theorem zc54 : zeroC Tryd.prog 54 = some [.nptr, .nptr, .nptr, .str ⟨#[]⟩] := by kernel_rfl
theorem pl54 : placesT Tryd.prog 54 = some [(0, 1), (1, 1), (2, 1), (3, 1)] := by kernel_rfl
theorem nar54 : arrT Tryd.prog 54 = none := by kernel_rfl
theorem nel54 : elemT Tryd.prog 54 = none := by kernel_rfl
theorem fo54_0 : fieldOT Tryd.prog 54 0 = some (0, 17) := by kernel_rfl
theorem fo54_1 : fieldOT Tryd.prog 54 1 = some (1, 17) := by kernel_rfl
theorem fo54_2 : fieldOT Tryd.prog 54 2 = some (2, 17) := by kernel_rfl
theorem fo54_3 : fieldOT Tryd.prog 54 3 = some (3, 9) := by kernel_rfl
theorem sz55 : szOf Tryd.prog 55 = some 4 := by kernel_rfl
theorem ag55 : isAggT Tryd.prog 55 = some true := by kernel_rfl
theorem zc55 : zeroC Tryd.prog 55 = some [.nptr, .nptr, .nptr, .str ⟨#[]⟩] := by kernel_rfl
theorem pl55 : placesT Tryd.prog 55 = some [(0, 1), (1, 1), (2, 1), (3, 1)] := by kernel_rfl
theorem nar55 : arrT Tryd.prog 55 = none := by kernel_rfl
theorem nel55 : elemT Tryd.prog 55 = none := by kernel_rfl
theorem fo55_0 : fieldOT Tryd.prog 55 0 = some (0, 17) := by kernel_rfl
theorem fo55_1 : fieldOT Tryd.prog 55 1 = some (1, 17) := by kernel_rfl
theorem fo55_2 : fieldOT Tryd.prog 55 2 = some (2, 17) := by kernel_rfl
theorem fo55_3 : fieldOT Tryd.prog 55 3 = some (3, 9) := by kernel_rfl
theorem sz56 : szOf Tryd.prog 56 = some 0 := by kernel_rfl
theorem ag56 : isAggT Tryd.prog 56 = some true := by kernel_rfl
theorem zc56 : zeroC Tryd.prog 56 = some [] := by kernel_rfl
theorem npl56 : placesT Tryd.prog 56 = none := by kernel_rfl
theorem un56 : Tryd.prog.underlying 56 = some (.array 0 16) := by kernel_rfl
theorem ar56 : arrT Tryd.prog 56 = some (0, 16) := by kernel_rfl
theorem nel56 : elemT Tryd.prog 56 = none := by kernel_rfl
theorem sz57 : szOf Tryd.prog 57 = some 0 := by kernel_rfl
theorem ag57 : isAggT Tryd.prog 57 = some true := by kernel_rfl
theorem zc57 : zeroC Tryd.prog 57 = some [] := by kernel_rfl
theorem pl57 : placesT Tryd.prog 57 = some [(0, 0)] := by kernel_rfl
theorem nar57 : arrT Tryd.prog 57 = none := by kernel_rfl
theorem nel57 : elemT Tryd.prog 57 = none := by kernel_rfl
theorem fo57_0 : fieldOT Tryd.prog 57 0 = some (0, 56) := by kernel_rfl
theorem sz58 : szOf Tryd.prog 58 = some 0 := by kernel_rfl
theorem ag58 : isAggT Tryd.prog 58 = some true := by kernel_rfl
theorem zc58 : zeroC Tryd.prog 58 = some [] := by kernel_rfl
theorem pl58 : placesT Tryd.prog 58 = some [(0, 0)] := by kernel_rfl
theorem nar58 : arrT Tryd.prog 58 = none := by kernel_rfl
theorem nel58 : elemT Tryd.prog 58 = none := by kernel_rfl
theorem fo58_0 : fieldOT Tryd.prog 58 0 = some (0, 56) := by kernel_rfl
theorem sz59 : szOf Tryd.prog 59 = some 1 := by kernel_rfl
theorem ag59 : isAggT Tryd.prog 59 = some false := by kernel_rfl
theorem zc59 : zeroC Tryd.prog 59 = some [.nfn] := by kernel_rfl
theorem npl59 : placesT Tryd.prog 59 = none := by kernel_rfl
theorem nar59 : arrT Tryd.prog 59 = none := by kernel_rfl
theorem nel59 : elemT Tryd.prog 59 = none := by kernel_rfl
theorem sz60 : szOf Tryd.prog 60 = some 1 := by kernel_rfl
theorem ag60 : isAggT Tryd.prog 60 = some false := by kernel_rfl
theorem zc60 : zeroC Tryd.prog 60 = some [.int .u8 0] := by kernel_rfl
theorem npl60 : placesT Tryd.prog 60 = none := by kernel_rfl
theorem un60 : Tryd.prog.underlying 60 = some (.int .u8) := by kernel_rfl
theorem nar60 : arrT Tryd.prog 60 = none := by kernel_rfl
theorem nel60 : elemT Tryd.prog 60 = none := by kernel_rfl
theorem sz61 : szOf Tryd.prog 61 = some 1 := by kernel_rfl
theorem ag61 : isAggT Tryd.prog 61 = some false := by kernel_rfl
theorem zc61 : zeroC Tryd.prog 61 = some [.int .u8 0] := by kernel_rfl
theorem npl61 : placesT Tryd.prog 61 = none := by kernel_rfl
theorem un61 : Tryd.prog.underlying 61 = some (.int .u8) := by kernel_rfl
theorem nar61 : arrT Tryd.prog 61 = none := by kernel_rfl
theorem nel61 : elemT Tryd.prog 61 = none := by kernel_rfl
theorem sz62 : szOf Tryd.prog 62 = some 1 := by kernel_rfl
theorem ag62 : isAggT Tryd.prog 62 = some false := by kernel_rfl
theorem zc62 : zeroC Tryd.prog 62 = some [.nfn] := by kernel_rfl
theorem npl62 : placesT Tryd.prog 62 = none := by kernel_rfl
theorem nar62 : arrT Tryd.prog 62 = none := by kernel_rfl
theorem nel62 : elemT Tryd.prog 62 = none := by kernel_rfl
theorem sz63 : szOf Tryd.prog 63 = some 1 := by kernel_rfl
theorem ag63 : isAggT Tryd.prog 63 = some false := by kernel_rfl
theorem zc63 : zeroC Tryd.prog 63 = some [.nptr] := by kernel_rfl
theorem npl63 : placesT Tryd.prog 63 = none := by kernel_rfl
theorem un63 : Tryd.prog.underlying 63 = some (.pointer 5) := by kernel_rfl
theorem nar63 : arrT Tryd.prog 63 = none := by kernel_rfl
theorem nel63 : elemT Tryd.prog 63 = none := by kernel_rfl
theorem sz64 : szOf Tryd.prog 64 = some 1 := by kernel_rfl
theorem ag64 : isAggT Tryd.prog 64 = some false := by kernel_rfl
theorem zc64 : zeroC Tryd.prog 64 = some [.int .i32 0] := by kernel_rfl
theorem npl64 : placesT Tryd.prog 64 = none := by kernel_rfl
theorem un64 : Tryd.prog.underlying 64 = some (.int .i32) := by kernel_rfl
theorem nar64 : arrT Tryd.prog 64 = none := by kernel_rfl
theorem nel64 : elemT Tryd.prog 64 = none := by kernel_rfl
theorem sz65 : szOf Tryd.prog 65 = some 1 := by kernel_rfl
theorem ag65 : isAggT Tryd.prog 65 = some false := by kernel_rfl
theorem zc65 : zeroC Tryd.prog 65 = some [.int .i32 0] := by kernel_rfl
theorem npl65 : placesT Tryd.prog 65 = none := by kernel_rfl
theorem un65 : Tryd.prog.underlying 65 = some (.int .i32) := by kernel_rfl
theorem nar65 : arrT Tryd.prog 65 = none := by kernel_rfl
theorem nel65 : elemT Tryd.prog 65 = none := by kernel_rfl
theorem sz66 : szOf Tryd.prog 66 = some 11 := by kernel_rfl
theorem ag66 : isAggT Tryd.prog 66 = some true := by kernel_rfl
theorem zc66 : zeroC Tryd.prog 66 = some [.int .u64 0, .int .u64 0, .int .u32 0, .int .u8 0, .int .u8 0, .int .u8 0, .int .u8 0, .nfn, .nptr, .int .i32 0, .int .i32 0] := by kernel_rfl
theorem pl66 : placesT Tryd.prog 66 = some [(0, 1), (1, 1), (2, 1), (3, 1), (4, 1), (5, 1), (6, 1), (7, 1), (8, 1), (9, 1), (10, 1)] := by kernel_rfl
theorem nar66 : arrT Tryd.prog 66 = none := by kernel_rfl
theorem nel66 : elemT Tryd.prog 66 = none := by kernel_rfl
theorem fo66_0 : fieldOT Tryd.prog 66 0 = some (0, 12) := by kernel_rfl
theorem fo66_1 : fieldOT Tryd.prog 66 1 = some (1, 12) := by kernel_rfl
theorem fo66_2 : fieldOT Tryd.prog 66 2 = some (2, 51) := by kernel_rfl
theorem fo66_3 : fieldOT Tryd.prog 66 3 = some (3, 60) := by kernel_rfl
theorem fo66_4 : fieldOT Tryd.prog 66 4 = some (4, 5) := by kernel_rfl
theorem fo66_5 : fieldOT Tryd.prog 66 5 = some (5, 5) := by kernel_rfl
theorem fo66_6 : fieldOT Tryd.prog 66 6 = some (6, 61) := by kernel_rfl
theorem fo66_7 : fieldOT Tryd.prog 66 7 = some (7, 62) := by kernel_rfl
theorem fo66_8 : fieldOT Tryd.prog 66 8 = some (8, 63) := by kernel_rfl
theorem fo66_9 : fieldOT Tryd.prog 66 9 = some (9, 64) := by kernel_rfl
theorem fo66_10 : fieldOT Tryd.prog 66 10 = some (10, 65) := by kernel_rfl
theorem sz67 : szOf Tryd.prog 67 = some 11 := by kernel_rfl
theorem ag67 : isAggT Tryd.prog 67 = some true := by kernel_rfl
theorem zc67 : zeroC Tryd.prog 67 = some [.int .u64 0, .int .u64 0, .int .u32 0, .int .u8 0, .int .u8 0, .int .u8 0, .int .u8 0, .nfn, .nptr, .int .i32 0, .int .i32 0] := by kernel_rfl
theorem pl67 : placesT Tryd.prog 67 = some [(0, 1), (1, 1), (2, 1), (3, 1), (4, 1), (5, 1), (6, 1), (7, 1), (8, 1), (9, 1), (10, 1)] := by kernel_rfl
theorem nar67 : arrT Tryd.prog 67 = none := by kernel_rfl
theorem nel67 : elemT Tryd.prog 67 = none := by kernel_rfl
theorem fo67_0 : fieldOT Tryd.prog 67 0 = some (0, 12) := by kernel_rfl
theorem fo67_1 : fieldOT Tryd.prog 67 1 = some (1, 12) := by kernel_rfl
theorem fo67_2 : fieldOT Tryd.prog 67 2 = some (2, 51) := by kernel_rfl
theorem fo67_3 : fieldOT Tryd.prog 67 3 = some (3, 60) := by kernel_rfl
theorem fo67_4 : fieldOT Tryd.prog 67 4 = some (4, 5) := by kernel_rfl
theorem fo67_5 : fieldOT Tryd.prog 67 5 = some (5, 5) := by kernel_rfl
theorem fo67_6 : fieldOT Tryd.prog 67 6 = some (6, 61) := by kernel_rfl
theorem fo67_7 : fieldOT Tryd.prog 67 7 = some (7, 62) := by kernel_rfl
theorem fo67_8 : fieldOT Tryd.prog 67 8 = some (8, 63) := by kernel_rfl
theorem fo67_9 : fieldOT Tryd.prog 67 9 = some (9, 64) := by kernel_rfl
theorem fo67_10 : fieldOT Tryd.prog 67 10 = some (10, 65) := by kernel_rfl
theorem mixed : Tryd.prog.follows .mixedOrders = true := by kernel_rfl
attribute [simp] sz1 ag1 zc1 npl1 nar1 nel1 sz2 ag2 zc2 npl2 un2 nar2 nel2 sz3 ag3 zc3 npl3 un3 nar3 nel3 sz4 ag4 zc4 npl4 un4 nar4 nel4 sz5 by5 ag5 zc5 npl5 un5 nar5 nel5 sz6 ag6 zc6 npl6 un6 nar6 nel6 sz7 ag7 zc7 pl7 nar7 nel7 fo7_0 fo7_1 fo7_2 fo7_3 sz8 ag8 zc8 pl8 nar8 nel8 fo8_0 fo8_1 fo8_2 fo8_3 sz9 ag9 zc9 npl9 un9 nar9 nel9 sz10 ag10 zc10 npl10 un10 nar10 nel10 sz11 ag11 zc11 npl11 un11 nar11 nel11 sz12 ag12 zc12 npl12 un12 nar12 nel12 sz13 ag13 zc13 pl13 nar13 nel13 fo13_0 fo13_1 sz14 ag14 zc14 pl14 nar14 nel14 fo14_0 fo14_1 sz15 ag15 zc15 npl15 un15 nar15 nel15 sz16 ag16 zc16 npl16 un16 nar16 nel16 sz17 ag17 zc17 npl17 un17 nar17 nel17 sz18 ag18 zc18 pl18 nar18 nel18 fo18_0 sz19 ag19 zc19 pl19 nar19 nel19 fo19_0 sz20 ag20 zc20 npl20 nar20 nel20 sz21 ag21 zc21 npl21 un21 nar21 nel21 sz22 by22 ag22 zc22 npl22 un22 el22 ap22 nar22 sz23 ag23 zc23 npl23 nar23 nel23 sz24 ag24 zc24 npl24 un24 nar24 nel24 sz26 ag26 zc26 npl26 nar26 nel26 sz28 ag28 zc28 npl28 nar28 nel28 sz29 ag29 zc29 npl29 nar29 nel29 sz30 ag30 zc30 npl30 nar30 nel30 sz31 ag31 zc31 npl31 nar31 nel31 sz33 ag33 zc33 npl33 nar33 nel33 sz34 ag34 zc34 npl34 nar34 nel34 sz35 ag35 zc35 npl35 nar35 nel35 sz36 ag36 zc36 npl36 un36 el36 ap36 nar36 sz38 ag38 zc38 npl38 nar38 nel38 sz39 ag39 zc39 npl39 nar39 nel39 sz40 ag40 zc40 npl40 nar40 nel40 sz41 ag41 zc41 npl41 un41 ar41 nel41 sz42 ag42 zc42 npl42 nar42 nel42 sz43 ag43 zc43 npl43 nar43 nel43 sz44 ag44 zc44 npl44 nar44 nel44 sz45 ag45 zc45 npl45 nar45 nel45 sz47 ag47 zc47 npl47 nar47 nel47 sz48 ag48 zc48 npl48 nar48 nel48 sz49 ag49 zc49 npl49 un49 nar49 nel49 sz50 ag50 zc50 npl50 un50 nar50 nel50 sz51 ag51 zc51 npl51 un51 nar51 nel51 sz52 ag52 zc52 npl52 un52 ar52 nel52 sz53 ag53 zc53 npl53 nar53 nel53 sz54 ag54 zc54 pl54 nar54 nel54 fo54_0 fo54_1 fo54_2 fo54_3 sz55 ag55 zc55 pl55 nar55 nel55 fo55_0 fo55_1 fo55_2 fo55_3 sz56 ag56 zc56 npl56 un56 ar56 nel56 sz57 ag57 zc57 pl57 nar57 nel57 fo57_0 sz58 ag58 zc58 pl58 nar58 nel58 fo58_0 sz59 ag59 zc59 npl59 nar59 nel59 sz60 ag60 zc60 npl60 un60 nar60 nel60 sz61 ag61 zc61 npl61 un61 nar61 nel61 sz62 ag62 zc62 npl62 nar62 nel62 sz63 ag63 zc63 npl63 un63 nar63 nel63 sz64 ag64 zc64 npl64 un64 nar64 nel64 sz65 ag65 zc65 npl65 un65 nar65 nel65 sz66 ag66 zc66 pl66 nar66 nel66 fo66_0 fo66_1 fo66_2 fo66_3 fo66_4 fo66_5 fo66_6 fo66_7 fo66_8 fo66_9 fo66_10 sz67 ag67 zc67 pl67 nar67 nel67 fo67_0 fo67_1 fo67_2 fo67_3 fo67_4 fo67_5 fo67_6 fo67_7 fo67_8 fo67_9 fo67_10
@[simp] theorem ei2 {σ : List (Option (List D))} {k : IntKind} {a b : Int} : eqD Tryd.prog σ 18 2 (.int k a) (.int k b) = some (a == b) := eqD_int18 un2 k a b
@[simp] theorem ei3 {σ : List (Option (List D))} {k : IntKind} {a b : Int} : eqD Tryd.prog σ 18 3 (.int k a) (.int k b) = some (a == b) := eqD_int18 un3 k a b
@[simp] theorem ei5 {σ : List (Option (List D))} {k : IntKind} {a b : Int} : eqD Tryd.prog σ 18 5 (.int k a) (.int k b) = some (a == b) := eqD_int18 un5 k a b
@[simp] theorem ei6 {σ : List (Option (List D))} {k : IntKind} {a b : Int} : eqD Tryd.prog σ 18 6 (.int k a) (.int k b) = some (a == b) := eqD_int18 un6 k a b
@[simp] theorem ei12 {σ : List (Option (List D))} {k : IntKind} {a b : Int} : eqD Tryd.prog σ 18 12 (.int k a) (.int k b) = some (a == b) := eqD_int18 un12 k a b
@[simp] theorem ei21 {σ : List (Option (List D))} {k : IntKind} {a b : Int} : eqD Tryd.prog σ 18 21 (.int k a) (.int k b) = some (a == b) := eqD_int18 un21 k a b
@[simp] theorem en22 {σ : List (Option (List D))} {f : Bool} {d : D} {cs : List D} {n : Nat} : eqD Tryd.prog σ 20 22 (.sl f (d :: cs) n) .nsl = some false := eqD_sl_nil un22 f d cs n
@[simp] theorem em22 {σ : List (Option (List D))} : eqD Tryd.prog σ 20 22 .nsl .nsl = some true := eqD_nil_nil un22
@[simp] theorem ei24 {σ : List (Option (List D))} {k : IntKind} {a b : Int} : eqD Tryd.prog σ 18 24 (.int k a) (.int k b) = some (a == b) := eqD_int18 un24 k a b
@[simp] theorem en36 {σ : List (Option (List D))} {f : Bool} {d : D} {cs : List D} {n : Nat} : eqD Tryd.prog σ 20 36 (.sl f (d :: cs) n) .nsl = some false := eqD_sl_nil un36 f d cs n
@[simp] theorem em36 {σ : List (Option (List D))} : eqD Tryd.prog σ 20 36 .nsl .nsl = some true := eqD_nil_nil un36
@[simp] theorem ei49 {σ : List (Option (List D))} {k : IntKind} {a b : Int} : eqD Tryd.prog σ 18 49 (.int k a) (.int k b) = some (a == b) := eqD_int18 un49 k a b
@[simp] theorem ei50 {σ : List (Option (List D))} {k : IntKind} {a b : Int} : eqD Tryd.prog σ 18 50 (.int k a) (.int k b) = some (a == b) := eqD_int18 un50 k a b
@[simp] theorem ei51 {σ : List (Option (List D))} {k : IntKind} {a b : Int} : eqD Tryd.prog σ 18 51 (.int k a) (.int k b) = some (a == b) := eqD_int18 un51 k a b
@[simp] theorem ei60 {σ : List (Option (List D))} {k : IntKind} {a b : Int} : eqD Tryd.prog σ 18 60 (.int k a) (.int k b) = some (a == b) := eqD_int18 un60 k a b
@[simp] theorem ei61 {σ : List (Option (List D))} {k : IntKind} {a b : Int} : eqD Tryd.prog σ 18 61 (.int k a) (.int k b) = some (a == b) := eqD_int18 un61 k a b
@[simp] theorem ei64 {σ : List (Option (List D))} {k : IntKind} {a b : Int} : eqD Tryd.prog σ 18 64 (.int k a) (.int k b) = some (a == b) := eqD_int18 un64 k a b
@[simp] theorem ei65 {σ : List (Option (List D))} {k : IntKind} {a b : Int} : eqD Tryd.prog σ 18 65 (.int k a) (.int k b) = some (a == b) := eqD_int18 un65 k a b
end Go.Proofs.YtjkijjellghlhaaDoor
