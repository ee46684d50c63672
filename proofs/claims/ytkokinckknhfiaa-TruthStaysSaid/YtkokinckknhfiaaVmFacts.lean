/- What the types of this seat are. Printed by facts.py (own work). -/
import Derived.Test.YtkokinckknhfiaaVmTac
import Derived.Test.YtkokinckknhfiaaProg
namespace Go.Proofs.Ytkokinckknhfiaa
open Go Go.Vm Go.Proofs
theorem sz1 : szOf Try.prog 1 = some 1 := by kernel_rfl
theorem ag1 : isAggT Try.prog 1 = some false := by kernel_rfl
theorem zc1 : zeroC Try.prog 1 = some [.nfn] := by kernel_rfl
theorem npl1 : placesT Try.prog 1 = none := by kernel_rfl
theorem nar1 : arrT Try.prog 1 = none := by kernel_rfl
theorem nel1 : elemT Try.prog 1 = none := by kernel_rfl
theorem sz2 : szOf Try.prog 2 = some 1 := by kernel_rfl
theorem ag2 : isAggT Try.prog 2 = some false := by kernel_rfl
theorem zc2 : zeroC Try.prog 2 = some [.int .i64 0] := by kernel_rfl
theorem npl2 : placesT Try.prog 2 = none := by kernel_rfl
theorem un2 : Try.prog.underlying 2 = some (.int .i64) := by kernel_rfl
theorem nar2 : arrT Try.prog 2 = none := by kernel_rfl
theorem nel2 : elemT Try.prog 2 = none := by kernel_rfl
theorem sz3 : szOf Try.prog 3 = some 1 := by kernel_rfl
theorem ag3 : isAggT Try.prog 3 = some false := by kernel_rfl
theorem zc3 : zeroC Try.prog 3 = some [.int .i64 0] := by kernel_rfl
theorem npl3 : placesT Try.prog 3 = none := by kernel_rfl
theorem un3 : Try.prog.underlying 3 = some (.int .i64) := by kernel_rfl
theorem nar3 : arrT Try.prog 3 = none := by kernel_rfl
theorem nel3 : elemT Try.prog 3 = none := by kernel_rfl
theorem sz4 : szOf Try.prog 4 = some 1 := by kernel_rfl
theorem ag4 : isAggT Try.prog 4 = some false := by kernel_rfl
theorem zc4 : zeroC Try.prog 4 = some [.bool false] := by kernel_rfl
theorem npl4 : placesT Try.prog 4 = none := by kernel_rfl
theorem un4 : Try.prog.underlying 4 = some .bool := by kernel_rfl
theorem nar4 : arrT Try.prog 4 = none := by kernel_rfl
theorem nel4 : elemT Try.prog 4 = none := by kernel_rfl
theorem sz5 : szOf Try.prog 5 = some 1 := by kernel_rfl
theorem ag5 : isAggT Try.prog 5 = some false := by kernel_rfl
theorem zc5 : zeroC Try.prog 5 = some [.int .u8 0] := by kernel_rfl
theorem npl5 : placesT Try.prog 5 = none := by kernel_rfl
theorem un5 : Try.prog.underlying 5 = some (.int .u8) := by kernel_rfl
theorem nar5 : arrT Try.prog 5 = none := by kernel_rfl
theorem nel5 : elemT Try.prog 5 = none := by kernel_rfl
theorem sz6 : szOf Try.prog 6 = some 1 := by kernel_rfl
theorem ag6 : isAggT Try.prog 6 = some false := by kernel_rfl
theorem zc6 : zeroC Try.prog 6 = some [.int .u8 0] := by kernel_rfl
theorem npl6 : placesT Try.prog 6 = none := by kernel_rfl
theorem un6 : Try.prog.underlying 6 = some (.int .u8) := by kernel_rfl
theorem nar6 : arrT Try.prog 6 = none := by kernel_rfl
theorem nel6 : elemT Try.prog 6 = none := by kernel_rfl
theorem sz7 : szOf Try.prog 7 = some 4 := by kernel_rfl
theorem ag7 : isAggT Try.prog 7 = some true := by kernel_rfl
theorem zc7 : zeroC Try.prog 7 = some [.int .i64 0, .int .i64 0, .bool false, .int .u8 0] := by kernel_rfl
theorem pl7 : placesT Try.prog 7 = some [(0, 1), (1, 1), (2, 1), (3, 1)] := by kernel_rfl
theorem nar7 : arrT Try.prog 7 = none := by kernel_rfl
theorem nel7 : elemT Try.prog 7 = none := by kernel_rfl
theorem fo7_0 : fieldOT Try.prog 7 0 = some (0, 2) := by kernel_rfl
theorem fo7_1 : fieldOT Try.prog 7 1 = some (1, 3) := by kernel_rfl
theorem fo7_2 : fieldOT Try.prog 7 2 = some (2, 4) := by kernel_rfl
theorem fo7_3 : fieldOT Try.prog 7 3 = some (3, 6) := by kernel_rfl
theorem sz8 : szOf Try.prog 8 = some 4 := by kernel_rfl
theorem ag8 : isAggT Try.prog 8 = some true := by kernel_rfl
theorem zc8 : zeroC Try.prog 8 = some [.int .i64 0, .int .i64 0, .bool false, .int .u8 0] := by kernel_rfl
theorem pl8 : placesT Try.prog 8 = some [(0, 1), (1, 1), (2, 1), (3, 1)] := by kernel_rfl
theorem nar8 : arrT Try.prog 8 = none := by kernel_rfl
theorem nel8 : elemT Try.prog 8 = none := by kernel_rfl
theorem fo8_0 : fieldOT Try.prog 8 0 = some (0, 2) := by kernel_rfl
theorem fo8_1 : fieldOT Try.prog 8 1 = some (1, 3) := by kernel_rfl
theorem fo8_2 : fieldOT Try.prog 8 2 = some (2, 4) := by kernel_rfl
theorem fo8_3 : fieldOT Try.prog 8 3 = some (3, 6) := by kernel_rfl
theorem sz9 : szOf Try.prog 9 = some 1 := by kernel_rfl
theorem ag9 : isAggT Try.prog 9 = some false := by kernel_rfl
theorem zc9 : zeroC Try.prog 9 = some [.str ⟨#[]⟩] := by kernel_rfl
theorem npl9 : placesT Try.prog 9 = none := by kernel_rfl
theorem un9 : Try.prog.underlying 9 = some .string := by kernel_rfl
theorem nar9 : arrT Try.prog 9 = none := by kernel_rfl
theorem nel9 : elemT Try.prog 9 = none := by kernel_rfl
theorem sz10 : szOf Try.prog 10 = some 1 := by kernel_rfl
theorem ag10 : isAggT Try.prog 10 = some false := by kernel_rfl
theorem zc10 : zeroC Try.prog 10 = some [.str ⟨#[]⟩] := by kernel_rfl
theorem npl10 : placesT Try.prog 10 = none := by kernel_rfl
theorem un10 : Try.prog.underlying 10 = some .string := by kernel_rfl
theorem nar10 : arrT Try.prog 10 = none := by kernel_rfl
theorem nel10 : elemT Try.prog 10 = none := by kernel_rfl
theorem sz11 : szOf Try.prog 11 = some 1 := by kernel_rfl
theorem ag11 : isAggT Try.prog 11 = some false := by kernel_rfl
theorem zc11 : zeroC Try.prog 11 = some [.str ⟨#[]⟩] := by kernel_rfl
theorem npl11 : placesT Try.prog 11 = none := by kernel_rfl
theorem un11 : Try.prog.underlying 11 = some .string := by kernel_rfl
theorem nar11 : arrT Try.prog 11 = none := by kernel_rfl
theorem nel11 : elemT Try.prog 11 = none := by kernel_rfl
theorem sz12 : szOf Try.prog 12 = some 1 := by kernel_rfl
theorem ag12 : isAggT Try.prog 12 = some false := by kernel_rfl
theorem zc12 : zeroC Try.prog 12 = some [.int .u64 0] := by kernel_rfl
theorem npl12 : placesT Try.prog 12 = none := by kernel_rfl
theorem un12 : Try.prog.underlying 12 = some (.int .u64) := by kernel_rfl
theorem nar12 : arrT Try.prog 12 = none := by kernel_rfl
theorem nel12 : elemT Try.prog 12 = none := by kernel_rfl
theorem sz13 : szOf Try.prog 13 = some 2 := by kernel_rfl
theorem ag13 : isAggT Try.prog 13 = some true := by kernel_rfl
theorem zc13 : zeroC Try.prog 13 = some [.str ⟨#[]⟩, .int .u64 0] := by kernel_rfl
theorem pl13 : placesT Try.prog 13 = some [(0, 1), (1, 1)] := by kernel_rfl
theorem nar13 : arrT Try.prog 13 = none := by kernel_rfl
theorem nel13 : elemT Try.prog 13 = none := by kernel_rfl
theorem fo13_0 : fieldOT Try.prog 13 0 = some (0, 9) := by kernel_rfl
theorem fo13_1 : fieldOT Try.prog 13 1 = some (1, 12) := by kernel_rfl
theorem sz14 : szOf Try.prog 14 = some 2 := by kernel_rfl
theorem ag14 : isAggT Try.prog 14 = some true := by kernel_rfl
theorem zc14 : zeroC Try.prog 14 = some [.str ⟨#[]⟩, .int .u64 0] := by kernel_rfl
theorem pl14 : placesT Try.prog 14 = some [(0, 1), (1, 1)] := by kernel_rfl
theorem nar14 : arrT Try.prog 14 = none := by kernel_rfl
theorem nel14 : elemT Try.prog 14 = none := by kernel_rfl
theorem fo14_0 : fieldOT Try.prog 14 0 = some (0, 9) := by kernel_rfl
theorem fo14_1 : fieldOT Try.prog 14 1 = some (1, 12) := by kernel_rfl
theorem sz15 : szOf Try.prog 15 = some 1 := by kernel_rfl
theorem ag15 : isAggT Try.prog 15 = some false := by kernel_rfl
theorem zc15 : zeroC Try.prog 15 = some [.nptr] := by kernel_rfl
theorem npl15 : placesT Try.prog 15 = none := by kernel_rfl
theorem un15 : Try.prog.underlying 15 = some (.pointer 46) := by kernel_rfl
theorem nar15 : arrT Try.prog 15 = none := by kernel_rfl
theorem nel15 : elemT Try.prog 15 = none := by kernel_rfl
theorem sz16 : szOf Try.prog 16 = some 1 := by kernel_rfl
theorem ag16 : isAggT Try.prog 16 = some false := by kernel_rfl
theorem zc16 : zeroC Try.prog 16 = some [.nptr] := by kernel_rfl
theorem npl16 : placesT Try.prog 16 = none := by kernel_rfl
theorem un16 : Try.prog.underlying 16 = some (.pointer 49) := by kernel_rfl
theorem nar16 : arrT Try.prog 16 = none := by kernel_rfl
theorem nel16 : elemT Try.prog 16 = none := by kernel_rfl
theorem sz17 : szOf Try.prog 17 = some 1 := by kernel_rfl
theorem ag17 : isAggT Try.prog 17 = some false := by kernel_rfl
theorem zc17 : zeroC Try.prog 17 = some [.nptr] := by kernel_rfl
theorem npl17 : placesT Try.prog 17 = none := by kernel_rfl
theorem un17 : Try.prog.underlying 17 = some (.pointer 58) := by kernel_rfl
theorem nar17 : arrT Try.prog 17 = none := by kernel_rfl
theorem nel17 : elemT Try.prog 17 = none := by kernel_rfl
theorem sz18 : szOf Try.prog 18 = some 1 := by kernel_rfl
theorem ag18 : isAggT Try.prog 18 = some true := by kernel_rfl
theorem zc18 : zeroC Try.prog 18 = some [.nptr] := by kernel_rfl
theorem pl18 : placesT Try.prog 18 = some [(0, 1)] := by kernel_rfl
theorem nar18 : arrT Try.prog 18 = none := by kernel_rfl
theorem nel18 : elemT Try.prog 18 = none := by kernel_rfl
theorem fo18_0 : fieldOT Try.prog 18 0 = some (0, 17) := by kernel_rfl
theorem sz19 : szOf Try.prog 19 = some 1 := by kernel_rfl
theorem ag19 : isAggT Try.prog 19 = some true := by kernel_rfl
theorem zc19 : zeroC Try.prog 19 = some [.nptr] := by kernel_rfl
theorem pl19 : placesT Try.prog 19 = some [(0, 1)] := by kernel_rfl
theorem nar19 : arrT Try.prog 19 = none := by kernel_rfl
theorem nel19 : elemT Try.prog 19 = none := by kernel_rfl
theorem fo19_0 : fieldOT Try.prog 19 0 = some (0, 17) := by kernel_rfl
theorem sz20 : szOf Try.prog 20 = some 1 := by kernel_rfl
theorem ag20 : isAggT Try.prog 20 = some false := by kernel_rfl
theorem zc20 : zeroC Try.prog 20 = some [.nif] := by kernel_rfl
theorem npl20 : placesT Try.prog 20 = none := by kernel_rfl
theorem nar20 : arrT Try.prog 20 = none := by kernel_rfl
theorem nel20 : elemT Try.prog 20 = none := by kernel_rfl
theorem sz21 : szOf Try.prog 21 = some 1 := by kernel_rfl
theorem ag21 : isAggT Try.prog 21 = some false := by kernel_rfl
theorem zc21 : zeroC Try.prog 21 = some [.int .i32 0] := by kernel_rfl
theorem npl21 : placesT Try.prog 21 = none := by kernel_rfl
theorem un21 : Try.prog.underlying 21 = some (.int .i32) := by kernel_rfl
theorem nar21 : arrT Try.prog 21 = none := by kernel_rfl
theorem nel21 : elemT Try.prog 21 = none := by kernel_rfl
theorem sz22 : szOf Try.prog 22 = some 1 := by kernel_rfl
theorem ag22 : isAggT Try.prog 22 = some false := by kernel_rfl
theorem zc22 : zeroC Try.prog 22 = some [.nsl] := by kernel_rfl
theorem npl22 : placesT Try.prog 22 = none := by kernel_rfl
theorem un22 : Try.prog.underlying 22 = some (.slice 5) := by kernel_rfl
theorem el22 : elemT Try.prog 22 = some 5 := by kernel_rfl
theorem ap22 : appT Try.prog 22 22 = some (1, 1) := by kernel_rfl
theorem nar22 : arrT Try.prog 22 = none := by kernel_rfl
theorem sz23 : szOf Try.prog 23 = some 1 := by kernel_rfl
theorem ag23 : isAggT Try.prog 23 = some false := by kernel_rfl
theorem zc23 : zeroC Try.prog 23 = some [.nfn] := by kernel_rfl
theorem npl23 : placesT Try.prog 23 = none := by kernel_rfl
theorem nar23 : arrT Try.prog 23 = none := by kernel_rfl
theorem nel23 : elemT Try.prog 23 = none := by kernel_rfl
theorem sz24 : szOf Try.prog 24 = some 1 := by kernel_rfl
theorem ag24 : isAggT Try.prog 24 = some false := by kernel_rfl
theorem zc24 : zeroC Try.prog 24 = some [.int .i64 0] := by kernel_rfl
theorem npl24 : placesT Try.prog 24 = none := by kernel_rfl
theorem un24 : Try.prog.underlying 24 = some (.int .i64) := by kernel_rfl
theorem nar24 : arrT Try.prog 24 = none := by kernel_rfl
theorem nel24 : elemT Try.prog 24 = none := by kernel_rfl
theorem sz26 : szOf Try.prog 26 = some 1 := by kernel_rfl
theorem ag26 : isAggT Try.prog 26 = some false := by kernel_rfl
theorem zc26 : zeroC Try.prog 26 = some [.nfn] := by kernel_rfl
theorem npl26 : placesT Try.prog 26 = none := by kernel_rfl
theorem nar26 : arrT Try.prog 26 = none := by kernel_rfl
theorem nel26 : elemT Try.prog 26 = none := by kernel_rfl
theorem sz27 : szOf Try.prog 27 = some 1 := by kernel_rfl
theorem ag27 : isAggT Try.prog 27 = some false := by kernel_rfl
theorem zc27 : zeroC Try.prog 27 = some [.nfn] := by kernel_rfl
theorem npl27 : placesT Try.prog 27 = none := by kernel_rfl
theorem nar27 : arrT Try.prog 27 = none := by kernel_rfl
theorem nel27 : elemT Try.prog 27 = none := by kernel_rfl
theorem sz28 : szOf Try.prog 28 = some 1 := by kernel_rfl
theorem ag28 : isAggT Try.prog 28 = some false := by kernel_rfl
theorem zc28 : zeroC Try.prog 28 = some [.nfn] := by kernel_rfl
theorem npl28 : placesT Try.prog 28 = none := by kernel_rfl
theorem nar28 : arrT Try.prog 28 = none := by kernel_rfl
theorem nel28 : elemT Try.prog 28 = none := by kernel_rfl
theorem sz30 : szOf Try.prog 30 = some 1 := by kernel_rfl
theorem ag30 : isAggT Try.prog 30 = some false := by kernel_rfl
theorem zc30 : zeroC Try.prog 30 = some [.nfn] := by kernel_rfl
theorem npl30 : placesT Try.prog 30 = none := by kernel_rfl
theorem nar30 : arrT Try.prog 30 = none := by kernel_rfl
theorem nel30 : elemT Try.prog 30 = none := by kernel_rfl
theorem sz31 : szOf Try.prog 31 = some 1 := by kernel_rfl
theorem ag31 : isAggT Try.prog 31 = some false := by kernel_rfl
theorem zc31 : zeroC Try.prog 31 = some [.nfn] := by kernel_rfl
theorem npl31 : placesT Try.prog 31 = none := by kernel_rfl
theorem nar31 : arrT Try.prog 31 = none := by kernel_rfl
theorem nel31 : elemT Try.prog 31 = none := by kernel_rfl
theorem sz32 : szOf Try.prog 32 = some 1 := by kernel_rfl
theorem ag32 : isAggT Try.prog 32 = some false := by kernel_rfl
theorem zc32 : zeroC Try.prog 32 = some [.nsl] := by kernel_rfl
theorem npl32 : placesT Try.prog 32 = none := by kernel_rfl
theorem un32 : Try.prog.underlying 32 = some (.slice 3) := by kernel_rfl
theorem el32 : elemT Try.prog 32 = some 3 := by kernel_rfl
theorem ap32 : appT Try.prog 32 32 = some (1, 8) := by kernel_rfl
theorem nar32 : arrT Try.prog 32 = none := by kernel_rfl
theorem sz33 : szOf Try.prog 33 = some 1 := by kernel_rfl
theorem ag33 : isAggT Try.prog 33 = some false := by kernel_rfl
theorem zc33 : zeroC Try.prog 33 = some [.nfn] := by kernel_rfl
theorem npl33 : placesT Try.prog 33 = none := by kernel_rfl
theorem nar33 : arrT Try.prog 33 = none := by kernel_rfl
theorem nel33 : elemT Try.prog 33 = none := by kernel_rfl
theorem sz34 : szOf Try.prog 34 = some 1 := by kernel_rfl
theorem ag34 : isAggT Try.prog 34 = some false := by kernel_rfl
theorem zc34 : zeroC Try.prog 34 = some [.nfn] := by kernel_rfl
theorem npl34 : placesT Try.prog 34 = none := by kernel_rfl
theorem nar34 : arrT Try.prog 34 = none := by kernel_rfl
theorem nel34 : elemT Try.prog 34 = none := by kernel_rfl
theorem sz35 : szOf Try.prog 35 = some 1 := by kernel_rfl
theorem ag35 : isAggT Try.prog 35 = some false := by kernel_rfl
theorem zc35 : zeroC Try.prog 35 = some [.nfn] := by kernel_rfl
theorem npl35 : placesT Try.prog 35 = none := by kernel_rfl
theorem nar35 : arrT Try.prog 35 = none := by kernel_rfl
theorem nel35 : elemT Try.prog 35 = none := by kernel_rfl
theorem sz36 : szOf Try.prog 36 = some 1 := by kernel_rfl
theorem ag36 : isAggT Try.prog 36 = some false := by kernel_rfl
theorem zc36 : zeroC Try.prog 36 = some [.nfn] := by kernel_rfl
theorem npl36 : placesT Try.prog 36 = none := by kernel_rfl
theorem nar36 : arrT Try.prog 36 = none := by kernel_rfl
theorem nel36 : elemT Try.prog 36 = none := by kernel_rfl
theorem sz37 : szOf Try.prog 37 = some 1 := by kernel_rfl
theorem ag37 : isAggT Try.prog 37 = some false := by kernel_rfl
theorem zc37 : zeroC Try.prog 37 = some [.nfn] := by kernel_rfl
theorem npl37 : placesT Try.prog 37 = none := by kernel_rfl
theorem nar37 : arrT Try.prog 37 = none := by kernel_rfl
theorem nel37 : elemT Try.prog 37 = none := by kernel_rfl
theorem sz38 : szOf Try.prog 38 = some 1 := by kernel_rfl
theorem ag38 : isAggT Try.prog 38 = some false := by kernel_rfl
theorem zc38 : zeroC Try.prog 38 = some [.nfn] := by kernel_rfl
theorem npl38 : placesT Try.prog 38 = none := by kernel_rfl
theorem nar38 : arrT Try.prog 38 = none := by kernel_rfl
theorem nel38 : elemT Try.prog 38 = none := by kernel_rfl
theorem sz39 : szOf Try.prog 39 = some 1 := by kernel_rfl
theorem ag39 : isAggT Try.prog 39 = some false := by kernel_rfl
theorem zc39 : zeroC Try.prog 39 = some [.nfn] := by kernel_rfl
theorem npl39 : placesT Try.prog 39 = none := by kernel_rfl
theorem nar39 : arrT Try.prog 39 = none := by kernel_rfl
theorem nel39 : elemT Try.prog 39 = none := by kernel_rfl
theorem sz40 : szOf Try.prog 40 = some 1 := by kernel_rfl
theorem ag40 : isAggT Try.prog 40 = some false := by kernel_rfl
theorem zc40 : zeroC Try.prog 40 = some [.nfn] := by kernel_rfl
theorem npl40 : placesT Try.prog 40 = none := by kernel_rfl
theorem nar40 : arrT Try.prog 40 = none := by kernel_rfl
theorem nel40 : elemT Try.prog 40 = none := by kernel_rfl
theorem sz41 : szOf Try.prog 41 = some 1 := by kernel_rfl
theorem ag41 : isAggT Try.prog 41 = some false := by kernel_rfl
theorem zc41 : zeroC Try.prog 41 = some [.nfn] := by kernel_rfl
theorem npl41 : placesT Try.prog 41 = none := by kernel_rfl
theorem nar41 : arrT Try.prog 41 = none := by kernel_rfl
theorem nel41 : elemT Try.prog 41 = none := by kernel_rfl
theorem sz42 : szOf Try.prog 42 = some 1 := by kernel_rfl
theorem ag42 : isAggT Try.prog 42 = some false := by kernel_rfl
theorem zc42 : zeroC Try.prog 42 = some [.nfn] := by kernel_rfl
theorem npl42 : placesT Try.prog 42 = none := by kernel_rfl
theorem nar42 : arrT Try.prog 42 = none := by kernel_rfl
theorem nel42 : elemT Try.prog 42 = none := by kernel_rfl
theorem sz43 : szOf Try.prog 43 = some 1 := by kernel_rfl
theorem ag43 : isAggT Try.prog 43 = some false := by kernel_rfl
theorem zc43 : zeroC Try.prog 43 = some [.int .u64 0] := by kernel_rfl
theorem npl43 : placesT Try.prog 43 = none := by kernel_rfl
theorem un43 : Try.prog.underlying 43 = some (.int .u64) := by kernel_rfl
theorem nar43 : arrT Try.prog 43 = none := by kernel_rfl
theorem nel43 : elemT Try.prog 43 = none := by kernel_rfl
theorem sz44 : szOf Try.prog 44 = some 1 := by kernel_rfl
theorem ag44 : isAggT Try.prog 44 = some false := by kernel_rfl
theorem zc44 : zeroC Try.prog 44 = some [.nfn] := by kernel_rfl
theorem npl44 : placesT Try.prog 44 = none := by kernel_rfl
theorem nar44 : arrT Try.prog 44 = none := by kernel_rfl
theorem nel44 : elemT Try.prog 44 = none := by kernel_rfl
theorem sz45 : szOf Try.prog 45 = some 4 := by kernel_rfl
theorem ag45 : isAggT Try.prog 45 = some true := by kernel_rfl
theorem zc45 : zeroC Try.prog 45 = some [.nptr, .nptr, .nptr, .str ⟨#[]⟩] := by kernel_rfl
theorem pl45 : placesT Try.prog 45 = some [(0, 1), (1, 1), (2, 1), (3, 1)] := by kernel_rfl
theorem nar45 : arrT Try.prog 45 = none := by kernel_rfl
theorem nel45 : elemT Try.prog 45 = none := by kernel_rfl
theorem fo45_0 : fieldOT Try.prog 45 0 = some (0, 17) := by kernel_rfl
theorem fo45_1 : fieldOT Try.prog 45 1 = some (1, 17) := by kernel_rfl
theorem fo45_2 : fieldOT Try.prog 45 2 = some (2, 17) := by kernel_rfl
theorem fo45_3 : fieldOT Try.prog 45 3 = some (3, 9) := by kernel_rfl
theorem sz46 : szOf Try.prog 46 = some 4 := by kernel_rfl
theorem ag46 : isAggT Try.prog 46 = some true := by kernel_rfl
theorem zc46 : zeroC Try.prog 46 = some [.nptr, .nptr, .nptr, .str ⟨#[]⟩] := by kernel_rfl
theorem pl46 : placesT Try.prog 46 = some [(0, 1), (1, 1), (2, 1), (3, 1)] := by kernel_rfl
theorem nar46 : arrT Try.prog 46 = none := by kernel_rfl
theorem nel46 : elemT Try.prog 46 = none := by kernel_rfl
theorem fo46_0 : fieldOT Try.prog 46 0 = some (0, 17) := by kernel_rfl
theorem fo46_1 : fieldOT Try.prog 46 1 = some (1, 17) := by kernel_rfl
theorem fo46_2 : fieldOT Try.prog 46 2 = some (2, 17) := by kernel_rfl
theorem fo46_3 : fieldOT Try.prog 46 3 = some (3, 9) := by kernel_rfl
theorem sz47 : szOf Try.prog 47 = some 0 := by kernel_rfl
theorem ag47 : isAggT Try.prog 47 = some true := by kernel_rfl
theorem zc47 : zeroC Try.prog 47 = some [] := by kernel_rfl
theorem npl47 : placesT Try.prog 47 = none := by kernel_rfl
theorem un47 : Try.prog.underlying 47 = some (.array 0 16) := by kernel_rfl
theorem ar47 : arrT Try.prog 47 = some (0, 16) := by kernel_rfl
theorem nel47 : elemT Try.prog 47 = none := by kernel_rfl
theorem sz48 : szOf Try.prog 48 = some 0 := by kernel_rfl
theorem ag48 : isAggT Try.prog 48 = some true := by kernel_rfl
theorem zc48 : zeroC Try.prog 48 = some [] := by kernel_rfl
theorem pl48 : placesT Try.prog 48 = some [(0, 0)] := by kernel_rfl
theorem nar48 : arrT Try.prog 48 = none := by kernel_rfl
theorem nel48 : elemT Try.prog 48 = none := by kernel_rfl
theorem fo48_0 : fieldOT Try.prog 48 0 = some (0, 47) := by kernel_rfl
theorem sz49 : szOf Try.prog 49 = some 0 := by kernel_rfl
theorem ag49 : isAggT Try.prog 49 = some true := by kernel_rfl
theorem zc49 : zeroC Try.prog 49 = some [] := by kernel_rfl
theorem pl49 : placesT Try.prog 49 = some [(0, 0)] := by kernel_rfl
theorem nar49 : arrT Try.prog 49 = none := by kernel_rfl
theorem nel49 : elemT Try.prog 49 = none := by kernel_rfl
theorem fo49_0 : fieldOT Try.prog 49 0 = some (0, 47) := by kernel_rfl
theorem sz50 : szOf Try.prog 50 = some 1 := by kernel_rfl
theorem ag50 : isAggT Try.prog 50 = some false := by kernel_rfl
theorem zc50 : zeroC Try.prog 50 = some [.int .u32 0] := by kernel_rfl
theorem npl50 : placesT Try.prog 50 = none := by kernel_rfl
theorem un50 : Try.prog.underlying 50 = some (.int .u32) := by kernel_rfl
theorem nar50 : arrT Try.prog 50 = none := by kernel_rfl
theorem nel50 : elemT Try.prog 50 = none := by kernel_rfl
theorem sz51 : szOf Try.prog 51 = some 1 := by kernel_rfl
theorem ag51 : isAggT Try.prog 51 = some false := by kernel_rfl
theorem zc51 : zeroC Try.prog 51 = some [.int .u8 0] := by kernel_rfl
theorem npl51 : placesT Try.prog 51 = none := by kernel_rfl
theorem un51 : Try.prog.underlying 51 = some (.int .u8) := by kernel_rfl
theorem nar51 : arrT Try.prog 51 = none := by kernel_rfl
theorem nel51 : elemT Try.prog 51 = none := by kernel_rfl
theorem sz52 : szOf Try.prog 52 = some 1 := by kernel_rfl
theorem ag52 : isAggT Try.prog 52 = some false := by kernel_rfl
theorem zc52 : zeroC Try.prog 52 = some [.int .u8 0] := by kernel_rfl
theorem npl52 : placesT Try.prog 52 = none := by kernel_rfl
theorem un52 : Try.prog.underlying 52 = some (.int .u8) := by kernel_rfl
theorem nar52 : arrT Try.prog 52 = none := by kernel_rfl
theorem nel52 : elemT Try.prog 52 = none := by kernel_rfl
theorem sz53 : szOf Try.prog 53 = some 1 := by kernel_rfl
theorem ag53 : isAggT Try.prog 53 = some false := by kernel_rfl
theorem zc53 : zeroC Try.prog 53 = some [.nfn] := by kernel_rfl
theorem npl53 : placesT Try.prog 53 = none := by kernel_rfl
theorem nar53 : arrT Try.prog 53 = none := by kernel_rfl
theorem nel53 : elemT Try.prog 53 = none := by kernel_rfl
theorem sz54 : szOf Try.prog 54 = some 1 := by kernel_rfl
theorem ag54 : isAggT Try.prog 54 = some false := by kernel_rfl
theorem zc54 : zeroC Try.prog 54 = some [.nptr] := by kernel_rfl
theorem npl54 : placesT Try.prog 54 = none := by kernel_rfl
theorem un54 : Try.prog.underlying 54 = some (.pointer 5) := by kernel_rfl
theorem nar54 : arrT Try.prog 54 = none := by kernel_rfl
theorem nel54 : elemT Try.prog 54 = none := by kernel_rfl
theorem sz55 : szOf Try.prog 55 = some 1 := by kernel_rfl
theorem ag55 : isAggT Try.prog 55 = some false := by kernel_rfl
theorem zc55 : zeroC Try.prog 55 = some [.int .i32 0] := by kernel_rfl
theorem npl55 : placesT Try.prog 55 = none := by kernel_rfl
theorem un55 : Try.prog.underlying 55 = some (.int .i32) := by kernel_rfl
theorem nar55 : arrT Try.prog 55 = none := by kernel_rfl
theorem nel55 : elemT Try.prog 55 = none := by kernel_rfl
theorem sz56 : szOf Try.prog 56 = some 1 := by kernel_rfl
theorem ag56 : isAggT Try.prog 56 = some false := by kernel_rfl
theorem zc56 : zeroC Try.prog 56 = some [.int .i32 0] := by kernel_rfl
theorem npl56 : placesT Try.prog 56 = none := by kernel_rfl
theorem un56 : Try.prog.underlying 56 = some (.int .i32) := by kernel_rfl
theorem nar56 : arrT Try.prog 56 = none := by kernel_rfl
theorem nel56 : elemT Try.prog 56 = none := by kernel_rfl
theorem sz57 : szOf Try.prog 57 = some 11 := by kernel_rfl
theorem ag57 : isAggT Try.prog 57 = some true := by kernel_rfl
theorem zc57 : zeroC Try.prog 57 = some [.int .u64 0, .int .u64 0, .int .u32 0, .int .u8 0, .int .u8 0, .int .u8 0, .int .u8 0, .nfn, .nptr, .int .i32 0, .int .i32 0] := by kernel_rfl
theorem pl57 : placesT Try.prog 57 = some [(0, 1), (1, 1), (2, 1), (3, 1), (4, 1), (5, 1), (6, 1), (7, 1), (8, 1), (9, 1), (10, 1)] := by kernel_rfl
theorem nar57 : arrT Try.prog 57 = none := by kernel_rfl
theorem nel57 : elemT Try.prog 57 = none := by kernel_rfl
theorem fo57_0 : fieldOT Try.prog 57 0 = some (0, 12) := by kernel_rfl
theorem fo57_1 : fieldOT Try.prog 57 1 = some (1, 12) := by kernel_rfl
theorem fo57_2 : fieldOT Try.prog 57 2 = some (2, 50) := by kernel_rfl
theorem fo57_3 : fieldOT Try.prog 57 3 = some (3, 51) := by kernel_rfl
theorem fo57_4 : fieldOT Try.prog 57 4 = some (4, 5) := by kernel_rfl
theorem fo57_5 : fieldOT Try.prog 57 5 = some (5, 5) := by kernel_rfl
theorem fo57_6 : fieldOT Try.prog 57 6 = some (6, 52) := by kernel_rfl
theorem fo57_7 : fieldOT Try.prog 57 7 = some (7, 53) := by kernel_rfl
theorem fo57_8 : fieldOT Try.prog 57 8 = some (8, 54) := by kernel_rfl
theorem fo57_9 : fieldOT Try.prog 57 9 = some (9, 55) := by kernel_rfl
theorem fo57_10 : fieldOT Try.prog 57 10 = some (10, 56) := by kernel_rfl
theorem sz58 : szOf Try.prog 58 = some 11 := by kernel_rfl
theorem ag58 : isAggT Try.prog 58 = some true := by kernel_rfl
theorem zc58 : zeroC Try.prog 58 = some [.int .u64 0, .int .u64 0, .int .u32 0, .int .u8 0, .int .u8 0, .int .u8 0, .int .u8 0, .nfn, .nptr, .int .i32 0, .int .i32 0] := by kernel_rfl
theorem pl58 : placesT Try.prog 58 = some [(0, 1), (1, 1), (2, 1), (3, 1), (4, 1), (5, 1), (6, 1), (7, 1), (8, 1), (9, 1), (10, 1)] := by kernel_rfl
theorem nar58 : arrT Try.prog 58 = none := by kernel_rfl
theorem nel58 : elemT Try.prog 58 = none := by kernel_rfl
theorem fo58_0 : fieldOT Try.prog 58 0 = some (0, 12) := by kernel_rfl
theorem fo58_1 : fieldOT Try.prog 58 1 = some (1, 12) := by kernel_rfl
theorem fo58_2 : fieldOT Try.prog 58 2 = some (2, 50) := by kernel_rfl
theorem fo58_3 : fieldOT Try.prog 58 3 = some (3, 51) := by kernel_rfl
theorem fo58_4 : fieldOT Try.prog 58 4 = some (4, 5) := by kernel_rfl
theorem fo58_5 : fieldOT Try.prog 58 5 = some (5, 5) := by kernel_rfl
theorem fo58_6 : fieldOT Try.prog 58 6 = some (6, 52) := by kernel_rfl
theorem fo58_7 : fieldOT Try.prog 58 7 = some (7, 53) := by kernel_rfl
theorem fo58_8 : fieldOT Try.prog 58 8 = some (8, 54) := by kernel_rfl
theorem fo58_9 : fieldOT Try.prog 58 9 = some (9, 55) := by kernel_rfl
theorem fo58_10 : fieldOT Try.prog 58 10 = some (10, 56) := by kernel_rfl
theorem mixed : Try.prog.follows .mixedOrders = true := by kernel_rfl
attribute [simp] sz1 ag1 zc1 npl1 nar1 nel1 sz2 ag2 zc2 npl2 un2 nar2 nel2 sz3 ag3 zc3 npl3 un3 nar3 nel3 sz4 ag4 zc4 npl4 un4 nar4 nel4 sz5 ag5 zc5 npl5 un5 nar5 nel5 sz6 ag6 zc6 npl6 un6 nar6 nel6 sz7 ag7 zc7 pl7 nar7 nel7 fo7_0 fo7_1 fo7_2 fo7_3 sz8 ag8 zc8 pl8 nar8 nel8 fo8_0 fo8_1 fo8_2 fo8_3 sz9 ag9 zc9 npl9 un9 nar9 nel9 sz10 ag10 zc10 npl10 un10 nar10 nel10 sz11 ag11 zc11 npl11 un11 nar11 nel11 sz12 ag12 zc12 npl12 un12 nar12 nel12 sz13 ag13 zc13 pl13 nar13 nel13 fo13_0 fo13_1 sz14 ag14 zc14 pl14 nar14 nel14 fo14_0 fo14_1 sz15 ag15 zc15 npl15 un15 nar15 nel15 sz16 ag16 zc16 npl16 un16 nar16 nel16 sz17 ag17 zc17 npl17 un17 nar17 nel17 sz18 ag18 zc18 pl18 nar18 nel18 fo18_0 sz19 ag19 zc19 pl19 nar19 nel19 fo19_0 sz20 ag20 zc20 npl20 nar20 nel20 sz21 ag21 zc21 npl21 un21 nar21 nel21 sz22 ag22 zc22 npl22 un22 el22 ap22 nar22 sz23 ag23 zc23 npl23 nar23 nel23 sz24 ag24 zc24 npl24 un24 nar24 nel24 sz26 ag26 zc26 npl26 nar26 nel26 sz27 ag27 zc27 npl27 nar27 nel27 sz28 ag28 zc28 npl28 nar28 nel28 sz30 ag30 zc30 npl30 nar30 nel30 sz31 ag31 zc31 npl31 nar31 nel31 sz32 ag32 zc32 npl32 un32 el32 ap32 nar32 sz33 ag33 zc33 npl33 nar33 nel33 sz34 ag34 zc34 npl34 nar34 nel34 sz35 ag35 zc35 npl35 nar35 nel35 sz36 ag36 zc36 npl36 nar36 nel36 sz37 ag37 zc37 npl37 nar37 nel37 sz38 ag38 zc38 npl38 nar38 nel38 sz39 ag39 zc39 npl39 nar39 nel39 sz40 ag40 zc40 npl40 nar40 nel40 sz41 ag41 zc41 npl41 nar41 nel41 sz42 ag42 zc42 npl42 nar42 nel42 sz43 ag43 zc43 npl43 un43 nar43 nel43 sz44 ag44 zc44 npl44 nar44 nel44 sz45 ag45 zc45 pl45 nar45 nel45 fo45_0 fo45_1 fo45_2 fo45_3 sz46 ag46 zc46 pl46 nar46 nel46 fo46_0 fo46_1 fo46_2 fo46_3 sz47 ag47 zc47 npl47 un47 ar47 nel47 sz48 ag48 zc48 pl48 nar48 nel48 fo48_0 sz49 ag49 zc49 pl49 nar49 nel49 fo49_0 sz50 ag50 zc50 npl50 un50 nar50 nel50 sz51 ag51 zc51 npl51 un51 nar51 nel51 sz52 ag52 zc52 npl52 un52 nar52 nel52 sz53 ag53 zc53 npl53 nar53 nel53 sz54 ag54 zc54 npl54 un54 nar54 nel54 sz55 ag55 zc55 npl55 un55 nar55 nel55 sz56 ag56 zc56 npl56 un56 nar56 nel56 sz57 ag57 zc57 pl57 nar57 nel57 fo57_0 fo57_1 fo57_2 fo57_3 fo57_4 fo57_5 fo57_6 fo57_7 fo57_8 fo57_9 fo57_10 sz58 ag58 zc58 pl58 nar58 nel58 fo58_0 fo58_1 fo58_2 fo58_3 fo58_4 fo58_5 fo58_6 fo58_7 fo58_8 fo58_9 fo58_10
end Go.Proofs.Ytkokinckknhfiaa
