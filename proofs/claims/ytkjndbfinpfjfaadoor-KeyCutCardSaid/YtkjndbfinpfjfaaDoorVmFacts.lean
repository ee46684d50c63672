/- What the types of this seat are. Printed by facts.py (own work). -/
import Derived.Test.YtkjndbfinpfjfaaDoorVmCmp
import Derived.Test.YtkjndbfinpfjfaaDoorProg
namespace Go.Proofs.YtkjndbfinpfjfaaDoor
open Go Go.Vm Go.Proofs
theorem sz1 : szOf Tryd.prog 1 = some 1 := by kernel_rfl
theorem ag1 : isAggT Tryd.prog 1 = some false := by kernel_rfl
theorem zc1 : zeroC Tryd.prog 1 = some [.nfn] := by kernel_rfl
theorem npl1 : placesT Tryd.prog 1 = none := by kernel_rfl
theorem nar1 : arrT Tryd.prog 1 = none := by kernel_rfl
theorem nel1 : elemT Tryd.prog 1 = none := by kernel_rfl
theorem sz2 : szOf Tryd.prog 2 = some 1 := by kernel_rfl
theorem ag2 : isAggT Tryd.prog 2 = some false := by kernel_rfl
theorem zc2 : zeroC Tryd.prog 2 = some [.int .i64 0] := by kernel_rfl
theorem npl2 : placesT Tryd.prog 2 = none := by kernel_rfl
theorem un2 : Tryd.prog.underlying 2 = some (.int .i64) := by kernel_rfl
theorem nar2 : arrT Tryd.prog 2 = none := by kernel_rfl
theorem nel2 : elemT Tryd.prog 2 = none := by kernel_rfl
theorem sz3 : szOf Tryd.prog 3 = some 1 := by kernel_rfl
theorem by3 : byOf Tryd.prog 3 = some 8 := by kernel_rfl
theorem ag3 : isAggT Tryd.prog 3 = some false := by kernel_rfl
theorem zc3 : zeroC Tryd.prog 3 = some [.int .i64 0] := by kernel_rfl
theorem npl3 : placesT Tryd.prog 3 = none := by kernel_rfl
theorem un3 : Tryd.prog.underlying 3 = some (.int .i64) := by kernel_rfl
theorem nar3 : arrT Tryd.prog 3 = none := by kernel_rfl
theorem nel3 : elemT Tryd.prog 3 = none := by kernel_rfl
theorem sz4 : szOf Tryd.prog 4 = some 1 := by kernel_rfl
theorem ag4 : isAggT Tryd.prog 4 = some false := by kernel_rfl
theorem zc4 : zeroC Tryd.prog 4 = some [.bool false] := by kernel_rfl
theorem npl4 : placesT Tryd.prog 4 = none := by kernel_rfl
theorem un4 : Tryd.prog.underlying 4 = some .bool := by kernel_rfl
theorem nar4 : arrT Tryd.prog 4 = none := by kernel_rfl
theorem nel4 : elemT Tryd.prog 4 = none := by kernel_rfl
theorem sz5 : szOf Tryd.prog 5 = some 1 := by kernel_rfl
theorem by5 : byOf Tryd.prog 5 = some 1 := by kernel_rfl
theorem ag5 : isAggT Tryd.prog 5 = some false := by kernel_rfl
theorem zc5 : zeroC Tryd.prog 5 = some [.int .u8 0] := by kernel_rfl
theorem npl5 : placesT Tryd.prog 5 = none := by kernel_rfl
theorem un5 : Tryd.prog.underlying 5 = some (.int .u8) := by kernel_rfl
theorem nar5 : arrT Tryd.prog 5 = none := by kernel_rfl
theorem nel5 : elemT Tryd.prog 5 = none := by kernel_rfl
theorem sz6 : szOf Tryd.prog 6 = some 1 := by kernel_rfl
theorem ag6 : isAggT Tryd.prog 6 = some false := by kernel_rfl
theorem zc6 : zeroC Tryd.prog 6 = some [.int .u8 0] := by kernel_rfl
theorem npl6 : placesT Tryd.prog 6 = none := by kernel_rfl
theorem un6 : Tryd.prog.underlying 6 = some (.int .u8) := by kernel_rfl
theorem nar6 : arrT Tryd.prog 6 = none := by kernel_rfl
theorem nel6 : elemT Tryd.prog 6 = none := by kernel_rfl
theorem sz7 : szOf Tryd.prog 7 = some 4 := by kernel_rfl
theorem ag7 : isAggT Tryd.prog 7 = some true := by kernel_rfl
theorem zc7 : zeroC Tryd.prog 7 = some [.int .i64 0, .int .i64 0, .bool false, .int .u8 0] := by kernel_rfl
theorem pl7 : placesT Tryd.prog 7 = some [(0, 1), (1, 1), (2, 1), (3, 1)] := by kernel_rfl
theorem nar7 : arrT Tryd.prog 7 = none := by kernel_rfl
theorem nel7 : elemT Tryd.prog 7 = none := by kernel_rfl
theorem fo7_0 : fieldOT Tryd.prog 7 0 = some (0, 2) := by kernel_rfl
theorem fo7_1 : fieldOT Tryd.prog 7 1 = some (1, 3) := by kernel_rfl
theorem fo7_2 : fieldOT Tryd.prog 7 2 = some (2, 4) := by kernel_rfl
theorem fo7_3 : fieldOT Tryd.prog 7 3 = some (3, 6) := by kernel_rfl
theorem sz8 : szOf Tryd.prog 8 = some 4 := by kernel_rfl
theorem ag8 : isAggT Tryd.prog 8 = some true := by kernel_rfl
theorem zc8 : zeroC Tryd.prog 8 = some [.int .i64 0, .int .i64 0, .bool false, .int .u8 0] := by kernel_rfl
theorem pl8 : placesT Tryd.prog 8 = some [(0, 1), (1, 1), (2, 1), (3, 1)] := by kernel_rfl
theorem nar8 : arrT Tryd.prog 8 = none := by kernel_rfl
theorem nel8 : elemT Tryd.prog 8 = none := by kernel_rfl
theorem fo8_0 : fieldOT Tryd.prog 8 0 = some (0, 2) := by kernel_rfl
theorem fo8_1 : fieldOT Tryd.prog 8 1 = some (1, 3) := by kernel_rfl
theorem fo8_2 : fieldOT Tryd.prog 8 2 = some (2, 4) := by kernel_rfl
theorem fo8_3 : fieldOT Tryd.prog 8 3 = some (3, 6) := by kernel_rfl
theorem sz9 : szOf Tryd.prog 9 = some 1 := by kernel_rfl
theorem ag9 : isAggT Tryd.prog 9 = some false := by kernel_rfl
theorem zc9 : zeroC Tryd.prog 9 = some [.str ⟨#[]⟩] := by kernel_rfl
theorem npl9 : placesT Tryd.prog 9 = none := by kernel_rfl
theorem un9 : Tryd.prog.underlying 9 = some .string := by kernel_rfl
theorem nar9 : arrT Tryd.prog 9 = none := by kernel_rfl
theorem nel9 : elemT Tryd.prog 9 = none := by kernel_rfl
theorem sz10 : szOf Tryd.prog 10 = some 1 := by kernel_rfl
theorem ag10 : isAggT Tryd.prog 10 = some false := by kernel_rfl
theorem zc10 : zeroC Tryd.prog 10 = some [.str ⟨#[]⟩] := by kernel_rfl
theorem npl10 : placesT Tryd.prog 10 = none := by kernel_rfl
theorem un10 : Tryd.prog.underlying 10 = some .string := by kernel_rfl
theorem nar10 : arrT Tryd.prog 10 = none := by kernel_rfl
theorem nel10 : elemT Tryd.prog 10 = none := by kernel_rfl
theorem sz11 : szOf Tryd.prog 11 = some 1 := by kernel_rfl
theorem ag11 : isAggT Tryd.prog 11 = some false := by kernel_rfl
theorem zc11 : zeroC Tryd.prog 11 = some [.str ⟨#[]⟩] := by kernel_rfl
theorem npl11 : placesT Tryd.prog 11 = none := by kernel_rfl
theorem un11 : Tryd.prog.underlying 11 = some .string := by kernel_rfl
theorem nar11 : arrT Tryd.prog 11 = none := by kernel_rfl
theorem nel11 : elemT Tryd.prog 11 = none := by kernel_rfl
theorem sz12 : szOf Tryd.prog 12 = some 1 := by kernel_rfl
theorem ag12 : isAggT Tryd.prog 12 = some false := by kernel_rfl
theorem zc12 : zeroC Tryd.prog 12 = some [.int .u64 0] := by kernel_rfl
theorem npl12 : placesT Tryd.prog 12 = none := by kernel_rfl
theorem un12 : Tryd.prog.underlying 12 = some (.int .u64) := by kernel_rfl
theorem nar12 : arrT Tryd.prog 12 = none := by kernel_rfl
theorem nel12 : elemT Tryd.prog 12 = none := by kernel_rfl
theorem sz13 : szOf Tryd.prog 13 = some 2 := by kernel_rfl
theorem ag13 : isAggT Tryd.prog 13 = some true := by kernel_rfl
theorem zc13 : zeroC Tryd.prog 13 = some [.str ⟨#[]⟩, .int .u64 0] := by kernel_rfl
theorem pl13 : placesT Tryd.prog 13 = some [(0, 1), (1, 1)] := by kernel_rfl
theorem nar13 : arrT Tryd.prog 13 = none := by kernel_rfl
theorem nel13 : elemT Tryd.prog 13 = none := by kernel_rfl
theorem fo13_0 : fieldOT Tryd.prog 13 0 = some (0, 9) := by kernel_rfl
theorem fo13_1 : fieldOT Tryd.prog 13 1 = some (1, 12) := by kernel_rfl
theorem sz14 : szOf Tryd.prog 14 = some 2 := by kernel_rfl
theorem ag14 : isAggT Tryd.prog 14 = some true := by kernel_rfl
theorem zc14 : zeroC Tryd.prog 14 = some [.str ⟨#[]⟩, .int .u64 0] := by kernel_rfl
theorem pl14 : placesT Tryd.prog 14 = some [(0, 1), (1, 1)] := by kernel_rfl
theorem nar14 : arrT Tryd.prog 14 = none := by kernel_rfl
theorem nel14 : elemT Tryd.prog 14 = none := by kernel_rfl
theorem fo14_0 : fieldOT Tryd.prog 14 0 = some (0, 9) := by kernel_rfl
theorem fo14_1 : fieldOT Tryd.prog 14 1 = some (1, 12) := by kernel_rfl
theorem sz15 : szOf Tryd.prog 15 = some 1 := by kernel_rfl
theorem ag15 : isAggT Tryd.prog 15 = some false := by kernel_rfl
theorem zc15 : zeroC Tryd.prog 15 = some [.nptr] := by kernel_rfl
theorem npl15 : placesT Tryd.prog 15 = none := by kernel_rfl
theorem un15 : Tryd.prog.underlying 15 = some (.pointer 87) := by kernel_rfl
theorem nar15 : arrT Tryd.prog 15 = none := by kernel_rfl
theorem nel15 : elemT Tryd.prog 15 = none := by kernel_rfl
theorem sz16 : szOf Tryd.prog 16 = some 1 := by kernel_rfl
theorem ag16 : isAggT Tryd.prog 16 = some false := by kernel_rfl
theorem zc16 : zeroC Tryd.prog 16 = some [.nptr] := by kernel_rfl
theorem npl16 : placesT Tryd.prog 16 = none := by kernel_rfl
theorem un16 : Tryd.prog.underlying 16 = some (.pointer 90) := by kernel_rfl
theorem nar16 : arrT Tryd.prog 16 = none := by kernel_rfl
theorem nel16 : elemT Tryd.prog 16 = none := by kernel_rfl
theorem sz17 : szOf Tryd.prog 17 = some 1 := by kernel_rfl
theorem ag17 : isAggT Tryd.prog 17 = some false := by kernel_rfl
theorem zc17 : zeroC Tryd.prog 17 = some [.nptr] := by kernel_rfl
theorem npl17 : placesT Tryd.prog 17 = none := by kernel_rfl
theorem un17 : Tryd.prog.underlying 17 = some (.pointer 100) := by kernel_rfl
theorem nar17 : arrT Tryd.prog 17 = none := by kernel_rfl
theorem nel17 : elemT Tryd.prog 17 = none := by kernel_rfl
theorem sz18 : szOf Tryd.prog 18 = some 1 := by kernel_rfl
theorem ag18 : isAggT Tryd.prog 18 = some true := by kernel_rfl
theorem zc18 : zeroC Tryd.prog 18 = some [.nptr] := by kernel_rfl
theorem pl18 : placesT Tryd.prog 18 = some [(0, 1)] := by kernel_rfl
theorem nar18 : arrT Tryd.prog 18 = none := by kernel_rfl
theorem nel18 : elemT Tryd.prog 18 = none := by kernel_rfl
theorem fo18_0 : fieldOT Tryd.prog 18 0 = some (0, 17) := by kernel_rfl
theorem sz19 : szOf Tryd.prog 19 = some 1 := by kernel_rfl
theorem ag19 : isAggT Tryd.prog 19 = some true := by kernel_rfl
theorem zc19 : zeroC Tryd.prog 19 = some [.nptr] := by kernel_rfl
theorem pl19 : placesT Tryd.prog 19 = some [(0, 1)] := by kernel_rfl
theorem nar19 : arrT Tryd.prog 19 = none := by kernel_rfl
theorem nel19 : elemT Tryd.prog 19 = none := by kernel_rfl
theorem fo19_0 : fieldOT Tryd.prog 19 0 = some (0, 17) := by kernel_rfl
theorem sz20 : szOf Tryd.prog 20 = some 1 := by kernel_rfl
theorem ag20 : isAggT Tryd.prog 20 = some false := by kernel_rfl
theorem zc20 : zeroC Tryd.prog 20 = some [.nif] := by kernel_rfl
theorem npl20 : placesT Tryd.prog 20 = none := by kernel_rfl
theorem nar20 : arrT Tryd.prog 20 = none := by kernel_rfl
theorem nel20 : elemT Tryd.prog 20 = none := by kernel_rfl
theorem ic20 : isIfc Tryd.prog 20 = true := by kernel_rfl
theorem sz21 : szOf Tryd.prog 21 = some 1 := by kernel_rfl
theorem ag21 : isAggT Tryd.prog 21 = some false := by kernel_rfl
theorem zc21 : zeroC Tryd.prog 21 = some [.int .i32 0] := by kernel_rfl
theorem npl21 : placesT Tryd.prog 21 = none := by kernel_rfl
theorem un21 : Tryd.prog.underlying 21 = some (.int .i32) := by kernel_rfl
theorem nar21 : arrT Tryd.prog 21 = none := by kernel_rfl
theorem nel21 : elemT Tryd.prog 21 = none := by kernel_rfl
theorem sz22 : szOf Tryd.prog 22 = some 3 := by kernel_rfl
theorem ag22 : isAggT Tryd.prog 22 = some true := by kernel_rfl
theorem zc22 : zeroC Tryd.prog 22 = some [.int .i64 0, .int .i64 0, .str ⟨#[]⟩] := by kernel_rfl
theorem pl22 : placesT Tryd.prog 22 = some [(0, 1), (1, 1), (2, 1)] := by kernel_rfl
theorem nar22 : arrT Tryd.prog 22 = none := by kernel_rfl
theorem nel22 : elemT Tryd.prog 22 = none := by kernel_rfl
theorem fs22 : fieldsT Tryd.prog 22 = some [(0, 3), (1, 3), (2, 9)] := by kernel_rfl
theorem eg22 : Tryd.prog.eqGuardType Tryd.prog.depth 22 = false := by kernel_rfl
theorem fo22_0 : fieldOT Tryd.prog 22 0 = some (0, 3) := by kernel_rfl
theorem fo22_1 : fieldOT Tryd.prog 22 1 = some (1, 3) := by kernel_rfl
theorem fo22_2 : fieldOT Tryd.prog 22 2 = some (2, 9) := by kernel_rfl
theorem sz23 : szOf Tryd.prog 23 = some 3 := by kernel_rfl
theorem by23 : byOf Tryd.prog 23 = some 32 := by kernel_rfl
theorem ag23 : isAggT Tryd.prog 23 = some true := by kernel_rfl
theorem zc23 : zeroC Tryd.prog 23 = some [.int .i64 0, .int .i64 0, .str ⟨#[]⟩] := by kernel_rfl
theorem pl23 : placesT Tryd.prog 23 = some [(0, 1), (1, 1), (2, 1)] := by kernel_rfl
theorem nar23 : arrT Tryd.prog 23 = none := by kernel_rfl
theorem nel23 : elemT Tryd.prog 23 = none := by kernel_rfl
theorem fs23 : fieldsT Tryd.prog 23 = some [(0, 3), (1, 3), (2, 9)] := by kernel_rfl
theorem eg23 : Tryd.prog.eqGuardType Tryd.prog.depth 23 = false := by kernel_rfl
theorem fo23_0 : fieldOT Tryd.prog 23 0 = some (0, 3) := by kernel_rfl
theorem fo23_1 : fieldOT Tryd.prog 23 1 = some (1, 3) := by kernel_rfl
theorem fo23_2 : fieldOT Tryd.prog 23 2 = some (2, 9) := by kernel_rfl
theorem sz24 : szOf Tryd.prog 24 = some 3 := by kernel_rfl
theorem by24 : byOf Tryd.prog 24 = some 32 := by kernel_rfl
theorem ag24 : isAggT Tryd.prog 24 = some true := by kernel_rfl
theorem zc24 : zeroC Tryd.prog 24 = some [.int .i64 0, .int .i64 0, .str ⟨#[]⟩] := by kernel_rfl
theorem pl24 : placesT Tryd.prog 24 = some [(0, 1), (1, 1), (2, 1)] := by kernel_rfl
theorem nar24 : arrT Tryd.prog 24 = none := by kernel_rfl
theorem nel24 : elemT Tryd.prog 24 = none := by kernel_rfl
theorem fs24 : fieldsT Tryd.prog 24 = some [(0, 3), (1, 3), (2, 9)] := by kernel_rfl
theorem eg24 : Tryd.prog.eqGuardType Tryd.prog.depth 24 = false := by kernel_rfl
theorem fo24_0 : fieldOT Tryd.prog 24 0 = some (0, 3) := by kernel_rfl
theorem fo24_1 : fieldOT Tryd.prog 24 1 = some (1, 3) := by kernel_rfl
theorem fo24_2 : fieldOT Tryd.prog 24 2 = some (2, 9) := by kernel_rfl
theorem sz25 : szOf Tryd.prog 25 = some 1 := by kernel_rfl
theorem ag25 : isAggT Tryd.prog 25 = some false := by kernel_rfl
theorem zc25 : zeroC Tryd.prog 25 = some [.nfn] := by kernel_rfl
theorem npl25 : placesT Tryd.prog 25 = none := by kernel_rfl
theorem nar25 : arrT Tryd.prog 25 = none := by kernel_rfl
theorem nel25 : elemT Tryd.prog 25 = none := by kernel_rfl
theorem sz26 : szOf Tryd.prog 26 = some 1 := by kernel_rfl
theorem ag26 : isAggT Tryd.prog 26 = some false := by kernel_rfl
theorem zc26 : zeroC Tryd.prog 26 = some [.int .i64 0] := by kernel_rfl
theorem npl26 : placesT Tryd.prog 26 = none := by kernel_rfl
theorem un26 : Tryd.prog.underlying 26 = some (.int .i64) := by kernel_rfl
theorem nar26 : arrT Tryd.prog 26 = none := by kernel_rfl
theorem nel26 : elemT Tryd.prog 26 = none := by kernel_rfl
theorem sz28 : szOf Tryd.prog 28 = some 1 := by kernel_rfl
theorem ag28 : isAggT Tryd.prog 28 = some false := by kernel_rfl
theorem zc28 : zeroC Tryd.prog 28 = some [.nfn] := by kernel_rfl
theorem npl28 : placesT Tryd.prog 28 = none := by kernel_rfl
theorem nar28 : arrT Tryd.prog 28 = none := by kernel_rfl
theorem nel28 : elemT Tryd.prog 28 = none := by kernel_rfl
theorem sz29 : szOf Tryd.prog 29 = some 1 := by kernel_rfl
theorem ag29 : isAggT Tryd.prog 29 = some false := by kernel_rfl
theorem zc29 : zeroC Tryd.prog 29 = some [.nfn] := by kernel_rfl
theorem npl29 : placesT Tryd.prog 29 = none := by kernel_rfl
theorem nar29 : arrT Tryd.prog 29 = none := by kernel_rfl
theorem nel29 : elemT Tryd.prog 29 = none := by kernel_rfl
theorem sz30 : szOf Tryd.prog 30 = some 6 := by kernel_rfl
theorem ag30 : isAggT Tryd.prog 30 = some true := by kernel_rfl
theorem zc30 : zeroC Tryd.prog 30 = some [.int .i64 0, .int .i64 0, .int .i64 0, .int .i64 0, .int .i64 0, .int .i64 0] := by kernel_rfl
theorem npl30 : placesT Tryd.prog 30 = none := by kernel_rfl
theorem un30 : Tryd.prog.underlying 30 = some (.array 6 3) := by kernel_rfl
theorem ar30 : arrT Tryd.prog 30 = some (6, 3) := by kernel_rfl
theorem nel30 : elemT Tryd.prog 30 = none := by kernel_rfl
theorem sz31 : szOf Tryd.prog 31 = some 1 := by kernel_rfl
theorem ag31 : isAggT Tryd.prog 31 = some false := by kernel_rfl
theorem zc31 : zeroC Tryd.prog 31 = some [.nfn] := by kernel_rfl
theorem npl31 : placesT Tryd.prog 31 = none := by kernel_rfl
theorem nar31 : arrT Tryd.prog 31 = none := by kernel_rfl
theorem nel31 : elemT Tryd.prog 31 = none := by kernel_rfl
theorem sz32 : szOf Tryd.prog 32 = some 1 := by kernel_rfl
theorem ag32 : isAggT Tryd.prog 32 = some false := by kernel_rfl
theorem zc32 : zeroC Tryd.prog 32 = some [.nfn] := by kernel_rfl
theorem npl32 : placesT Tryd.prog 32 = none := by kernel_rfl
theorem nar32 : arrT Tryd.prog 32 = none := by kernel_rfl
theorem nel32 : elemT Tryd.prog 32 = none := by kernel_rfl
theorem sz33 : szOf Tryd.prog 33 = some 1 := by kernel_rfl
theorem ag33 : isAggT Tryd.prog 33 = some false := by kernel_rfl
theorem zc33 : zeroC Tryd.prog 33 = some [.nsl] := by kernel_rfl
theorem npl33 : placesT Tryd.prog 33 = none := by kernel_rfl
theorem un33 : Tryd.prog.underlying 33 = some (.slice 3) := by kernel_rfl
theorem el33 : elemT Tryd.prog 33 = some 3 := by kernel_rfl
theorem ap33 : appT Tryd.prog 33 33 = some (1, 8) := by kernel_rfl
theorem nar33 : arrT Tryd.prog 33 = none := by kernel_rfl
theorem sz34 : szOf Tryd.prog 34 = some 1 := by kernel_rfl
theorem ag34 : isAggT Tryd.prog 34 = some false := by kernel_rfl
theorem zc34 : zeroC Tryd.prog 34 = some [.nfn] := by kernel_rfl
theorem npl34 : placesT Tryd.prog 34 = none := by kernel_rfl
theorem nar34 : arrT Tryd.prog 34 = none := by kernel_rfl
theorem nel34 : elemT Tryd.prog 34 = none := by kernel_rfl
theorem sz35 : szOf Tryd.prog 35 = some 1 := by kernel_rfl
theorem ag35 : isAggT Tryd.prog 35 = some false := by kernel_rfl
theorem zc35 : zeroC Tryd.prog 35 = some [.nfn] := by kernel_rfl
theorem npl35 : placesT Tryd.prog 35 = none := by kernel_rfl
theorem nar35 : arrT Tryd.prog 35 = none := by kernel_rfl
theorem nel35 : elemT Tryd.prog 35 = none := by kernel_rfl
theorem sz36 : szOf Tryd.prog 36 = some 1 := by kernel_rfl
theorem ag36 : isAggT Tryd.prog 36 = some false := by kernel_rfl
theorem zc36 : zeroC Tryd.prog 36 = some [.nsl] := by kernel_rfl
theorem npl36 : placesT Tryd.prog 36 = none := by kernel_rfl
theorem un36 : Tryd.prog.underlying 36 = some (.slice 5) := by kernel_rfl
theorem el36 : elemT Tryd.prog 36 = some 5 := by kernel_rfl
theorem ap36 : appT Tryd.prog 36 36 = some (1, 1) := by kernel_rfl
theorem nar36 : arrT Tryd.prog 36 = none := by kernel_rfl
theorem sz37 : szOf Tryd.prog 37 = some 2 := by kernel_rfl
theorem ag37 : isAggT Tryd.prog 37 = some true := by kernel_rfl
theorem zc37 : zeroC Tryd.prog 37 = some [.nsl, .nsl] := by kernel_rfl
theorem pl37 : placesT Tryd.prog 37 = some [(0, 1), (1, 1)] := by kernel_rfl
theorem nar37 : arrT Tryd.prog 37 = none := by kernel_rfl
theorem nel37 : elemT Tryd.prog 37 = none := by kernel_rfl
theorem fo37_0 : fieldOT Tryd.prog 37 0 = some (0, 36) := by kernel_rfl
theorem fo37_1 : fieldOT Tryd.prog 37 1 = some (1, 36) := by kernel_rfl
theorem sz38 : szOf Tryd.prog 38 = some 2 := by kernel_rfl
theorem ag38 : isAggT Tryd.prog 38 = some true := by kernel_rfl
theorem zc38 : zeroC Tryd.prog 38 = some [.nsl, .nsl] := by kernel_rfl
theorem pl38 : placesT Tryd.prog 38 = some [(0, 1), (1, 1)] := by kernel_rfl
theorem nar38 : arrT Tryd.prog 38 = none := by kernel_rfl
theorem nel38 : elemT Tryd.prog 38 = none := by kernel_rfl
theorem fo38_0 : fieldOT Tryd.prog 38 0 = some (0, 36) := by kernel_rfl
theorem fo38_1 : fieldOT Tryd.prog 38 1 = some (1, 36) := by kernel_rfl
theorem sz40 : szOf Tryd.prog 40 = some 1 := by kernel_rfl
theorem ag40 : isAggT Tryd.prog 40 = some false := by kernel_rfl
theorem zc40 : zeroC Tryd.prog 40 = some [.nfn] := by kernel_rfl
theorem npl40 : placesT Tryd.prog 40 = none := by kernel_rfl
theorem nar40 : arrT Tryd.prog 40 = none := by kernel_rfl
theorem nel40 : elemT Tryd.prog 40 = none := by kernel_rfl
theorem sz41 : szOf Tryd.prog 41 = some 1 := by kernel_rfl
theorem ag41 : isAggT Tryd.prog 41 = some false := by kernel_rfl
theorem zc41 : zeroC Tryd.prog 41 = some [.nfn] := by kernel_rfl
theorem npl41 : placesT Tryd.prog 41 = none := by kernel_rfl
theorem nar41 : arrT Tryd.prog 41 = none := by kernel_rfl
theorem nel41 : elemT Tryd.prog 41 = none := by kernel_rfl
theorem sz42 : szOf Tryd.prog 42 = some 1 := by kernel_rfl
theorem ag42 : isAggT Tryd.prog 42 = some false := by kernel_rfl
theorem zc42 : zeroC Tryd.prog 42 = some [.nfn] := by kernel_rfl
theorem npl42 : placesT Tryd.prog 42 = none := by kernel_rfl
theorem nar42 : arrT Tryd.prog 42 = none := by kernel_rfl
theorem nel42 : elemT Tryd.prog 42 = none := by kernel_rfl
theorem sz43 : szOf Tryd.prog 43 = some 1 := by kernel_rfl
theorem ag43 : isAggT Tryd.prog 43 = some false := by kernel_rfl
theorem zc43 : zeroC Tryd.prog 43 = some [.nfn] := by kernel_rfl
theorem npl43 : placesT Tryd.prog 43 = none := by kernel_rfl
theorem nar43 : arrT Tryd.prog 43 = none := by kernel_rfl
theorem nel43 : elemT Tryd.prog 43 = none := by kernel_rfl
theorem sz44 : szOf Tryd.prog 44 = some 1 := by kernel_rfl
theorem ag44 : isAggT Tryd.prog 44 = some false := by kernel_rfl
theorem zc44 : zeroC Tryd.prog 44 = some [.nfn] := by kernel_rfl
theorem npl44 : placesT Tryd.prog 44 = none := by kernel_rfl
theorem nar44 : arrT Tryd.prog 44 = none := by kernel_rfl
theorem nel44 : elemT Tryd.prog 44 = none := by kernel_rfl
theorem sz45 : szOf Tryd.prog 45 = some 1 := by kernel_rfl
theorem ag45 : isAggT Tryd.prog 45 = some false := by kernel_rfl
theorem zc45 : zeroC Tryd.prog 45 = some [.nsl] := by kernel_rfl
theorem npl45 : placesT Tryd.prog 45 = none := by kernel_rfl
theorem un45 : Tryd.prog.underlying 45 = some (.slice 23) := by kernel_rfl
theorem el45 : elemT Tryd.prog 45 = some 23 := by kernel_rfl
theorem ap45 : appT Tryd.prog 45 45 = some (3, 32) := by kernel_rfl
theorem nar45 : arrT Tryd.prog 45 = none := by kernel_rfl
theorem sz46 : szOf Tryd.prog 46 = some 1 := by kernel_rfl
theorem ag46 : isAggT Tryd.prog 46 = some false := by kernel_rfl
theorem zc46 : zeroC Tryd.prog 46 = some [.nsl] := by kernel_rfl
theorem npl46 : placesT Tryd.prog 46 = none := by kernel_rfl
theorem un46 : Tryd.prog.underlying 46 = some (.slice 24) := by kernel_rfl
theorem el46 : elemT Tryd.prog 46 = some 24 := by kernel_rfl
theorem ap46 : appT Tryd.prog 46 46 = some (3, 32) := by kernel_rfl
theorem nar46 : arrT Tryd.prog 46 = none := by kernel_rfl
theorem sz47 : szOf Tryd.prog 47 = some 1 := by kernel_rfl
theorem ag47 : isAggT Tryd.prog 47 = some false := by kernel_rfl
theorem zc47 : zeroC Tryd.prog 47 = some [.nfn] := by kernel_rfl
theorem npl47 : placesT Tryd.prog 47 = none := by kernel_rfl
theorem nar47 : arrT Tryd.prog 47 = none := by kernel_rfl
theorem nel47 : elemT Tryd.prog 47 = none := by kernel_rfl
theorem sz49 : szOf Tryd.prog 49 = some 1 := by kernel_rfl
theorem ag49 : isAggT Tryd.prog 49 = some false := by kernel_rfl
theorem zc49 : zeroC Tryd.prog 49 = some [.nfn] := by kernel_rfl
theorem npl49 : placesT Tryd.prog 49 = none := by kernel_rfl
theorem nar49 : arrT Tryd.prog 49 = none := by kernel_rfl
theorem nel49 : elemT Tryd.prog 49 = none := by kernel_rfl
theorem sz50 : szOf Tryd.prog 50 = some 1 := by kernel_rfl
theorem ag50 : isAggT Tryd.prog 50 = some false := by kernel_rfl
theorem zc50 : zeroC Tryd.prog 50 = some [.nfn] := by kernel_rfl
theorem npl50 : placesT Tryd.prog 50 = none := by kernel_rfl
theorem nar50 : arrT Tryd.prog 50 = none := by kernel_rfl
theorem nel50 : elemT Tryd.prog 50 = none := by kernel_rfl
theorem sz52 : szOf Tryd.prog 52 = some 1 := by kernel_rfl
theorem ag52 : isAggT Tryd.prog 52 = some false := by kernel_rfl
theorem zc52 : zeroC Tryd.prog 52 = some [.nfn] := by kernel_rfl
theorem npl52 : placesT Tryd.prog 52 = none := by kernel_rfl
theorem nar52 : arrT Tryd.prog 52 = none := by kernel_rfl
theorem nel52 : elemT Tryd.prog 52 = none := by kernel_rfl
theorem sz53 : szOf Tryd.prog 53 = some 1 := by kernel_rfl
theorem ag53 : isAggT Tryd.prog 53 = some false := by kernel_rfl
theorem zc53 : zeroC Tryd.prog 53 = some [.nfn] := by kernel_rfl
theorem npl53 : placesT Tryd.prog 53 = none := by kernel_rfl
theorem nar53 : arrT Tryd.prog 53 = none := by kernel_rfl
theorem nel53 : elemT Tryd.prog 53 = none := by kernel_rfl
theorem sz54 : szOf Tryd.prog 54 = some 1 := by kernel_rfl
theorem ag54 : isAggT Tryd.prog 54 = some false := by kernel_rfl
theorem zc54 : zeroC Tryd.prog 54 = some [.nfn] := by kernel_rfl
theorem npl54 : placesT Tryd.prog 54 = none := by kernel_rfl
theorem nar54 : arrT Tryd.prog 54 = none := by kernel_rfl
theorem nel54 : elemT Tryd.prog 54 = none := by kernel_rfl
theorem sz55 : szOf Tryd.prog 55 = some 1 := by kernel_rfl
theorem ag55 : isAggT Tryd.prog 55 = some false := by kernel_rfl
theorem zc55 : zeroC Tryd.prog 55 = some [.nfn] := by kernel_rfl
theorem npl55 : placesT Tryd.prog 55 = none := by kernel_rfl
theorem nar55 : arrT Tryd.prog 55 = none := by kernel_rfl
theorem nel55 : elemT Tryd.prog 55 = none := by kernel_rfl
theorem sz56 : szOf Tryd.prog 56 = some 1 := by kernel_rfl
theorem ag56 : isAggT Tryd.prog 56 = some false := by kernel_rfl
theorem zc56 : zeroC Tryd.prog 56 = some [.nfn] := by kernel_rfl
theorem npl56 : placesT Tryd.prog 56 = none := by kernel_rfl
theorem nar56 : arrT Tryd.prog 56 = none := by kernel_rfl
theorem nel56 : elemT Tryd.prog 56 = none := by kernel_rfl
theorem sz57 : szOf Tryd.prog 57 = some 1 := by kernel_rfl
theorem ag57 : isAggT Tryd.prog 57 = some false := by kernel_rfl
theorem zc57 : zeroC Tryd.prog 57 = some [.nfn] := by kernel_rfl
theorem npl57 : placesT Tryd.prog 57 = none := by kernel_rfl
theorem nar57 : arrT Tryd.prog 57 = none := by kernel_rfl
theorem nel57 : elemT Tryd.prog 57 = none := by kernel_rfl
theorem sz58 : szOf Tryd.prog 58 = some 1 := by kernel_rfl
theorem ag58 : isAggT Tryd.prog 58 = some false := by kernel_rfl
theorem zc58 : zeroC Tryd.prog 58 = some [.nfn] := by kernel_rfl
theorem npl58 : placesT Tryd.prog 58 = none := by kernel_rfl
theorem nar58 : arrT Tryd.prog 58 = none := by kernel_rfl
theorem nel58 : elemT Tryd.prog 58 = none := by kernel_rfl
theorem sz59 : szOf Tryd.prog 59 = some 1 := by kernel_rfl
theorem ag59 : isAggT Tryd.prog 59 = some false := by kernel_rfl
theorem zc59 : zeroC Tryd.prog 59 = some [.nfn] := by kernel_rfl
theorem npl59 : placesT Tryd.prog 59 = none := by kernel_rfl
theorem nar59 : arrT Tryd.prog 59 = none := by kernel_rfl
theorem nel59 : elemT Tryd.prog 59 = none := by kernel_rfl
theorem sz60 : szOf Tryd.prog 60 = some 1 := by kernel_rfl
theorem ag60 : isAggT Tryd.prog 60 = some false := by kernel_rfl
theorem zc60 : zeroC Tryd.prog 60 = some [.nfn] := by kernel_rfl
theorem npl60 : placesT Tryd.prog 60 = none := by kernel_rfl
theorem nar60 : arrT Tryd.prog 60 = none := by kernel_rfl
theorem nel60 : elemT Tryd.prog 60 = none := by kernel_rfl
theorem sz61 : szOf Tryd.prog 61 = some 1 := by kernel_rfl
theorem ag61 : isAggT Tryd.prog 61 = some false := by kernel_rfl
theorem zc61 : zeroC Tryd.prog 61 = some [.nfn] := by kernel_rfl
theorem npl61 : placesT Tryd.prog 61 = none := by kernel_rfl
theorem nar61 : arrT Tryd.prog 61 = none := by kernel_rfl
theorem nel61 : elemT Tryd.prog 61 = none := by kernel_rfl
theorem sz62 : szOf Tryd.prog 62 = some 1 := by kernel_rfl
theorem ag62 : isAggT Tryd.prog 62 = some false := by kernel_rfl
theorem zc62 : zeroC Tryd.prog 62 = some [.nfn] := by kernel_rfl
theorem npl62 : placesT Tryd.prog 62 = none := by kernel_rfl
theorem nar62 : arrT Tryd.prog 62 = none := by kernel_rfl
theorem nel62 : elemT Tryd.prog 62 = none := by kernel_rfl
theorem sz63 : szOf Tryd.prog 63 = some 1 := by kernel_rfl
theorem ag63 : isAggT Tryd.prog 63 = some false := by kernel_rfl
theorem zc63 : zeroC Tryd.prog 63 = some [.nfn] := by kernel_rfl
theorem npl63 : placesT Tryd.prog 63 = none := by kernel_rfl
theorem nar63 : arrT Tryd.prog 63 = none := by kernel_rfl
theorem nel63 : elemT Tryd.prog 63 = none := by kernel_rfl
theorem sz64 : szOf Tryd.prog 64 = some 1 := by kernel_rfl
theorem ag64 : isAggT Tryd.prog 64 = some false := by kernel_rfl
theorem zc64 : zeroC Tryd.prog 64 = some [.nptr] := by kernel_rfl
theorem npl64 : placesT Tryd.prog 64 = none := by kernel_rfl
theorem un64 : Tryd.prog.underlying 64 = some (.pointer 66) := by kernel_rfl
theorem nar64 : arrT Tryd.prog 64 = none := by kernel_rfl
theorem nel64 : elemT Tryd.prog 64 = none := by kernel_rfl
theorem sz65 : szOf Tryd.prog 65 = some 2 := by kernel_rfl
theorem ag65 : isAggT Tryd.prog 65 = some true := by kernel_rfl
theorem zc65 : zeroC Tryd.prog 65 = some [.nsl, .int .i64 0] := by kernel_rfl
theorem pl65 : placesT Tryd.prog 65 = some [(0, 1), (1, 1)] := by kernel_rfl
theorem nar65 : arrT Tryd.prog 65 = none := by kernel_rfl
theorem nel65 : elemT Tryd.prog 65 = none := by kernel_rfl
theorem fo65_0 : fieldOT Tryd.prog 65 0 = some (0, 36) := by kernel_rfl
theorem fo65_1 : fieldOT Tryd.prog 65 1 = some (1, 3) := by kernel_rfl
theorem sz66 : szOf Tryd.prog 66 = some 2 := by kernel_rfl
theorem ag66 : isAggT Tryd.prog 66 = some true := by kernel_rfl
theorem zc66 : zeroC Tryd.prog 66 = some [.nsl, .int .i64 0] := by kernel_rfl
theorem pl66 : placesT Tryd.prog 66 = some [(0, 1), (1, 1)] := by kernel_rfl
theorem nar66 : arrT Tryd.prog 66 = none := by kernel_rfl
theorem nel66 : elemT Tryd.prog 66 = none := by kernel_rfl
theorem fo66_0 : fieldOT Tryd.prog 66 0 = some (0, 36) := by kernel_rfl
theorem fo66_1 : fieldOT Tryd.prog 66 1 = some (1, 3) := by kernel_rfl
theorem sz68 : szOf Tryd.prog 68 = some 1 := by kernel_rfl
theorem ag68 : isAggT Tryd.prog 68 = some false := by kernel_rfl
theorem zc68 : zeroC Tryd.prog 68 = some [.nfn] := by kernel_rfl
theorem npl68 : placesT Tryd.prog 68 = none := by kernel_rfl
theorem nar68 : arrT Tryd.prog 68 = none := by kernel_rfl
theorem nel68 : elemT Tryd.prog 68 = none := by kernel_rfl
theorem sz69 : szOf Tryd.prog 69 = some 1 := by kernel_rfl
theorem ag69 : isAggT Tryd.prog 69 = some false := by kernel_rfl
theorem zc69 : zeroC Tryd.prog 69 = some [.nfn] := by kernel_rfl
theorem npl69 : placesT Tryd.prog 69 = none := by kernel_rfl
theorem nar69 : arrT Tryd.prog 69 = none := by kernel_rfl
theorem nel69 : elemT Tryd.prog 69 = none := by kernel_rfl
theorem sz70 : szOf Tryd.prog 70 = some 3 := by kernel_rfl
theorem ag70 : isAggT Tryd.prog 70 = some true := by kernel_rfl
theorem zc70 : zeroC Tryd.prog 70 = some [.bool false, .bool false, .bool false] := by kernel_rfl
theorem npl70 : placesT Tryd.prog 70 = none := by kernel_rfl
theorem un70 : Tryd.prog.underlying 70 = some (.array 3 4) := by kernel_rfl
theorem ar70 : arrT Tryd.prog 70 = some (3, 4) := by kernel_rfl
theorem nel70 : elemT Tryd.prog 70 = none := by kernel_rfl
theorem sz71 : szOf Tryd.prog 71 = some 18 := by kernel_rfl
theorem ag71 : isAggT Tryd.prog 71 = some true := by kernel_rfl
theorem zc71 : zeroC Tryd.prog 71 = some [.bool false, .bool false, .bool false, .bool false, .bool false, .bool false, .bool false, .bool false, .bool false, .bool false, .bool false, .bool false, .bool false, .bool false, .bool false, .bool false, .bool false, .bool false] := by kernel_rfl
theorem npl71 : placesT Tryd.prog 71 = none := by kernel_rfl
theorem un71 : Tryd.prog.underlying 71 = some (.array 6 70) := by kernel_rfl
theorem ar71 : arrT Tryd.prog 71 = some (6, 70) := by kernel_rfl
theorem nel71 : elemT Tryd.prog 71 = none := by kernel_rfl
theorem sz72 : szOf Tryd.prog 72 = some 1 := by kernel_rfl
theorem ag72 : isAggT Tryd.prog 72 = some false := by kernel_rfl
theorem zc72 : zeroC Tryd.prog 72 = some [.nfn] := by kernel_rfl
theorem npl72 : placesT Tryd.prog 72 = none := by kernel_rfl
theorem nar72 : arrT Tryd.prog 72 = none := by kernel_rfl
theorem nel72 : elemT Tryd.prog 72 = none := by kernel_rfl
theorem sz73 : szOf Tryd.prog 73 = some 1 := by kernel_rfl
theorem ag73 : isAggT Tryd.prog 73 = some false := by kernel_rfl
theorem zc73 : zeroC Tryd.prog 73 = some [.int .u64 0] := by kernel_rfl
theorem npl73 : placesT Tryd.prog 73 = none := by kernel_rfl
theorem un73 : Tryd.prog.underlying 73 = some (.int .u64) := by kernel_rfl
theorem nar73 : arrT Tryd.prog 73 = none := by kernel_rfl
theorem nel73 : elemT Tryd.prog 73 = none := by kernel_rfl
theorem sz75 : szOf Tryd.prog 75 = some 1 := by kernel_rfl
theorem ag75 : isAggT Tryd.prog 75 = some false := by kernel_rfl
theorem zc75 : zeroC Tryd.prog 75 = some [.nfn] := by kernel_rfl
theorem npl75 : placesT Tryd.prog 75 = none := by kernel_rfl
theorem nar75 : arrT Tryd.prog 75 = none := by kernel_rfl
theorem nel75 : elemT Tryd.prog 75 = none := by kernel_rfl
theorem sz76 : szOf Tryd.prog 76 = some 1 := by kernel_rfl
theorem ag76 : isAggT Tryd.prog 76 = some false := by kernel_rfl
theorem zc76 : zeroC Tryd.prog 76 = some [.nfn] := by kernel_rfl
theorem npl76 : placesT Tryd.prog 76 = none := by kernel_rfl
theorem nar76 : arrT Tryd.prog 76 = none := by kernel_rfl
theorem nel76 : elemT Tryd.prog 76 = none := by kernel_rfl
theorem sz77 : szOf Tryd.prog 77 = some 1 := by kernel_rfl
theorem ag77 : isAggT Tryd.prog 77 = some false := by kernel_rfl
theorem zc77 : zeroC Tryd.prog 77 = some [.nfn] := by kernel_rfl
theorem npl77 : placesT Tryd.prog 77 = none := by kernel_rfl
theorem nar77 : arrT Tryd.prog 77 = none := by kernel_rfl
theorem nel77 : elemT Tryd.prog 77 = none := by kernel_rfl
theorem sz78 : szOf Tryd.prog 78 = some 1 := by kernel_rfl
theorem ag78 : isAggT Tryd.prog 78 = some false := by kernel_rfl
theorem zc78 : zeroC Tryd.prog 78 = some [.nfn] := by kernel_rfl
theorem npl78 : placesT Tryd.prog 78 = none := by kernel_rfl
theorem nar78 : arrT Tryd.prog 78 = none := by kernel_rfl
theorem nel78 : elemT Tryd.prog 78 = none := by kernel_rfl
theorem sz79 : szOf Tryd.prog 79 = some 256 := by kernel_rfl
theorem ag79 : isAggT Tryd.prog 79 = some true := by kernel_rfl
theorem zc79 : zeroC Tryd.prog 79 = some [.int .u8 0, .int .u8 0, .int .u8 0, .int .u8 0, .int .u8 0, .int .u8 0, .int .u8 0, .int .u8 0, .int .u8 0, .int .u8 0, .int .u8 0, .int .u8 0, .int .u8 0, .int .u8 0, .int .u8 0, .int .u8 0, .int .u8 0, .int .u8 0, .int .u8 0, .int .u8 0, .int .u8 0, .int .u8 0, .int .u8 0, .int .u8 0, .int .u8 0, .int .u8 0, .int .u8 0, .int .u8 0, .int .u8 0, .int .u8 0, .int .u8 0, .int .u8 0, .int .u8 0, .int .u8 0, .int .u8 0, .int .u8 0, .int .u8 0, .int .u8 0, .int .u8 0, .int .u8 0, .int .u8 0, .int .u8 0, .int .u8 0, .int .u8 0, .int .u8 0, .int .u8 0, .int .u8 0, .int .u8 0, .int .u8 0, .int .u8 0, .int .u8 0, .int .u8 0, .int .u8 0, .int .u8 0, .int .u8 0, .int .u8 0, .int .u8 0, .int .u8 0, .int .u8 0, .int .u8 0, .int .u8 0, .int .u8 0, .int .u8 0, .int .u8 0, .int .u8 0, .int .u8 0, .int .u8 0, .int .u8 0, .int .u8 0, .int .u8 0, .int .u8 0, .int .u8 0, .int .u8 0, .int .u8 0, .int .u8 0, .int .u8 0, .int .u8 0, .int .u8 0, .int .u8 0, .int .u8 0, .int .u8 0, .int .u8 0, .int .u8 0, .int .u8 0, .int .u8 0, .int .u8 0, .int .u8 0, .int .u8 0, .int .u8 0, .int .u8 0, .int .u8 0, .int .u8 0, .int .u8 0, .int .u8 0, .int .u8 0, .int .u8 0, .int .u8 0, .int .u8 0, .int .u8 0, .int .u8 0, .int .u8 0, .int .u8 0, .int .u8 0, .int .u8 0, .int .u8 0, .int .u8 0, .int .u8 0, .int .u8 0, .int .u8 0, .int .u8 0, .int .u8 0, .int .u8 0, .int .u8 0, .int .u8 0, .int .u8 0, .int .u8 0, .int .u8 0, .int .u8 0, .int .u8 0, .int .u8 0, .int .u8 0, .int .u8 0, .int .u8 0, .int .u8 0, .int .u8 0, .int .u8 0, .int .u8 0, .int .u8 0, .int .u8 0, .int .u8 0, .int .u8 0, .int .u8 0, .int .u8 0, .int .u8 0, .int .u8 0, .int .u8 0, .int .u8 0, .int .u8 0, .int .u8 0, .int .u8 0, .int .u8 0, .int .u8 0, .int .u8 0, .int .u8 0, .int .u8 0, .int .u8 0, .int .u8 0, .int .u8 0, .int .u8 0, .int .u8 0, .int .u8 0, .int .u8 0, .int .u8 0, .int .u8 0, .int .u8 0, .int .u8 0, .int .u8 0, .int .u8 0, .int .u8 0, .int .u8 0, .int .u8 0, .int .u8 0, .int .u8 0, .int .u8 0, .int .u8 0, .int .u8 0, .int .u8 0, .int .u8 0, .int .u8 0, .int .u8 0, .int .u8 0, .int .u8 0, .int .u8 0, .int .u8 0, .int .u8 0, .int .u8 0, .int .u8 0, .int .u8 0, .int .u8 0, .int .u8 0, .int .u8 0, .int .u8 0, .int .u8 0, .int .u8 0, .int .u8 0, .int .u8 0, .int .u8 0, .int .u8 0, .int .u8 0, .int .u8 0, .int .u8 0, .int .u8 0, .int .u8 0, .int .u8 0, .int .u8 0, .int .u8 0, .int .u8 0, .int .u8 0, .int .u8 0, .int .u8 0, .int .u8 0, .int .u8 0, .int .u8 0, .int .u8 0, .int .u8 0, .int .u8 0, .int .u8 0, .int .u8 0, .int .u8 0, .int .u8 0, .int .u8 0, .int .u8 0, .int .u8 0, .int .u8 0, .int .u8 0, .int .u8 0, .int .u8 0, .int .u8 0, .int .u8 0, .int .u8 0, .int .u8 0, .int .u8 0, .int .u8 0, .int .u8 0, .int .u8 0, .int .u8 0, .int .u8 0, .int .u8 0, .int .u8 0, .int .u8 0, .int .u8 0, .int .u8 0, .int .u8 0, .int .u8 0, .int .u8 0, .int .u8 0, .int .u8 0, .int .u8 0, .int .u8 0, .int .u8 0, .int .u8 0, .int .u8 0, .int .u8 0, .int .u8 0, .int .u8 0, .int .u8 0, .int .u8 0, .int .u8 0, .int .u8 0, .int .u8 0, .int .u8 0, .int .u8 0, .int .u8 0, .int .u8 0, .int .u8 0, .int .u8 0] := by kernel_rfl
theorem npl79 : placesT Tryd.prog 79 = none := by kernel_rfl
theorem un79 : Tryd.prog.underlying 79 = some (.array 256 5) := by kernel_rfl
theorem ar79 : arrT Tryd.prog 79 = some (256, 5) := by kernel_rfl
theorem nel79 : elemT Tryd.prog 79 = none := by kernel_rfl
theorem sz80 : szOf Tryd.prog 80 = some 2 := by kernel_rfl
theorem ag80 : isAggT Tryd.prog 80 = some true := by kernel_rfl
theorem zc80 : zeroC Tryd.prog 80 = some [.int .u8 0, .int .u8 0] := by kernel_rfl
theorem pl80 : placesT Tryd.prog 80 = some [(0, 1), (1, 1)] := by kernel_rfl
theorem nar80 : arrT Tryd.prog 80 = none := by kernel_rfl
theorem nel80 : elemT Tryd.prog 80 = none := by kernel_rfl
theorem fs80 : fieldsT Tryd.prog 80 = some [(0, 5), (1, 5)] := by kernel_rfl
theorem eg80 : Tryd.prog.eqGuardType Tryd.prog.depth 80 = false := by kernel_rfl
theorem fo80_0 : fieldOT Tryd.prog 80 0 = some (0, 5) := by kernel_rfl
theorem fo80_1 : fieldOT Tryd.prog 80 1 = some (1, 5) := by kernel_rfl
theorem sz81 : szOf Tryd.prog 81 = some 2 := by kernel_rfl
theorem ag81 : isAggT Tryd.prog 81 = some true := by kernel_rfl
theorem zc81 : zeroC Tryd.prog 81 = some [.int .u8 0, .int .u8 0] := by kernel_rfl
theorem pl81 : placesT Tryd.prog 81 = some [(0, 1), (1, 1)] := by kernel_rfl
theorem nar81 : arrT Tryd.prog 81 = none := by kernel_rfl
theorem nel81 : elemT Tryd.prog 81 = none := by kernel_rfl
theorem fs81 : fieldsT Tryd.prog 81 = some [(0, 5), (1, 5)] := by kernel_rfl
theorem eg81 : Tryd.prog.eqGuardType Tryd.prog.depth 81 = false := by kernel_rfl
theorem fo81_0 : fieldOT Tryd.prog 81 0 = some (0, 5) := by kernel_rfl
theorem fo81_1 : fieldOT Tryd.prog 81 1 = some (1, 5) := by kernel_rfl
theorem sz82 : szOf Tryd.prog 82 = some 32 := by kernel_rfl
theorem ag82 : isAggT Tryd.prog 82 = some true := by kernel_rfl
theorem zc82 : zeroC Tryd.prog 82 = some [.int .u8 0, .int .u8 0, .int .u8 0, .int .u8 0, .int .u8 0, .int .u8 0, .int .u8 0, .int .u8 0, .int .u8 0, .int .u8 0, .int .u8 0, .int .u8 0, .int .u8 0, .int .u8 0, .int .u8 0, .int .u8 0, .int .u8 0, .int .u8 0, .int .u8 0, .int .u8 0, .int .u8 0, .int .u8 0, .int .u8 0, .int .u8 0, .int .u8 0, .int .u8 0, .int .u8 0, .int .u8 0, .int .u8 0, .int .u8 0, .int .u8 0, .int .u8 0] := by kernel_rfl
theorem npl82 : placesT Tryd.prog 82 = none := by kernel_rfl
theorem un82 : Tryd.prog.underlying 82 = some (.array 16 81) := by kernel_rfl
theorem ar82 : arrT Tryd.prog 82 = some (16, 81) := by kernel_rfl
theorem nel82 : elemT Tryd.prog 82 = none := by kernel_rfl
theorem sz83 : szOf Tryd.prog 83 = some 1 := by kernel_rfl
theorem ag83 : isAggT Tryd.prog 83 = some false := by kernel_rfl
theorem zc83 : zeroC Tryd.prog 83 = some [.int .u64 0] := by kernel_rfl
theorem npl83 : placesT Tryd.prog 83 = none := by kernel_rfl
theorem un83 : Tryd.prog.underlying 83 = some (.int .u64) := by kernel_rfl
theorem nar83 : arrT Tryd.prog 83 = none := by kernel_rfl
theorem nel83 : elemT Tryd.prog 83 = none := by kernel_rfl
theorem sz84 : szOf Tryd.prog 84 = some 1 := by kernel_rfl
theorem ag84 : isAggT Tryd.prog 84 = some false := by kernel_rfl
theorem zc84 : zeroC Tryd.prog 84 = some [.nfn] := by kernel_rfl
theorem npl84 : placesT Tryd.prog 84 = none := by kernel_rfl
theorem nar84 : arrT Tryd.prog 84 = none := by kernel_rfl
theorem nel84 : elemT Tryd.prog 84 = none := by kernel_rfl
theorem sz85 : szOf Tryd.prog 85 = some 1 := by kernel_rfl
theorem ag85 : isAggT Tryd.prog 85 = some false := by kernel_rfl
theorem zc85 : zeroC Tryd.prog 85 = some [.nfn] := by kernel_rfl
theorem npl85 : placesT Tryd.prog 85 = none := by kernel_rfl
theorem nar85 : arrT Tryd.prog 85 = none := by kernel_rfl
theorem nel85 : elemT Tryd.prog 85 = none := by kernel_rfl
theorem sz86 : szOf Tryd.prog 86 = some 4 := by kernel_rfl
theorem ag86 : isAggT Tryd.prog 86 = some true := by kernel_rfl
theorem zc86 : zeroC Tryd.prog 86 = some [.nptr, .nptr, .nptr, .str ⟨#[]⟩] := by kernel_rfl
theorem pl86 : placesT Tryd.prog 86 = some [(0, 1), (1, 1), (2, 1), (3, 1)] := by kernel_rfl
theorem nar86 : arrT Tryd.prog 86 = none := by kernel_rfl
theorem nel86 : elemT Tryd.prog 86 = none := by kernel_rfl
theorem fo86_0 : fieldOT Tryd.prog 86 0 = some (0, 17) := by kernel_rfl
theorem fo86_1 : fieldOT Tryd.prog 86 1 = some (1, 17) := by kernel_rfl
theorem fo86_2 : fieldOT Tryd.prog 86 2 = some (2, 17) := by kernel_rfl
theorem fo86_3 : fieldOT Tryd.prog 86 3 = some (3, 9) := by kernel_rfl
theorem sz87 : szOf Tryd.prog 87 = some 4 := by kernel_rfl
theorem ag87 : isAggT Tryd.prog 87 = some true := by kernel_rfl
theorem zc87 : zeroC Tryd.prog 87 = some [.nptr, .nptr, .nptr, .str ⟨#[]⟩] := by kernel_rfl
theorem pl87 : placesT Tryd.prog 87 = some [(0, 1), (1, 1), (2, 1), (3, 1)] := by kernel_rfl
theorem nar87 : arrT Tryd.prog 87 = none := by kernel_rfl
theorem nel87 : elemT Tryd.prog 87 = none := by kernel_rfl
theorem fo87_0 : fieldOT Tryd.prog 87 0 = some (0, 17) := by kernel_rfl
theorem fo87_1 : fieldOT Tryd.prog 87 1 = some (1, 17) := by kernel_rfl
theorem fo87_2 : fieldOT Tryd.prog 87 2 = some (2, 17) := by kernel_rfl
theorem fo87_3 : fieldOT Tryd.prog 87 3 = some (3, 9) := by kernel_rfl
theorem sz88 : szOf Tryd.prog 88 = some 0 := by kernel_rfl
theorem ag88 : isAggT Tryd.prog 88 = some true := by kernel_rfl
theorem zc88 : zeroC Tryd.prog 88 = some [] := by kernel_rfl
theorem npl88 : placesT Tryd.prog 88 = none := by kernel_rfl
theorem un88 : Tryd.prog.underlying 88 = some (.array 0 16) := by kernel_rfl
theorem ar88 : arrT Tryd.prog 88 = some (0, 16) := by kernel_rfl
theorem nel88 : elemT Tryd.prog 88 = none := by kernel_rfl
theorem sz89 : szOf Tryd.prog 89 = some 0 := by kernel_rfl
theorem ag89 : isAggT Tryd.prog 89 = some true := by kernel_rfl
theorem zc89 : zeroC Tryd.prog 89 = some [] := by kernel_rfl
theorem pl89 : placesT Tryd.prog 89 = some [(0, 0)] := by kernel_rfl
theorem nar89 : arrT Tryd.prog 89 = none := by kernel_rfl
theorem nel89 : elemT Tryd.prog 89 = none := by kernel_rfl
theorem fo89_0 : fieldOT Tryd.prog 89 0 = some (0, 88) := by kernel_rfl
theorem sz90 : szOf Tryd.prog 90 = some 0 := by kernel_rfl
theorem ag90 : isAggT Tryd.prog 90 = some true := by kernel_rfl
theorem zc90 : zeroC Tryd.prog 90 = some [] := by kernel_rfl
theorem pl90 : placesT Tryd.prog 90 = some [(0, 0)] := by kernel_rfl
theorem nar90 : arrT Tryd.prog 90 = none := by kernel_rfl
theorem nel90 : elemT Tryd.prog 90 = none := by kernel_rfl
theorem fo90_0 : fieldOT Tryd.prog 90 0 = some (0, 88) := by kernel_rfl
theorem sz91 : szOf Tryd.prog 91 = some 1 := by kernel_rfl
theorem ag91 : isAggT Tryd.prog 91 = some false := by kernel_rfl
theorem zc91 : zeroC Tryd.prog 91 = some [.nfn] := by kernel_rfl
theorem npl91 : placesT Tryd.prog 91 = none := by kernel_rfl
theorem nar91 : arrT Tryd.prog 91 = none := by kernel_rfl
theorem nel91 : elemT Tryd.prog 91 = none := by kernel_rfl
theorem sz92 : szOf Tryd.prog 92 = some 1 := by kernel_rfl
theorem ag92 : isAggT Tryd.prog 92 = some false := by kernel_rfl
theorem zc92 : zeroC Tryd.prog 92 = some [.int .u32 0] := by kernel_rfl
theorem npl92 : placesT Tryd.prog 92 = none := by kernel_rfl
theorem un92 : Tryd.prog.underlying 92 = some (.int .u32) := by kernel_rfl
theorem nar92 : arrT Tryd.prog 92 = none := by kernel_rfl
theorem nel92 : elemT Tryd.prog 92 = none := by kernel_rfl
theorem sz93 : szOf Tryd.prog 93 = some 1 := by kernel_rfl
theorem ag93 : isAggT Tryd.prog 93 = some false := by kernel_rfl
theorem zc93 : zeroC Tryd.prog 93 = some [.int .u8 0] := by kernel_rfl
theorem npl93 : placesT Tryd.prog 93 = none := by kernel_rfl
theorem un93 : Tryd.prog.underlying 93 = some (.int .u8) := by kernel_rfl
theorem nar93 : arrT Tryd.prog 93 = none := by kernel_rfl
theorem nel93 : elemT Tryd.prog 93 = none := by kernel_rfl
theorem sz94 : szOf Tryd.prog 94 = some 1 := by kernel_rfl
theorem ag94 : isAggT Tryd.prog 94 = some false := by kernel_rfl
theorem zc94 : zeroC Tryd.prog 94 = some [.int .u8 0] := by kernel_rfl
theorem npl94 : placesT Tryd.prog 94 = none := by kernel_rfl
theorem un94 : Tryd.prog.underlying 94 = some (.int .u8) := by kernel_rfl
theorem nar94 : arrT Tryd.prog 94 = none := by kernel_rfl
theorem nel94 : elemT Tryd.prog 94 = none := by kernel_rfl
theorem sz95 : szOf Tryd.prog 95 = some 1 := by kernel_rfl
theorem ag95 : isAggT Tryd.prog 95 = some false := by kernel_rfl
theorem zc95 : zeroC Tryd.prog 95 = some [.nfn] := by kernel_rfl
theorem npl95 : placesT Tryd.prog 95 = none := by kernel_rfl
theorem nar95 : arrT Tryd.prog 95 = none := by kernel_rfl
theorem nel95 : elemT Tryd.prog 95 = none := by kernel_rfl
theorem sz96 : szOf Tryd.prog 96 = some 1 := by kernel_rfl
theorem ag96 : isAggT Tryd.prog 96 = some false := by kernel_rfl
theorem zc96 : zeroC Tryd.prog 96 = some [.nptr] := by kernel_rfl
theorem npl96 : placesT Tryd.prog 96 = none := by kernel_rfl
theorem un96 : Tryd.prog.underlying 96 = some (.pointer 5) := by kernel_rfl
theorem nar96 : arrT Tryd.prog 96 = none := by kernel_rfl
theorem nel96 : elemT Tryd.prog 96 = none := by kernel_rfl
theorem sz97 : szOf Tryd.prog 97 = some 1 := by kernel_rfl
theorem ag97 : isAggT Tryd.prog 97 = some false := by kernel_rfl
theorem zc97 : zeroC Tryd.prog 97 = some [.int .i32 0] := by kernel_rfl
theorem npl97 : placesT Tryd.prog 97 = none := by kernel_rfl
theorem un97 : Tryd.prog.underlying 97 = some (.int .i32) := by kernel_rfl
theorem nar97 : arrT Tryd.prog 97 = none := by kernel_rfl
theorem nel97 : elemT Tryd.prog 97 = none := by kernel_rfl
theorem sz98 : szOf Tryd.prog 98 = some 1 := by kernel_rfl
theorem ag98 : isAggT Tryd.prog 98 = some false := by kernel_rfl
theorem zc98 : zeroC Tryd.prog 98 = some [.int .i32 0] := by kernel_rfl
theorem npl98 : placesT Tryd.prog 98 = none := by kernel_rfl
theorem un98 : Tryd.prog.underlying 98 = some (.int .i32) := by kernel_rfl
theorem nar98 : arrT Tryd.prog 98 = none := by kernel_rfl
theorem nel98 : elemT Tryd.prog 98 = none := by kernel_rfl
theorem sz99 : szOf Tryd.prog 99 = some 11 := by kernel_rfl
theorem ag99 : isAggT Tryd.prog 99 = some true := by kernel_rfl
theorem zc99 : zeroC Tryd.prog 99 = some [.int .u64 0, .int .u64 0, .int .u32 0, .int .u8 0, .int .u8 0, .int .u8 0, .int .u8 0, .nfn, .nptr, .int .i32 0, .int .i32 0] := by kernel_rfl
theorem pl99 : placesT Tryd.prog 99 = some [(0, 1), (1, 1), (2, 1), (3, 1), (4, 1), (5, 1), (6, 1), (7, 1), (8, 1), (9, 1), (10, 1)] := by kernel_rfl
theorem nar99 : arrT Tryd.prog 99 = none := by kernel_rfl
theorem nel99 : elemT Tryd.prog 99 = none := by kernel_rfl
theorem fo99_0 : fieldOT Tryd.prog 99 0 = some (0, 12) := by kernel_rfl
theorem fo99_1 : fieldOT Tryd.prog 99 1 = some (1, 12) := by kernel_rfl
theorem fo99_2 : fieldOT Tryd.prog 99 2 = some (2, 92) := by kernel_rfl
theorem fo99_3 : fieldOT Tryd.prog 99 3 = some (3, 93) := by kernel_rfl
theorem fo99_4 : fieldOT Tryd.prog 99 4 = some (4, 5) := by kernel_rfl
theorem fo99_5 : fieldOT Tryd.prog 99 5 = some (5, 5) := by kernel_rfl
theorem fo99_6 : fieldOT Tryd.prog 99 6 = some (6, 94) := by kernel_rfl
theorem fo99_7 : fieldOT Tryd.prog 99 7 = some (7, 95) := by kernel_rfl
theorem fo99_8 : fieldOT Tryd.prog 99 8 = some (8, 96) := by kernel_rfl
theorem fo99_9 : fieldOT Tryd.prog 99 9 = some (9, 97) := by kernel_rfl
theorem fo99_10 : fieldOT Tryd.prog 99 10 = some (10, 98) := by kernel_rfl
theorem sz100 : szOf Tryd.prog 100 = some 11 := by kernel_rfl
theorem ag100 : isAggT Tryd.prog 100 = some true := by kernel_rfl
theorem zc100 : zeroC Tryd.prog 100 = some [.int .u64 0, .int .u64 0, .int .u32 0, .int .u8 0, .int .u8 0, .int .u8 0, .int .u8 0, .nfn, .nptr, .int .i32 0, .int .i32 0] := by kernel_rfl
theorem pl100 : placesT Tryd.prog 100 = some [(0, 1), (1, 1), (2, 1), (3, 1), (4, 1), (5, 1), (6, 1), (7, 1), (8, 1), (9, 1), (10, 1)] := by kernel_rfl
theorem nar100 : arrT Tryd.prog 100 = none := by kernel_rfl
theorem nel100 : elemT Tryd.prog 100 = none := by kernel_rfl
theorem fo100_0 : fieldOT Tryd.prog 100 0 = some (0, 12) := by kernel_rfl
theorem fo100_1 : fieldOT Tryd.prog 100 1 = some (1, 12) := by kernel_rfl
theorem fo100_2 : fieldOT Tryd.prog 100 2 = some (2, 92) := by kernel_rfl
theorem fo100_3 : fieldOT Tryd.prog 100 3 = some (3, 93) := by kernel_rfl
theorem fo100_4 : fieldOT Tryd.prog 100 4 = some (4, 5) := by kernel_rfl
theorem fo100_5 : fieldOT Tryd.prog 100 5 = some (5, 5) := by kernel_rfl
theorem fo100_6 : fieldOT Tryd.prog 100 6 = some (6, 94) := by kernel_rfl
theorem fo100_7 : fieldOT Tryd.prog 100 7 = some (7, 95) := by kernel_rfl
theorem fo100_8 : fieldOT Tryd.prog 100 8 = some (8, 96) := by kernel_rfl
theorem fo100_9 : fieldOT Tryd.prog 100 9 = some (9, 97) := by kernel_rfl
theorem fo100_10 : fieldOT Tryd.prog 100 10 = some (10, 98) := by kernel_rfl
theorem mixed : Tryd.prog.follows .mixedOrders = true := by kernel_rfl
attribute [simp] sz1 ag1 zc1 npl1 nar1 nel1 sz2 ag2 zc2 npl2 un2 nar2 nel2 sz3 by3 ag3 zc3 npl3 un3 nar3 nel3 sz4 ag4 zc4 npl4 un4 nar4 nel4 sz5 by5 ag5 zc5 npl5 un5 nar5 nel5 sz6 ag6 zc6 npl6 un6 nar6 nel6 sz7 ag7 zc7 pl7 nar7 nel7 fo7_0 fo7_1 fo7_2 fo7_3 sz8 ag8 zc8 pl8 nar8 nel8 fo8_0 fo8_1 fo8_2 fo8_3 sz9 ag9 zc9 npl9 un9 nar9 nel9 sz10 ag10 zc10 npl10 un10 nar10 nel10 sz11 ag11 zc11 npl11 un11 nar11 nel11 sz12 ag12 zc12 npl12 un12 nar12 nel12 sz13 ag13 zc13 pl13 nar13 nel13 fo13_0 fo13_1 sz14 ag14 zc14 pl14 nar14 nel14 fo14_0 fo14_1 sz15 ag15 zc15 npl15 un15 nar15 nel15 sz16 ag16 zc16 npl16 un16 nar16 nel16 sz17 ag17 zc17 npl17 un17 nar17 nel17 sz18 ag18 zc18 pl18 nar18 nel18 fo18_0 sz19 ag19 zc19 pl19 nar19 nel19 fo19_0 sz20 ag20 zc20 npl20 nar20 nel20 ic20 sz21 ag21 zc21 npl21 un21 nar21 nel21 sz22 ag22 zc22 pl22 nar22 nel22 fs22 eg22 fo22_0 fo22_1 fo22_2 sz23 by23 ag23 zc23 pl23 nar23 nel23 fs23 eg23 fo23_0 fo23_1 fo23_2 sz24 by24 ag24 zc24 pl24 nar24 nel24 fs24 eg24 fo24_0 fo24_1 fo24_2 sz25 ag25 zc25 npl25 nar25 nel25 sz26 ag26 zc26 npl26 un26 nar26 nel26 sz28 ag28 zc28 npl28 nar28 nel28 sz29 ag29 zc29 npl29 nar29 nel29 sz30 ag30 zc30 npl30 un30 ar30 nel30 sz31 ag31 zc31 npl31 nar31 nel31 sz32 ag32 zc32 npl32 nar32 nel32 sz33 ag33 zc33 npl33 un33 el33 ap33 nar33 sz34 ag34 zc34 npl34 nar34 nel34 sz35 ag35 zc35 npl35 nar35 nel35 sz36 ag36 zc36 npl36 un36 el36 ap36 nar36 sz37 ag37 zc37 pl37 nar37 nel37 fo37_0 fo37_1 sz38 ag38 zc38 pl38 nar38 nel38 fo38_0 fo38_1 sz40 ag40 zc40 npl40 nar40 nel40 sz41 ag41 zc41 npl41 nar41 nel41 sz42 ag42 zc42 npl42 nar42 nel42 sz43 ag43 zc43 npl43 nar43 nel43 sz44 ag44 zc44 npl44 nar44 nel44 sz45 ag45 zc45 npl45 un45 el45 ap45 nar45 sz46 ag46 zc46 npl46 un46 el46 ap46 nar46 sz47 ag47 zc47 npl47 nar47 nel47 sz49 ag49 zc49 npl49 nar49 nel49 sz50 ag50 zc50 npl50 nar50 nel50 sz52 ag52 zc52 npl52 nar52 nel52 sz53 ag53 zc53 npl53 nar53 nel53 sz54 ag54 zc54 npl54 nar54 nel54 sz55 ag55 zc55 npl55 nar55 nel55 sz56 ag56 zc56 npl56 nar56 nel56 sz57 ag57 zc57 npl57 nar57 nel57 sz58 ag58 zc58 npl58 nar58 nel58 sz59 ag59 zc59 npl59 nar59 nel59 sz60 ag60 zc60 npl60 nar60 nel60 sz61 ag61 zc61 npl61 nar61 nel61 sz62 ag62 zc62 npl62 nar62 nel62 sz63 ag63 zc63 npl63 nar63 nel63 sz64 ag64 zc64 npl64 un64 nar64 nel64 sz65 ag65 zc65 pl65 nar65 nel65 fo65_0 fo65_1 sz66 ag66 zc66 pl66 nar66 nel66 fo66_0 fo66_1 sz68 ag68 zc68 npl68 nar68 nel68 sz69 ag69 zc69 npl69 nar69 nel69 sz70 ag70 zc70 npl70 un70 ar70 nel70 sz71 ag71 zc71 npl71 un71 ar71 nel71 sz72 ag72 zc72 npl72 nar72 nel72 sz73 ag73 zc73 npl73 un73 nar73 nel73 sz75 ag75 zc75 npl75 nar75 nel75 sz76 ag76 zc76 npl76 nar76 nel76 sz77 ag77 zc77 npl77 nar77 nel77 sz78 ag78 zc78 npl78 nar78 nel78 sz79 ag79 zc79 npl79 un79 ar79 nel79 sz80 ag80 zc80 pl80 nar80 nel80 fs80 eg80 fo80_0 fo80_1 sz81 ag81 zc81 pl81 nar81 nel81 fs81 eg81 fo81_0 fo81_1 sz82 ag82 zc82 npl82 un82 ar82 nel82 sz83 ag83 zc83 npl83 un83 nar83 nel83 sz84 ag84 zc84 npl84 nar84 nel84 sz85 ag85 zc85 npl85 nar85 nel85 sz86 ag86 zc86 pl86 nar86 nel86 fo86_0 fo86_1 fo86_2 fo86_3 sz87 ag87 zc87 pl87 nar87 nel87 fo87_0 fo87_1 fo87_2 fo87_3 sz88 ag88 zc88 npl88 un88 ar88 nel88 sz89 ag89 zc89 pl89 nar89 nel89 fo89_0 sz90 ag90 zc90 pl90 nar90 nel90 fo90_0 sz91 ag91 zc91 npl91 nar91 nel91 sz92 ag92 zc92 npl92 un92 nar92 nel92 sz93 ag93 zc93 npl93 un93 nar93 nel93 sz94 ag94 zc94 npl94 un94 nar94 nel94 sz95 ag95 zc95 npl95 nar95 nel95 sz96 ag96 zc96 npl96 un96 nar96 nel96 sz97 ag97 zc97 npl97 un97 nar97 nel97 sz98 ag98 zc98 npl98 un98 nar98 nel98 sz99 ag99 zc99 pl99 nar99 nel99 fo99_0 fo99_1 fo99_2 fo99_3 fo99_4 fo99_5 fo99_6 fo99_7 fo99_8 fo99_9 fo99_10 sz100 ag100 zc100 pl100 nar100 nel100 fo100_0 fo100_1 fo100_2 fo100_3 fo100_4 fo100_5 fo100_6 fo100_7 fo100_8 fo100_9 fo100_10
@[simp] theorem ei2 {σ : Store} {k : IntKind} {a b : Int} : eqD Tryd.prog σ 18 2 (.int k a) (.int k b) = some (a == b) := eqD_int18 un2 k a b
@[simp] theorem ei3 {σ : Store} {k : IntKind} {a b : Int} : eqD Tryd.prog σ 18 3 (.int k a) (.int k b) = some (a == b) := eqD_int18 un3 k a b
@[simp] theorem ei5 {σ : Store} {k : IntKind} {a b : Int} : eqD Tryd.prog σ 18 5 (.int k a) (.int k b) = some (a == b) := eqD_int18 un5 k a b
@[simp] theorem ei6 {σ : Store} {k : IntKind} {a b : Int} : eqD Tryd.prog σ 18 6 (.int k a) (.int k b) = some (a == b) := eqD_int18 un6 k a b
@[simp] theorem ei12 {σ : Store} {k : IntKind} {a b : Int} : eqD Tryd.prog σ 18 12 (.int k a) (.int k b) = some (a == b) := eqD_int18 un12 k a b
@[simp] theorem ia20 {σ : Store} : eqD Tryd.prog σ 20 20 .nif .nif = some true := eqD_nif ic20
@[simp] theorem ib20 {σ : Store} {u : TypeId} {d : D} : eqD Tryd.prog σ 20 20 (.ifc u d) .nif = some false := eqD_ifc_nif ic20 u d
@[simp] theorem ig20 {σ : Store} {u : TypeId} {d : D} : eqD Tryd.prog σ 20 20 .nif (.ifc u d) = some false := eqD_nif_ifc ic20 u d
@[simp] theorem ei21 {σ : Store} {k : IntKind} {a b : Int} : eqD Tryd.prog σ 18 21 (.int k a) (.int k b) = some (a == b) := eqD_int18 un21 k a b
@[simp] theorem eq22 {σ : Store} {xs ys : List D} : eqD Tryd.prog σ 20 22 (.agg xs) (.agg ys) = eqG Tryd.prog σ 18 [(0, 3), (1, 3), (2, 9)] xs ys := eqD_struct20 fs22
@[simp] theorem go22 {c : Bool} {xs ys : List D} : guardOk Tryd.prog c 22 (.agg xs) (.agg ys) = true := guardOk_agg eg22
@[simp] theorem eq23 {σ : Store} {xs ys : List D} : eqD Tryd.prog σ 20 23 (.agg xs) (.agg ys) = eqG Tryd.prog σ 18 [(0, 3), (1, 3), (2, 9)] xs ys := eqD_struct20 fs23
@[simp] theorem go23 {c : Bool} {xs ys : List D} : guardOk Tryd.prog c 23 (.agg xs) (.agg ys) = true := guardOk_agg eg23
@[simp] theorem eq24 {σ : Store} {xs ys : List D} : eqD Tryd.prog σ 20 24 (.agg xs) (.agg ys) = eqG Tryd.prog σ 18 [(0, 3), (1, 3), (2, 9)] xs ys := eqD_struct20 fs24
@[simp] theorem go24 {c : Bool} {xs ys : List D} : guardOk Tryd.prog c 24 (.agg xs) (.agg ys) = true := guardOk_agg eg24
@[simp] theorem ei26 {σ : Store} {k : IntKind} {a b : Int} : eqD Tryd.prog σ 18 26 (.int k a) (.int k b) = some (a == b) := eqD_int18 un26 k a b
@[simp] theorem en33 {σ : Store} {f : Bool} {d : D} {cs : List D} {n : Nat} : eqD Tryd.prog σ 20 33 (.sl f (d :: cs) n) .nsl = some false := eqD_sl_nil un33 f d cs n
@[simp] theorem em33 {σ : Store} : eqD Tryd.prog σ 20 33 .nsl .nsl = some true := eqD_nil_nil un33
@[simp] theorem en36 {σ : Store} {f : Bool} {d : D} {cs : List D} {n : Nat} : eqD Tryd.prog σ 20 36 (.sl f (d :: cs) n) .nsl = some false := eqD_sl_nil un36 f d cs n
@[simp] theorem em36 {σ : Store} : eqD Tryd.prog σ 20 36 .nsl .nsl = some true := eqD_nil_nil un36
@[simp] theorem en45 {σ : Store} {f : Bool} {d : D} {cs : List D} {n : Nat} : eqD Tryd.prog σ 20 45 (.sl f (d :: cs) n) .nsl = some false := eqD_sl_nil un45 f d cs n
@[simp] theorem em45 {σ : Store} : eqD Tryd.prog σ 20 45 .nsl .nsl = some true := eqD_nil_nil un45
@[simp] theorem en46 {σ : Store} {f : Bool} {d : D} {cs : List D} {n : Nat} : eqD Tryd.prog σ 20 46 (.sl f (d :: cs) n) .nsl = some false := eqD_sl_nil un46 f d cs n
@[simp] theorem em46 {σ : Store} : eqD Tryd.prog σ 20 46 .nsl .nsl = some true := eqD_nil_nil un46
@[simp] theorem ei73 {σ : Store} {k : IntKind} {a b : Int} : eqD Tryd.prog σ 18 73 (.int k a) (.int k b) = some (a == b) := eqD_int18 un73 k a b
@[simp] theorem eq80 {σ : Store} {xs ys : List D} : eqD Tryd.prog σ 20 80 (.agg xs) (.agg ys) = eqG Tryd.prog σ 18 [(0, 5), (1, 5)] xs ys := eqD_struct20 fs80
@[simp] theorem go80 {c : Bool} {xs ys : List D} : guardOk Tryd.prog c 80 (.agg xs) (.agg ys) = true := guardOk_agg eg80
@[simp] theorem eq81 {σ : Store} {xs ys : List D} : eqD Tryd.prog σ 20 81 (.agg xs) (.agg ys) = eqG Tryd.prog σ 18 [(0, 5), (1, 5)] xs ys := eqD_struct20 fs81
@[simp] theorem go81 {c : Bool} {xs ys : List D} : guardOk Tryd.prog c 81 (.agg xs) (.agg ys) = true := guardOk_agg eg81
@[simp] theorem ei83 {σ : Store} {k : IntKind} {a b : Int} : eqD Tryd.prog σ 18 83 (.int k a) (.int k b) = some (a == b) := eqD_int18 un83 k a b
@[simp] theorem ei92 {σ : Store} {k : IntKind} {a b : Int} : eqD Tryd.prog σ 18 92 (.int k a) (.int k b) = some (a == b) := eqD_int18 un92 k a b
@[simp] theorem ei93 {σ : Store} {k : IntKind} {a b : Int} : eqD Tryd.prog σ 18 93 (.int k a) (.int k b) = some (a == b) := eqD_int18 un93 k a b
@[simp] theorem ei94 {σ : Store} {k : IntKind} {a b : Int} : eqD Tryd.prog σ 18 94 (.int k a) (.int k b) = some (a == b) := eqD_int18 un94 k a b
@[simp] theorem ei97 {σ : Store} {k : IntKind} {a b : Int} : eqD Tryd.prog σ 18 97 (.int k a) (.int k b) = some (a == b) := eqD_int18 un97 k a b
@[simp] theorem ei98 {σ : Store} {k : IntKind} {a b : Int} : eqD Tryd.prog σ 18 98 (.int k a) (.int k b) = some (a == b) := eqD_int18 un98 k a b
end Go.Proofs.YtkjndbfinpfjfaaDoor
