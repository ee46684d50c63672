/- What the types of this seat are. Printed by facts.py (own work). -/
import Derived.Test.YtmgoekfgdgejiaaDoorVmCmp
import Derived.Test.YtmgoekfgdgejiaaDoorProg
namespace Go.Proofs.YtmgoekfgdgejiaaDoor
open Go Go.Vm Go.Proofs
theorem sz1 : szOf Tryd.prog 1 = some 1 := by kernel_rfl
theorem ag1 : isAggT Tryd.prog 1 = some false := by kernel_rfl
theorem zc1 : zeroC Tryd.prog 1 = some [.nfn] := by kernel_rfl
theorem npl1 : placesT Tryd.prog 1 = none := by kernel_rfl
theorem nar1 : arrT Tryd.prog 1 = none := by kernel_rfl
theorem nel1 : elemT Tryd.prog 1 = none := by kernel_rfl
theorem sz2 : szOf Tryd.prog 2 = some 1 := by kernel_rfl
theorem ag2 : isAggT Tryd.prog 2 = some false := by kernel_rfl
theorem zc2 : zeroC Tryd.prog 2 = some [.int .i64 0] := by kernel_rfl
theorem npl2 : placesT Tryd.prog 2 = none := by kernel_rfl
theorem un2 : Tryd.prog.underlying 2 = some (.int .i64) := by kernel_rfl
theorem nar2 : arrT Tryd.prog 2 = none := by kernel_rfl
theorem nel2 : elemT Tryd.prog 2 = none := by kernel_rfl
theorem sz3 : szOf Tryd.prog 3 = some 1 := by kernel_rfl
theorem by3 : byOf Tryd.prog 3 = some 8 := by kernel_rfl
theorem ag3 : isAggT Tryd.prog 3 = some false := by kernel_rfl
theorem zc3 : zeroC Tryd.prog 3 = some [.int .i64 0] := by kernel_rfl
theorem npl3 : placesT Tryd.prog 3 = none := by kernel_rfl
theorem un3 : Tryd.prog.underlying 3 = some (.int .i64) := by kernel_rfl
theorem nar3 : arrT Tryd.prog 3 = none := by kernel_rfl
theorem nel3 : elemT Tryd.prog 3 = none := by kernel_rfl
theorem sz4 : szOf Tryd.prog 4 = some 1 := by kernel_rfl
theorem ag4 : isAggT Tryd.prog 4 = some false := by kernel_rfl
theorem zc4 : zeroC Tryd.prog 4 = some [.bool false] := by kernel_rfl
theorem npl4 : placesT Tryd.prog 4 = none := by kernel_rfl
theorem un4 : Tryd.prog.underlying 4 = some .bool := by kernel_rfl
theorem nar4 : arrT Tryd.prog 4 = none := by kernel_rfl
theorem nel4 : elemT Tryd.prog 4 = none := by kernel_rfl
theorem sz5 : szOf Tryd.prog 5 = some 1 := by kernel_rfl
theorem by5 : byOf Tryd.prog 5 = some 1 := by kernel_rfl
theorem ag5 : isAggT Tryd.prog 5 = some false := by kernel_rfl
theorem zc5 : zeroC Tryd.prog 5 = some [.int .u8 0] := by kernel_rfl
theorem npl5 : placesT Tryd.prog 5 = none := by kernel_rfl
theorem un5 : Tryd.prog.underlying 5 = some (.int .u8) := by kernel_rfl
theorem nar5 : arrT Tryd.prog 5 = none := by kernel_rfl
theorem nel5 : elemT Tryd.prog 5 = none := by kernel_rfl
theorem sz6 : szOf Tryd.prog 6 = some 1 := by kernel_rfl
theorem ag6 : isAggT Tryd.prog 6 = some false := by kernel_rfl
theorem zc6 : zeroC Tryd.prog 6 = some [.int .u8 0] := by kernel_rfl
theorem npl6 : placesT Tryd.prog 6 = none := by kernel_rfl
theorem un6 : Tryd.prog.underlying 6 = some (.int .u8) := by kernel_rfl
theorem nar6 : arrT Tryd.prog 6 = none := by kernel_rfl
theorem nel6 : elemT Tryd.prog 6 = none := by kernel_rfl
theorem sz7 : szOf Tryd.prog 7 = some 4 := by kernel_rfl
theorem ag7 : isAggT Tryd.prog 7 = some true := by kernel_rfl
theorem zc7 : zeroC Tryd.prog 7 = some [.int .i64 0, .int .i64 0, .bool false, .int .u8 0] := by kernel_rfl
theorem pl7 : placesT Tryd.prog 7 = some [(0, 1), (1, 1), (2, 1), (3, 1)] := by kernel_rfl
theorem nar7 : arrT Tryd.prog 7 = none := by kernel_rfl
theorem nel7 : elemT Tryd.prog 7 = none := by kernel_rfl
theorem fo7_0 : fieldOT Tryd.prog 7 0 = some (0, 2) := by kernel_rfl
theorem fo7_1 : fieldOT Tryd.prog 7 1 = some (1, 3) := by kernel_rfl
theorem fo7_2 : fieldOT Tryd.prog 7 2 = some (2, 4) := by kernel_rfl
theorem fo7_3 : fieldOT Tryd.prog 7 3 = some (3, 6) := by kernel_rfl
theorem sz8 : szOf Tryd.prog 8 = some 4 := by kernel_rfl
theorem ag8 : isAggT Tryd.prog 8 = some true := by kernel_rfl
theorem zc8 : zeroC Tryd.prog 8 = some [.int .i64 0, .int .i64 0, .bool false, .int .u8 0] := by kernel_rfl
theorem pl8 : placesT Tryd.prog 8 = some [(0, 1), (1, 1), (2, 1), (3, 1)] := by kernel_rfl
theorem nar8 : arrT Tryd.prog 8 = none := by kernel_rfl
theorem nel8 : elemT Tryd.prog 8 = none := by kernel_rfl
theorem fo8_0 : fieldOT Tryd.prog 8 0 = some (0, 2) := by kernel_rfl
theorem fo8_1 : fieldOT Tryd.prog 8 1 = some (1, 3) := by kernel_rfl
theorem fo8_2 : fieldOT Tryd.prog 8 2 = some (2, 4) := by kernel_rfl
theorem fo8_3 : fieldOT Tryd.prog 8 3 = some (3, 6) := by kernel_rfl
theorem sz9 : szOf Tryd.prog 9 = some 1 := by kernel_rfl
theorem ag9 : isAggT Tryd.prog 9 = some false := by kernel_rfl
theorem zc9 : zeroC Tryd.prog 9 = some [.str ⟨#[]⟩] := by kernel_rfl
theorem npl9 : placesT Tryd.prog 9 = none := by kernel_rfl
theorem un9 : Tryd.prog.underlying 9 = some .string := by kernel_rfl
theorem nar9 : arrT Tryd.prog 9 = none := by kernel_rfl
theorem nel9 : elemT Tryd.prog 9 = none := by kernel_rfl
theorem sz10 : szOf Tryd.prog 10 = some 1 := by kernel_rfl
theorem ag10 : isAggT Tryd.prog 10 = some false := by kernel_rfl
theorem zc10 : zeroC Tryd.prog 10 = some [.str ⟨#[]⟩] := by kernel_rfl
theorem npl10 : placesT Tryd.prog 10 = none := by kernel_rfl
theorem un10 : Tryd.prog.underlying 10 = some .string := by kernel_rfl
theorem nar10 : arrT Tryd.prog 10 = none := by kernel_rfl
theorem nel10 : elemT Tryd.prog 10 = none := by kernel_rfl
theorem sz11 : szOf Tryd.prog 11 = some 1 := by kernel_rfl
theorem ag11 : isAggT Tryd.prog 11 = some false := by kernel_rfl
theorem zc11 : zeroC Tryd.prog 11 = some [.str ⟨#[]⟩] := by kernel_rfl
theorem npl11 : placesT Tryd.prog 11 = none := by kernel_rfl
theorem un11 : Tryd.prog.underlying 11 = some .string := by kernel_rfl
theorem nar11 : arrT Tryd.prog 11 = none := by kernel_rfl
theorem nel11 : elemT Tryd.prog 11 = none := by kernel_rfl
theorem sz12 : szOf Tryd.prog 12 = some 1 := by kernel_rfl
theorem ag12 : isAggT Tryd.prog 12 = some false := by kernel_rfl
theorem zc12 : zeroC Tryd.prog 12 = some [.int .u64 0] := by kernel_rfl
theorem npl12 : placesT Tryd.prog 12 = none := by kernel_rfl
theorem un12 : Tryd.prog.underlying 12 = some (.int .u64) := by kernel_rfl
theorem nar12 : arrT Tryd.prog 12 = none := by kernel_rfl
theorem nel12 : elemT Tryd.prog 12 = none := by kernel_rfl
theorem sz13 : szOf Tryd.prog 13 = some 2 := by kernel_rfl
theorem ag13 : isAggT Tryd.prog 13 = some true := by kernel_rfl
theorem zc13 : zeroC Tryd.prog 13 = some [.str ⟨#[]⟩, .int .u64 0] := by kernel_rfl
theorem pl13 : placesT Tryd.prog 13 = some [(0, 1), (1, 1)] := by kernel_rfl
theorem nar13 : arrT Tryd.prog 13 = none := by kernel_rfl
theorem nel13 : elemT Tryd.prog 13 = none := by kernel_rfl
theorem fo13_0 : fieldOT Tryd.prog 13 0 = some (0, 9) := by kernel_rfl
theorem fo13_1 : fieldOT Tryd.prog 13 1 = some (1, 12) := by kernel_rfl
theorem sz14 : szOf Tryd.prog 14 = some 2 := by kernel_rfl
theorem ag14 : isAggT Tryd.prog 14 = some true := by kernel_rfl
theorem zc14 : zeroC Tryd.prog 14 = some [.str ⟨#[]⟩, .int .u64 0] := by kernel_rfl
theorem pl14 : placesT Tryd.prog 14 = some [(0, 1), (1, 1)] := by kernel_rfl
theorem nar14 : arrT Tryd.prog 14 = none := by kernel_rfl
theorem nel14 : elemT Tryd.prog 14 = none := by kernel_rfl
theorem fo14_0 : fieldOT Tryd.prog 14 0 = some (0, 9) := by kernel_rfl
theorem fo14_1 : fieldOT Tryd.prog 14 1 = some (1, 12) := by kernel_rfl
theorem sz15 : szOf Tryd.prog 15 = some 1 := by kernel_rfl
theorem ag15 : isAggT Tryd.prog 15 = some false := by kernel_rfl
theorem zc15 : zeroC Tryd.prog 15 = some [.nptr] := by kernel_rfl
theorem npl15 : placesT Tryd.prog 15 = none := by kernel_rfl
theorem un15 : Tryd.prog.underlying 15 = some (.pointer 115) := by kernel_rfl
theorem nar15 : arrT Tryd.prog 15 = none := by kernel_rfl
theorem nel15 : elemT Tryd.prog 15 = none := by kernel_rfl
theorem sz16 : szOf Tryd.prog 16 = some 1 := by kernel_rfl
theorem ag16 : isAggT Tryd.prog 16 = some false := by kernel_rfl
theorem zc16 : zeroC Tryd.prog 16 = some [.nptr] := by kernel_rfl
theorem npl16 : placesT Tryd.prog 16 = none := by kernel_rfl
theorem un16 : Tryd.prog.underlying 16 = some (.pointer 118) := by kernel_rfl
theorem nar16 : arrT Tryd.prog 16 = none := by kernel_rfl
theorem nel16 : elemT Tryd.prog 16 = none := by kernel_rfl
theorem sz17 : szOf Tryd.prog 17 = some 1 := by kernel_rfl
theorem ag17 : isAggT Tryd.prog 17 = some false := by kernel_rfl
theorem zc17 : zeroC Tryd.prog 17 = some [.nptr] := by kernel_rfl
theorem npl17 : placesT Tryd.prog 17 = none := by kernel_rfl
theorem un17 : Tryd.prog.underlying 17 = some (.pointer 127) := by kernel_rfl
theorem nar17 : arrT Tryd.prog 17 = none := by kernel_rfl
theorem nel17 : elemT Tryd.prog 17 = none := by kernel_rfl
theorem sz18 : szOf Tryd.prog 18 = some 1 := by kernel_rfl
theorem ag18 : isAggT Tryd.prog 18 = some true := by kernel_rfl
theorem zc18 : zeroC Tryd.prog 18 = some [.nptr] := by kernel_rfl
theorem pl18 : placesT Tryd.prog 18 = some [(0, 1)] := by kernel_rfl
theorem nar18 : arrT Tryd.prog 18 = none := by kernel_rfl
theorem nel18 : elemT Tryd.prog 18 = none := by kernel_rfl
theorem fo18_0 : fieldOT Tryd.prog 18 0 = some (0, 17) := by kernel_rfl
theorem sz19 : szOf Tryd.prog 19 = some 1 := by kernel_rfl
theorem ag19 : isAggT Tryd.prog 19 = some true := by kernel_rfl
theorem zc19 : zeroC Tryd.prog 19 = some [.nptr] := by kernel_rfl
theorem pl19 : placesT Tryd.prog 19 = some [(0, 1)] := by kernel_rfl
theorem nar19 : arrT Tryd.prog 19 = none := by kernel_rfl
theorem nel19 : elemT Tryd.prog 19 = none := by kernel_rfl
theorem fo19_0 : fieldOT Tryd.prog 19 0 = some (0, 17) := by kernel_rfl
theorem sz20 : szOf Tryd.prog 20 = some 1 := by kernel_rfl
theorem ag20 : isAggT Tryd.prog 20 = some false := by kernel_rfl
theorem zc20 : zeroC Tryd.prog 20 = some [.nif] := by kernel_rfl
theorem npl20 : placesT Tryd.prog 20 = none := by kernel_rfl
theorem nar20 : arrT Tryd.prog 20 = none := by kernel_rfl
theorem nel20 : elemT Tryd.prog 20 = none := by kernel_rfl
theorem ic20 : isIfc Tryd.prog 20 = true := by kernel_rfl
theorem sz21 : szOf Tryd.prog 21 = some 1 := by kernel_rfl
theorem ag21 : isAggT Tryd.prog 21 = some false := by kernel_rfl
theorem zc21 : zeroC Tryd.prog 21 = some [.int .i32 0] := by kernel_rfl
theorem npl21 : placesT Tryd.prog 21 = none := by kernel_rfl
theorem un21 : Tryd.prog.underlying 21 = some (.int .i32) := by kernel_rfl
theorem nar21 : arrT Tryd.prog 21 = none := by kernel_rfl
theorem nel21 : elemT Tryd.prog 21 = none := by kernel_rfl
theorem sz22 : szOf Tryd.prog 22 = some 1 := by kernel_rfl
theorem ag22 : isAggT Tryd.prog 22 = some false := by kernel_rfl
theorem zc22 : zeroC Tryd.prog 22 = some [.nfn] := by kernel_rfl
theorem npl22 : placesT Tryd.prog 22 = none := by kernel_rfl
theorem nar22 : arrT Tryd.prog 22 = none := by kernel_rfl
theorem nel22 : elemT Tryd.prog 22 = none := by kernel_rfl
theorem sz23 : szOf Tryd.prog 23 = some 3 := by kernel_rfl
theorem ag23 : isAggT Tryd.prog 23 = some true := by kernel_rfl
theorem zc23 : zeroC Tryd.prog 23 = some [.int .i64 0, .int .i64 0, .str ⟨#[]⟩] := by kernel_rfl
theorem pl23 : placesT Tryd.prog 23 = some [(0, 1), (1, 1), (2, 1)] := by kernel_rfl
theorem nar23 : arrT Tryd.prog 23 = none := by kernel_rfl
theorem nel23 : elemT Tryd.prog 23 = none := by kernel_rfl
theorem fs23 : fieldsT Tryd.prog 23 = some [(0, 3), (1, 3), (2, 9)] := by kernel_rfl
theorem eg23 : Tryd.prog.eqGuardType Tryd.prog.depth 23 = false := by kernel_rfl
theorem fo23_0 : fieldOT Tryd.prog 23 0 = some (0, 3) := by kernel_rfl
theorem fo23_1 : fieldOT Tryd.prog 23 1 = some (1, 3) := by kernel_rfl
theorem fo23_2 : fieldOT Tryd.prog 23 2 = some (2, 9) := by kernel_rfl
theorem sz24 : szOf Tryd.prog 24 = some 3 := by kernel_rfl
theorem by24 : byOf Tryd.prog 24 = some 32 := by kernel_rfl
theorem ag24 : isAggT Tryd.prog 24 = some true := by kernel_rfl
theorem zc24 : zeroC Tryd.prog 24 = some [.int .i64 0, .int .i64 0, .str ⟨#[]⟩] := by kernel_rfl
theorem pl24 : placesT Tryd.prog 24 = some [(0, 1), (1, 1), (2, 1)] := by kernel_rfl
theorem nar24 : arrT Tryd.prog 24 = none := by kernel_rfl
theorem nel24 : elemT Tryd.prog 24 = none := by kernel_rfl
theorem fs24 : fieldsT Tryd.prog 24 = some [(0, 3), (1, 3), (2, 9)] := by kernel_rfl
theorem eg24 : Tryd.prog.eqGuardType Tryd.prog.depth 24 = false := by kernel_rfl
theorem fo24_0 : fieldOT Tryd.prog 24 0 = some (0, 3) := by kernel_rfl
theorem fo24_1 : fieldOT Tryd.prog 24 1 = some (1, 3) := by kernel_rfl
theorem fo24_2 : fieldOT Tryd.prog 24 2 = some (2, 9) := by kernel_rfl
theorem sz25 : szOf Tryd.prog 25 = some 1 := by kernel_rfl
theorem ag25 : isAggT Tryd.prog 25 = some false := by kernel_rfl
theorem zc25 : zeroC Tryd.prog 25 = some [.nsl] := by kernel_rfl
theorem npl25 : placesT Tryd.prog 25 = none := by kernel_rfl
theorem un25 : Tryd.prog.underlying 25 = some (.slice 27) := by kernel_rfl
theorem el25 : elemT Tryd.prog 25 = some 27 := by kernel_rfl
theorem ap25 : appT Tryd.prog 25 25 = some (8, 104) := by kernel_rfl
theorem nar25 : arrT Tryd.prog 25 = none := by kernel_rfl
theorem sz26 : szOf Tryd.prog 26 = some 8 := by kernel_rfl
theorem ag26 : isAggT Tryd.prog 26 = some true := by kernel_rfl
theorem zc26 : zeroC Tryd.prog 26 = some [.int .i64 0, .int .i64 0, .int .i64 0, .str ⟨#[]⟩, .str ⟨#[]⟩, .str ⟨#[]⟩, .int .i64 0, .nsl] := by kernel_rfl
theorem pl26 : placesT Tryd.prog 26 = some [(0, 1), (1, 3), (4, 1), (5, 1), (6, 1), (7, 1)] := by kernel_rfl
theorem nar26 : arrT Tryd.prog 26 = none := by kernel_rfl
theorem nel26 : elemT Tryd.prog 26 = none := by kernel_rfl
theorem fo26_0 : fieldOT Tryd.prog 26 0 = some (0, 3) := by kernel_rfl
theorem fo26_1 : fieldOT Tryd.prog 26 1 = some (1, 24) := by kernel_rfl
theorem fo26_2 : fieldOT Tryd.prog 26 2 = some (4, 9) := by kernel_rfl
theorem fo26_3 : fieldOT Tryd.prog 26 3 = some (5, 9) := by kernel_rfl
theorem fo26_4 : fieldOT Tryd.prog 26 4 = some (6, 3) := by kernel_rfl
theorem fo26_5 : fieldOT Tryd.prog 26 5 = some (7, 25) := by kernel_rfl
theorem sz27 : szOf Tryd.prog 27 = some 8 := by kernel_rfl
theorem by27 : byOf Tryd.prog 27 = some 104 := by kernel_rfl
theorem ag27 : isAggT Tryd.prog 27 = some true := by kernel_rfl
theorem zc27 : zeroC Tryd.prog 27 = some [.int .i64 0, .int .i64 0, .int .i64 0, .str ⟨#[]⟩, .str ⟨#[]⟩, .str ⟨#[]⟩, .int .i64 0, .nsl] := by kernel_rfl
theorem pl27 : placesT Tryd.prog 27 = some [(0, 1), (1, 3), (4, 1), (5, 1), (6, 1), (7, 1)] := by kernel_rfl
theorem nar27 : arrT Tryd.prog 27 = none := by kernel_rfl
theorem nel27 : elemT Tryd.prog 27 = none := by kernel_rfl
theorem fo27_0 : fieldOT Tryd.prog 27 0 = some (0, 3) := by kernel_rfl
theorem fo27_1 : fieldOT Tryd.prog 27 1 = some (1, 24) := by kernel_rfl
theorem fo27_2 : fieldOT Tryd.prog 27 2 = some (4, 9) := by kernel_rfl
theorem fo27_3 : fieldOT Tryd.prog 27 3 = some (5, 9) := by kernel_rfl
theorem fo27_4 : fieldOT Tryd.prog 27 4 = some (6, 3) := by kernel_rfl
theorem fo27_5 : fieldOT Tryd.prog 27 5 = some (7, 25) := by kernel_rfl
theorem sz28 : szOf Tryd.prog 28 = some 1 := by kernel_rfl
theorem ag28 : isAggT Tryd.prog 28 = some false := by kernel_rfl
theorem zc28 : zeroC Tryd.prog 28 = some [.nfn] := by kernel_rfl
theorem npl28 : placesT Tryd.prog 28 = none := by kernel_rfl
theorem nar28 : arrT Tryd.prog 28 = none := by kernel_rfl
theorem nel28 : elemT Tryd.prog 28 = none := by kernel_rfl
theorem sz29 : szOf Tryd.prog 29 = some 1 := by kernel_rfl
theorem ag29 : isAggT Tryd.prog 29 = some false := by kernel_rfl
theorem zc29 : zeroC Tryd.prog 29 = some [.int .i64 0] := by kernel_rfl
theorem npl29 : placesT Tryd.prog 29 = none := by kernel_rfl
theorem un29 : Tryd.prog.underlying 29 = some (.int .i64) := by kernel_rfl
theorem nar29 : arrT Tryd.prog 29 = none := by kernel_rfl
theorem nel29 : elemT Tryd.prog 29 = none := by kernel_rfl
theorem sz31 : szOf Tryd.prog 31 = some 1 := by kernel_rfl
theorem ag31 : isAggT Tryd.prog 31 = some false := by kernel_rfl
theorem zc31 : zeroC Tryd.prog 31 = some [.nfn] := by kernel_rfl
theorem npl31 : placesT Tryd.prog 31 = none := by kernel_rfl
theorem nar31 : arrT Tryd.prog 31 = none := by kernel_rfl
theorem nel31 : elemT Tryd.prog 31 = none := by kernel_rfl
theorem sz32 : szOf Tryd.prog 32 = some 1 := by kernel_rfl
theorem ag32 : isAggT Tryd.prog 32 = some false := by kernel_rfl
theorem zc32 : zeroC Tryd.prog 32 = some [.nfn] := by kernel_rfl
theorem npl32 : placesT Tryd.prog 32 = none := by kernel_rfl
theorem nar32 : arrT Tryd.prog 32 = none := by kernel_rfl
theorem nel32 : elemT Tryd.prog 32 = none := by kernel_rfl
theorem sz33 : szOf Tryd.prog 33 = some 1 := by kernel_rfl
theorem ag33 : isAggT Tryd.prog 33 = some false := by kernel_rfl
theorem zc33 : zeroC Tryd.prog 33 = some [.nsl] := by kernel_rfl
theorem npl33 : placesT Tryd.prog 33 = none := by kernel_rfl
theorem un33 : Tryd.prog.underlying 33 = some (.slice 60) := by kernel_rfl
theorem el33 : elemT Tryd.prog 33 = some 60 := by kernel_rfl
theorem ap33 : appT Tryd.prog 33 33 = some (3, 32) := by kernel_rfl
theorem nar33 : arrT Tryd.prog 33 = none := by kernel_rfl
theorem sz34 : szOf Tryd.prog 34 = some 1 := by kernel_rfl
theorem ag34 : isAggT Tryd.prog 34 = some false := by kernel_rfl
theorem zc34 : zeroC Tryd.prog 34 = some [.nsl] := by kernel_rfl
theorem npl34 : placesT Tryd.prog 34 = none := by kernel_rfl
theorem un34 : Tryd.prog.underlying 34 = some (.slice 62) := by kernel_rfl
theorem el34 : elemT Tryd.prog 34 = some 62 := by kernel_rfl
theorem ap34 : appT Tryd.prog 34 34 = some (3, 32) := by kernel_rfl
theorem nar34 : arrT Tryd.prog 34 = none := by kernel_rfl
theorem sz35 : szOf Tryd.prog 35 = some 1 := by kernel_rfl
theorem ag35 : isAggT Tryd.prog 35 = some false := by kernel_rfl
theorem zc35 : zeroC Tryd.prog 35 = some [.nfn] := by kernel_rfl
theorem npl35 : placesT Tryd.prog 35 = none := by kernel_rfl
theorem nar35 : arrT Tryd.prog 35 = none := by kernel_rfl
theorem nel35 : elemT Tryd.prog 35 = none := by kernel_rfl
theorem sz36 : szOf Tryd.prog 36 = some 1 := by kernel_rfl
theorem ag36 : isAggT Tryd.prog 36 = some false := by kernel_rfl
theorem zc36 : zeroC Tryd.prog 36 = some [.nsl] := by kernel_rfl
theorem npl36 : placesT Tryd.prog 36 = none := by kernel_rfl
theorem un36 : Tryd.prog.underlying 36 = some (.slice 3) := by kernel_rfl
theorem el36 : elemT Tryd.prog 36 = some 3 := by kernel_rfl
theorem ap36 : appT Tryd.prog 36 36 = some (1, 8) := by kernel_rfl
theorem nar36 : arrT Tryd.prog 36 = none := by kernel_rfl
theorem sz37 : szOf Tryd.prog 37 = some 1 := by kernel_rfl
theorem ag37 : isAggT Tryd.prog 37 = some false := by kernel_rfl
theorem zc37 : zeroC Tryd.prog 37 = some [.nfn] := by kernel_rfl
theorem npl37 : placesT Tryd.prog 37 = none := by kernel_rfl
theorem nar37 : arrT Tryd.prog 37 = none := by kernel_rfl
theorem nel37 : elemT Tryd.prog 37 = none := by kernel_rfl
theorem sz38 : szOf Tryd.prog 38 = some 1 := by kernel_rfl
theorem ag38 : isAggT Tryd.prog 38 = some false := by kernel_rfl
theorem zc38 : zeroC Tryd.prog 38 = some [.nsl] := by kernel_rfl
theorem npl38 : placesT Tryd.prog 38 = none := by kernel_rfl
theorem un38 : Tryd.prog.underlying 38 = some (.slice 24) := by kernel_rfl
theorem el38 : elemT Tryd.prog 38 = some 24 := by kernel_rfl
theorem ap38 : appT Tryd.prog 38 38 = some (3, 32) := by kernel_rfl
theorem nar38 : arrT Tryd.prog 38 = none := by kernel_rfl
theorem sz39 : szOf Tryd.prog 39 = some 1 := by kernel_rfl
theorem ag39 : isAggT Tryd.prog 39 = some false := by kernel_rfl
theorem zc39 : zeroC Tryd.prog 39 = some [.nfn] := by kernel_rfl
theorem npl39 : placesT Tryd.prog 39 = none := by kernel_rfl
theorem nar39 : arrT Tryd.prog 39 = none := by kernel_rfl
theorem nel39 : elemT Tryd.prog 39 = none := by kernel_rfl
theorem sz40 : szOf Tryd.prog 40 = some 1 := by kernel_rfl
theorem ag40 : isAggT Tryd.prog 40 = some false := by kernel_rfl
theorem zc40 : zeroC Tryd.prog 40 = some [.nfn] := by kernel_rfl
theorem npl40 : placesT Tryd.prog 40 = none := by kernel_rfl
theorem nar40 : arrT Tryd.prog 40 = none := by kernel_rfl
theorem nel40 : elemT Tryd.prog 40 = none := by kernel_rfl
theorem sz41 : szOf Tryd.prog 41 = some 1 := by kernel_rfl
theorem ag41 : isAggT Tryd.prog 41 = some false := by kernel_rfl
theorem zc41 : zeroC Tryd.prog 41 = some [.nfn] := by kernel_rfl
theorem npl41 : placesT Tryd.prog 41 = none := by kernel_rfl
theorem nar41 : arrT Tryd.prog 41 = none := by kernel_rfl
theorem nel41 : elemT Tryd.prog 41 = none := by kernel_rfl
theorem sz42 : szOf Tryd.prog 42 = some 1 := by kernel_rfl
theorem ag42 : isAggT Tryd.prog 42 = some false := by kernel_rfl
theorem zc42 : zeroC Tryd.prog 42 = some [.nfn] := by kernel_rfl
theorem npl42 : placesT Tryd.prog 42 = none := by kernel_rfl
theorem nar42 : arrT Tryd.prog 42 = none := by kernel_rfl
theorem nel42 : elemT Tryd.prog 42 = none := by kernel_rfl
theorem sz43 : szOf Tryd.prog 43 = some 1 := by kernel_rfl
theorem ag43 : isAggT Tryd.prog 43 = some false := by kernel_rfl
theorem zc43 : zeroC Tryd.prog 43 = some [.nfn] := by kernel_rfl
theorem npl43 : placesT Tryd.prog 43 = none := by kernel_rfl
theorem nar43 : arrT Tryd.prog 43 = none := by kernel_rfl
theorem nel43 : elemT Tryd.prog 43 = none := by kernel_rfl
theorem sz44 : szOf Tryd.prog 44 = some 1 := by kernel_rfl
theorem ag44 : isAggT Tryd.prog 44 = some false := by kernel_rfl
theorem zc44 : zeroC Tryd.prog 44 = some [.nfn] := by kernel_rfl
theorem npl44 : placesT Tryd.prog 44 = none := by kernel_rfl
theorem nar44 : arrT Tryd.prog 44 = none := by kernel_rfl
theorem nel44 : elemT Tryd.prog 44 = none := by kernel_rfl
theorem sz46 : szOf Tryd.prog 46 = some 1 := by kernel_rfl
theorem ag46 : isAggT Tryd.prog 46 = some false := by kernel_rfl
theorem zc46 : zeroC Tryd.prog 46 = some [.nfn] := by kernel_rfl
theorem npl46 : placesT Tryd.prog 46 = none := by kernel_rfl
theorem nar46 : arrT Tryd.prog 46 = none := by kernel_rfl
theorem nel46 : elemT Tryd.prog 46 = none := by kernel_rfl
theorem sz47 : szOf Tryd.prog 47 = some 1 := by kernel_rfl
theorem ag47 : isAggT Tryd.prog 47 = some false := by kernel_rfl
theorem zc47 : zeroC Tryd.prog 47 = some [.nfn] := by kernel_rfl
theorem npl47 : placesT Tryd.prog 47 = none := by kernel_rfl
theorem nar47 : arrT Tryd.prog 47 = none := by kernel_rfl
theorem nel47 : elemT Tryd.prog 47 = none := by kernel_rfl
theorem sz48 : szOf Tryd.prog 48 = some 1 := by kernel_rfl
theorem ag48 : isAggT Tryd.prog 48 = some false := by kernel_rfl
theorem zc48 : zeroC Tryd.prog 48 = some [.nfn] := by kernel_rfl
theorem npl48 : placesT Tryd.prog 48 = none := by kernel_rfl
theorem nar48 : arrT Tryd.prog 48 = none := by kernel_rfl
theorem nel48 : elemT Tryd.prog 48 = none := by kernel_rfl
theorem sz49 : szOf Tryd.prog 49 = some 1 := by kernel_rfl
theorem ag49 : isAggT Tryd.prog 49 = some false := by kernel_rfl
theorem zc49 : zeroC Tryd.prog 49 = some [.nfn] := by kernel_rfl
theorem npl49 : placesT Tryd.prog 49 = none := by kernel_rfl
theorem nar49 : arrT Tryd.prog 49 = none := by kernel_rfl
theorem nel49 : elemT Tryd.prog 49 = none := by kernel_rfl
theorem sz50 : szOf Tryd.prog 50 = some 1 := by kernel_rfl
theorem ag50 : isAggT Tryd.prog 50 = some false := by kernel_rfl
theorem zc50 : zeroC Tryd.prog 50 = some [.nfn] := by kernel_rfl
theorem npl50 : placesT Tryd.prog 50 = none := by kernel_rfl
theorem nar50 : arrT Tryd.prog 50 = none := by kernel_rfl
theorem nel50 : elemT Tryd.prog 50 = none := by kernel_rfl
theorem sz51 : szOf Tryd.prog 51 = some 1 := by kernel_rfl
theorem ag51 : isAggT Tryd.prog 51 = some false := by kernel_rfl
theorem zc51 : zeroC Tryd.prog 51 = some [.nfn] := by kernel_rfl
theorem npl51 : placesT Tryd.prog 51 = none := by kernel_rfl
theorem nar51 : arrT Tryd.prog 51 = none := by kernel_rfl
theorem nel51 : elemT Tryd.prog 51 = none := by kernel_rfl
theorem sz52 : szOf Tryd.prog 52 = some 1 := by kernel_rfl
theorem ag52 : isAggT Tryd.prog 52 = some false := by kernel_rfl
theorem zc52 : zeroC Tryd.prog 52 = some [.nfn] := by kernel_rfl
theorem npl52 : placesT Tryd.prog 52 = none := by kernel_rfl
theorem nar52 : arrT Tryd.prog 52 = none := by kernel_rfl
theorem nel52 : elemT Tryd.prog 52 = none := by kernel_rfl
theorem sz53 : szOf Tryd.prog 53 = some 1 := by kernel_rfl
theorem ag53 : isAggT Tryd.prog 53 = some false := by kernel_rfl
theorem zc53 : zeroC Tryd.prog 53 = some [.nfn] := by kernel_rfl
theorem npl53 : placesT Tryd.prog 53 = none := by kernel_rfl
theorem nar53 : arrT Tryd.prog 53 = none := by kernel_rfl
theorem nel53 : elemT Tryd.prog 53 = none := by kernel_rfl
theorem sz54 : szOf Tryd.prog 54 = some 1 := by kernel_rfl
theorem ag54 : isAggT Tryd.prog 54 = some false := by kernel_rfl
theorem zc54 : zeroC Tryd.prog 54 = some [.nptr] := by kernel_rfl
theorem npl54 : placesT Tryd.prog 54 = none := by kernel_rfl
theorem un54 : Tryd.prog.underlying 54 = some (.pointer 57) := by kernel_rfl
theorem nar54 : arrT Tryd.prog 54 = none := by kernel_rfl
theorem nel54 : elemT Tryd.prog 54 = none := by kernel_rfl
theorem sz55 : szOf Tryd.prog 55 = some 4 := by kernel_rfl
theorem ag55 : isAggT Tryd.prog 55 = some true := by kernel_rfl
theorem zc55 : zeroC Tryd.prog 55 = some [.nsl, .nsl, .nsl, .nsl] := by kernel_rfl
theorem npl55 : placesT Tryd.prog 55 = none := by kernel_rfl
theorem un55 : Tryd.prog.underlying 55 = some (.array 4 25) := by kernel_rfl
theorem ar55 : arrT Tryd.prog 55 = some (4, 25) := by kernel_rfl
theorem nel55 : elemT Tryd.prog 55 = none := by kernel_rfl
theorem sz56 : szOf Tryd.prog 56 = some 4 := by kernel_rfl
theorem ag56 : isAggT Tryd.prog 56 = some true := by kernel_rfl
theorem zc56 : zeroC Tryd.prog 56 = some [.nsl, .nsl, .nsl, .nsl] := by kernel_rfl
theorem pl56 : placesT Tryd.prog 56 = some [(0, 4)] := by kernel_rfl
theorem nar56 : arrT Tryd.prog 56 = none := by kernel_rfl
theorem nel56 : elemT Tryd.prog 56 = none := by kernel_rfl
theorem fo56_0 : fieldOT Tryd.prog 56 0 = some (0, 55) := by kernel_rfl
theorem sz57 : szOf Tryd.prog 57 = some 4 := by kernel_rfl
theorem ag57 : isAggT Tryd.prog 57 = some true := by kernel_rfl
theorem zc57 : zeroC Tryd.prog 57 = some [.nsl, .nsl, .nsl, .nsl] := by kernel_rfl
theorem pl57 : placesT Tryd.prog 57 = some [(0, 4)] := by kernel_rfl
theorem nar57 : arrT Tryd.prog 57 = none := by kernel_rfl
theorem nel57 : elemT Tryd.prog 57 = none := by kernel_rfl
theorem fo57_0 : fieldOT Tryd.prog 57 0 = some (0, 55) := by kernel_rfl
theorem sz58 : szOf Tryd.prog 58 = some 1 := by kernel_rfl
theorem ag58 : isAggT Tryd.prog 58 = some false := by kernel_rfl
theorem zc58 : zeroC Tryd.prog 58 = some [.nfn] := by kernel_rfl
theorem npl58 : placesT Tryd.prog 58 = none := by kernel_rfl
theorem nar58 : arrT Tryd.prog 58 = none := by kernel_rfl
theorem nel58 : elemT Tryd.prog 58 = none := by kernel_rfl
theorem sz59 : szOf Tryd.prog 59 = some 3 := by kernel_rfl
theorem ag59 : isAggT Tryd.prog 59 = some true := by kernel_rfl
theorem zc59 : zeroC Tryd.prog 59 = some [.int .i64 0, .int .i64 0, .str ⟨#[]⟩] := by kernel_rfl
theorem pl59 : placesT Tryd.prog 59 = some [(0, 1), (1, 1), (2, 1)] := by kernel_rfl
theorem nar59 : arrT Tryd.prog 59 = none := by kernel_rfl
theorem nel59 : elemT Tryd.prog 59 = none := by kernel_rfl
theorem fs59 : fieldsT Tryd.prog 59 = some [(0, 3), (1, 3), (2, 9)] := by kernel_rfl
theorem eg59 : Tryd.prog.eqGuardType Tryd.prog.depth 59 = false := by kernel_rfl
theorem fo59_0 : fieldOT Tryd.prog 59 0 = some (0, 3) := by kernel_rfl
theorem fo59_1 : fieldOT Tryd.prog 59 1 = some (1, 3) := by kernel_rfl
theorem fo59_2 : fieldOT Tryd.prog 59 2 = some (2, 9) := by kernel_rfl
theorem sz60 : szOf Tryd.prog 60 = some 3 := by kernel_rfl
theorem by60 : byOf Tryd.prog 60 = some 32 := by kernel_rfl
theorem ag60 : isAggT Tryd.prog 60 = some true := by kernel_rfl
theorem zc60 : zeroC Tryd.prog 60 = some [.int .i64 0, .int .i64 0, .str ⟨#[]⟩] := by kernel_rfl
theorem pl60 : placesT Tryd.prog 60 = some [(0, 1), (1, 1), (2, 1)] := by kernel_rfl
theorem nar60 : arrT Tryd.prog 60 = none := by kernel_rfl
theorem nel60 : elemT Tryd.prog 60 = none := by kernel_rfl
theorem fs60 : fieldsT Tryd.prog 60 = some [(0, 3), (1, 3), (2, 9)] := by kernel_rfl
theorem eg60 : Tryd.prog.eqGuardType Tryd.prog.depth 60 = false := by kernel_rfl
theorem fo60_0 : fieldOT Tryd.prog 60 0 = some (0, 3) := by kernel_rfl
theorem fo60_1 : fieldOT Tryd.prog 60 1 = some (1, 3) := by kernel_rfl
theorem fo60_2 : fieldOT Tryd.prog 60 2 = some (2, 9) := by kernel_rfl
theorem sz61 : szOf Tryd.prog 61 = some 1 := by kernel_rfl
theorem ag61 : isAggT Tryd.prog 61 = some false := by kernel_rfl
theorem zc61 : zeroC Tryd.prog 61 = some [.nfn] := by kernel_rfl
theorem npl61 : placesT Tryd.prog 61 = none := by kernel_rfl
theorem nar61 : arrT Tryd.prog 61 = none := by kernel_rfl
theorem nel61 : elemT Tryd.prog 61 = none := by kernel_rfl
theorem sz62 : szOf Tryd.prog 62 = some 3 := by kernel_rfl
theorem by62 : byOf Tryd.prog 62 = some 32 := by kernel_rfl
theorem ag62 : isAggT Tryd.prog 62 = some true := by kernel_rfl
theorem zc62 : zeroC Tryd.prog 62 = some [.int .i64 0, .int .i64 0, .str ⟨#[]⟩] := by kernel_rfl
theorem pl62 : placesT Tryd.prog 62 = some [(0, 1), (1, 1), (2, 1)] := by kernel_rfl
theorem nar62 : arrT Tryd.prog 62 = none := by kernel_rfl
theorem nel62 : elemT Tryd.prog 62 = none := by kernel_rfl
theorem fs62 : fieldsT Tryd.prog 62 = some [(0, 3), (1, 3), (2, 9)] := by kernel_rfl
theorem eg62 : Tryd.prog.eqGuardType Tryd.prog.depth 62 = false := by kernel_rfl
theorem fo62_0 : fieldOT Tryd.prog 62 0 = some (0, 3) := by kernel_rfl
theorem fo62_1 : fieldOT Tryd.prog 62 1 = some (1, 3) := by kernel_rfl
theorem fo62_2 : fieldOT Tryd.prog 62 2 = some (2, 9) := by kernel_rfl
theorem sz63 : szOf Tryd.prog 63 = some 1 := by kernel_rfl
theorem ag63 : isAggT Tryd.prog 63 = some false := by kernel_rfl
theorem zc63 : zeroC Tryd.prog 63 = some [.nfn] := by kernel_rfl
theorem npl63 : placesT Tryd.prog 63 = none := by kernel_rfl
theorem nar63 : arrT Tryd.prog 63 = none := by kernel_rfl
theorem nel63 : elemT Tryd.prog 63 = none := by kernel_rfl
theorem sz64 : szOf Tryd.prog 64 = some 1 := by kernel_rfl
theorem ag64 : isAggT Tryd.prog 64 = some false := by kernel_rfl
theorem zc64 : zeroC Tryd.prog 64 = some [.nfn] := by kernel_rfl
theorem npl64 : placesT Tryd.prog 64 = none := by kernel_rfl
theorem nar64 : arrT Tryd.prog 64 = none := by kernel_rfl
theorem nel64 : elemT Tryd.prog 64 = none := by kernel_rfl
theorem sz65 : szOf Tryd.prog 65 = some 1 := by kernel_rfl
theorem ag65 : isAggT Tryd.prog 65 = some false := by kernel_rfl
theorem zc65 : zeroC Tryd.prog 65 = some [.nfn] := by kernel_rfl
theorem npl65 : placesT Tryd.prog 65 = none := by kernel_rfl
theorem nar65 : arrT Tryd.prog 65 = none := by kernel_rfl
theorem nel65 : elemT Tryd.prog 65 = none := by kernel_rfl
theorem sz66 : szOf Tryd.prog 66 = some 1 := by kernel_rfl
theorem ag66 : isAggT Tryd.prog 66 = some false := by kernel_rfl
theorem zc66 : zeroC Tryd.prog 66 = some [.nfn] := by kernel_rfl
theorem npl66 : placesT Tryd.prog 66 = none := by kernel_rfl
theorem nar66 : arrT Tryd.prog 66 = none := by kernel_rfl
theorem nel66 : elemT Tryd.prog 66 = none := by kernel_rfl
theorem sz67 : szOf Tryd.prog 67 = some 1 := by kernel_rfl
theorem ag67 : isAggT Tryd.prog 67 = some false := by kernel_rfl
theorem zc67 : zeroC Tryd.prog 67 = some [.nfn] := by kernel_rfl
theorem npl67 : placesT Tryd.prog 67 = none := by kernel_rfl
theorem nar67 : arrT Tryd.prog 67 = none := by kernel_rfl
theorem nel67 : elemT Tryd.prog 67 = none := by kernel_rfl
theorem sz68 : szOf Tryd.prog 68 = some 1 := by kernel_rfl
theorem ag68 : isAggT Tryd.prog 68 = some false := by kernel_rfl
theorem zc68 : zeroC Tryd.prog 68 = some [.nfn] := by kernel_rfl
theorem npl68 : placesT Tryd.prog 68 = none := by kernel_rfl
theorem nar68 : arrT Tryd.prog 68 = none := by kernel_rfl
theorem nel68 : elemT Tryd.prog 68 = none := by kernel_rfl
theorem sz69 : szOf Tryd.prog 69 = some 1 := by kernel_rfl
theorem ag69 : isAggT Tryd.prog 69 = some false := by kernel_rfl
theorem zc69 : zeroC Tryd.prog 69 = some [.nfn] := by kernel_rfl
theorem npl69 : placesT Tryd.prog 69 = none := by kernel_rfl
theorem nar69 : arrT Tryd.prog 69 = none := by kernel_rfl
theorem nel69 : elemT Tryd.prog 69 = none := by kernel_rfl
theorem sz71 : szOf Tryd.prog 71 = some 1 := by kernel_rfl
theorem ag71 : isAggT Tryd.prog 71 = some false := by kernel_rfl
theorem zc71 : zeroC Tryd.prog 71 = some [.nfn] := by kernel_rfl
theorem npl71 : placesT Tryd.prog 71 = none := by kernel_rfl
theorem nar71 : arrT Tryd.prog 71 = none := by kernel_rfl
theorem nel71 : elemT Tryd.prog 71 = none := by kernel_rfl
theorem sz72 : szOf Tryd.prog 72 = some 1 := by kernel_rfl
theorem ag72 : isAggT Tryd.prog 72 = some false := by kernel_rfl
theorem zc72 : zeroC Tryd.prog 72 = some [.nfn] := by kernel_rfl
theorem npl72 : placesT Tryd.prog 72 = none := by kernel_rfl
theorem nar72 : arrT Tryd.prog 72 = none := by kernel_rfl
theorem nel72 : elemT Tryd.prog 72 = none := by kernel_rfl
theorem sz73 : szOf Tryd.prog 73 = some 8 := by kernel_rfl
theorem ag73 : isAggT Tryd.prog 73 = some true := by kernel_rfl
theorem zc73 : zeroC Tryd.prog 73 = some [.int .i64 0, .int .i64 0, .int .i64 0, .str ⟨#[]⟩, .str ⟨#[]⟩, .str ⟨#[]⟩, .int .i64 0, .nsl] := by kernel_rfl
theorem pl73 : placesT Tryd.prog 73 = some [(0, 1), (1, 3), (4, 1), (5, 1), (6, 1), (7, 1)] := by kernel_rfl
theorem nar73 : arrT Tryd.prog 73 = none := by kernel_rfl
theorem nel73 : elemT Tryd.prog 73 = none := by kernel_rfl
theorem fo73_0 : fieldOT Tryd.prog 73 0 = some (0, 3) := by kernel_rfl
theorem fo73_1 : fieldOT Tryd.prog 73 1 = some (1, 24) := by kernel_rfl
theorem fo73_2 : fieldOT Tryd.prog 73 2 = some (4, 9) := by kernel_rfl
theorem fo73_3 : fieldOT Tryd.prog 73 3 = some (5, 9) := by kernel_rfl
theorem fo73_4 : fieldOT Tryd.prog 73 4 = some (6, 3) := by kernel_rfl
theorem fo73_5 : fieldOT Tryd.prog 73 5 = some (7, 25) := by kernel_rfl
theorem sz74 : szOf Tryd.prog 74 = some 1 := by kernel_rfl
theorem ag74 : isAggT Tryd.prog 74 = some false := by kernel_rfl
theorem zc74 : zeroC Tryd.prog 74 = some [.nfn] := by kernel_rfl
theorem npl74 : placesT Tryd.prog 74 = none := by kernel_rfl
theorem nar74 : arrT Tryd.prog 74 = none := by kernel_rfl
theorem nel74 : elemT Tryd.prog 74 = none := by kernel_rfl
theorem sz75 : szOf Tryd.prog 75 = some 1 := by kernel_rfl
theorem ag75 : isAggT Tryd.prog 75 = some false := by kernel_rfl
theorem zc75 : zeroC Tryd.prog 75 = some [.nfn] := by kernel_rfl
theorem npl75 : placesT Tryd.prog 75 = none := by kernel_rfl
theorem nar75 : arrT Tryd.prog 75 = none := by kernel_rfl
theorem nel75 : elemT Tryd.prog 75 = none := by kernel_rfl
theorem sz76 : szOf Tryd.prog 76 = some 1 := by kernel_rfl
theorem ag76 : isAggT Tryd.prog 76 = some false := by kernel_rfl
theorem zc76 : zeroC Tryd.prog 76 = some [.nfn] := by kernel_rfl
theorem npl76 : placesT Tryd.prog 76 = none := by kernel_rfl
theorem nar76 : arrT Tryd.prog 76 = none := by kernel_rfl
theorem nel76 : elemT Tryd.prog 76 = none := by kernel_rfl
theorem sz77 : szOf Tryd.prog 77 = some 1 := by kernel_rfl
theorem ag77 : isAggT Tryd.prog 77 = some false := by kernel_rfl
theorem zc77 : zeroC Tryd.prog 77 = some [.nfn] := by kernel_rfl
theorem npl77 : placesT Tryd.prog 77 = none := by kernel_rfl
theorem nar77 : arrT Tryd.prog 77 = none := by kernel_rfl
theorem nel77 : elemT Tryd.prog 77 = none := by kernel_rfl
theorem sz78 : szOf Tryd.prog 78 = some 1 := by kernel_rfl
theorem ag78 : isAggT Tryd.prog 78 = some false := by kernel_rfl
theorem zc78 : zeroC Tryd.prog 78 = some [.nsl] := by kernel_rfl
theorem npl78 : placesT Tryd.prog 78 = none := by kernel_rfl
theorem un78 : Tryd.prog.underlying 78 = some (.slice 5) := by kernel_rfl
theorem el78 : elemT Tryd.prog 78 = some 5 := by kernel_rfl
theorem ap78 : appT Tryd.prog 78 78 = some (1, 1) := by kernel_rfl
theorem nar78 : arrT Tryd.prog 78 = none := by kernel_rfl
theorem sz79 : szOf Tryd.prog 79 = some 1 := by kernel_rfl
theorem ag79 : isAggT Tryd.prog 79 = some false := by kernel_rfl
theorem zc79 : zeroC Tryd.prog 79 = some [.nfn] := by kernel_rfl
theorem npl79 : placesT Tryd.prog 79 = none := by kernel_rfl
theorem nar79 : arrT Tryd.prog 79 = none := by kernel_rfl
theorem nel79 : elemT Tryd.prog 79 = none := by kernel_rfl
theorem sz80 : szOf Tryd.prog 80 = some 1 := by kernel_rfl
theorem ag80 : isAggT Tryd.prog 80 = some false := by kernel_rfl
theorem zc80 : zeroC Tryd.prog 80 = some [.nfn] := by kernel_rfl
theorem npl80 : placesT Tryd.prog 80 = none := by kernel_rfl
theorem nar80 : arrT Tryd.prog 80 = none := by kernel_rfl
theorem nel80 : elemT Tryd.prog 80 = none := by kernel_rfl
theorem sz81 : szOf Tryd.prog 81 = some 256 := by kernel_rfl
theorem ag81 : isAggT Tryd.prog 81 = some true := by kernel_rfl
theorem zc81 : zeroC Tryd.prog 81 = some [.int .u8 0, .int .u8 0, .int .u8 0, .int .u8 0, .int .u8 0, .int .u8 0, .int .u8 0, .int .u8 0, .int .u8 0, .int .u8 0, .int .u8 0, .int .u8 0, .int .u8 0, .int .u8 0, .int .u8 0, .int .u8 0, .int .u8 0, .int .u8 0, .int .u8 0, .int .u8 0, .int .u8 0, .int .u8 0, .int .u8 0, .int .u8 0, .int .u8 0, .int .u8 0, .int .u8 0, .int .u8 0, .int .u8 0, .int .u8 0, .int .u8 0, .int .u8 0, .int .u8 0, .int .u8 0, .int .u8 0, .int .u8 0, .int .u8 0, .int .u8 0, .int .u8 0, .int .u8 0, .int .u8 0, .int .u8 0, .int .u8 0, .int .u8 0, .int .u8 0, .int .u8 0, .int .u8 0, .int .u8 0, .int .u8 0, .int .u8 0, .int .u8 0, .int .u8 0, .int .u8 0, .int .u8 0, .int .u8 0, .int .u8 0, .int .u8 0, .int .u8 0, .int .u8 0, .int .u8 0, .int .u8 0, .int .u8 0, .int .u8 0, .int .u8 0, .int .u8 0, .int .u8 0, .int .u8 0, .int .u8 0, .int .u8 0, .int .u8 0, .int .u8 0, .int .u8 0, .int .u8 0, .int .u8 0, .int .u8 0, .int .u8 0, .int .u8 0, .int .u8 0, .int .u8 0, .int .u8 0, .int .u8 0, .int .u8 0, .int .u8 0, .int .u8 0, .int .u8 0, .int .u8 0, .int .u8 0, .int .u8 0, .int .u8 0, .int .u8 0, .int .u8 0, .int .u8 0, .int .u8 0, .int .u8 0, .int .u8 0, .int .u8 0, .int .u8 0, .int .u8 0, .int .u8 0, .int .u8 0, .int .u8 0, .int .u8 0, .int .u8 0, .int .u8 0, .int .u8 0, .int .u8 0, .int .u8 0, .int .u8 0, .int .u8 0, .int .u8 0, .int .u8 0, .int .u8 0, .int .u8 0, .int .u8 0, .int .u8 0, .int .u8 0, .int .u8 0, .int .u8 0, .int .u8 0, .int .u8 0, .int .u8 0, .int .u8 0, .int .u8 0, .int .u8 0, .int .u8 0, .int .u8 0, .int .u8 0, .int .u8 0, .int .u8 0, .int .u8 0, .int .u8 0, .int .u8 0, .int .u8 0, .int .u8 0, .int .u8 0, .int .u8 0, .int .u8 0, .int .u8 0, .int .u8 0, .int .u8 0, .int .u8 0, .int .u8 0, .int .u8 0, .int .u8 0, .int .u8 0, .int .u8 0, .int .u8 0, .int .u8 0, .int .u8 0, .int .u8 0, .int .u8 0, .int .u8 0, .int .u8 0, .int .u8 0, .int .u8 0, .int .u8 0, .int .u8 0, .int .u8 0, .int .u8 0, .int .u8 0, .int .u8 0, .int .u8 0, .int .u8 0, .int .u8 0, .int .u8 0, .int .u8 0, .int .u8 0, .int .u8 0, .int .u8 0, .int .u8 0, .int .u8 0, .int .u8 0, .int .u8 0, .int .u8 0, .int .u8 0, .int .u8 0, .int .u8 0, .int .u8 0, .int .u8 0, .int .u8 0, .int .u8 0, .int .u8 0, .int .u8 0, .int .u8 0, .int .u8 0, .int .u8 0, .int .u8 0, .int .u8 0, .int .u8 0, .int .u8 0, .int .u8 0, .int .u8 0, .int .u8 0, .int .u8 0, .int .u8 0, .int .u8 0, .int .u8 0, .int .u8 0, .int .u8 0, .int .u8 0, .int .u8 0, .int .u8 0, .int .u8 0, .int .u8 0, .int .u8 0, .int .u8 0, .int .u8 0, .int .u8 0, .int .u8 0, .int .u8 0, .int .u8 0, .int .u8 0, .int .u8 0, .int .u8 0, .int .u8 0, .int .u8 0, .int .u8 0, .int .u8 0, .int .u8 0, .int .u8 0, .int .u8 0, .int .u8 0, .int .u8 0, .int .u8 0, .int .u8 0, .int .u8 0, .int .u8 0, .int .u8 0, .int .u8 0, .int .u8 0, .int .u8 0, .int .u8 0, .int .u8 0, .int .u8 0, .int .u8 0, .int .u8 0, .int .u8 0, .int .u8 0, .int .u8 0, .int .u8 0, .int .u8 0, .int .u8 0, .int .u8 0, .int .u8 0, .int .u8 0, .int .u8 0, .int .u8 0, .int .u8 0, .int .u8 0, .int .u8 0, .int .u8 0, .int .u8 0, .int .u8 0, .int .u8 0, .int .u8 0, .int .u8 0] := by kernel_rfl
theorem npl81 : placesT Tryd.prog 81 = none := by kernel_rfl
theorem un81 : Tryd.prog.underlying 81 = some (.array 256 5) := by kernel_rfl
theorem ar81 : arrT Tryd.prog 81 = some (256, 5) := by kernel_rfl
theorem nel81 : elemT Tryd.prog 81 = none := by kernel_rfl
theorem sz82 : szOf Tryd.prog 82 = some 2 := by kernel_rfl
theorem ag82 : isAggT Tryd.prog 82 = some true := by kernel_rfl
theorem zc82 : zeroC Tryd.prog 82 = some [.int .u8 0, .int .u8 0] := by kernel_rfl
theorem pl82 : placesT Tryd.prog 82 = some [(0, 1), (1, 1)] := by kernel_rfl
theorem nar82 : arrT Tryd.prog 82 = none := by kernel_rfl
theorem nel82 : elemT Tryd.prog 82 = none := by kernel_rfl
theorem fs82 : fieldsT Tryd.prog 82 = some [(0, 5), (1, 5)] := by kernel_rfl
theorem eg82 : Tryd.prog.eqGuardType Tryd.prog.depth 82 = false := by kernel_rfl
theorem fo82_0 : fieldOT Tryd.prog 82 0 = some (0, 5) := by kernel_rfl
theorem fo82_1 : fieldOT Tryd.prog 82 1 = some (1, 5) := by kernel_rfl
theorem sz83 : szOf Tryd.prog 83 = some 2 := by kernel_rfl
theorem ag83 : isAggT Tryd.prog 83 = some true := by kernel_rfl
theorem zc83 : zeroC Tryd.prog 83 = some [.int .u8 0, .int .u8 0] := by kernel_rfl
theorem pl83 : placesT Tryd.prog 83 = some [(0, 1), (1, 1)] := by kernel_rfl
theorem nar83 : arrT Tryd.prog 83 = none := by kernel_rfl
theorem nel83 : elemT Tryd.prog 83 = none := by kernel_rfl
theorem fs83 : fieldsT Tryd.prog 83 = some [(0, 5), (1, 5)] := by kernel_rfl
theorem eg83 : Tryd.prog.eqGuardType Tryd.prog.depth 83 = false := by kernel_rfl
theorem fo83_0 : fieldOT Tryd.prog 83 0 = some (0, 5) := by kernel_rfl
theorem fo83_1 : fieldOT Tryd.prog 83 1 = some (1, 5) := by kernel_rfl
theorem sz84 : szOf Tryd.prog 84 = some 32 := by kernel_rfl
theorem ag84 : isAggT Tryd.prog 84 = some true := by kernel_rfl
theorem zc84 : zeroC Tryd.prog 84 = some [.int .u8 0, .int .u8 0, .int .u8 0, .int .u8 0, .int .u8 0, .int .u8 0, .int .u8 0, .int .u8 0, .int .u8 0, .int .u8 0, .int .u8 0, .int .u8 0, .int .u8 0, .int .u8 0, .int .u8 0, .int .u8 0, .int .u8 0, .int .u8 0, .int .u8 0, .int .u8 0, .int .u8 0, .int .u8 0, .int .u8 0, .int .u8 0, .int .u8 0, .int .u8 0, .int .u8 0, .int .u8 0, .int .u8 0, .int .u8 0, .int .u8 0, .int .u8 0] := by kernel_rfl
theorem npl84 : placesT Tryd.prog 84 = none := by kernel_rfl
theorem un84 : Tryd.prog.underlying 84 = some (.array 16 83) := by kernel_rfl
theorem ar84 : arrT Tryd.prog 84 = some (16, 83) := by kernel_rfl
theorem nel84 : elemT Tryd.prog 84 = none := by kernel_rfl
theorem sz85 : szOf Tryd.prog 85 = some 1 := by kernel_rfl
theorem ag85 : isAggT Tryd.prog 85 = some false := by kernel_rfl
theorem zc85 : zeroC Tryd.prog 85 = some [.int .u64 0] := by kernel_rfl
theorem npl85 : placesT Tryd.prog 85 = none := by kernel_rfl
theorem un85 : Tryd.prog.underlying 85 = some (.int .u64) := by kernel_rfl
theorem nar85 : arrT Tryd.prog 85 = none := by kernel_rfl
theorem nel85 : elemT Tryd.prog 85 = none := by kernel_rfl
theorem sz87 : szOf Tryd.prog 87 = some 6 := by kernel_rfl
theorem ag87 : isAggT Tryd.prog 87 = some true := by kernel_rfl
theorem zc87 : zeroC Tryd.prog 87 = some [.int .i64 0, .int .i64 0, .str ⟨#[]⟩, .int .i64 0, .int .i64 0, .str ⟨#[]⟩] := by kernel_rfl
theorem npl87 : placesT Tryd.prog 87 = none := by kernel_rfl
theorem un87 : Tryd.prog.underlying 87 = some (.array 2 24) := by kernel_rfl
theorem ar87 : arrT Tryd.prog 87 = some (2, 24) := by kernel_rfl
theorem nel87 : elemT Tryd.prog 87 = none := by kernel_rfl
theorem sz88 : szOf Tryd.prog 88 = some 1 := by kernel_rfl
theorem ag88 : isAggT Tryd.prog 88 = some false := by kernel_rfl
theorem zc88 : zeroC Tryd.prog 88 = some [.nfn] := by kernel_rfl
theorem npl88 : placesT Tryd.prog 88 = none := by kernel_rfl
theorem nar88 : arrT Tryd.prog 88 = none := by kernel_rfl
theorem nel88 : elemT Tryd.prog 88 = none := by kernel_rfl
theorem sz89 : szOf Tryd.prog 89 = some 1 := by kernel_rfl
theorem ag89 : isAggT Tryd.prog 89 = some false := by kernel_rfl
theorem zc89 : zeroC Tryd.prog 89 = some [.nfn] := by kernel_rfl
theorem npl89 : placesT Tryd.prog 89 = none := by kernel_rfl
theorem nar89 : arrT Tryd.prog 89 = none := by kernel_rfl
theorem nel89 : elemT Tryd.prog 89 = none := by kernel_rfl
theorem sz91 : szOf Tryd.prog 91 = some 1 := by kernel_rfl
theorem ag91 : isAggT Tryd.prog 91 = some false := by kernel_rfl
theorem zc91 : zeroC Tryd.prog 91 = some [.nfn] := by kernel_rfl
theorem npl91 : placesT Tryd.prog 91 = none := by kernel_rfl
theorem nar91 : arrT Tryd.prog 91 = none := by kernel_rfl
theorem nel91 : elemT Tryd.prog 91 = none := by kernel_rfl
theorem sz92 : szOf Tryd.prog 92 = some 1 := by kernel_rfl
theorem ag92 : isAggT Tryd.prog 92 = some false := by kernel_rfl
theorem zc92 : zeroC Tryd.prog 92 = some [.int .u64 0] := by kernel_rfl
theorem npl92 : placesT Tryd.prog 92 = none := by kernel_rfl
theorem un92 : Tryd.prog.underlying 92 = some (.int .u64) := by kernel_rfl
theorem nar92 : arrT Tryd.prog 92 = none := by kernel_rfl
theorem nel92 : elemT Tryd.prog 92 = none := by kernel_rfl
theorem sz93 : szOf Tryd.prog 93 = some 1 := by kernel_rfl
theorem ag93 : isAggT Tryd.prog 93 = some false := by kernel_rfl
theorem zc93 : zeroC Tryd.prog 93 = some [.nfn] := by kernel_rfl
theorem npl93 : placesT Tryd.prog 93 = none := by kernel_rfl
theorem nar93 : arrT Tryd.prog 93 = none := by kernel_rfl
theorem nel93 : elemT Tryd.prog 93 = none := by kernel_rfl
theorem sz94 : szOf Tryd.prog 94 = some 2 := by kernel_rfl
theorem ag94 : isAggT Tryd.prog 94 = some true := by kernel_rfl
theorem zc94 : zeroC Tryd.prog 94 = some [.int .i64 0, .int .i64 0] := by kernel_rfl
theorem npl94 : placesT Tryd.prog 94 = none := by kernel_rfl
theorem un94 : Tryd.prog.underlying 94 = some (.array 2 3) := by kernel_rfl
theorem ar94 : arrT Tryd.prog 94 = some (2, 3) := by kernel_rfl
theorem nel94 : elemT Tryd.prog 94 = none := by kernel_rfl
theorem sz95 : szOf Tryd.prog 95 = some 1 := by kernel_rfl
theorem ag95 : isAggT Tryd.prog 95 = some false := by kernel_rfl
theorem zc95 : zeroC Tryd.prog 95 = some [.nfn] := by kernel_rfl
theorem npl95 : placesT Tryd.prog 95 = none := by kernel_rfl
theorem nar95 : arrT Tryd.prog 95 = none := by kernel_rfl
theorem nel95 : elemT Tryd.prog 95 = none := by kernel_rfl
theorem sz96 : szOf Tryd.prog 96 = some 1 := by kernel_rfl
theorem ag96 : isAggT Tryd.prog 96 = some false := by kernel_rfl
theorem zc96 : zeroC Tryd.prog 96 = some [.nfn] := by kernel_rfl
theorem npl96 : placesT Tryd.prog 96 = none := by kernel_rfl
theorem nar96 : arrT Tryd.prog 96 = none := by kernel_rfl
theorem nel96 : elemT Tryd.prog 96 = none := by kernel_rfl
theorem sz97 : szOf Tryd.prog 97 = some 1 := by kernel_rfl
theorem ag97 : isAggT Tryd.prog 97 = some false := by kernel_rfl
theorem zc97 : zeroC Tryd.prog 97 = some [.nfn] := by kernel_rfl
theorem npl97 : placesT Tryd.prog 97 = none := by kernel_rfl
theorem nar97 : arrT Tryd.prog 97 = none := by kernel_rfl
theorem nel97 : elemT Tryd.prog 97 = none := by kernel_rfl
theorem sz98 : szOf Tryd.prog 98 = some 1 := by kernel_rfl
theorem ag98 : isAggT Tryd.prog 98 = some false := by kernel_rfl
theorem zc98 : zeroC Tryd.prog 98 = some [.nfn] := by kernel_rfl
theorem npl98 : placesT Tryd.prog 98 = none := by kernel_rfl
theorem nar98 : arrT Tryd.prog 98 = none := by kernel_rfl
theorem nel98 : elemT Tryd.prog 98 = none := by kernel_rfl
theorem sz99 : szOf Tryd.prog 99 = some 1 := by kernel_rfl
theorem ag99 : isAggT Tryd.prog 99 = some false := by kernel_rfl
theorem zc99 : zeroC Tryd.prog 99 = some [.nfn] := by kernel_rfl
theorem npl99 : placesT Tryd.prog 99 = none := by kernel_rfl
theorem nar99 : arrT Tryd.prog 99 = none := by kernel_rfl
theorem nel99 : elemT Tryd.prog 99 = none := by kernel_rfl
theorem sz100 : szOf Tryd.prog 100 = some 1 := by kernel_rfl
theorem ag100 : isAggT Tryd.prog 100 = some false := by kernel_rfl
theorem zc100 : zeroC Tryd.prog 100 = some [.nfn] := by kernel_rfl
theorem npl100 : placesT Tryd.prog 100 = none := by kernel_rfl
theorem nar100 : arrT Tryd.prog 100 = none := by kernel_rfl
theorem nel100 : elemT Tryd.prog 100 = none := by kernel_rfl
theorem sz101 : szOf Tryd.prog 101 = some 1 := by kernel_rfl
theorem ag101 : isAggT Tryd.prog 101 = some false := by kernel_rfl
theorem zc101 : zeroC Tryd.prog 101 = some [.nfn] := by kernel_rfl
theorem npl101 : placesT Tryd.prog 101 = none := by kernel_rfl
theorem nar101 : arrT Tryd.prog 101 = none := by kernel_rfl
theorem nel101 : elemT Tryd.prog 101 = none := by kernel_rfl
theorem sz102 : szOf Tryd.prog 102 = some 5 := by kernel_rfl
theorem ag102 : isAggT Tryd.prog 102 = some true := by kernel_rfl
theorem zc102 : zeroC Tryd.prog 102 = some [.nfn, .nfn, .nfn, .nfn, .nfn] := by kernel_rfl
theorem npl102 : placesT Tryd.prog 102 = none := by kernel_rfl
theorem un102 : Tryd.prog.underlying 102 = some (.array 5 101) := by kernel_rfl
theorem ar102 : arrT Tryd.prog 102 = some (5, 101) := by kernel_rfl
theorem nel102 : elemT Tryd.prog 102 = none := by kernel_rfl
theorem sz103 : szOf Tryd.prog 103 = some 1 := by kernel_rfl
theorem ag103 : isAggT Tryd.prog 103 = some false := by kernel_rfl
theorem zc103 : zeroC Tryd.prog 103 = some [.nfn] := by kernel_rfl
theorem npl103 : placesT Tryd.prog 103 = none := by kernel_rfl
theorem nar103 : arrT Tryd.prog 103 = none := by kernel_rfl
theorem nel103 : elemT Tryd.prog 103 = none := by kernel_rfl
theorem sz104 : szOf Tryd.prog 104 = some 1 := by kernel_rfl
theorem ag104 : isAggT Tryd.prog 104 = some false := by kernel_rfl
theorem zc104 : zeroC Tryd.prog 104 = some [.nfn] := by kernel_rfl
theorem npl104 : placesT Tryd.prog 104 = none := by kernel_rfl
theorem nar104 : arrT Tryd.prog 104 = none := by kernel_rfl
theorem nel104 : elemT Tryd.prog 104 = none := by kernel_rfl
theorem sz105 : szOf Tryd.prog 105 = some 1 := by kernel_rfl
theorem ag105 : isAggT Tryd.prog 105 = some false := by kernel_rfl
theorem zc105 : zeroC Tryd.prog 105 = some [.nfn] := by kernel_rfl
theorem npl105 : placesT Tryd.prog 105 = none := by kernel_rfl
theorem nar105 : arrT Tryd.prog 105 = none := by kernel_rfl
theorem nel105 : elemT Tryd.prog 105 = none := by kernel_rfl
theorem sz106 : szOf Tryd.prog 106 = some 1 := by kernel_rfl
theorem ag106 : isAggT Tryd.prog 106 = some false := by kernel_rfl
theorem zc106 : zeroC Tryd.prog 106 = some [.nfn] := by kernel_rfl
theorem npl106 : placesT Tryd.prog 106 = none := by kernel_rfl
theorem nar106 : arrT Tryd.prog 106 = none := by kernel_rfl
theorem nel106 : elemT Tryd.prog 106 = none := by kernel_rfl
theorem sz107 : szOf Tryd.prog 107 = some 1 := by kernel_rfl
theorem ag107 : isAggT Tryd.prog 107 = some false := by kernel_rfl
theorem zc107 : zeroC Tryd.prog 107 = some [.nfn] := by kernel_rfl
theorem npl107 : placesT Tryd.prog 107 = none := by kernel_rfl
theorem nar107 : arrT Tryd.prog 107 = none := by kernel_rfl
theorem nel107 : elemT Tryd.prog 107 = none := by kernel_rfl
theorem sz108 : szOf Tryd.prog 108 = some 1 := by kernel_rfl
theorem ag108 : isAggT Tryd.prog 108 = some false := by kernel_rfl
theorem zc108 : zeroC Tryd.prog 108 = some [.nfn] := by kernel_rfl
theorem npl108 : placesT Tryd.prog 108 = none := by kernel_rfl
theorem nar108 : arrT Tryd.prog 108 = none := by kernel_rfl
theorem nel108 : elemT Tryd.prog 108 = none := by kernel_rfl
theorem sz109 : szOf Tryd.prog 109 = some 3 := by kernel_rfl
theorem ag109 : isAggT Tryd.prog 109 = some true := by kernel_rfl
theorem zc109 : zeroC Tryd.prog 109 = some [.bool false, .bool false, .bool false] := by kernel_rfl
theorem npl109 : placesT Tryd.prog 109 = none := by kernel_rfl
theorem un109 : Tryd.prog.underlying 109 = some (.array 3 4) := by kernel_rfl
theorem ar109 : arrT Tryd.prog 109 = some (3, 4) := by kernel_rfl
theorem nel109 : elemT Tryd.prog 109 = none := by kernel_rfl
theorem sz110 : szOf Tryd.prog 110 = some 18 := by kernel_rfl
theorem ag110 : isAggT Tryd.prog 110 = some true := by kernel_rfl
theorem zc110 : zeroC Tryd.prog 110 = some [.bool false, .bool false, .bool false, .bool false, .bool false, .bool false, .bool false, .bool false, .bool false, .bool false, .bool false, .bool false, .bool false, .bool false, .bool false, .bool false, .bool false, .bool false] := by kernel_rfl
theorem npl110 : placesT Tryd.prog 110 = none := by kernel_rfl
theorem un110 : Tryd.prog.underlying 110 = some (.array 6 109) := by kernel_rfl
theorem ar110 : arrT Tryd.prog 110 = some (6, 109) := by kernel_rfl
theorem nel110 : elemT Tryd.prog 110 = none := by kernel_rfl
theorem sz111 : szOf Tryd.prog 111 = some 1 := by kernel_rfl
theorem ag111 : isAggT Tryd.prog 111 = some false := by kernel_rfl
theorem zc111 : zeroC Tryd.prog 111 = some [.nfn] := by kernel_rfl
theorem npl111 : placesT Tryd.prog 111 = none := by kernel_rfl
theorem nar111 : arrT Tryd.prog 111 = none := by kernel_rfl
theorem nel111 : elemT Tryd.prog 111 = none := by kernel_rfl
theorem sz112 : szOf Tryd.prog 112 = some 1 := by kernel_rfl
theorem ag112 : isAggT Tryd.prog 112 = some false := by kernel_rfl
theorem zc112 : zeroC Tryd.prog 112 = some [.nfn] := by kernel_rfl
theorem npl112 : placesT Tryd.prog 112 = none := by kernel_rfl
theorem nar112 : arrT Tryd.prog 112 = none := by kernel_rfl
theorem nel112 : elemT Tryd.prog 112 = none := by kernel_rfl
theorem sz113 : szOf Tryd.prog 113 = some 1 := by kernel_rfl
theorem ag113 : isAggT Tryd.prog 113 = some false := by kernel_rfl
theorem zc113 : zeroC Tryd.prog 113 = some [.nfn] := by kernel_rfl
theorem npl113 : placesT Tryd.prog 113 = none := by kernel_rfl
theorem nar113 : arrT Tryd.prog 113 = none := by kernel_rfl
theorem nel113 : elemT Tryd.prog 113 = none := by kernel_rfl
theorem sz114 : szOf Tryd.prog 114 = some 4 := by kernel_rfl
theorem ag114 : isAggT Tryd.prog 114 = some true := by kernel_rfl
theorem zc114 : zeroC Tryd.prog 114 = some [.nptr, .nptr, .nptr, .str ⟨#[]⟩] := by kernel_rfl
theorem pl114 : placesT Tryd.prog 114 = some [(0, 1), (1, 1), (2, 1), (3, 1)] := by kernel_rfl
theorem nar114 : arrT Tryd.prog 114 = none := by kernel_rfl
theorem nel114 : elemT Tryd.prog 114 = none := by kernel_rfl
theorem fo114_0 : fieldOT Tryd.prog 114 0 = some (0, 17) := by kernel_rfl
theorem fo114_1 : fieldOT Tryd.prog 114 1 = some (1, 17) := by kernel_rfl
theorem fo114_2 : fieldOT Tryd.prog 114 2 = some (2, 17) := by kernel_rfl
theorem fo114_3 : fieldOT Tryd.prog 114 3 = some (3, 9) := by kernel_rfl
theorem sz115 : szOf Tryd.prog 115 = some 4 := by kernel_rfl
theorem ag115 : isAggT Tryd.prog 115 = some true := by kernel_rfl
theorem zc115 : zeroC Tryd.prog 115 = some [.nptr, .nptr, .nptr, .str ⟨#[]⟩] := by kernel_rfl
theorem pl115 : placesT Tryd.prog 115 = some [(0, 1), (1, 1), (2, 1), (3, 1)] := by kernel_rfl
theorem nar115 : arrT Tryd.prog 115 = none := by kernel_rfl
theorem nel115 : elemT Tryd.prog 115 = none := by kernel_rfl
theorem fo115_0 : fieldOT Tryd.prog 115 0 = some (0, 17) := by kernel_rfl
theorem fo115_1 : fieldOT Tryd.prog 115 1 = some (1, 17) := by kernel_rfl
theorem fo115_2 : fieldOT Tryd.prog 115 2 = some (2, 17) := by kernel_rfl
theorem fo115_3 : fieldOT Tryd.prog 115 3 = some (3, 9) := by kernel_rfl
theorem sz116 : szOf Tryd.prog 116 = some 0 := by kernel_rfl
theorem ag116 : isAggT Tryd.prog 116 = some true := by kernel_rfl
theorem zc116 : zeroC Tryd.prog 116 = some [] := by kernel_rfl
theorem npl116 : placesT Tryd.prog 116 = none := by kernel_rfl
theorem un116 : Tryd.prog.underlying 116 = some (.array 0 16) := by kernel_rfl
theorem ar116 : arrT Tryd.prog 116 = some (0, 16) := by kernel_rfl
theorem nel116 : elemT Tryd.prog 116 = none := by kernel_rfl
theorem sz117 : szOf Tryd.prog 117 = some 0 := by kernel_rfl
theorem ag117 : isAggT Tryd.prog 117 = some true := by kernel_rfl
theorem zc117 : zeroC Tryd.prog 117 = some [] := by kernel_rfl
theorem pl117 : placesT Tryd.prog 117 = some [(0, 0)] := by kernel_rfl
theorem nar117 : arrT Tryd.prog 117 = none := by kernel_rfl
theorem nel117 : elemT Tryd.prog 117 = none := by kernel_rfl
theorem fo117_0 : fieldOT Tryd.prog 117 0 = some (0, 116) := by kernel_rfl
theorem sz118 : szOf Tryd.prog 118 = some 0 := by kernel_rfl
theorem ag118 : isAggT Tryd.prog 118 = some true := by kernel_rfl
theorem zc118 : zeroC Tryd.prog 118 = some [] := by kernel_rfl
theorem pl118 : placesT Tryd.prog 118 = some [(0, 0)] := by kernel_rfl
theorem nar118 : arrT Tryd.prog 118 = none := by kernel_rfl
theorem nel118 : elemT Tryd.prog 118 = none := by kernel_rfl
theorem fo118_0 : fieldOT Tryd.prog 118 0 = some (0, 116) := by kernel_rfl
theorem sz119 : szOf Tryd.prog 119 = some 1 := by kernel_rfl
theorem ag119 : isAggT Tryd.prog 119 = some false := by kernel_rfl
theorem zc119 : zeroC Tryd.prog 119 = some [.int .u32 0] := by kernel_rfl
theorem npl119 : placesT Tryd.prog 119 = none := by kernel_rfl
theorem un119 : Tryd.prog.underlying 119 = some (.int .u32) := by kernel_rfl
theorem nar119 : arrT Tryd.prog 119 = none := by kernel_rfl
theorem nel119 : elemT Tryd.prog 119 = none := by kernel_rfl
theorem sz120 : szOf Tryd.prog 120 = some 1 := by kernel_rfl
theorem ag120 : isAggT Tryd.prog 120 = some false := by kernel_rfl
theorem zc120 : zeroC Tryd.prog 120 = some [.int .u8 0] := by kernel_rfl
theorem npl120 : placesT Tryd.prog 120 = none := by kernel_rfl
theorem un120 : Tryd.prog.underlying 120 = some (.int .u8) := by kernel_rfl
theorem nar120 : arrT Tryd.prog 120 = none := by kernel_rfl
theorem nel120 : elemT Tryd.prog 120 = none := by kernel_rfl
theorem sz121 : szOf Tryd.prog 121 = some 1 := by kernel_rfl
theorem ag121 : isAggT Tryd.prog 121 = some false := by kernel_rfl
theorem zc121 : zeroC Tryd.prog 121 = some [.int .u8 0] := by kernel_rfl
theorem npl121 : placesT Tryd.prog 121 = none := by kernel_rfl
theorem un121 : Tryd.prog.underlying 121 = some (.int .u8) := by kernel_rfl
theorem nar121 : arrT Tryd.prog 121 = none := by kernel_rfl
theorem nel121 : elemT Tryd.prog 121 = none := by kernel_rfl
theorem sz122 : szOf Tryd.prog 122 = some 1 := by kernel_rfl
theorem ag122 : isAggT Tryd.prog 122 = some false := by kernel_rfl
theorem zc122 : zeroC Tryd.prog 122 = some [.nfn] := by kernel_rfl
theorem npl122 : placesT Tryd.prog 122 = none := by kernel_rfl
theorem nar122 : arrT Tryd.prog 122 = none := by kernel_rfl
theorem nel122 : elemT Tryd.prog 122 = none := by kernel_rfl
theorem sz123 : szOf Tryd.prog 123 = some 1 := by kernel_rfl
theorem ag123 : isAggT Tryd.prog 123 = some false := by kernel_rfl
theorem zc123 : zeroC Tryd.prog 123 = some [.nptr] := by kernel_rfl
theorem npl123 : placesT Tryd.prog 123 = none := by kernel_rfl
theorem un123 : Tryd.prog.underlying 123 = some (.pointer 5) := by kernel_rfl
theorem nar123 : arrT Tryd.prog 123 = none := by kernel_rfl
theorem nel123 : elemT Tryd.prog 123 = none := by kernel_rfl
theorem sz124 : szOf Tryd.prog 124 = some 1 := by kernel_rfl
theorem ag124 : isAggT Tryd.prog 124 = some false := by kernel_rfl
theorem zc124 : zeroC Tryd.prog 124 = some [.int .i32 0] := by kernel_rfl
theorem npl124 : placesT Tryd.prog 124 = none := by kernel_rfl
theorem un124 : Tryd.prog.underlying 124 = some (.int .i32) := by kernel_rfl
theorem nar124 : arrT Tryd.prog 124 = none := by kernel_rfl
theorem nel124 : elemT Tryd.prog 124 = none := by kernel_rfl
theorem sz125 : szOf Tryd.prog 125 = some 1 := by kernel_rfl
theorem ag125 : isAggT Tryd.prog 125 = some false := by kernel_rfl
theorem zc125 : zeroC Tryd.prog 125 = some [.int .i32 0] := by kernel_rfl
theorem npl125 : placesT Tryd.prog 125 = none := by kernel_rfl
theorem un125 : Tryd.prog.underlying 125 = some (.int .i32) := by kernel_rfl
theorem nar125 : arrT Tryd.prog 125 = none := by kernel_rfl
theorem nel125 : elemT Tryd.prog 125 = none := by kernel_rfl
theorem sz126 : szOf Tryd.prog 126 = some 11 := by kernel_rfl
theorem ag126 : isAggT Tryd.prog 126 = some true := by kernel_rfl
theorem zc126 : zeroC Tryd.prog 126 = some [.int .u64 0, .int .u64 0, .int .u32 0, .int .u8 0, .int .u8 0, .int .u8 0, .int .u8 0, .nfn, .nptr, .int .i32 0, .int .i32 0] := by kernel_rfl
theorem pl126 : placesT Tryd.prog 126 = some [(0, 1), (1, 1), (2, 1), (3, 1), (4, 1), (5, 1), (6, 1), (7, 1), (8, 1), (9, 1), (10, 1)] := by kernel_rfl
theorem nar126 : arrT Tryd.prog 126 = none := by kernel_rfl
theorem nel126 : elemT Tryd.prog 126 = none := by kernel_rfl
theorem fo126_0 : fieldOT Tryd.prog 126 0 = some (0, 12) := by kernel_rfl
theorem fo126_1 : fieldOT Tryd.prog 126 1 = some (1, 12) := by kernel_rfl
theorem fo126_2 : fieldOT Tryd.prog 126 2 = some (2, 119) := by kernel_rfl
theorem fo126_3 : fieldOT Tryd.prog 126 3 = some (3, 120) := by kernel_rfl
theorem fo126_4 : fieldOT Tryd.prog 126 4 = some (4, 5) := by kernel_rfl
theorem fo126_5 : fieldOT Tryd.prog 126 5 = some (5, 5) := by kernel_rfl
theorem fo126_6 : fieldOT Tryd.prog 126 6 = some (6, 121) := by kernel_rfl
theorem fo126_7 : fieldOT Tryd.prog 126 7 = some (7, 122) := by kernel_rfl
theorem fo126_8 : fieldOT Tryd.prog 126 8 = some (8, 123) := by kernel_rfl
theorem fo126_9 : fieldOT Tryd.prog 126 9 = some (9, 124) := by kernel_rfl
theorem fo126_10 : fieldOT Tryd.prog 126 10 = some (10, 125) := by kernel_rfl
theorem sz127 : szOf Tryd.prog 127 = some 11 := by kernel_rfl
theorem ag127 : isAggT Tryd.prog 127 = some true := by kernel_rfl
theorem zc127 : zeroC Tryd.prog 127 = some [.int .u64 0, .int .u64 0, .int .u32 0, .int .u8 0, .int .u8 0, .int .u8 0, .int .u8 0, .nfn, .nptr, .int .i32 0, .int .i32 0] := by kernel_rfl
theorem pl127 : placesT Tryd.prog 127 = some [(0, 1), (1, 1), (2, 1), (3, 1), (4, 1), (5, 1), (6, 1), (7, 1), (8, 1), (9, 1), (10, 1)] := by kernel_rfl
theorem nar127 : arrT Tryd.prog 127 = none := by kernel_rfl
theorem nel127 : elemT Tryd.prog 127 = none := by kernel_rfl
theorem fo127_0 : fieldOT Tryd.prog 127 0 = some (0, 12) := by kernel_rfl
theorem fo127_1 : fieldOT Tryd.prog 127 1 = some (1, 12) := by kernel_rfl
theorem fo127_2 : fieldOT Tryd.prog 127 2 = some (2, 119) := by kernel_rfl
theorem fo127_3 : fieldOT Tryd.prog 127 3 = some (3, 120) := by kernel_rfl
theorem fo127_4 : fieldOT Tryd.prog 127 4 = some (4, 5) := by kernel_rfl
theorem fo127_5 : fieldOT Tryd.prog 127 5 = some (5, 5) := by kernel_rfl
theorem fo127_6 : fieldOT Tryd.prog 127 6 = some (6, 121) := by kernel_rfl
theorem fo127_7 : fieldOT Tryd.prog 127 7 = some (7, 122) := by kernel_rfl
theorem fo127_8 : fieldOT Tryd.prog 127 8 = some (8, 123) := by kernel_rfl
theorem fo127_9 : fieldOT Tryd.prog 127 9 = some (9, 124) := by kernel_rfl
theorem fo127_10 : fieldOT Tryd.prog 127 10 = some (10, 125) := by kernel_rfl
theorem mixed : Tryd.prog.follows .mixedOrders = true := by kernel_rfl
attribute [simp] sz1 ag1 zc1 npl1 nar1 nel1 sz2 ag2 zc2 npl2 un2 nar2 nel2 sz3 by3 ag3 zc3 npl3 un3 nar3 nel3 sz4 ag4 zc4 npl4 un4 nar4 nel4 sz5 by5 ag5 zc5 npl5 un5 nar5 nel5 sz6 ag6 zc6 npl6 un6 nar6 nel6 sz7 ag7 zc7 pl7 nar7 nel7 fo7_0 fo7_1 fo7_2 fo7_3 sz8 ag8 zc8 pl8 nar8 nel8 fo8_0 fo8_1 fo8_2 fo8_3 sz9 ag9 zc9 npl9 un9 nar9 nel9 sz10 ag10 zc10 npl10 un10 nar10 nel10 sz11 ag11 zc11 npl11 un11 nar11 nel11 sz12 ag12 zc12 npl12 un12 nar12 nel12 sz13 ag13 zc13 pl13 nar13 nel13 fo13_0 fo13_1 sz14 ag14 zc14 pl14 nar14 nel14 fo14_0 fo14_1 sz15 ag15 zc15 npl15 un15 nar15 nel15 sz16 ag16 zc16 npl16 un16 nar16 nel16 sz17 ag17 zc17 npl17 un17 nar17 nel17 sz18 ag18 zc18 pl18 nar18 nel18 fo18_0 sz19 ag19 zc19 pl19 nar19 nel19 fo19_0 sz20 ag20 zc20 npl20 nar20 nel20 ic20 sz21 ag21 zc21 npl21 un21 nar21 nel21 sz22 ag22 zc22 npl22 nar22 nel22 sz23 ag23 zc23 pl23 nar23 nel23 fs23 eg23 fo23_0 fo23_1 fo23_2 sz24 by24 ag24 zc24 pl24 nar24 nel24 fs24 eg24 fo24_0 fo24_1 fo24_2 sz25 ag25 zc25 npl25 un25 el25 ap25 nar25 sz26 ag26 zc26 pl26 nar26 nel26 fo26_0 fo26_1 fo26_2 fo26_3 fo26_4 fo26_5 sz27 by27 ag27 zc27 pl27 nar27 nel27 fo27_0 fo27_1 fo27_2 fo27_3 fo27_4 fo27_5 sz28 ag28 zc28 npl28 nar28 nel28 sz29 ag29 zc29 npl29 un29 nar29 nel29 sz31 ag31 zc31 npl31 nar31 nel31 sz32 ag32 zc32 npl32 nar32 nel32 sz33 ag33 zc33 npl33 un33 el33 ap33 nar33 sz34 ag34 zc34 npl34 un34 el34 ap34 nar34 sz35 ag35 zc35 npl35 nar35 nel35 sz36 ag36 zc36 npl36 un36 el36 ap36 nar36 sz37 ag37 zc37 npl37 nar37 nel37 sz38 ag38 zc38 npl38 un38 el38 ap38 nar38 sz39 ag39 zc39 npl39 nar39 nel39 sz40 ag40 zc40 npl40 nar40 nel40 sz41 ag41 zc41 npl41 nar41 nel41 sz42 ag42 zc42 npl42 nar42 nel42 sz43 ag43 zc43 npl43 nar43 nel43 sz44 ag44 zc44 npl44 nar44 nel44 sz46 ag46 zc46 npl46 nar46 nel46 sz47 ag47 zc47 npl47 nar47 nel47 sz48 ag48 zc48 npl48 nar48 nel48 sz49 ag49 zc49 npl49 nar49 nel49 sz50 ag50 zc50 npl50 nar50 nel50 sz51 ag51 zc51 npl51 nar51 nel51 sz52 ag52 zc52 npl52 nar52 nel52 sz53 ag53 zc53 npl53 nar53 nel53 sz54 ag54 zc54 npl54 un54 nar54 nel54 sz55 ag55 zc55 npl55 un55 ar55 nel55 sz56 ag56 zc56 pl56 nar56 nel56 fo56_0 sz57 ag57 zc57 pl57 nar57 nel57 fo57_0 sz58 ag58 zc58 npl58 nar58 nel58 sz59 ag59 zc59 pl59 nar59 nel59 fs59 eg59 fo59_0 fo59_1 fo59_2 sz60 by60 ag60 zc60 pl60 nar60 nel60 fs60 eg60 fo60_0 fo60_1 fo60_2 sz61 ag61 zc61 npl61 nar61 nel61 sz62 by62 ag62 zc62 pl62 nar62 nel62 fs62 eg62 fo62_0 fo62_1 fo62_2 sz63 ag63 zc63 npl63 nar63 nel63 sz64 ag64 zc64 npl64 nar64 nel64 sz65 ag65 zc65 npl65 nar65 nel65 sz66 ag66 zc66 npl66 nar66 nel66 sz67 ag67 zc67 npl67 nar67 nel67 sz68 ag68 zc68 npl68 nar68 nel68 sz69 ag69 zc69 npl69 nar69 nel69 sz71 ag71 zc71 npl71 nar71 nel71 sz72 ag72 zc72 npl72 nar72 nel72 sz73 ag73 zc73 pl73 nar73 nel73 fo73_0 fo73_1 fo73_2 fo73_3 fo73_4 fo73_5 sz74 ag74 zc74 npl74 nar74 nel74 sz75 ag75 zc75 npl75 nar75 nel75 sz76 ag76 zc76 npl76 nar76 nel76 sz77 ag77 zc77 npl77 nar77 nel77 sz78 ag78 zc78 npl78 un78 el78 ap78 nar78 sz79 ag79 zc79 npl79 nar79 nel79 sz80 ag80 zc80 npl80 nar80 nel80 sz81 ag81 zc81 npl81 un81 ar81 nel81 sz82 ag82 zc82 pl82 nar82 nel82 fs82 eg82 fo82_0 fo82_1 sz83 ag83 zc83 pl83 nar83 nel83 fs83 eg83 fo83_0 fo83_1 sz84 ag84 zc84 npl84 un84 ar84 nel84 sz85 ag85 zc85 npl85 un85 nar85 nel85 sz87 ag87 zc87 npl87 un87 ar87 nel87 sz88 ag88 zc88 npl88 nar88 nel88 sz89 ag89 zc89 npl89 nar89 nel89 sz91 ag91 zc91 npl91 nar91 nel91 sz92 ag92 zc92 npl92 un92 nar92 nel92 sz93 ag93 zc93 npl93 nar93 nel93 sz94 ag94 zc94 npl94 un94 ar94 nel94 sz95 ag95 zc95 npl95 nar95 nel95 sz96 ag96 zc96 npl96 nar96 nel96 sz97 ag97 zc97 npl97 nar97 nel97 sz98 ag98 zc98 npl98 nar98 nel98 sz99 ag99 zc99 npl99 nar99 nel99 sz100 ag100 zc100 npl100 nar100 nel100 sz101 ag101 zc101 npl101 nar101 nel101 sz102 ag102 zc102 npl102 un102 ar102 nel102 sz103 ag103 zc103 npl103 nar103 nel103 sz104 ag104 zc104 npl104 nar104 nel104 sz105 ag105 zc105 npl105 nar105 nel105 sz106 ag106 zc106 npl106 nar106 nel106 sz107 ag107 zc107 npl107 nar107 nel107 sz108 ag108 zc108 npl108 nar108 nel108 sz109 ag109 zc109 npl109 un109 ar109 nel109 sz110 ag110 zc110 npl110 un110 ar110 nel110 sz111 ag111 zc111 npl111 nar111 nel111 sz112 ag112 zc112 npl112 nar112 nel112 sz113 ag113 zc113 npl113 nar113 nel113 sz114 ag114 zc114 pl114 nar114 nel114 fo114_0 fo114_1 fo114_2 fo114_3 sz115 ag115 zc115 pl115 nar115 nel115 fo115_0 fo115_1 fo115_2 fo115_3 sz116 ag116 zc116 npl116 un116 ar116 nel116 sz117 ag117 zc117 pl117 nar117 nel117 fo117_0 sz118 ag118 zc118 pl118 nar118 nel118 fo118_0 sz119 ag119 zc119 npl119 un119 nar119 nel119 sz120 ag120 zc120 npl120 un120 nar120 nel120 sz121 ag121 zc121 npl121 un121 nar121 nel121 sz122 ag122 zc122 npl122 nar122 nel122 sz123 ag123 zc123 npl123 un123 nar123 nel123 sz124 ag124 zc124 npl124 un124 nar124 nel124 sz125 ag125 zc125 npl125 un125 nar125 nel125 sz126 ag126 zc126 pl126 nar126 nel126 fo126_0 fo126_1 fo126_2 fo126_3 fo126_4 fo126_5 fo126_6 fo126_7 fo126_8 fo126_9 fo126_10 sz127 ag127 zc127 pl127 nar127 nel127 fo127_0 fo127_1 fo127_2 fo127_3 fo127_4 fo127_5 fo127_6 fo127_7 fo127_8 fo127_9 fo127_10
@[simp] theorem ei2 {σ : Store} {k : IntKind} {a b : Int} : eqD Tryd.prog σ 18 2 (.int k a) (.int k b) = some (a == b) := eqD_int18 un2 k a b
@[simp] theorem ei3 {σ : Store} {k : IntKind} {a b : Int} : eqD Tryd.prog σ 18 3 (.int k a) (.int k b) = some (a == b) := eqD_int18 un3 k a b
@[simp] theorem ei5 {σ : Store} {k : IntKind} {a b : Int} : eqD Tryd.prog σ 18 5 (.int k a) (.int k b) = some (a == b) := eqD_int18 un5 k a b
@[simp] theorem ei6 {σ : Store} {k : IntKind} {a b : Int} : eqD Tryd.prog σ 18 6 (.int k a) (.int k b) = some (a == b) := eqD_int18 un6 k a b
@[simp] theorem ei12 {σ : Store} {k : IntKind} {a b : Int} : eqD Tryd.prog σ 18 12 (.int k a) (.int k b) = some (a == b) := eqD_int18 un12 k a b
@[simp] theorem ia20 {σ : Store} : eqD Tryd.prog σ 20 20 .nif .nif = some true := eqD_nif ic20
@[simp] theorem ib20 {σ : Store} {u : TypeId} {d : D} : eqD Tryd.prog σ 20 20 (.ifc u d) .nif = some false := eqD_ifc_nif ic20 u d
@[simp] theorem ig20 {σ : Store} {u : TypeId} {d : D} : eqD Tryd.prog σ 20 20 .nif (.ifc u d) = some false := eqD_nif_ifc ic20 u d
@[simp] theorem ei21 {σ : Store} {k : IntKind} {a b : Int} : eqD Tryd.prog σ 18 21 (.int k a) (.int k b) = some (a == b) := eqD_int18 un21 k a b
@[simp] theorem eq23 {σ : Store} {xs ys : List D} : eqD Tryd.prog σ 20 23 (.agg xs) (.agg ys) = eqG Tryd.prog σ 18 [(0, 3), (1, 3), (2, 9)] xs ys := eqD_struct20 fs23
@[simp] theorem go23 {c : Bool} {xs ys : List D} : guardOk Tryd.prog c 23 (.agg xs) (.agg ys) = true := guardOk_agg eg23
@[simp] theorem eq24 {σ : Store} {xs ys : List D} : eqD Tryd.prog σ 20 24 (.agg xs) (.agg ys) = eqG Tryd.prog σ 18 [(0, 3), (1, 3), (2, 9)] xs ys := eqD_struct20 fs24
@[simp] theorem go24 {c : Bool} {xs ys : List D} : guardOk Tryd.prog c 24 (.agg xs) (.agg ys) = true := guardOk_agg eg24
@[simp] theorem en25 {σ : Store} {f : Bool} {d : D} {cs : List D} {n : Nat} : eqD Tryd.prog σ 20 25 (.sl f (d :: cs) n) .nsl = some false := eqD_sl_nil un25 f d cs n
@[simp] theorem em25 {σ : Store} : eqD Tryd.prog σ 20 25 .nsl .nsl = some true := eqD_nil_nil un25
@[simp] theorem ei29 {σ : Store} {k : IntKind} {a b : Int} : eqD Tryd.prog σ 18 29 (.int k a) (.int k b) = some (a == b) := eqD_int18 un29 k a b
@[simp] theorem en33 {σ : Store} {f : Bool} {d : D} {cs : List D} {n : Nat} : eqD Tryd.prog σ 20 33 (.sl f (d :: cs) n) .nsl = some false := eqD_sl_nil un33 f d cs n
@[simp] theorem em33 {σ : Store} : eqD Tryd.prog σ 20 33 .nsl .nsl = some true := eqD_nil_nil un33
@[simp] theorem en34 {σ : Store} {f : Bool} {d : D} {cs : List D} {n : Nat} : eqD Tryd.prog σ 20 34 (.sl f (d :: cs) n) .nsl = some false := eqD_sl_nil un34 f d cs n
@[simp] theorem em34 {σ : Store} : eqD Tryd.prog σ 20 34 .nsl .nsl = some true := eqD_nil_nil un34
@[simp] theorem en36 {σ : Store} {f : Bool} {d : D} {cs : List D} {n : Nat} : eqD Tryd.prog σ 20 36 (.sl f (d :: cs) n) .nsl = some false := eqD_sl_nil un36 f d cs n
@[simp] theorem em36 {σ : Store} : eqD Tryd.prog σ 20 36 .nsl .nsl = some true := eqD_nil_nil un36
@[simp] theorem en38 {σ : Store} {f : Bool} {d : D} {cs : List D} {n : Nat} : eqD Tryd.prog σ 20 38 (.sl f (d :: cs) n) .nsl = some false := eqD_sl_nil un38 f d cs n
@[simp] theorem em38 {σ : Store} : eqD Tryd.prog σ 20 38 .nsl .nsl = some true := eqD_nil_nil un38
@[simp] theorem eq59 {σ : Store} {xs ys : List D} : eqD Tryd.prog σ 20 59 (.agg xs) (.agg ys) = eqG Tryd.prog σ 18 [(0, 3), (1, 3), (2, 9)] xs ys := eqD_struct20 fs59
@[simp] theorem go59 {c : Bool} {xs ys : List D} : guardOk Tryd.prog c 59 (.agg xs) (.agg ys) = true := guardOk_agg eg59
@[simp] theorem eq60 {σ : Store} {xs ys : List D} : eqD Tryd.prog σ 20 60 (.agg xs) (.agg ys) = eqG Tryd.prog σ 18 [(0, 3), (1, 3), (2, 9)] xs ys := eqD_struct20 fs60
@[simp] theorem go60 {c : Bool} {xs ys : List D} : guardOk Tryd.prog c 60 (.agg xs) (.agg ys) = true := guardOk_agg eg60
@[simp] theorem eq62 {σ : Store} {xs ys : List D} : eqD Tryd.prog σ 20 62 (.agg xs) (.agg ys) = eqG Tryd.prog σ 18 [(0, 3), (1, 3), (2, 9)] xs ys := eqD_struct20 fs62
@[simp] theorem go62 {c : Bool} {xs ys : List D} : guardOk Tryd.prog c 62 (.agg xs) (.agg ys) = true := guardOk_agg eg62
@[simp] theorem en78 {σ : Store} {f : Bool} {d : D} {cs : List D} {n : Nat} : eqD Tryd.prog σ 20 78 (.sl f (d :: cs) n) .nsl = some false := eqD_sl_nil un78 f d cs n
@[simp] theorem em78 {σ : Store} : eqD Tryd.prog σ 20 78 .nsl .nsl = some true := eqD_nil_nil un78
@[simp] theorem eq82 {σ : Store} {xs ys : List D} : eqD Tryd.prog σ 20 82 (.agg xs) (.agg ys) = eqG Tryd.prog σ 18 [(0, 5), (1, 5)] xs ys := eqD_struct20 fs82
@[simp] theorem go82 {c : Bool} {xs ys : List D} : guardOk Tryd.prog c 82 (.agg xs) (.agg ys) = true := guardOk_agg eg82
@[simp] theorem eq83 {σ : Store} {xs ys : List D} : eqD Tryd.prog σ 20 83 (.agg xs) (.agg ys) = eqG Tryd.prog σ 18 [(0, 5), (1, 5)] xs ys := eqD_struct20 fs83
@[simp] theorem go83 {c : Bool} {xs ys : List D} : guardOk Tryd.prog c 83 (.agg xs) (.agg ys) = true := guardOk_agg eg83
@[simp] theorem ei85 {σ : Store} {k : IntKind} {a b : Int} : eqD Tryd.prog σ 18 85 (.int k a) (.int k b) = some (a == b) := eqD_int18 un85 k a b
@[simp] theorem ei92 {σ : Store} {k : IntKind} {a b : Int} : eqD Tryd.prog σ 18 92 (.int k a) (.int k b) = some (a == b) := eqD_int18 un92 k a b
@[simp] theorem ei119 {σ : Store} {k : IntKind} {a b : Int} : eqD Tryd.prog σ 18 119 (.int k a) (.int k b) = some (a == b) := eqD_int18 un119 k a b
@[simp] theorem ei120 {σ : Store} {k : IntKind} {a b : Int} : eqD Tryd.prog σ 18 120 (.int k a) (.int k b) = some (a == b) := eqD_int18 un120 k a b
@[simp] theorem ei121 {σ : Store} {k : IntKind} {a b : Int} : eqD Tryd.prog σ 18 121 (.int k a) (.int k b) = some (a == b) := eqD_int18 un121 k a b
@[simp] theorem ei124 {σ : Store} {k : IntKind} {a b : Int} : eqD Tryd.prog σ 18 124 (.int k a) (.int k b) = some (a == b) := eqD_int18 un124 k a b
@[simp] theorem ei125 {σ : Store} {k : IntKind} {a b : Int} : eqD Tryd.prog σ 18 125 (.int k a) (.int k b) = some (a == b) := eqD_int18 un125 k a b
end Go.Proofs.YtmgoekfgdgejiaaDoor
