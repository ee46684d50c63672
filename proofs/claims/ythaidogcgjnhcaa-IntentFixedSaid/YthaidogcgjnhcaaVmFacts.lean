/- What the types of this seat are. Printed by facts.py (own work). -/
import Derived.Test.YthaidogcgjnhcaaVmCmp
import Derived.Test.YthaidogcgjnhcaaProg
namespace Go.Proofs.Ythaidogcgjnhcaa
open Go Go.Vm Go.Proofs
theorem sz1 : szOf Try.prog 1 = some 1 := by kernel_rfl
theorem ag1 : isAggT Try.prog 1 = some false := by kernel_rfl
theorem zc1 : zeroC Try.prog 1 = some [.nfn] := by kernel_rfl
theorem npl1 : placesT Try.prog 1 = none := by kernel_rfl
theorem nar1 : arrT Try.prog 1 = none := by kernel_rfl
theorem nel1 : elemT Try.prog 1 = none := by kernel_rfl
theorem sz2 : szOf Try.prog 2 = some 1 := by kernel_rfl
theorem ag2 : isAggT Try.prog 2 = some false := by kernel_rfl
theorem zc2 : zeroC Try.prog 2 = some [.int .i64 0] := by kernel_rfl
theorem npl2 : placesT Try.prog 2 = none := by kernel_rfl
theorem un2 : Try.prog.underlying 2 = some (.int .i64) := by kernel_rfl
theorem nar2 : arrT Try.prog 2 = none := by kernel_rfl
theorem nel2 : elemT Try.prog 2 = none := by kernel_rfl
theorem sz3 : szOf Try.prog 3 = some 1 := by kernel_rfl
theorem by3 : byOf Try.prog 3 = some 8 := by kernel_rfl
theorem ag3 : isAggT Try.prog 3 = some false := by kernel_rfl
theorem zc3 : zeroC Try.prog 3 = some [.int .i64 0] := by kernel_rfl
theorem npl3 : placesT Try.prog 3 = none := by kernel_rfl
theorem un3 : Try.prog.underlying 3 = some (.int .i64) := by kernel_rfl
theorem nar3 : arrT Try.prog 3 = none := by kernel_rfl
theorem nel3 : elemT Try.prog 3 = none := by kernel_rfl
theorem sz4 : szOf Try.prog 4 = some 1 := by kernel_rfl
theorem ag4 : isAggT Try.prog 4 = some false := by kernel_rfl
theorem zc4 : zeroC Try.prog 4 = some [.bool false] := by kernel_rfl
theorem npl4 : placesT Try.prog 4 = none := by kernel_rfl
theorem un4 : Try.prog.underlying 4 = some .bool := by kernel_rfl
theorem nar4 : arrT Try.prog 4 = none := by kernel_rfl
theorem nel4 : elemT Try.prog 4 = none := by kernel_rfl
theorem sz5 : szOf Try.prog 5 = some 1 := by kernel_rfl
theorem by5 : byOf Try.prog 5 = some 1 := by kernel_rfl
theorem ag5 : isAggT Try.prog 5 = some false := by kernel_rfl
theorem zc5 : zeroC Try.prog 5 = some [.int .u8 0] := by kernel_rfl
theorem npl5 : placesT Try.prog 5 = none := by kernel_rfl
theorem un5 : Try.prog.underlying 5 = some (.int .u8) := by kernel_rfl
theorem nar5 : arrT Try.prog 5 = none := by kernel_rfl
theorem nel5 : elemT Try.prog 5 = none := by kernel_rfl
theorem sz6 : szOf Try.prog 6 = some 1 := by kernel_rfl
theorem ag6 : isAggT Try.prog 6 = some false := by kernel_rfl
theorem zc6 : zeroC Try.prog 6 = some [.int .u8 0] := by kernel_rfl
theorem npl6 : placesT Try.prog 6 = none := by kernel_rfl
theorem un6 : Try.prog.underlying 6 = some (.int .u8) := by kernel_rfl
theorem nar6 : arrT Try.prog 6 = none := by kernel_rfl
theorem nel6 : elemT Try.prog 6 = none := by kernel_rfl
theorem sz7 : szOf Try.prog 7 = some 4 := by kernel_rfl
theorem ag7 : isAggT Try.prog 7 = some true := by kernel_rfl
theorem zc7 : zeroC Try.prog 7 = some [.int .i64 0, .int .i64 0, .bool false, .int .u8 0] := by kernel_rfl
theorem pl7 : placesT Try.prog 7 = some [(0, 1), (1, 1), (2, 1), (3, 1)] := by kernel_rfl
theorem nar7 : arrT Try.prog 7 = none := by kernel_rfl
theorem nel7 : elemT Try.prog 7 = none := by kernel_rfl
theorem fo7_0 : fieldOT Try.prog 7 0 = some (0, 2) := by kernel_rfl
theorem fo7_1 : fieldOT Try.prog 7 1 = some (1, 3) := by kernel_rfl
theorem fo7_2 : fieldOT Try.prog 7 2 = some (2, 4) := by kernel_rfl
theorem fo7_3 : fieldOT Try.prog 7 3 = some (3, 6) := by kernel_rfl
theorem sz8 : szOf Try.prog 8 = some 4 := by kernel_rfl
theorem ag8 : isAggT Try.prog 8 = some true := by kernel_rfl
theorem zc8 : zeroC Try.prog 8 = some [.int .i64 0, .int .i64 0, .bool false, .int .u8 0] := by kernel_rfl
theorem pl8 : placesT Try.prog 8 = some [(0, 1), (1, 1), (2, 1), (3, 1)] := by kernel_rfl
theorem nar8 : arrT Try.prog 8 = none := by kernel_rfl
theorem nel8 : elemT Try.prog 8 = none := by kernel_rfl
theorem fo8_0 : fieldOT Try.prog 8 0 = some (0, 2) := by kernel_rfl
theorem fo8_1 : fieldOT Try.prog 8 1 = some (1, 3) := by kernel_rfl
theorem fo8_2 : fieldOT Try.prog 8 2 = some (2, 4) := by kernel_rfl
theorem fo8_3 : fieldOT Try.prog 8 3 = some (3, 6) := by kernel_rfl
theorem sz9 : szOf Try.prog 9 = some 1 := by kernel_rfl
theorem ag9 : isAggT Try.prog 9 = some false := by kernel_rfl
theorem zc9 : zeroC Try.prog 9 = some [.str ⟨#[]⟩] := by kernel_rfl
theorem npl9 : placesT Try.prog 9 = none := by kernel_rfl
theorem un9 : Try.prog.underlying 9 = some .string := by kernel_rfl
theorem nar9 : arrT Try.prog 9 = none := by kernel_rfl
theorem nel9 : elemT Try.prog 9 = none := by kernel_rfl
theorem sz10 : szOf Try.prog 10 = some 1 := by kernel_rfl
theorem ag10 : isAggT Try.prog 10 = some false := by kernel_rfl
theorem zc10 : zeroC Try.prog 10 = some [.str ⟨#[]⟩] := by kernel_rfl
theorem npl10 : placesT Try.prog 10 = none := by kernel_rfl
theorem un10 : Try.prog.underlying 10 = some .string := by kernel_rfl
theorem nar10 : arrT Try.prog 10 = none := by kernel_rfl
theorem nel10 : elemT Try.prog 10 = none := by kernel_rfl
theorem sz11 : szOf Try.prog 11 = some 1 := by kernel_rfl
theorem ag11 : isAggT Try.prog 11 = some false := by kernel_rfl
theorem zc11 : zeroC Try.prog 11 = some [.str ⟨#[]⟩] := by kernel_rfl
theorem npl11 : placesT Try.prog 11 = none := by kernel_rfl
theorem un11 : Try.prog.underlying 11 = some .string := by kernel_rfl
theorem nar11 : arrT Try.prog 11 = none := by kernel_rfl
theorem nel11 : elemT Try.prog 11 = none := by kernel_rfl
theorem sz12 : szOf Try.prog 12 = some 1 := by kernel_rfl
theorem ag12 : isAggT Try.prog 12 = some false := by kernel_rfl
theorem zc12 : zeroC Try.prog 12 = some [.int .u64 0] := by kernel_rfl
theorem npl12 : placesT Try.prog 12 = none := by kernel_rfl
theorem un12 : Try.prog.underlying 12 = some (.int .u64) := by kernel_rfl
theorem nar12 : arrT Try.prog 12 = none := by kernel_rfl
theorem nel12 : elemT Try.prog 12 = none := by kernel_rfl
theorem sz13 : szOf Try.prog 13 = some 2 := by kernel_rfl
theorem ag13 : isAggT Try.prog 13 = some true := by kernel_rfl
theorem zc13 : zeroC Try.prog 13 = some [.str ⟨#[]⟩, .int .u64 0] := by kernel_rfl
theorem pl13 : placesT Try.prog 13 = some [(0, 1), (1, 1)] := by kernel_rfl
theorem nar13 : arrT Try.prog 13 = none := by kernel_rfl
theorem nel13 : elemT Try.prog 13 = none := by kernel_rfl
theorem fo13_0 : fieldOT Try.prog 13 0 = some (0, 9) := by kernel_rfl
theorem fo13_1 : fieldOT Try.prog 13 1 = some (1, 12) := by kernel_rfl
theorem sz14 : szOf Try.prog 14 = some 2 := by kernel_rfl
theorem ag14 : isAggT Try.prog 14 = some true := by kernel_rfl
theorem zc14 : zeroC Try.prog 14 = some [.str ⟨#[]⟩, .int .u64 0] := by kernel_rfl
theorem pl14 : placesT Try.prog 14 = some [(0, 1), (1, 1)] := by kernel_rfl
theorem nar14 : arrT Try.prog 14 = none := by kernel_rfl
theorem nel14 : elemT Try.prog 14 = none := by kernel_rfl
theorem fo14_0 : fieldOT Try.prog 14 0 = some (0, 9) := by kernel_rfl
theorem fo14_1 : fieldOT Try.prog 14 1 = some (1, 12) := by kernel_rfl
theorem sz15 : szOf Try.prog 15 = some 1 := by kernel_rfl
theorem ag15 : isAggT Try.prog 15 = some false := by kernel_rfl
theorem zc15 : zeroC Try.prog 15 = some [.nptr] := by kernel_rfl
theorem npl15 : placesT Try.prog 15 = none := by kernel_rfl
theorem un15 : Try.prog.underlying 15 = some (.pointer 69) := by kernel_rfl
theorem nar15 : arrT Try.prog 15 = none := by kernel_rfl
theorem nel15 : elemT Try.prog 15 = none := by kernel_rfl
theorem sz16 : szOf Try.prog 16 = some 1 := by kernel_rfl
theorem ag16 : isAggT Try.prog 16 = some false := by kernel_rfl
theorem zc16 : zeroC Try.prog 16 = some [.nptr] := by kernel_rfl
theorem npl16 : placesT Try.prog 16 = none := by kernel_rfl
theorem un16 : Try.prog.underlying 16 = some (.pointer 72) := by kernel_rfl
theorem nar16 : arrT Try.prog 16 = none := by kernel_rfl
theorem nel16 : elemT Try.prog 16 = none := by kernel_rfl
theorem sz17 : szOf Try.prog 17 = some 1 := by kernel_rfl
theorem ag17 : isAggT Try.prog 17 = some false := by kernel_rfl
theorem zc17 : zeroC Try.prog 17 = some [.nptr] := by kernel_rfl
theorem npl17 : placesT Try.prog 17 = none := by kernel_rfl
theorem un17 : Try.prog.underlying 17 = some (.pointer 81) := by kernel_rfl
theorem nar17 : arrT Try.prog 17 = none := by kernel_rfl
theorem nel17 : elemT Try.prog 17 = none := by kernel_rfl
theorem sz18 : szOf Try.prog 18 = some 1 := by kernel_rfl
theorem ag18 : isAggT Try.prog 18 = some true := by kernel_rfl
theorem zc18 : zeroC Try.prog 18 = some [.nptr] := by kernel_rfl
theorem pl18 : placesT Try.prog 18 = some [(0, 1)] := by kernel_rfl
theorem nar18 : arrT Try.prog 18 = none := by kernel_rfl
theorem nel18 : elemT Try.prog 18 = none := by kernel_rfl
theorem fo18_0 : fieldOT Try.prog 18 0 = some (0, 17) := by kernel_rfl
theorem sz19 : szOf Try.prog 19 = some 1 := by kernel_rfl
theorem ag19 : isAggT Try.prog 19 = some true := by kernel_rfl
theorem zc19 : zeroC Try.prog 19 = some [.nptr] := by kernel_rfl
theorem pl19 : placesT Try.prog 19 = some [(0, 1)] := by kernel_rfl
theorem nar19 : arrT Try.prog 19 = none := by kernel_rfl
theorem nel19 : elemT Try.prog 19 = none := by kernel_rfl
theorem fo19_0 : fieldOT Try.prog 19 0 = some (0, 17) := by kernel_rfl
theorem sz20 : szOf Try.prog 20 = some 1 := by kernel_rfl
theorem ag20 : isAggT Try.prog 20 = some false := by kernel_rfl
theorem zc20 : zeroC Try.prog 20 = some [.nif] := by kernel_rfl
theorem npl20 : placesT Try.prog 20 = none := by kernel_rfl
theorem nar20 : arrT Try.prog 20 = none := by kernel_rfl
theorem nel20 : elemT Try.prog 20 = none := by kernel_rfl
theorem ic20 : isIfc Try.prog 20 = true := by kernel_rfl
theorem sz21 : szOf Try.prog 21 = some 1 := by kernel_rfl
theorem ag21 : isAggT Try.prog 21 = some false := by kernel_rfl
theorem zc21 : zeroC Try.prog 21 = some [.int .i32 0] := by kernel_rfl
theorem npl21 : placesT Try.prog 21 = none := by kernel_rfl
theorem un21 : Try.prog.underlying 21 = some (.int .i32) := by kernel_rfl
theorem nar21 : arrT Try.prog 21 = none := by kernel_rfl
theorem nel21 : elemT Try.prog 21 = none := by kernel_rfl
theorem sz22 : szOf Try.prog 22 = some 1 := by kernel_rfl
theorem ag22 : isAggT Try.prog 22 = some false := by kernel_rfl
theorem zc22 : zeroC Try.prog 22 = some [.nsl] := by kernel_rfl
theorem npl22 : placesT Try.prog 22 = none := by kernel_rfl
theorem un22 : Try.prog.underlying 22 = some (.slice 3) := by kernel_rfl
theorem el22 : elemT Try.prog 22 = some 3 := by kernel_rfl
theorem ap22 : appT Try.prog 22 22 = some (1, 8) := by kernel_rfl
theorem nar22 : arrT Try.prog 22 = none := by kernel_rfl
theorem sz23 : szOf Try.prog 23 = some 6 := by kernel_rfl
theorem ag23 : isAggT Try.prog 23 = some true := by kernel_rfl
theorem zc23 : zeroC Try.prog 23 = some [.int .i64 0, .int .i64 0, .int .i64 0, .nsl, .nsl, .bool false] := by kernel_rfl
theorem pl23 : placesT Try.prog 23 = some [(0, 1), (1, 1), (2, 1), (3, 1), (4, 1), (5, 1)] := by kernel_rfl
theorem nar23 : arrT Try.prog 23 = none := by kernel_rfl
theorem nel23 : elemT Try.prog 23 = none := by kernel_rfl
theorem fo23_0 : fieldOT Try.prog 23 0 = some (0, 3) := by kernel_rfl
theorem fo23_1 : fieldOT Try.prog 23 1 = some (1, 3) := by kernel_rfl
theorem fo23_2 : fieldOT Try.prog 23 2 = some (2, 3) := by kernel_rfl
theorem fo23_3 : fieldOT Try.prog 23 3 = some (3, 22) := by kernel_rfl
theorem fo23_4 : fieldOT Try.prog 23 4 = some (4, 22) := by kernel_rfl
theorem fo23_5 : fieldOT Try.prog 23 5 = some (5, 4) := by kernel_rfl
theorem sz24 : szOf Try.prog 24 = some 6 := by kernel_rfl
theorem ag24 : isAggT Try.prog 24 = some true := by kernel_rfl
theorem zc24 : zeroC Try.prog 24 = some [.int .i64 0, .int .i64 0, .int .i64 0, .nsl, .nsl, .bool false] := by kernel_rfl
theorem pl24 : placesT Try.prog 24 = some [(0, 1), (1, 1), (2, 1), (3, 1), (4, 1), (5, 1)] := by kernel_rfl
theorem nar24 : arrT Try.prog 24 = none := by kernel_rfl
theorem nel24 : elemT Try.prog 24 = none := by kernel_rfl
theorem fo24_0 : fieldOT Try.prog 24 0 = some (0, 3) := by kernel_rfl
theorem fo24_1 : fieldOT Try.prog 24 1 = some (1, 3) := by kernel_rfl
theorem fo24_2 : fieldOT Try.prog 24 2 = some (2, 3) := by kernel_rfl
theorem fo24_3 : fieldOT Try.prog 24 3 = some (3, 22) := by kernel_rfl
theorem fo24_4 : fieldOT Try.prog 24 4 = some (4, 22) := by kernel_rfl
theorem fo24_5 : fieldOT Try.prog 24 5 = some (5, 4) := by kernel_rfl
theorem sz25 : szOf Try.prog 25 = some 1 := by kernel_rfl
theorem ag25 : isAggT Try.prog 25 = some false := by kernel_rfl
theorem zc25 : zeroC Try.prog 25 = some [.nsl] := by kernel_rfl
theorem npl25 : placesT Try.prog 25 = none := by kernel_rfl
theorem un25 : Try.prog.underlying 25 = some (.slice 48) := by kernel_rfl
theorem el25 : elemT Try.prog 25 = some 48 := by kernel_rfl
theorem ap25 : appT Try.prog 25 25 = some (2, 48) := by kernel_rfl
theorem nar25 : arrT Try.prog 25 = none := by kernel_rfl
theorem sz26 : szOf Try.prog 26 = some 1 := by kernel_rfl
theorem ag26 : isAggT Try.prog 26 = some false := by kernel_rfl
theorem zc26 : zeroC Try.prog 26 = some [.nsl] := by kernel_rfl
theorem npl26 : placesT Try.prog 26 = none := by kernel_rfl
theorem un26 : Try.prog.underlying 26 = some (.slice 34) := by kernel_rfl
theorem el26 : elemT Try.prog 26 = some 34 := by kernel_rfl
theorem ap26 : appT Try.prog 26 26 = some (3, 56) := by kernel_rfl
theorem nar26 : arrT Try.prog 26 = none := by kernel_rfl
theorem sz27 : szOf Try.prog 27 = some 5 := by kernel_rfl
theorem ag27 : isAggT Try.prog 27 = some true := by kernel_rfl
theorem zc27 : zeroC Try.prog 27 = some [.int .i64 0, .int .i64 0, .int .i64 0, .nsl, .nsl] := by kernel_rfl
theorem pl27 : placesT Try.prog 27 = some [(0, 1), (1, 1), (2, 1), (3, 1), (4, 1)] := by kernel_rfl
theorem nar27 : arrT Try.prog 27 = none := by kernel_rfl
theorem nel27 : elemT Try.prog 27 = none := by kernel_rfl
theorem fo27_0 : fieldOT Try.prog 27 0 = some (0, 3) := by kernel_rfl
theorem fo27_1 : fieldOT Try.prog 27 1 = some (1, 3) := by kernel_rfl
theorem fo27_2 : fieldOT Try.prog 27 2 = some (2, 3) := by kernel_rfl
theorem fo27_3 : fieldOT Try.prog 27 3 = some (3, 25) := by kernel_rfl
theorem fo27_4 : fieldOT Try.prog 27 4 = some (4, 26) := by kernel_rfl
theorem sz28 : szOf Try.prog 28 = some 5 := by kernel_rfl
theorem ag28 : isAggT Try.prog 28 = some true := by kernel_rfl
theorem zc28 : zeroC Try.prog 28 = some [.int .i64 0, .int .i64 0, .int .i64 0, .nsl, .nsl] := by kernel_rfl
theorem pl28 : placesT Try.prog 28 = some [(0, 1), (1, 1), (2, 1), (3, 1), (4, 1)] := by kernel_rfl
theorem nar28 : arrT Try.prog 28 = none := by kernel_rfl
theorem nel28 : elemT Try.prog 28 = none := by kernel_rfl
theorem fo28_0 : fieldOT Try.prog 28 0 = some (0, 3) := by kernel_rfl
theorem fo28_1 : fieldOT Try.prog 28 1 = some (1, 3) := by kernel_rfl
theorem fo28_2 : fieldOT Try.prog 28 2 = some (2, 3) := by kernel_rfl
theorem fo28_3 : fieldOT Try.prog 28 3 = some (3, 25) := by kernel_rfl
theorem fo28_4 : fieldOT Try.prog 28 4 = some (4, 26) := by kernel_rfl
theorem sz29 : szOf Try.prog 29 = some 1 := by kernel_rfl
theorem ag29 : isAggT Try.prog 29 = some false := by kernel_rfl
theorem zc29 : zeroC Try.prog 29 = some [.nfn] := by kernel_rfl
theorem npl29 : placesT Try.prog 29 = none := by kernel_rfl
theorem nar29 : arrT Try.prog 29 = none := by kernel_rfl
theorem nel29 : elemT Try.prog 29 = none := by kernel_rfl
theorem sz30 : szOf Try.prog 30 = some 1 := by kernel_rfl
theorem ag30 : isAggT Try.prog 30 = some false := by kernel_rfl
theorem zc30 : zeroC Try.prog 30 = some [.nfn] := by kernel_rfl
theorem npl30 : placesT Try.prog 30 = none := by kernel_rfl
theorem nar30 : arrT Try.prog 30 = none := by kernel_rfl
theorem nel30 : elemT Try.prog 30 = none := by kernel_rfl
theorem sz31 : szOf Try.prog 31 = some 1 := by kernel_rfl
theorem ag31 : isAggT Try.prog 31 = some false := by kernel_rfl
theorem zc31 : zeroC Try.prog 31 = some [.nfn] := by kernel_rfl
theorem npl31 : placesT Try.prog 31 = none := by kernel_rfl
theorem nar31 : arrT Try.prog 31 = none := by kernel_rfl
theorem nel31 : elemT Try.prog 31 = none := by kernel_rfl
theorem sz32 : szOf Try.prog 32 = some 1 := by kernel_rfl
theorem ag32 : isAggT Try.prog 32 = some false := by kernel_rfl
theorem zc32 : zeroC Try.prog 32 = some [.nsl] := by kernel_rfl
theorem npl32 : placesT Try.prog 32 = none := by kernel_rfl
theorem un32 : Try.prog.underlying 32 = some (.slice 5) := by kernel_rfl
theorem el32 : elemT Try.prog 32 = some 5 := by kernel_rfl
theorem ap32 : appT Try.prog 32 32 = some (1, 1) := by kernel_rfl
theorem nar32 : arrT Try.prog 32 = none := by kernel_rfl
theorem sz33 : szOf Try.prog 33 = some 3 := by kernel_rfl
theorem ag33 : isAggT Try.prog 33 = some true := by kernel_rfl
theorem zc33 : zeroC Try.prog 33 = some [.nsl, .nsl, .bool false] := by kernel_rfl
theorem pl33 : placesT Try.prog 33 = some [(0, 1), (1, 1), (2, 1)] := by kernel_rfl
theorem nar33 : arrT Try.prog 33 = none := by kernel_rfl
theorem nel33 : elemT Try.prog 33 = none := by kernel_rfl
theorem fo33_0 : fieldOT Try.prog 33 0 = some (0, 32) := by kernel_rfl
theorem fo33_1 : fieldOT Try.prog 33 1 = some (1, 32) := by kernel_rfl
theorem fo33_2 : fieldOT Try.prog 33 2 = some (2, 4) := by kernel_rfl
theorem sz34 : szOf Try.prog 34 = some 3 := by kernel_rfl
theorem by34 : byOf Try.prog 34 = some 56 := by kernel_rfl
theorem ag34 : isAggT Try.prog 34 = some true := by kernel_rfl
theorem zc34 : zeroC Try.prog 34 = some [.nsl, .nsl, .bool false] := by kernel_rfl
theorem pl34 : placesT Try.prog 34 = some [(0, 1), (1, 1), (2, 1)] := by kernel_rfl
theorem nar34 : arrT Try.prog 34 = none := by kernel_rfl
theorem nel34 : elemT Try.prog 34 = none := by kernel_rfl
theorem fo34_0 : fieldOT Try.prog 34 0 = some (0, 32) := by kernel_rfl
theorem fo34_1 : fieldOT Try.prog 34 1 = some (1, 32) := by kernel_rfl
theorem fo34_2 : fieldOT Try.prog 34 2 = some (2, 4) := by kernel_rfl
theorem sz35 : szOf Try.prog 35 = some 1 := by kernel_rfl
theorem ag35 : isAggT Try.prog 35 = some false := by kernel_rfl
theorem zc35 : zeroC Try.prog 35 = some [.int .i64 0] := by kernel_rfl
theorem npl35 : placesT Try.prog 35 = none := by kernel_rfl
theorem un35 : Try.prog.underlying 35 = some (.int .i64) := by kernel_rfl
theorem nar35 : arrT Try.prog 35 = none := by kernel_rfl
theorem nel35 : elemT Try.prog 35 = none := by kernel_rfl
theorem sz37 : szOf Try.prog 37 = some 1 := by kernel_rfl
theorem ag37 : isAggT Try.prog 37 = some false := by kernel_rfl
theorem zc37 : zeroC Try.prog 37 = some [.nfn] := by kernel_rfl
theorem npl37 : placesT Try.prog 37 = none := by kernel_rfl
theorem nar37 : arrT Try.prog 37 = none := by kernel_rfl
theorem nel37 : elemT Try.prog 37 = none := by kernel_rfl
theorem sz38 : szOf Try.prog 38 = some 1 := by kernel_rfl
theorem ag38 : isAggT Try.prog 38 = some false := by kernel_rfl
theorem zc38 : zeroC Try.prog 38 = some [.nfn] := by kernel_rfl
theorem npl38 : placesT Try.prog 38 = none := by kernel_rfl
theorem nar38 : arrT Try.prog 38 = none := by kernel_rfl
theorem nel38 : elemT Try.prog 38 = none := by kernel_rfl
theorem sz40 : szOf Try.prog 40 = some 1 := by kernel_rfl
theorem ag40 : isAggT Try.prog 40 = some false := by kernel_rfl
theorem zc40 : zeroC Try.prog 40 = some [.nfn] := by kernel_rfl
theorem npl40 : placesT Try.prog 40 = none := by kernel_rfl
theorem nar40 : arrT Try.prog 40 = none := by kernel_rfl
theorem nel40 : elemT Try.prog 40 = none := by kernel_rfl
theorem sz41 : szOf Try.prog 41 = some 1 := by kernel_rfl
theorem ag41 : isAggT Try.prog 41 = some false := by kernel_rfl
theorem zc41 : zeroC Try.prog 41 = some [.nfn] := by kernel_rfl
theorem npl41 : placesT Try.prog 41 = none := by kernel_rfl
theorem nar41 : arrT Try.prog 41 = none := by kernel_rfl
theorem nel41 : elemT Try.prog 41 = none := by kernel_rfl
theorem sz42 : szOf Try.prog 42 = some 1 := by kernel_rfl
theorem ag42 : isAggT Try.prog 42 = some false := by kernel_rfl
theorem zc42 : zeroC Try.prog 42 = some [.nfn] := by kernel_rfl
theorem npl42 : placesT Try.prog 42 = none := by kernel_rfl
theorem nar42 : arrT Try.prog 42 = none := by kernel_rfl
theorem nel42 : elemT Try.prog 42 = none := by kernel_rfl
theorem sz43 : szOf Try.prog 43 = some 1 := by kernel_rfl
theorem ag43 : isAggT Try.prog 43 = some false := by kernel_rfl
theorem zc43 : zeroC Try.prog 43 = some [.nfn] := by kernel_rfl
theorem npl43 : placesT Try.prog 43 = none := by kernel_rfl
theorem nar43 : arrT Try.prog 43 = none := by kernel_rfl
theorem nel43 : elemT Try.prog 43 = none := by kernel_rfl
theorem sz44 : szOf Try.prog 44 = some 1 := by kernel_rfl
theorem ag44 : isAggT Try.prog 44 = some false := by kernel_rfl
theorem zc44 : zeroC Try.prog 44 = some [.nfn] := by kernel_rfl
theorem npl44 : placesT Try.prog 44 = none := by kernel_rfl
theorem nar44 : arrT Try.prog 44 = none := by kernel_rfl
theorem nel44 : elemT Try.prog 44 = none := by kernel_rfl
theorem sz45 : szOf Try.prog 45 = some 1 := by kernel_rfl
theorem ag45 : isAggT Try.prog 45 = some false := by kernel_rfl
theorem zc45 : zeroC Try.prog 45 = some [.nfn] := by kernel_rfl
theorem npl45 : placesT Try.prog 45 = none := by kernel_rfl
theorem nar45 : arrT Try.prog 45 = none := by kernel_rfl
theorem nel45 : elemT Try.prog 45 = none := by kernel_rfl
theorem sz46 : szOf Try.prog 46 = some 1 := by kernel_rfl
theorem ag46 : isAggT Try.prog 46 = some false := by kernel_rfl
theorem zc46 : zeroC Try.prog 46 = some [.nfn] := by kernel_rfl
theorem npl46 : placesT Try.prog 46 = none := by kernel_rfl
theorem nar46 : arrT Try.prog 46 = none := by kernel_rfl
theorem nel46 : elemT Try.prog 46 = none := by kernel_rfl
theorem sz47 : szOf Try.prog 47 = some 2 := by kernel_rfl
theorem ag47 : isAggT Try.prog 47 = some true := by kernel_rfl
theorem zc47 : zeroC Try.prog 47 = some [.nsl, .nsl] := by kernel_rfl
theorem pl47 : placesT Try.prog 47 = some [(0, 1), (1, 1)] := by kernel_rfl
theorem nar47 : arrT Try.prog 47 = none := by kernel_rfl
theorem nel47 : elemT Try.prog 47 = none := by kernel_rfl
theorem fo47_0 : fieldOT Try.prog 47 0 = some (0, 32) := by kernel_rfl
theorem fo47_1 : fieldOT Try.prog 47 1 = some (1, 32) := by kernel_rfl
theorem sz48 : szOf Try.prog 48 = some 2 := by kernel_rfl
theorem by48 : byOf Try.prog 48 = some 48 := by kernel_rfl
theorem ag48 : isAggT Try.prog 48 = some true := by kernel_rfl
theorem zc48 : zeroC Try.prog 48 = some [.nsl, .nsl] := by kernel_rfl
theorem pl48 : placesT Try.prog 48 = some [(0, 1), (1, 1)] := by kernel_rfl
theorem nar48 : arrT Try.prog 48 = none := by kernel_rfl
theorem nel48 : elemT Try.prog 48 = none := by kernel_rfl
theorem fo48_0 : fieldOT Try.prog 48 0 = some (0, 32) := by kernel_rfl
theorem fo48_1 : fieldOT Try.prog 48 1 = some (1, 32) := by kernel_rfl
theorem sz49 : szOf Try.prog 49 = some 12 := by kernel_rfl
theorem ag49 : isAggT Try.prog 49 = some true := by kernel_rfl
theorem zc49 : zeroC Try.prog 49 = some [.bool false, .bool false, .bool false, .bool false, .bool false, .bool false, .bool false, .bool false, .bool false, .bool false, .bool false, .bool false] := by kernel_rfl
theorem npl49 : placesT Try.prog 49 = none := by kernel_rfl
theorem un49 : Try.prog.underlying 49 = some (.array 12 4) := by kernel_rfl
theorem ar49 : arrT Try.prog 49 = some (12, 4) := by kernel_rfl
theorem nel49 : elemT Try.prog 49 = none := by kernel_rfl
theorem sz50 : szOf Try.prog 50 = some 1 := by kernel_rfl
theorem ag50 : isAggT Try.prog 50 = some false := by kernel_rfl
theorem zc50 : zeroC Try.prog 50 = some [.nfn] := by kernel_rfl
theorem npl50 : placesT Try.prog 50 = none := by kernel_rfl
theorem nar50 : arrT Try.prog 50 = none := by kernel_rfl
theorem nel50 : elemT Try.prog 50 = none := by kernel_rfl
theorem sz51 : szOf Try.prog 51 = some 1 := by kernel_rfl
theorem ag51 : isAggT Try.prog 51 = some false := by kernel_rfl
theorem zc51 : zeroC Try.prog 51 = some [.nfn] := by kernel_rfl
theorem npl51 : placesT Try.prog 51 = none := by kernel_rfl
theorem nar51 : arrT Try.prog 51 = none := by kernel_rfl
theorem nel51 : elemT Try.prog 51 = none := by kernel_rfl
theorem sz52 : szOf Try.prog 52 = some 2 := by kernel_rfl
theorem ag52 : isAggT Try.prog 52 = some true := by kernel_rfl
theorem zc52 : zeroC Try.prog 52 = some [.nsl, .bool false] := by kernel_rfl
theorem pl52 : placesT Try.prog 52 = some [(0, 1), (1, 1)] := by kernel_rfl
theorem nar52 : arrT Try.prog 52 = none := by kernel_rfl
theorem nel52 : elemT Try.prog 52 = none := by kernel_rfl
theorem fo52_0 : fieldOT Try.prog 52 0 = some (0, 32) := by kernel_rfl
theorem fo52_1 : fieldOT Try.prog 52 1 = some (1, 4) := by kernel_rfl
theorem sz53 : szOf Try.prog 53 = some 2 := by kernel_rfl
theorem ag53 : isAggT Try.prog 53 = some true := by kernel_rfl
theorem zc53 : zeroC Try.prog 53 = some [.nsl, .bool false] := by kernel_rfl
theorem pl53 : placesT Try.prog 53 = some [(0, 1), (1, 1)] := by kernel_rfl
theorem nar53 : arrT Try.prog 53 = none := by kernel_rfl
theorem nel53 : elemT Try.prog 53 = none := by kernel_rfl
theorem fo53_0 : fieldOT Try.prog 53 0 = some (0, 32) := by kernel_rfl
theorem fo53_1 : fieldOT Try.prog 53 1 = some (1, 4) := by kernel_rfl
theorem sz54 : szOf Try.prog 54 = some 1 := by kernel_rfl
theorem ag54 : isAggT Try.prog 54 = some false := by kernel_rfl
theorem zc54 : zeroC Try.prog 54 = some [.nfn] := by kernel_rfl
theorem npl54 : placesT Try.prog 54 = none := by kernel_rfl
theorem nar54 : arrT Try.prog 54 = none := by kernel_rfl
theorem nel54 : elemT Try.prog 54 = none := by kernel_rfl
theorem sz55 : szOf Try.prog 55 = some 1 := by kernel_rfl
theorem ag55 : isAggT Try.prog 55 = some false := by kernel_rfl
theorem zc55 : zeroC Try.prog 55 = some [.nfn] := by kernel_rfl
theorem npl55 : placesT Try.prog 55 = none := by kernel_rfl
theorem nar55 : arrT Try.prog 55 = none := by kernel_rfl
theorem nel55 : elemT Try.prog 55 = none := by kernel_rfl
theorem sz56 : szOf Try.prog 56 = some 1 := by kernel_rfl
theorem ag56 : isAggT Try.prog 56 = some false := by kernel_rfl
theorem zc56 : zeroC Try.prog 56 = some [.nptr] := by kernel_rfl
theorem npl56 : placesT Try.prog 56 = none := by kernel_rfl
theorem un56 : Try.prog.underlying 56 = some (.pointer 53) := by kernel_rfl
theorem nar56 : arrT Try.prog 56 = none := by kernel_rfl
theorem nel56 : elemT Try.prog 56 = none := by kernel_rfl
theorem sz57 : szOf Try.prog 57 = some 1 := by kernel_rfl
theorem ag57 : isAggT Try.prog 57 = some false := by kernel_rfl
theorem zc57 : zeroC Try.prog 57 = some [.nfn] := by kernel_rfl
theorem npl57 : placesT Try.prog 57 = none := by kernel_rfl
theorem nar57 : arrT Try.prog 57 = none := by kernel_rfl
theorem nel57 : elemT Try.prog 57 = none := by kernel_rfl
theorem sz58 : szOf Try.prog 58 = some 1 := by kernel_rfl
theorem ag58 : isAggT Try.prog 58 = some false := by kernel_rfl
theorem zc58 : zeroC Try.prog 58 = some [.nfn] := by kernel_rfl
theorem npl58 : placesT Try.prog 58 = none := by kernel_rfl
theorem nar58 : arrT Try.prog 58 = none := by kernel_rfl
theorem nel58 : elemT Try.prog 58 = none := by kernel_rfl
theorem sz59 : szOf Try.prog 59 = some 1 := by kernel_rfl
theorem ag59 : isAggT Try.prog 59 = some false := by kernel_rfl
theorem zc59 : zeroC Try.prog 59 = some [.nfn] := by kernel_rfl
theorem npl59 : placesT Try.prog 59 = none := by kernel_rfl
theorem nar59 : arrT Try.prog 59 = none := by kernel_rfl
theorem nel59 : elemT Try.prog 59 = none := by kernel_rfl
theorem sz60 : szOf Try.prog 60 = some 1 := by kernel_rfl
theorem ag60 : isAggT Try.prog 60 = some false := by kernel_rfl
theorem zc60 : zeroC Try.prog 60 = some [.nfn] := by kernel_rfl
theorem npl60 : placesT Try.prog 60 = none := by kernel_rfl
theorem nar60 : arrT Try.prog 60 = none := by kernel_rfl
theorem nel60 : elemT Try.prog 60 = none := by kernel_rfl
theorem sz61 : szOf Try.prog 61 = some 1 := by kernel_rfl
theorem ag61 : isAggT Try.prog 61 = some false := by kernel_rfl
theorem zc61 : zeroC Try.prog 61 = some [.nfn] := by kernel_rfl
theorem npl61 : placesT Try.prog 61 = none := by kernel_rfl
theorem nar61 : arrT Try.prog 61 = none := by kernel_rfl
theorem nel61 : elemT Try.prog 61 = none := by kernel_rfl
theorem sz62 : szOf Try.prog 62 = some 1 := by kernel_rfl
theorem ag62 : isAggT Try.prog 62 = some false := by kernel_rfl
theorem zc62 : zeroC Try.prog 62 = some [.nfn] := by kernel_rfl
theorem npl62 : placesT Try.prog 62 = none := by kernel_rfl
theorem nar62 : arrT Try.prog 62 = none := by kernel_rfl
theorem nel62 : elemT Try.prog 62 = none := by kernel_rfl
theorem sz63 : szOf Try.prog 63 = some 1 := by kernel_rfl
theorem ag63 : isAggT Try.prog 63 = some false := by kernel_rfl
theorem zc63 : zeroC Try.prog 63 = some [.nfn] := by kernel_rfl
theorem npl63 : placesT Try.prog 63 = none := by kernel_rfl
theorem nar63 : arrT Try.prog 63 = none := by kernel_rfl
theorem nel63 : elemT Try.prog 63 = none := by kernel_rfl
theorem sz64 : szOf Try.prog 64 = some 1 := by kernel_rfl
theorem ag64 : isAggT Try.prog 64 = some false := by kernel_rfl
theorem zc64 : zeroC Try.prog 64 = some [.nfn] := by kernel_rfl
theorem npl64 : placesT Try.prog 64 = none := by kernel_rfl
theorem nar64 : arrT Try.prog 64 = none := by kernel_rfl
theorem nel64 : elemT Try.prog 64 = none := by kernel_rfl
theorem sz65 : szOf Try.prog 65 = some 1 := by kernel_rfl
theorem ag65 : isAggT Try.prog 65 = some false := by kernel_rfl
theorem zc65 : zeroC Try.prog 65 = some [.int .u64 0] := by kernel_rfl
theorem npl65 : placesT Try.prog 65 = none := by kernel_rfl
theorem un65 : Try.prog.underlying 65 = some (.int .u64) := by kernel_rfl
theorem nar65 : arrT Try.prog 65 = none := by kernel_rfl
theorem nel65 : elemT Try.prog 65 = none := by kernel_rfl
theorem sz66 : szOf Try.prog 66 = some 1 := by kernel_rfl
theorem ag66 : isAggT Try.prog 66 = some false := by kernel_rfl
theorem zc66 : zeroC Try.prog 66 = some [.nfn] := by kernel_rfl
theorem npl66 : placesT Try.prog 66 = none := by kernel_rfl
theorem nar66 : arrT Try.prog 66 = none := by kernel_rfl
theorem nel66 : elemT Try.prog 66 = none := by kernel_rfl
theorem sz67 : szOf Try.prog 67 = some 1 := by kernel_rfl
theorem ag67 : isAggT Try.prog 67 = some false := by kernel_rfl
theorem zc67 : zeroC Try.prog 67 = some [.nfn] := by kernel_rfl
theorem npl67 : placesT Try.prog 67 = none := by kernel_rfl
theorem nar67 : arrT Try.prog 67 = none := by kernel_rfl
theorem nel67 : elemT Try.prog 67 = none := by kernel_rfl
theorem sz68 : szOf Try.prog 68 = some 4 := by kernel_rfl
theorem ag68 : isAggT Try.prog 68 = some true := by kernel_rfl
theorem zc68 : zeroC Try.prog 68 = some [.nptr, .nptr, .nptr, .str ⟨#[]⟩] := by kernel_rfl
theorem pl68 : placesT Try.prog 68 = some [(0, 1), (1, 1), (2, 1), (3, 1)] := by kernel_rfl
theorem nar68 : arrT Try.prog 68 = none := by kernel_rfl
theorem nel68 : elemT Try.prog 68 = none := by kernel_rfl
theorem fo68_0 : fieldOT Try.prog 68 0 = some (0, 17) := by kernel_rfl
theorem fo68_1 : fieldOT Try.prog 68 1 = some (1, 17) := by kernel_rfl
theorem fo68_2 : fieldOT Try.prog 68 2 = some (2, 17) := by kernel_rfl
theorem fo68_3 : fieldOT Try.prog 68 3 = some (3, 9) := by kernel_rfl
theorem sz69 : szOf Try.prog 69 = some 4 := by kernel_rfl
theorem ag69 : isAggT Try.prog 69 = some true := by kernel_rfl
theorem zc69 : zeroC Try.prog 69 = some [.nptr, .nptr, .nptr, .str ⟨#[]⟩] := by kernel_rfl
theorem pl69 : placesT Try.prog 69 = some [(0, 1), (1, 1), (2, 1), (3, 1)] := by kernel_rfl
theorem nar69 : arrT Try.prog 69 = none := by kernel_rfl
theorem nel69 : elemT Try.prog 69 = none := by kernel_rfl
theorem fo69_0 : fieldOT Try.prog 69 0 = some (0, 17) := by kernel_rfl
theorem fo69_1 : fieldOT Try.prog 69 1 = some (1, 17) := by kernel_rfl
theorem fo69_2 : fieldOT Try.prog 69 2 = some (2, 17) := by kernel_rfl
theorem fo69_3 : fieldOT Try.prog 69 3 = some (3, 9) := by kernel_rfl
theorem sz70 : szOf Try.prog 70 = some 0 := by kernel_rfl
theorem ag70 : isAggT Try.prog 70 = some true := by kernel_rfl
theorem zc70 : zeroC Try.prog 70 = some [] := by kernel_rfl
theorem npl70 : placesT Try.prog 70 = none := by kernel_rfl
theorem un70 : Try.prog.underlying 70 = some (.array 0 16) := by kernel_rfl
theorem ar70 : arrT Try.prog 70 = some (0, 16) := by kernel_rfl
theorem nel70 : elemT Try.prog 70 = none := by kernel_rfl
theorem sz71 : szOf Try.prog 71 = some 0 := by kernel_rfl
theorem ag71 : isAggT Try.prog 71 = some true := by kernel_rfl
theorem zc71 : zeroC Try.prog 71 = some [] := by kernel_rfl
theorem pl71 : placesT Try.prog 71 = some [(0, 0)] := by kernel_rfl
theorem nar71 : arrT Try.prog 71 = none := by kernel_rfl
theorem nel71 : elemT Try.prog 71 = none := by kernel_rfl
theorem fo71_0 : fieldOT Try.prog 71 0 = some (0, 70) := by kernel_rfl
theorem sz72 : szOf Try.prog 72 = some 0 := by kernel_rfl
theorem ag72 : isAggT Try.prog 72 = some true := by kernel_rfl
theorem zc72 : zeroC Try.prog 72 = some [] := by kernel_rfl
theorem pl72 : placesT Try.prog 72 = some [(0, 0)] := by kernel_rfl
theorem nar72 : arrT Try.prog 72 = none := by kernel_rfl
theorem nel72 : elemT Try.prog 72 = none := by kernel_rfl
theorem fo72_0 : fieldOT Try.prog 72 0 = some (0, 70) := by kernel_rfl
theorem sz73 : szOf Try.prog 73 = some 1 := by kernel_rfl
theorem ag73 : isAggT Try.prog 73 = some false := by kernel_rfl
theorem zc73 : zeroC Try.prog 73 = some [.int .u32 0] := by kernel_rfl
theorem npl73 : placesT Try.prog 73 = none := by kernel_rfl
theorem un73 : Try.prog.underlying 73 = some (.int .u32) := by kernel_rfl
theorem nar73 : arrT Try.prog 73 = none := by kernel_rfl
theorem nel73 : elemT Try.prog 73 = none := by kernel_rfl
theorem sz74 : szOf Try.prog 74 = some 1 := by kernel_rfl
theorem ag74 : isAggT Try.prog 74 = some false := by kernel_rfl
theorem zc74 : zeroC Try.prog 74 = some [.int .u8 0] := by kernel_rfl
theorem npl74 : placesT Try.prog 74 = none := by kernel_rfl
theorem un74 : Try.prog.underlying 74 = some (.int .u8) := by kernel_rfl
theorem nar74 : arrT Try.prog 74 = none := by kernel_rfl
theorem nel74 : elemT Try.prog 74 = none := by kernel_rfl
theorem sz75 : szOf Try.prog 75 = some 1 := by kernel_rfl
theorem ag75 : isAggT Try.prog 75 = some false := by kernel_rfl
theorem zc75 : zeroC Try.prog 75 = some [.int .u8 0] := by kernel_rfl
theorem npl75 : placesT Try.prog 75 = none := by kernel_rfl
theorem un75 : Try.prog.underlying 75 = some (.int .u8) := by kernel_rfl
theorem nar75 : arrT Try.prog 75 = none := by kernel_rfl
theorem nel75 : elemT Try.prog 75 = none := by kernel_rfl
theorem sz76 : szOf Try.prog 76 = some 1 := by kernel_rfl
theorem ag76 : isAggT Try.prog 76 = some false := by kernel_rfl
theorem zc76 : zeroC Try.prog 76 = some [.nfn] := by kernel_rfl
theorem npl76 : placesT Try.prog 76 = none := by kernel_rfl
theorem nar76 : arrT Try.prog 76 = none := by kernel_rfl
theorem nel76 : elemT Try.prog 76 = none := by kernel_rfl
theorem sz77 : szOf Try.prog 77 = some 1 := by kernel_rfl
theorem ag77 : isAggT Try.prog 77 = some false := by kernel_rfl
theorem zc77 : zeroC Try.prog 77 = some [.nptr] := by kernel_rfl
theorem npl77 : placesT Try.prog 77 = none := by kernel_rfl
theorem un77 : Try.prog.underlying 77 = some (.pointer 5) := by kernel_rfl
theorem nar77 : arrT Try.prog 77 = none := by kernel_rfl
theorem nel77 : elemT Try.prog 77 = none := by kernel_rfl
theorem sz78 : szOf Try.prog 78 = some 1 := by kernel_rfl
theorem ag78 : isAggT Try.prog 78 = some false := by kernel_rfl
theorem zc78 : zeroC Try.prog 78 = some [.int .i32 0] := by kernel_rfl
theorem npl78 : placesT Try.prog 78 = none := by kernel_rfl
theorem un78 : Try.prog.underlying 78 = some (.int .i32) := by kernel_rfl
theorem nar78 : arrT Try.prog 78 = none := by kernel_rfl
theorem nel78 : elemT Try.prog 78 = none := by kernel_rfl
theorem sz79 : szOf Try.prog 79 = some 1 := by kernel_rfl
theorem ag79 : isAggT Try.prog 79 = some false := by kernel_rfl
theorem zc79 : zeroC Try.prog 79 = some [.int .i32 0] := by kernel_rfl
theorem npl79 : placesT Try.prog 79 = none := by kernel_rfl
theorem un79 : Try.prog.underlying 79 = some (.int .i32) := by kernel_rfl
theorem nar79 : arrT Try.prog 79 = none := by kernel_rfl
theorem nel79 : elemT Try.prog 79 = none := by kernel_rfl
theorem sz80 : szOf Try.prog 80 = some 11 := by kernel_rfl
theorem ag80 : isAggT Try.prog 80 = some true := by kernel_rfl
theorem zc80 : zeroC Try.prog 80 = some [.int .u64 0, .int .u64 0, .int .u32 0, .int .u8 0, .int .u8 0, .int .u8 0, .int .u8 0, .nfn, .nptr, .int .i32 0, .int .i32 0] := by kernel_rfl
theorem pl80 : placesT Try.prog 80 = some [(0, 1), (1, 1), (2, 1), (3, 1), (4, 1), (5, 1), (6, 1), (7, 1), (8, 1), (9, 1), (10, 1)] := by kernel_rfl
theorem nar80 : arrT Try.prog 80 = none := by kernel_rfl
theorem nel80 : elemT Try.prog 80 = none := by kernel_rfl
theorem fo80_0 : fieldOT Try.prog 80 0 = some (0, 12) := by kernel_rfl
theorem fo80_1 : fieldOT Try.prog 80 1 = some (1, 12) := by kernel_rfl
theorem fo80_2 : fieldOT Try.prog 80 2 = some (2, 73) := by kernel_rfl
theorem fo80_3 : fieldOT Try.prog 80 3 = some (3, 74) := by kernel_rfl
theorem fo80_4 : fieldOT Try.prog 80 4 = some (4, 5) := by kernel_rfl
theorem fo80_5 : fieldOT Try.prog 80 5 = some (5, 5) := by kernel_rfl
theorem fo80_6 : fieldOT Try.prog 80 6 = some (6, 75) := by kernel_rfl
theorem fo80_7 : fieldOT Try.prog 80 7 = some (7, 76) := by kernel_rfl
theorem fo80_8 : fieldOT Try.prog 80 8 = some (8, 77) := by kernel_rfl
theorem fo80_9 : fieldOT Try.prog 80 9 = some (9, 78) := by kernel_rfl
theorem fo80_10 : fieldOT Try.prog 80 10 = some (10, 79) := by kernel_rfl
theorem sz81 : szOf Try.prog 81 = some 11 := by kernel_rfl
theorem ag81 : isAggT Try.prog 81 = some true := by kernel_rfl
theorem zc81 : zeroC Try.prog 81 = some [.int .u64 0, .int .u64 0, .int .u32 0, .int .u8 0, .int .u8 0, .int .u8 0, .int .u8 0, .nfn, .nptr, .int .i32 0, .int .i32 0] := by kernel_rfl
theorem pl81 : placesT Try.prog 81 = some [(0, 1), (1, 1), (2, 1), (3, 1), (4, 1), (5, 1), (6, 1), (7, 1), (8, 1), (9, 1), (10, 1)] := by kernel_rfl
theorem nar81 : arrT Try.prog 81 = none := by kernel_rfl
theorem nel81 : elemT Try.prog 81 = none := by kernel_rfl
theorem fo81_0 : fieldOT Try.prog 81 0 = some (0, 12) := by kernel_rfl
theorem fo81_1 : fieldOT Try.prog 81 1 = some (1, 12) := by kernel_rfl
theorem fo81_2 : fieldOT Try.prog 81 2 = some (2, 73) := by kernel_rfl
theorem fo81_3 : fieldOT Try.prog 81 3 = some (3, 74) := by kernel_rfl
theorem fo81_4 : fieldOT Try.prog 81 4 = some (4, 5) := by kernel_rfl
theorem fo81_5 : fieldOT Try.prog 81 5 = some (5, 5) := by kernel_rfl
theorem fo81_6 : fieldOT Try.prog 81 6 = some (6, 75) := by kernel_rfl
theorem fo81_7 : fieldOT Try.prog 81 7 = some (7, 76) := by kernel_rfl
theorem fo81_8 : fieldOT Try.prog 81 8 = some (8, 77) := by kernel_rfl
theorem fo81_9 : fieldOT Try.prog 81 9 = some (9, 78) := by kernel_rfl
theorem fo81_10 : fieldOT Try.prog 81 10 = some (10, 79) := by kernel_rfl
theorem mixed : Try.prog.follows .mixedOrders = true := by kernel_rfl
attribute [simp] sz1 ag1 zc1 npl1 nar1 nel1 sz2 ag2 zc2 npl2 un2 nar2 nel2 sz3 by3 ag3 zc3 npl3 un3 nar3 nel3 sz4 ag4 zc4 npl4 un4 nar4 nel4 sz5 by5 ag5 zc5 npl5 un5 nar5 nel5 sz6 ag6 zc6 npl6 un6 nar6 nel6 sz7 ag7 zc7 pl7 nar7 nel7 fo7_0 fo7_1 fo7_2 fo7_3 sz8 ag8 zc8 pl8 nar8 nel8 fo8_0 fo8_1 fo8_2 fo8_3 sz9 ag9 zc9 npl9 un9 nar9 nel9 sz10 ag10 zc10 npl10 un10 nar10 nel10 sz11 ag11 zc11 npl11 un11 nar11 nel11 sz12 ag12 zc12 npl12 un12 nar12 nel12 sz13 ag13 zc13 pl13 nar13 nel13 fo13_0 fo13_1 sz14 ag14 zc14 pl14 nar14 nel14 fo14_0 fo14_1 sz15 ag15 zc15 npl15 un15 nar15 nel15 sz16 ag16 zc16 npl16 un16 nar16 nel16 sz17 ag17 zc17 npl17 un17 nar17 nel17 sz18 ag18 zc18 pl18 nar18 nel18 fo18_0 sz19 ag19 zc19 pl19 nar19 nel19 fo19_0 sz20 ag20 zc20 npl20 nar20 nel20 ic20 sz21 ag21 zc21 npl21 un21 nar21 nel21 sz22 ag22 zc22 npl22 un22 el22 ap22 nar22 sz23 ag23 zc23 pl23 nar23 nel23 fo23_0 fo23_1 fo23_2 fo23_3 fo23_4 fo23_5 sz24 ag24 zc24 pl24 nar24 nel24 fo24_0 fo24_1 fo24_2 fo24_3 fo24_4 fo24_5 sz25 ag25 zc25 npl25 un25 el25 ap25 nar25 sz26 ag26 zc26 npl26 un26 el26 ap26 nar26 sz27 ag27 zc27 pl27 nar27 nel27 fo27_0 fo27_1 fo27_2 fo27_3 fo27_4 sz28 ag28 zc28 pl28 nar28 nel28 fo28_0 fo28_1 fo28_2 fo28_3 fo28_4 sz29 ag29 zc29 npl29 nar29 nel29 sz30 ag30 zc30 npl30 nar30 nel30 sz31 ag31 zc31 npl31 nar31 nel31 sz32 ag32 zc32 npl32 un32 el32 ap32 nar32 sz33 ag33 zc33 pl33 nar33 nel33 fo33_0 fo33_1 fo33_2 sz34 by34 ag34 zc34 pl34 nar34 nel34 fo34_0 fo34_1 fo34_2 sz35 ag35 zc35 npl35 un35 nar35 nel35 sz37 ag37 zc37 npl37 nar37 nel37 sz38 ag38 zc38 npl38 nar38 nel38 sz40 ag40 zc40 npl40 nar40 nel40 sz41 ag41 zc41 npl41 nar41 nel41 sz42 ag42 zc42 npl42 nar42 nel42 sz43 ag43 zc43 npl43 nar43 nel43 sz44 ag44 zc44 npl44 nar44 nel44 sz45 ag45 zc45 npl45 nar45 nel45 sz46 ag46 zc46 npl46 nar46 nel46 sz47 ag47 zc47 pl47 nar47 nel47 fo47_0 fo47_1 sz48 by48 ag48 zc48 pl48 nar48 nel48 fo48_0 fo48_1 sz49 ag49 zc49 npl49 un49 ar49 nel49 sz50 ag50 zc50 npl50 nar50 nel50 sz51 ag51 zc51 npl51 nar51 nel51 sz52 ag52 zc52 pl52 nar52 nel52 fo52_0 fo52_1 sz53 ag53 zc53 pl53 nar53 nel53 fo53_0 fo53_1 sz54 ag54 zc54 npl54 nar54 nel54 sz55 ag55 zc55 npl55 nar55 nel55 sz56 ag56 zc56 npl56 un56 nar56 nel56 sz57 ag57 zc57 npl57 nar57 nel57 sz58 ag58 zc58 npl58 nar58 nel58 sz59 ag59 zc59 npl59 nar59 nel59 sz60 ag60 zc60 npl60 nar60 nel60 sz61 ag61 zc61 npl61 nar61 nel61 sz62 ag62 zc62 npl62 nar62 nel62 sz63 ag63 zc63 npl63 nar63 nel63 sz64 ag64 zc64 npl64 nar64 nel64 sz65 ag65 zc65 npl65 un65 nar65 nel65 sz66 ag66 zc66 npl66 nar66 nel66 sz67 ag67 zc67 npl67 nar67 nel67 sz68 ag68 zc68 pl68 nar68 nel68 fo68_0 fo68_1 fo68_2 fo68_3 sz69 ag69 zc69 pl69 nar69 nel69 fo69_0 fo69_1 fo69_2 fo69_3 sz70 ag70 zc70 npl70 un70 ar70 nel70 sz71 ag71 zc71 pl71 nar71 nel71 fo71_0 sz72 ag72 zc72 pl72 nar72 nel72 fo72_0 sz73 ag73 zc73 npl73 un73 nar73 nel73 sz74 ag74 zc74 npl74 un74 nar74 nel74 sz75 ag75 zc75 npl75 un75 nar75 nel75 sz76 ag76 zc76 npl76 nar76 nel76 sz77 ag77 zc77 npl77 un77 nar77 nel77 sz78 ag78 zc78 npl78 un78 nar78 nel78 sz79 ag79 zc79 npl79 un79 nar79 nel79 sz80 ag80 zc80 pl80 nar80 nel80 fo80_0 fo80_1 fo80_2 fo80_3 fo80_4 fo80_5 fo80_6 fo80_7 fo80_8 fo80_9 fo80_10 sz81 ag81 zc81 pl81 nar81 nel81 fo81_0 fo81_1 fo81_2 fo81_3 fo81_4 fo81_5 fo81_6 fo81_7 fo81_8 fo81_9 fo81_10
@[simp] theorem ei2 {σ : Store} {k : IntKind} {a b : Int} : eqD Try.prog σ 18 2 (.int k a) (.int k b) = some (a == b) := eqD_int18 un2 k a b
@[simp] theorem ei3 {σ : Store} {k : IntKind} {a b : Int} : eqD Try.prog σ 18 3 (.int k a) (.int k b) = some (a == b) := eqD_int18 un3 k a b
@[simp] theorem ei5 {σ : Store} {k : IntKind} {a b : Int} : eqD Try.prog σ 18 5 (.int k a) (.int k b) = some (a == b) := eqD_int18 un5 k a b
@[simp] theorem ei6 {σ : Store} {k : IntKind} {a b : Int} : eqD Try.prog σ 18 6 (.int k a) (.int k b) = some (a == b) := eqD_int18 un6 k a b
@[simp] theorem ei12 {σ : Store} {k : IntKind} {a b : Int} : eqD Try.prog σ 18 12 (.int k a) (.int k b) = some (a == b) := eqD_int18 un12 k a b
@[simp] theorem ia20 {σ : Store} : eqD Try.prog σ 20 20 .nif .nif = some true := eqD_nif ic20
@[simp] theorem ib20 {σ : Store} {u : TypeId} {d : D} : eqD Try.prog σ 20 20 (.ifc u d) .nif = some false := eqD_ifc_nif ic20 u d
@[simp] theorem ig20 {σ : Store} {u : TypeId} {d : D} : eqD Try.prog σ 20 20 .nif (.ifc u d) = some false := eqD_nif_ifc ic20 u d
@[simp] theorem ei21 {σ : Store} {k : IntKind} {a b : Int} : eqD Try.prog σ 18 21 (.int k a) (.int k b) = some (a == b) := eqD_int18 un21 k a b
@[simp] theorem en22 {σ : Store} {f : Bool} {d : D} {cs : List D} {n : Nat} : eqD Try.prog σ 20 22 (.sl f (d :: cs) n) .nsl = some false := eqD_sl_nil un22 f d cs n
@[simp] theorem em22 {σ : Store} : eqD Try.prog σ 20 22 .nsl .nsl = some true := eqD_nil_nil un22
@[simp] theorem en25 {σ : Store} {f : Bool} {d : D} {cs : List D} {n : Nat} : eqD Try.prog σ 20 25 (.sl f (d :: cs) n) .nsl = some false := eqD_sl_nil un25 f d cs n
@[simp] theorem em25 {σ : Store} : eqD Try.prog σ 20 25 .nsl .nsl = some true := eqD_nil_nil un25
@[simp] theorem en26 {σ : Store} {f : Bool} {d : D} {cs : List D} {n : Nat} : eqD Try.prog σ 20 26 (.sl f (d :: cs) n) .nsl = some false := eqD_sl_nil un26 f d cs n
@[simp] theorem em26 {σ : Store} : eqD Try.prog σ 20 26 .nsl .nsl = some true := eqD_nil_nil un26
@[simp] theorem en32 {σ : Store} {f : Bool} {d : D} {cs : List D} {n : Nat} : eqD Try.prog σ 20 32 (.sl f (d :: cs) n) .nsl = some false := eqD_sl_nil un32 f d cs n
@[simp] theorem em32 {σ : Store} : eqD Try.prog σ 20 32 .nsl .nsl = some true := eqD_nil_nil un32
@[simp] theorem ei35 {σ : Store} {k : IntKind} {a b : Int} : eqD Try.prog σ 18 35 (.int k a) (.int k b) = some (a == b) := eqD_int18 un35 k a b
@[simp] theorem ei65 {σ : Store} {k : IntKind} {a b : Int} : eqD Try.prog σ 18 65 (.int k a) (.int k b) = some (a == b) := eqD_int18 un65 k a b
@[simp] theorem ei73 {σ : Store} {k : IntKind} {a b : Int} : eqD Try.prog σ 18 73 (.int k a) (.int k b) = some (a == b) := eqD_int18 un73 k a b
@[simp] theorem ei74 {σ : Store} {k : IntKind} {a b : Int} : eqD Try.prog σ 18 74 (.int k a) (.int k b) = some (a == b) := eqD_int18 un74 k a b
@[simp] theorem ei75 {σ : Store} {k : IntKind} {a b : Int} : eqD Try.prog σ 18 75 (.int k a) (.int k b) = some (a == b) := eqD_int18 un75 k a b
@[simp] theorem ei78 {σ : Store} {k : IntKind} {a b : Int} : eqD Try.prog σ 18 78 (.int k a) (.int k b) = some (a == b) := eqD_int18 un78 k a b
@[simp] theorem ei79 {σ : Store} {k : IntKind} {a b : Int} : eqD Try.prog σ 18 79 (.int k a) (.int k b) = some (a == b) := eqD_int18 un79 k a b
end Go.Proofs.Ythaidogcgjnhcaa
