/- What the types of this seat are. Printed by facts.py (own work). -/
import Derived.Test.YtibcjkklgifgmaaVmCmp
import Derived.Test.YtibcjkklgifgmaaProg
namespace Go.Proofs.Ytibcjkklgifgmaa
open Go Go.Vm Go.Proofs
theorem sz1 : szOf Try.prog 1 = some 1 := by kernel_rfl
theorem ag1 : isAggT Try.prog 1 = some false := by kernel_rfl
theorem zc1 : zeroC Try.prog 1 = some [.nfn] := by kernel_rfl
theorem npl1 : placesT Try.prog 1 = none := by kernel_rfl
theorem nar1 : arrT Try.prog 1 = none := by kernel_rfl
theorem nel1 : elemT Try.prog 1 = none := by kernel_rfl
theorem sz2 : szOf Try.prog 2 = some 1 := by kernel_rfl
theorem ag2 : isAggT Try.prog 2 = some false := by kernel_rfl
theorem zc2 : zeroC Try.prog 2 = some [.int .i64 0] := by kernel_rfl
theorem npl2 : placesT Try.prog 2 = none := by kernel_rfl
theorem un2 : Try.prog.underlying 2 = some (.int .i64) := by kernel_rfl
theorem nar2 : arrT Try.prog 2 = none := by kernel_rfl
theorem nel2 : elemT Try.prog 2 = none := by kernel_rfl
theorem sz3 : szOf Try.prog 3 = some 1 := by kernel_rfl
theorem by3 : byOf Try.prog 3 = some 8 := by kernel_rfl
theorem ag3 : isAggT Try.prog 3 = some false := by kernel_rfl
theorem zc3 : zeroC Try.prog 3 = some [.int .i64 0] := by kernel_rfl
theorem npl3 : placesT Try.prog 3 = none := by kernel_rfl
theorem un3 : Try.prog.underlying 3 = some (.int .i64) := by kernel_rfl
theorem nar3 : arrT Try.prog 3 = none := by kernel_rfl
theorem nel3 : elemT Try.prog 3 = none := by kernel_rfl
theorem sz4 : szOf Try.prog 4 = some 1 := by kernel_rfl
theorem ag4 : isAggT Try.prog 4 = some false := by kernel_rfl
theorem zc4 : zeroC Try.prog 4 = some [.bool false] := by kernel_rfl
theorem npl4 : placesT Try.prog 4 = none := by kernel_rfl
theorem un4 : Try.prog.underlying 4 = some .bool := by kernel_rfl
theorem nar4 : arrT Try.prog 4 = none := by kernel_rfl
theorem nel4 : elemT Try.prog 4 = none := by kernel_rfl
theorem sz5 : szOf Try.prog 5 = some 1 := by kernel_rfl
theorem by5 : byOf Try.prog 5 = some 1 := by kernel_rfl
theorem ag5 : isAggT Try.prog 5 = some false := by kernel_rfl
theorem zc5 : zeroC Try.prog 5 = some [.int .u8 0] := by kernel_rfl
theorem npl5 : placesT Try.prog 5 = none := by kernel_rfl
theorem un5 : Try.prog.underlying 5 = some (.int .u8) := by kernel_rfl
theorem nar5 : arrT Try.prog 5 = none := by kernel_rfl
theorem nel5 : elemT Try.prog 5 = none := by kernel_rfl
theorem sz6 : szOf Try.prog 6 = some 1 := by kernel_rfl
theorem ag6 : isAggT Try.prog 6 = some false := by kernel_rfl
theorem zc6 : zeroC Try.prog 6 = some [.int .u8 0] := by kernel_rfl
theorem npl6 : placesT Try.prog 6 = none := by kernel_rfl
theorem un6 : Try.prog.underlying 6 = some (.int .u8) := by kernel_rfl
theorem nar6 : arrT Try.prog 6 = none := by kernel_rfl
theorem nel6 : elemT Try.prog 6 = none := by kernel_rfl
theorem sz7 : szOf Try.prog 7 = some 4 := by kernel_rfl
theorem ag7 : isAggT Try.prog 7 = some true := by kernel_rfl
theorem zc7 : zeroC Try.prog 7 = some [.int .i64 0, .int .i64 0, .bool false, .int .u8 0] := by kernel_rfl
theorem pl7 : placesT Try.prog 7 = some [(0, 1), (1, 1), (2, 1), (3, 1)] := by kernel_rfl
theorem nar7 : arrT Try.prog 7 = none := by kernel_rfl
theorem nel7 : elemT Try.prog 7 = none := by kernel_rfl
theorem fo7_0 : fieldOT Try.prog 7 0 = some (0, 2) := by kernel_rfl
theorem fo7_1 : fieldOT Try.prog 7 1 = some (1, 3) := by kernel_rfl
theorem fo7_2 : fieldOT Try.prog 7 2 = some (2, 4) := by kernel_rfl
theorem fo7_3 : fieldOT Try.prog 7 3 = some (3, 6) := by kernel_rfl
theorem sz8 : szOf Try.prog 8 = some 4 := by kernel_rfl
theorem ag8 : isAggT Try.prog 8 = some true := by kernel_rfl
theorem zc8 : zeroC Try.prog 8 = some [.int .i64 0, .int .i64 0, .bool false, .int .u8 0] := by kernel_rfl
theorem pl8 : placesT Try.prog 8 = some [(0, 1), (1, 1), (2, 1), (3, 1)] := by kernel_rfl
theorem nar8 : arrT Try.prog 8 = none := by kernel_rfl
theorem nel8 : elemT Try.prog 8 = none := by kernel_rfl
theorem fo8_0 : fieldOT Try.prog 8 0 = some (0, 2) := by kernel_rfl
theorem fo8_1 : fieldOT Try.prog 8 1 = some (1, 3) := by kernel_rfl
theorem fo8_2 : fieldOT Try.prog 8 2 = some (2, 4) := by kernel_rfl
theorem fo8_3 : fieldOT Try.prog 8 3 = some (3, 6) := by kernel_rfl
theorem sz9 : szOf Try.prog 9 = some 1 := by kernel_rfl
theorem ag9 : isAggT Try.prog 9 = some false := by kernel_rfl
theorem zc9 : zeroC Try.prog 9 = some [.str ⟨#[]⟩] := by kernel_rfl
theorem npl9 : placesT Try.prog 9 = none := by kernel_rfl
theorem un9 : Try.prog.underlying 9 = some .string := by kernel_rfl
theorem nar9 : arrT Try.prog 9 = none := by kernel_rfl
theorem nel9 : elemT Try.prog 9 = none := by kernel_rfl
theorem sz10 : szOf Try.prog 10 = some 1 := by kernel_rfl
theorem ag10 : isAggT Try.prog 10 = some false := by kernel_rfl
theorem zc10 : zeroC Try.prog 10 = some [.str ⟨#[]⟩] := by kernel_rfl
theorem npl10 : placesT Try.prog 10 = none := by kernel_rfl
theorem un10 : Try.prog.underlying 10 = some .string := by kernel_rfl
theorem nar10 : arrT Try.prog 10 = none := by kernel_rfl
theorem nel10 : elemT Try.prog 10 = none := by kernel_rfl
theorem sz11 : szOf Try.prog 11 = some 1 := by kernel_rfl
theorem ag11 : isAggT Try.prog 11 = some false := by kernel_rfl
theorem zc11 : zeroC Try.prog 11 = some [.str ⟨#[]⟩] := by kernel_rfl
theorem npl11 : placesT Try.prog 11 = none := by kernel_rfl
theorem un11 : Try.prog.underlying 11 = some .string := by kernel_rfl
theorem nar11 : arrT Try.prog 11 = none := by kernel_rfl
theorem nel11 : elemT Try.prog 11 = none := by kernel_rfl
theorem sz12 : szOf Try.prog 12 = some 1 := by kernel_rfl
theorem ag12 : isAggT Try.prog 12 = some false := by kernel_rfl
theorem zc12 : zeroC Try.prog 12 = some [.int .u64 0] := by kernel_rfl
theorem npl12 : placesT Try.prog 12 = none := by kernel_rfl
theorem un12 : Try.prog.underlying 12 = some (.int .u64) := by kernel_rfl
theorem nar12 : arrT Try.prog 12 = none := by kernel_rfl
theorem nel12 : elemT Try.prog 12 = none := by kernel_rfl
theorem sz13 : szOf Try.prog 13 = some 2 := by kernel_rfl
theorem ag13 : isAggT Try.prog 13 = some true := by kernel_rfl
theorem zc13 : zeroC Try.prog 13 = some [.str ⟨#[]⟩, .int .u64 0] := by kernel_rfl
theorem pl13 : placesT Try.prog 13 = some [(0, 1), (1, 1)] := by kernel_rfl
theorem nar13 : arrT Try.prog 13 = none := by kernel_rfl
theorem nel13 : elemT Try.prog 13 = none := by kernel_rfl
theorem fo13_0 : fieldOT Try.prog 13 0 = some (0, 9) := by kernel_rfl
theorem fo13_1 : fieldOT Try.prog 13 1 = some (1, 12) := by kernel_rfl
theorem sz14 : szOf Try.prog 14 = some 2 := by kernel_rfl
theorem ag14 : isAggT Try.prog 14 = some true := by kernel_rfl
theorem zc14 : zeroC Try.prog 14 = some [.str ⟨#[]⟩, .int .u64 0] := by kernel_rfl
theorem pl14 : placesT Try.prog 14 = some [(0, 1), (1, 1)] := by kernel_rfl
theorem nar14 : arrT Try.prog 14 = none := by kernel_rfl
theorem nel14 : elemT Try.prog 14 = none := by kernel_rfl
theorem fo14_0 : fieldOT Try.prog 14 0 = some (0, 9) := by kernel_rfl
theorem fo14_1 : fieldOT Try.prog 14 1 = some (1, 12) := by kernel_rfl
theorem sz15 : szOf Try.prog 15 = some 1 := by kernel_rfl
theorem ag15 : isAggT Try.prog 15 = some false := by kernel_rfl
theorem zc15 : zeroC Try.prog 15 = some [.nptr] := by kernel_rfl
theorem npl15 : placesT Try.prog 15 = none := by kernel_rfl
theorem un15 : Try.prog.underlying 15 = some (.pointer 107) := by kernel_rfl
theorem nar15 : arrT Try.prog 15 = none := by kernel_rfl
theorem nel15 : elemT Try.prog 15 = none := by kernel_rfl
theorem sz16 : szOf Try.prog 16 = some 1 := by kernel_rfl
theorem ag16 : isAggT Try.prog 16 = some false := by kernel_rfl
theorem zc16 : zeroC Try.prog 16 = some [.nptr] := by kernel_rfl
theorem npl16 : placesT Try.prog 16 = none := by kernel_rfl
theorem un16 : Try.prog.underlying 16 = some (.pointer 110) := by kernel_rfl
theorem nar16 : arrT Try.prog 16 = none := by kernel_rfl
theorem nel16 : elemT Try.prog 16 = none := by kernel_rfl
theorem sz17 : szOf Try.prog 17 = some 1 := by kernel_rfl
theorem ag17 : isAggT Try.prog 17 = some false := by kernel_rfl
theorem zc17 : zeroC Try.prog 17 = some [.nptr] := by kernel_rfl
theorem npl17 : placesT Try.prog 17 = none := by kernel_rfl
theorem un17 : Try.prog.underlying 17 = some (.pointer 119) := by kernel_rfl
theorem nar17 : arrT Try.prog 17 = none := by kernel_rfl
theorem nel17 : elemT Try.prog 17 = none := by kernel_rfl
theorem sz18 : szOf Try.prog 18 = some 1 := by kernel_rfl
theorem ag18 : isAggT Try.prog 18 = some true := by kernel_rfl
theorem zc18 : zeroC Try.prog 18 = some [.nptr] := by kernel_rfl
theorem pl18 : placesT Try.prog 18 = some [(0, 1)] := by kernel_rfl
theorem nar18 : arrT Try.prog 18 = none := by kernel_rfl
theorem nel18 : elemT Try.prog 18 = none := by kernel_rfl
theorem fo18_0 : fieldOT Try.prog 18 0 = some (0, 17) := by kernel_rfl
theorem sz19 : szOf Try.prog 19 = some 1 := by kernel_rfl
theorem ag19 : isAggT Try.prog 19 = some true := by kernel_rfl
theorem zc19 : zeroC Try.prog 19 = some [.nptr] := by kernel_rfl
theorem pl19 : placesT Try.prog 19 = some [(0, 1)] := by kernel_rfl
theorem nar19 : arrT Try.prog 19 = none := by kernel_rfl
theorem nel19 : elemT Try.prog 19 = none := by kernel_rfl
theorem fo19_0 : fieldOT Try.prog 19 0 = some (0, 17) := by kernel_rfl
theorem sz20 : szOf Try.prog 20 = some 1 := by kernel_rfl
theorem ag20 : isAggT Try.prog 20 = some false := by kernel_rfl
theorem zc20 : zeroC Try.prog 20 = some [.nif] := by kernel_rfl
theorem npl20 : placesT Try.prog 20 = none := by kernel_rfl
theorem nar20 : arrT Try.prog 20 = none := by kernel_rfl
theorem nel20 : elemT Try.prog 20 = none := by kernel_rfl
theorem ic20 : isIfc Try.prog 20 = true := by kernel_rfl
theorem sz21 : szOf Try.prog 21 = some 1 := by kernel_rfl
theorem ag21 : isAggT Try.prog 21 = some false := by kernel_rfl
theorem zc21 : zeroC Try.prog 21 = some [.int .i32 0] := by kernel_rfl
theorem npl21 : placesT Try.prog 21 = none := by kernel_rfl
theorem un21 : Try.prog.underlying 21 = some (.int .i32) := by kernel_rfl
theorem nar21 : arrT Try.prog 21 = none := by kernel_rfl
theorem nel21 : elemT Try.prog 21 = none := by kernel_rfl
theorem sz22 : szOf Try.prog 22 = some 1 := by kernel_rfl
theorem ag22 : isAggT Try.prog 22 = some false := by kernel_rfl
theorem zc22 : zeroC Try.prog 22 = some [.nsl] := by kernel_rfl
theorem npl22 : placesT Try.prog 22 = none := by kernel_rfl
theorem un22 : Try.prog.underlying 22 = some (.slice 32) := by kernel_rfl
theorem el22 : elemT Try.prog 22 = some 32 := by kernel_rfl
theorem ap22 : appT Try.prog 22 22 = some (4, 32) := by kernel_rfl
theorem nar22 : arrT Try.prog 22 = none := by kernel_rfl
theorem sz23 : szOf Try.prog 23 = some 1 := by kernel_rfl
theorem ag23 : isAggT Try.prog 23 = some false := by kernel_rfl
theorem zc23 : zeroC Try.prog 23 = some [.nsl] := by kernel_rfl
theorem npl23 : placesT Try.prog 23 = none := by kernel_rfl
theorem un23 : Try.prog.underlying 23 = some (.slice 36) := by kernel_rfl
theorem el23 : elemT Try.prog 23 = some 36 := by kernel_rfl
theorem ap23 : appT Try.prog 23 23 = some (5, 72) := by kernel_rfl
theorem nar23 : arrT Try.prog 23 = none := by kernel_rfl
theorem sz25 : szOf Try.prog 25 = some 1 := by kernel_rfl
theorem ag25 : isAggT Try.prog 25 = some false := by kernel_rfl
theorem zc25 : zeroC Try.prog 25 = some [.nfn] := by kernel_rfl
theorem npl25 : placesT Try.prog 25 = none := by kernel_rfl
theorem nar25 : arrT Try.prog 25 = none := by kernel_rfl
theorem nel25 : elemT Try.prog 25 = none := by kernel_rfl
theorem sz26 : szOf Try.prog 26 = some 1 := by kernel_rfl
theorem ag26 : isAggT Try.prog 26 = some false := by kernel_rfl
theorem zc26 : zeroC Try.prog 26 = some [.nfn] := by kernel_rfl
theorem npl26 : placesT Try.prog 26 = none := by kernel_rfl
theorem nar26 : arrT Try.prog 26 = none := by kernel_rfl
theorem nel26 : elemT Try.prog 26 = none := by kernel_rfl
theorem sz27 : szOf Try.prog 27 = some 1 := by kernel_rfl
theorem ag27 : isAggT Try.prog 27 = some false := by kernel_rfl
theorem zc27 : zeroC Try.prog 27 = some [.nfn] := by kernel_rfl
theorem npl27 : placesT Try.prog 27 = none := by kernel_rfl
theorem nar27 : arrT Try.prog 27 = none := by kernel_rfl
theorem nel27 : elemT Try.prog 27 = none := by kernel_rfl
theorem sz28 : szOf Try.prog 28 = some 1 := by kernel_rfl
theorem by28 : byOf Try.prog 28 = some 24 := by kernel_rfl
theorem ag28 : isAggT Try.prog 28 = some false := by kernel_rfl
theorem zc28 : zeroC Try.prog 28 = some [.nsl] := by kernel_rfl
theorem npl28 : placesT Try.prog 28 = none := by kernel_rfl
theorem un28 : Try.prog.underlying 28 = some (.slice 48) := by kernel_rfl
theorem el28 : elemT Try.prog 28 = some 48 := by kernel_rfl
theorem ap28 : appT Try.prog 28 28 = some (2, 48) := by kernel_rfl
theorem nar28 : arrT Try.prog 28 = none := by kernel_rfl
theorem sz30 : szOf Try.prog 30 = some 1 := by kernel_rfl
theorem ag30 : isAggT Try.prog 30 = some false := by kernel_rfl
theorem zc30 : zeroC Try.prog 30 = some [.nfn] := by kernel_rfl
theorem npl30 : placesT Try.prog 30 = none := by kernel_rfl
theorem nar30 : arrT Try.prog 30 = none := by kernel_rfl
theorem nel30 : elemT Try.prog 30 = none := by kernel_rfl
theorem sz31 : szOf Try.prog 31 = some 4 := by kernel_rfl
theorem ag31 : isAggT Try.prog 31 = some true := by kernel_rfl
theorem zc31 : zeroC Try.prog 31 = some [.bool false, .int .i64 0, .int .i64 0, .int .i64 0] := by kernel_rfl
theorem pl31 : placesT Try.prog 31 = some [(0, 1), (1, 1), (2, 1), (3, 1)] := by kernel_rfl
theorem nar31 : arrT Try.prog 31 = none := by kernel_rfl
theorem nel31 : elemT Try.prog 31 = none := by kernel_rfl
theorem fs31 : fieldsT Try.prog 31 = some [(0, 4), (1, 3), (2, 3), (3, 3)] := by kernel_rfl
theorem eg31 : Try.prog.eqGuardType Try.prog.depth 31 = false := by kernel_rfl
theorem fo31_0 : fieldOT Try.prog 31 0 = some (0, 4) := by kernel_rfl
theorem fo31_1 : fieldOT Try.prog 31 1 = some (1, 3) := by kernel_rfl
theorem fo31_2 : fieldOT Try.prog 31 2 = some (2, 3) := by kernel_rfl
theorem fo31_3 : fieldOT Try.prog 31 3 = some (3, 3) := by kernel_rfl
theorem sz32 : szOf Try.prog 32 = some 4 := by kernel_rfl
theorem by32 : byOf Try.prog 32 = some 32 := by kernel_rfl
theorem ag32 : isAggT Try.prog 32 = some true := by kernel_rfl
theorem zc32 : zeroC Try.prog 32 = some [.bool false, .int .i64 0, .int .i64 0, .int .i64 0] := by kernel_rfl
theorem pl32 : placesT Try.prog 32 = some [(0, 1), (1, 1), (2, 1), (3, 1)] := by kernel_rfl
theorem nar32 : arrT Try.prog 32 = none := by kernel_rfl
theorem nel32 : elemT Try.prog 32 = none := by kernel_rfl
theorem fs32 : fieldsT Try.prog 32 = some [(0, 4), (1, 3), (2, 3), (3, 3)] := by kernel_rfl
theorem eg32 : Try.prog.eqGuardType Try.prog.depth 32 = false := by kernel_rfl
theorem fo32_0 : fieldOT Try.prog 32 0 = some (0, 4) := by kernel_rfl
theorem fo32_1 : fieldOT Try.prog 32 1 = some (1, 3) := by kernel_rfl
theorem fo32_2 : fieldOT Try.prog 32 2 = some (2, 3) := by kernel_rfl
theorem fo32_3 : fieldOT Try.prog 32 3 = some (3, 3) := by kernel_rfl
theorem sz33 : szOf Try.prog 33 = some 1 := by kernel_rfl
theorem by33 : byOf Try.prog 33 = some 24 := by kernel_rfl
theorem ag33 : isAggT Try.prog 33 = some false := by kernel_rfl
theorem zc33 : zeroC Try.prog 33 = some [.nsl] := by kernel_rfl
theorem npl33 : placesT Try.prog 33 = none := by kernel_rfl
theorem un33 : Try.prog.underlying 33 = some (.slice 5) := by kernel_rfl
theorem el33 : elemT Try.prog 33 = some 5 := by kernel_rfl
theorem ap33 : appT Try.prog 33 33 = some (1, 1) := by kernel_rfl
theorem nar33 : arrT Try.prog 33 = none := by kernel_rfl
theorem sz34 : szOf Try.prog 34 = some 1 := by kernel_rfl
theorem ag34 : isAggT Try.prog 34 = some false := by kernel_rfl
theorem zc34 : zeroC Try.prog 34 = some [.nfn] := by kernel_rfl
theorem npl34 : placesT Try.prog 34 = none := by kernel_rfl
theorem nar34 : arrT Try.prog 34 = none := by kernel_rfl
theorem nel34 : elemT Try.prog 34 = none := by kernel_rfl
theorem sz35 : szOf Try.prog 35 = some 5 := by kernel_rfl
theorem ag35 : isAggT Try.prog 35 = some true := by kernel_rfl
theorem zc35 : zeroC Try.prog 35 = some [.int .i64 0, .int .i64 0, .nsl, .nsl, .int .i64 0] := by kernel_rfl
theorem pl35 : placesT Try.prog 35 = some [(0, 1), (1, 1), (2, 1), (3, 1), (4, 1)] := by kernel_rfl
theorem nar35 : arrT Try.prog 35 = none := by kernel_rfl
theorem nel35 : elemT Try.prog 35 = none := by kernel_rfl
theorem fo35_0 : fieldOT Try.prog 35 0 = some (0, 3) := by kernel_rfl
theorem fo35_1 : fieldOT Try.prog 35 1 = some (1, 3) := by kernel_rfl
theorem fo35_2 : fieldOT Try.prog 35 2 = some (2, 33) := by kernel_rfl
theorem fo35_3 : fieldOT Try.prog 35 3 = some (3, 33) := by kernel_rfl
theorem fo35_4 : fieldOT Try.prog 35 4 = some (4, 3) := by kernel_rfl
theorem sz36 : szOf Try.prog 36 = some 5 := by kernel_rfl
theorem by36 : byOf Try.prog 36 = some 72 := by kernel_rfl
theorem ag36 : isAggT Try.prog 36 = some true := by kernel_rfl
theorem zc36 : zeroC Try.prog 36 = some [.int .i64 0, .int .i64 0, .nsl, .nsl, .int .i64 0] := by kernel_rfl
theorem pl36 : placesT Try.prog 36 = some [(0, 1), (1, 1), (2, 1), (3, 1), (4, 1)] := by kernel_rfl
theorem nar36 : arrT Try.prog 36 = none := by kernel_rfl
theorem nel36 : elemT Try.prog 36 = none := by kernel_rfl
theorem fo36_0 : fieldOT Try.prog 36 0 = some (0, 3) := by kernel_rfl
theorem fo36_1 : fieldOT Try.prog 36 1 = some (1, 3) := by kernel_rfl
theorem fo36_2 : fieldOT Try.prog 36 2 = some (2, 33) := by kernel_rfl
theorem fo36_3 : fieldOT Try.prog 36 3 = some (3, 33) := by kernel_rfl
theorem fo36_4 : fieldOT Try.prog 36 4 = some (4, 3) := by kernel_rfl
theorem sz37 : szOf Try.prog 37 = some 1 := by kernel_rfl
theorem ag37 : isAggT Try.prog 37 = some false := by kernel_rfl
theorem zc37 : zeroC Try.prog 37 = some [.nfn] := by kernel_rfl
theorem npl37 : placesT Try.prog 37 = none := by kernel_rfl
theorem nar37 : arrT Try.prog 37 = none := by kernel_rfl
theorem nel37 : elemT Try.prog 37 = none := by kernel_rfl
theorem sz38 : szOf Try.prog 38 = some 1 := by kernel_rfl
theorem ag38 : isAggT Try.prog 38 = some false := by kernel_rfl
theorem zc38 : zeroC Try.prog 38 = some [.nfn] := by kernel_rfl
theorem npl38 : placesT Try.prog 38 = none := by kernel_rfl
theorem nar38 : arrT Try.prog 38 = none := by kernel_rfl
theorem nel38 : elemT Try.prog 38 = none := by kernel_rfl
theorem sz39 : szOf Try.prog 39 = some 1 := by kernel_rfl
theorem ag39 : isAggT Try.prog 39 = some false := by kernel_rfl
theorem zc39 : zeroC Try.prog 39 = some [.nsl] := by kernel_rfl
theorem npl39 : placesT Try.prog 39 = none := by kernel_rfl
theorem un39 : Try.prog.underlying 39 = some (.slice 44) := by kernel_rfl
theorem el39 : elemT Try.prog 39 = some 44 := by kernel_rfl
theorem ap39 : appT Try.prog 39 39 = some (4, 64) := by kernel_rfl
theorem nar39 : arrT Try.prog 39 = none := by kernel_rfl
theorem sz40 : szOf Try.prog 40 = some 1 := by kernel_rfl
theorem ag40 : isAggT Try.prog 40 = some false := by kernel_rfl
theorem zc40 : zeroC Try.prog 40 = some [.int .i64 0] := by kernel_rfl
theorem npl40 : placesT Try.prog 40 = none := by kernel_rfl
theorem un40 : Try.prog.underlying 40 = some (.int .i64) := by kernel_rfl
theorem nar40 : arrT Try.prog 40 = none := by kernel_rfl
theorem nel40 : elemT Try.prog 40 = none := by kernel_rfl
theorem sz42 : szOf Try.prog 42 = some 1 := by kernel_rfl
theorem ag42 : isAggT Try.prog 42 = some false := by kernel_rfl
theorem zc42 : zeroC Try.prog 42 = some [.nfn] := by kernel_rfl
theorem npl42 : placesT Try.prog 42 = none := by kernel_rfl
theorem nar42 : arrT Try.prog 42 = none := by kernel_rfl
theorem nel42 : elemT Try.prog 42 = none := by kernel_rfl
theorem sz43 : szOf Try.prog 43 = some 4 := by kernel_rfl
theorem ag43 : isAggT Try.prog 43 = some true := by kernel_rfl
theorem zc43 : zeroC Try.prog 43 = some [.int .i64 0, .int .i64 0, .nsl, .nsl] := by kernel_rfl
theorem pl43 : placesT Try.prog 43 = some [(0, 1), (1, 1), (2, 1), (3, 1)] := by kernel_rfl
theorem nar43 : arrT Try.prog 43 = none := by kernel_rfl
theorem nel43 : elemT Try.prog 43 = none := by kernel_rfl
theorem fo43_0 : fieldOT Try.prog 43 0 = some (0, 40) := by kernel_rfl
theorem fo43_1 : fieldOT Try.prog 43 1 = some (1, 3) := by kernel_rfl
theorem fo43_2 : fieldOT Try.prog 43 2 = some (2, 33) := by kernel_rfl
theorem fo43_3 : fieldOT Try.prog 43 3 = some (3, 28) := by kernel_rfl
theorem sz44 : szOf Try.prog 44 = some 4 := by kernel_rfl
theorem by44 : byOf Try.prog 44 = some 64 := by kernel_rfl
theorem ag44 : isAggT Try.prog 44 = some true := by kernel_rfl
theorem zc44 : zeroC Try.prog 44 = some [.int .i64 0, .int .i64 0, .nsl, .nsl] := by kernel_rfl
theorem pl44 : placesT Try.prog 44 = some [(0, 1), (1, 1), (2, 1), (3, 1)] := by kernel_rfl
theorem nar44 : arrT Try.prog 44 = none := by kernel_rfl
theorem nel44 : elemT Try.prog 44 = none := by kernel_rfl
theorem fo44_0 : fieldOT Try.prog 44 0 = some (0, 40) := by kernel_rfl
theorem fo44_1 : fieldOT Try.prog 44 1 = some (1, 3) := by kernel_rfl
theorem fo44_2 : fieldOT Try.prog 44 2 = some (2, 33) := by kernel_rfl
theorem fo44_3 : fieldOT Try.prog 44 3 = some (3, 28) := by kernel_rfl
theorem sz45 : szOf Try.prog 45 = some 1 := by kernel_rfl
theorem ag45 : isAggT Try.prog 45 = some false := by kernel_rfl
theorem zc45 : zeroC Try.prog 45 = some [.nfn] := by kernel_rfl
theorem npl45 : placesT Try.prog 45 = none := by kernel_rfl
theorem nar45 : arrT Try.prog 45 = none := by kernel_rfl
theorem nel45 : elemT Try.prog 45 = none := by kernel_rfl
theorem sz46 : szOf Try.prog 46 = some 1 := by kernel_rfl
theorem ag46 : isAggT Try.prog 46 = some false := by kernel_rfl
theorem zc46 : zeroC Try.prog 46 = some [.nfn] := by kernel_rfl
theorem npl46 : placesT Try.prog 46 = none := by kernel_rfl
theorem nar46 : arrT Try.prog 46 = none := by kernel_rfl
theorem nel46 : elemT Try.prog 46 = none := by kernel_rfl
theorem sz47 : szOf Try.prog 47 = some 2 := by kernel_rfl
theorem ag47 : isAggT Try.prog 47 = some true := by kernel_rfl
theorem zc47 : zeroC Try.prog 47 = some [.nsl, .nsl] := by kernel_rfl
theorem pl47 : placesT Try.prog 47 = some [(0, 1), (1, 1)] := by kernel_rfl
theorem nar47 : arrT Try.prog 47 = none := by kernel_rfl
theorem nel47 : elemT Try.prog 47 = none := by kernel_rfl
theorem fo47_0 : fieldOT Try.prog 47 0 = some (0, 33) := by kernel_rfl
theorem fo47_1 : fieldOT Try.prog 47 1 = some (1, 33) := by kernel_rfl
theorem sz48 : szOf Try.prog 48 = some 2 := by kernel_rfl
theorem by48 : byOf Try.prog 48 = some 48 := by kernel_rfl
theorem ag48 : isAggT Try.prog 48 = some true := by kernel_rfl
theorem zc48 : zeroC Try.prog 48 = some [.nsl, .nsl] := by kernel_rfl
theorem pl48 : placesT Try.prog 48 = some [(0, 1), (1, 1)] := by kernel_rfl
theorem nar48 : arrT Try.prog 48 = none := by kernel_rfl
theorem nel48 : elemT Try.prog 48 = none := by kernel_rfl
theorem fo48_0 : fieldOT Try.prog 48 0 = some (0, 33) := by kernel_rfl
theorem fo48_1 : fieldOT Try.prog 48 1 = some (1, 33) := by kernel_rfl
theorem sz49 : szOf Try.prog 49 = some 1 := by kernel_rfl
theorem ag49 : isAggT Try.prog 49 = some false := by kernel_rfl
theorem zc49 : zeroC Try.prog 49 = some [.nfn] := by kernel_rfl
theorem npl49 : placesT Try.prog 49 = none := by kernel_rfl
theorem nar49 : arrT Try.prog 49 = none := by kernel_rfl
theorem nel49 : elemT Try.prog 49 = none := by kernel_rfl
theorem sz50 : szOf Try.prog 50 = some 1 := by kernel_rfl
theorem ag50 : isAggT Try.prog 50 = some false := by kernel_rfl
theorem zc50 : zeroC Try.prog 50 = some [.nsl] := by kernel_rfl
theorem npl50 : placesT Try.prog 50 = none := by kernel_rfl
theorem un50 : Try.prog.underlying 50 = some (.slice 64) := by kernel_rfl
theorem el50 : elemT Try.prog 50 = some 64 := by kernel_rfl
theorem ap50 : appT Try.prog 50 50 = some (3, 72) := by kernel_rfl
theorem nar50 : arrT Try.prog 50 = none := by kernel_rfl
theorem sz52 : szOf Try.prog 52 = some 1 := by kernel_rfl
theorem ag52 : isAggT Try.prog 52 = some false := by kernel_rfl
theorem zc52 : zeroC Try.prog 52 = some [.nfn] := by kernel_rfl
theorem npl52 : placesT Try.prog 52 = none := by kernel_rfl
theorem nar52 : arrT Try.prog 52 = none := by kernel_rfl
theorem nel52 : elemT Try.prog 52 = none := by kernel_rfl
theorem sz53 : szOf Try.prog 53 = some 1 := by kernel_rfl
theorem ag53 : isAggT Try.prog 53 = some false := by kernel_rfl
theorem zc53 : zeroC Try.prog 53 = some [.nsl] := by kernel_rfl
theorem npl53 : placesT Try.prog 53 = none := by kernel_rfl
theorem un53 : Try.prog.underlying 53 = some (.slice 3) := by kernel_rfl
theorem el53 : elemT Try.prog 53 = some 3 := by kernel_rfl
theorem ap53 : appT Try.prog 53 53 = some (1, 8) := by kernel_rfl
theorem nar53 : arrT Try.prog 53 = none := by kernel_rfl
theorem sz55 : szOf Try.prog 55 = some 1 := by kernel_rfl
theorem ag55 : isAggT Try.prog 55 = some false := by kernel_rfl
theorem zc55 : zeroC Try.prog 55 = some [.nfn] := by kernel_rfl
theorem npl55 : placesT Try.prog 55 = none := by kernel_rfl
theorem nar55 : arrT Try.prog 55 = none := by kernel_rfl
theorem nel55 : elemT Try.prog 55 = none := by kernel_rfl
theorem sz56 : szOf Try.prog 56 = some 1 := by kernel_rfl
theorem ag56 : isAggT Try.prog 56 = some false := by kernel_rfl
theorem zc56 : zeroC Try.prog 56 = some [.nfn] := by kernel_rfl
theorem npl56 : placesT Try.prog 56 = none := by kernel_rfl
theorem nar56 : arrT Try.prog 56 = none := by kernel_rfl
theorem nel56 : elemT Try.prog 56 = none := by kernel_rfl
theorem sz57 : szOf Try.prog 57 = some 1 := by kernel_rfl
theorem by57 : byOf Try.prog 57 = some 24 := by kernel_rfl
theorem ag57 : isAggT Try.prog 57 = some false := by kernel_rfl
theorem zc57 : zeroC Try.prog 57 = some [.nsl] := by kernel_rfl
theorem npl57 : placesT Try.prog 57 = none := by kernel_rfl
theorem un57 : Try.prog.underlying 57 = some (.slice 61) := by kernel_rfl
theorem el57 : elemT Try.prog 57 = some 61 := by kernel_rfl
theorem ap57 : appT Try.prog 57 57 = some (1, 8) := by kernel_rfl
theorem nar57 : arrT Try.prog 57 = none := by kernel_rfl
theorem sz58 : szOf Try.prog 58 = some 1 := by kernel_rfl
theorem ag58 : isAggT Try.prog 58 = some false := by kernel_rfl
theorem zc58 : zeroC Try.prog 58 = some [.nsl] := by kernel_rfl
theorem npl58 : placesT Try.prog 58 = none := by kernel_rfl
theorem un58 : Try.prog.underlying 58 = some (.slice 61) := by kernel_rfl
theorem el58 : elemT Try.prog 58 = some 61 := by kernel_rfl
theorem ap58 : appT Try.prog 58 58 = some (1, 8) := by kernel_rfl
theorem nar58 : arrT Try.prog 58 = none := by kernel_rfl
theorem sz60 : szOf Try.prog 60 = some 1 := by kernel_rfl
theorem ag60 : isAggT Try.prog 60 = some false := by kernel_rfl
theorem zc60 : zeroC Try.prog 60 = some [.nfn] := by kernel_rfl
theorem npl60 : placesT Try.prog 60 = none := by kernel_rfl
theorem nar60 : arrT Try.prog 60 = none := by kernel_rfl
theorem nel60 : elemT Try.prog 60 = none := by kernel_rfl
theorem sz61 : szOf Try.prog 61 = some 1 := by kernel_rfl
theorem by61 : byOf Try.prog 61 = some 8 := by kernel_rfl
theorem ag61 : isAggT Try.prog 61 = some false := by kernel_rfl
theorem zc61 : zeroC Try.prog 61 = some [.nptr] := by kernel_rfl
theorem npl61 : placesT Try.prog 61 = none := by kernel_rfl
theorem un61 : Try.prog.underlying 61 = some (.pointer 66) := by kernel_rfl
theorem nar61 : arrT Try.prog 61 = none := by kernel_rfl
theorem nel61 : elemT Try.prog 61 = none := by kernel_rfl
theorem sz62 : szOf Try.prog 62 = some 1 := by kernel_rfl
theorem ag62 : isAggT Try.prog 62 = some false := by kernel_rfl
theorem zc62 : zeroC Try.prog 62 = some [.nsl] := by kernel_rfl
theorem npl62 : placesT Try.prog 62 = none := by kernel_rfl
theorem un62 : Try.prog.underlying 62 = some (.slice 33) := by kernel_rfl
theorem el62 : elemT Try.prog 62 = some 33 := by kernel_rfl
theorem ap62 : appT Try.prog 62 62 = some (1, 24) := by kernel_rfl
theorem nar62 : arrT Try.prog 62 = none := by kernel_rfl
theorem sz63 : szOf Try.prog 63 = some 3 := by kernel_rfl
theorem ag63 : isAggT Try.prog 63 = some true := by kernel_rfl
theorem zc63 : zeroC Try.prog 63 = some [.nsl, .nsl, .nsl] := by kernel_rfl
theorem pl63 : placesT Try.prog 63 = some [(0, 1), (1, 1), (2, 1)] := by kernel_rfl
theorem nar63 : arrT Try.prog 63 = none := by kernel_rfl
theorem nel63 : elemT Try.prog 63 = none := by kernel_rfl
theorem fo63_0 : fieldOT Try.prog 63 0 = some (0, 28) := by kernel_rfl
theorem fo63_1 : fieldOT Try.prog 63 1 = some (1, 62) := by kernel_rfl
theorem fo63_2 : fieldOT Try.prog 63 2 = some (2, 53) := by kernel_rfl
theorem sz64 : szOf Try.prog 64 = some 3 := by kernel_rfl
theorem by64 : byOf Try.prog 64 = some 72 := by kernel_rfl
theorem ag64 : isAggT Try.prog 64 = some true := by kernel_rfl
theorem zc64 : zeroC Try.prog 64 = some [.nsl, .nsl, .nsl] := by kernel_rfl
theorem pl64 : placesT Try.prog 64 = some [(0, 1), (1, 1), (2, 1)] := by kernel_rfl
theorem nar64 : arrT Try.prog 64 = none := by kernel_rfl
theorem nel64 : elemT Try.prog 64 = none := by kernel_rfl
theorem fo64_0 : fieldOT Try.prog 64 0 = some (0, 28) := by kernel_rfl
theorem fo64_1 : fieldOT Try.prog 64 1 = some (1, 62) := by kernel_rfl
theorem fo64_2 : fieldOT Try.prog 64 2 = some (2, 53) := by kernel_rfl
theorem sz65 : szOf Try.prog 65 = some 3 := by kernel_rfl
theorem ag65 : isAggT Try.prog 65 = some true := by kernel_rfl
theorem zc65 : zeroC Try.prog 65 = some [.nsl, .nsl, .nsl] := by kernel_rfl
theorem pl65 : placesT Try.prog 65 = some [(0, 1), (1, 1), (2, 1)] := by kernel_rfl
theorem nar65 : arrT Try.prog 65 = none := by kernel_rfl
theorem nel65 : elemT Try.prog 65 = none := by kernel_rfl
theorem fo65_0 : fieldOT Try.prog 65 0 = some (0, 28) := by kernel_rfl
theorem fo65_1 : fieldOT Try.prog 65 1 = some (1, 57) := by kernel_rfl
theorem fo65_2 : fieldOT Try.prog 65 2 = some (2, 33) := by kernel_rfl
theorem sz66 : szOf Try.prog 66 = some 3 := by kernel_rfl
theorem ag66 : isAggT Try.prog 66 = some true := by kernel_rfl
theorem zc66 : zeroC Try.prog 66 = some [.nsl, .nsl, .nsl] := by kernel_rfl
theorem pl66 : placesT Try.prog 66 = some [(0, 1), (1, 1), (2, 1)] := by kernel_rfl
theorem nar66 : arrT Try.prog 66 = none := by kernel_rfl
theorem nel66 : elemT Try.prog 66 = none := by kernel_rfl
theorem fo66_0 : fieldOT Try.prog 66 0 = some (0, 28) := by kernel_rfl
theorem fo66_1 : fieldOT Try.prog 66 1 = some (1, 57) := by kernel_rfl
theorem fo66_2 : fieldOT Try.prog 66 2 = some (2, 33) := by kernel_rfl
theorem sz67 : szOf Try.prog 67 = some 1 := by kernel_rfl
theorem ag67 : isAggT Try.prog 67 = some false := by kernel_rfl
theorem zc67 : zeroC Try.prog 67 = some [.nfn] := by kernel_rfl
theorem npl67 : placesT Try.prog 67 = none := by kernel_rfl
theorem nar67 : arrT Try.prog 67 = none := by kernel_rfl
theorem nel67 : elemT Try.prog 67 = none := by kernel_rfl
theorem sz68 : szOf Try.prog 68 = some 1 := by kernel_rfl
theorem ag68 : isAggT Try.prog 68 = some false := by kernel_rfl
theorem zc68 : zeroC Try.prog 68 = some [.nfn] := by kernel_rfl
theorem npl68 : placesT Try.prog 68 = none := by kernel_rfl
theorem nar68 : arrT Try.prog 68 = none := by kernel_rfl
theorem nel68 : elemT Try.prog 68 = none := by kernel_rfl
theorem sz69 : szOf Try.prog 69 = some 1 := by kernel_rfl
theorem ag69 : isAggT Try.prog 69 = some false := by kernel_rfl
theorem zc69 : zeroC Try.prog 69 = some [.nfn] := by kernel_rfl
theorem npl69 : placesT Try.prog 69 = none := by kernel_rfl
theorem nar69 : arrT Try.prog 69 = none := by kernel_rfl
theorem nel69 : elemT Try.prog 69 = none := by kernel_rfl
theorem sz70 : szOf Try.prog 70 = some 1 := by kernel_rfl
theorem ag70 : isAggT Try.prog 70 = some false := by kernel_rfl
theorem zc70 : zeroC Try.prog 70 = some [.nfn] := by kernel_rfl
theorem npl70 : placesT Try.prog 70 = none := by kernel_rfl
theorem nar70 : arrT Try.prog 70 = none := by kernel_rfl
theorem nel70 : elemT Try.prog 70 = none := by kernel_rfl
theorem sz71 : szOf Try.prog 71 = some 1 := by kernel_rfl
theorem ag71 : isAggT Try.prog 71 = some false := by kernel_rfl
theorem zc71 : zeroC Try.prog 71 = some [.nptr] := by kernel_rfl
theorem npl71 : placesT Try.prog 71 = none := by kernel_rfl
theorem un71 : Try.prog.underlying 71 = some (.pointer 58) := by kernel_rfl
theorem nar71 : arrT Try.prog 71 = none := by kernel_rfl
theorem nel71 : elemT Try.prog 71 = none := by kernel_rfl
theorem sz72 : szOf Try.prog 72 = some 1 := by kernel_rfl
theorem ag72 : isAggT Try.prog 72 = some false := by kernel_rfl
theorem zc72 : zeroC Try.prog 72 = some [.nfn] := by kernel_rfl
theorem npl72 : placesT Try.prog 72 = none := by kernel_rfl
theorem nar72 : arrT Try.prog 72 = none := by kernel_rfl
theorem nel72 : elemT Try.prog 72 = none := by kernel_rfl
theorem sz73 : szOf Try.prog 73 = some 1 := by kernel_rfl
theorem ag73 : isAggT Try.prog 73 = some false := by kernel_rfl
theorem zc73 : zeroC Try.prog 73 = some [.nfn] := by kernel_rfl
theorem npl73 : placesT Try.prog 73 = none := by kernel_rfl
theorem nar73 : arrT Try.prog 73 = none := by kernel_rfl
theorem nel73 : elemT Try.prog 73 = none := by kernel_rfl
theorem sz74 : szOf Try.prog 74 = some 1 := by kernel_rfl
theorem ag74 : isAggT Try.prog 74 = some false := by kernel_rfl
theorem zc74 : zeroC Try.prog 74 = some [.nfn] := by kernel_rfl
theorem npl74 : placesT Try.prog 74 = none := by kernel_rfl
theorem nar74 : arrT Try.prog 74 = none := by kernel_rfl
theorem nel74 : elemT Try.prog 74 = none := by kernel_rfl
theorem sz75 : szOf Try.prog 75 = some 1 := by kernel_rfl
theorem ag75 : isAggT Try.prog 75 = some false := by kernel_rfl
theorem zc75 : zeroC Try.prog 75 = some [.nfn] := by kernel_rfl
theorem npl75 : placesT Try.prog 75 = none := by kernel_rfl
theorem nar75 : arrT Try.prog 75 = none := by kernel_rfl
theorem nel75 : elemT Try.prog 75 = none := by kernel_rfl
theorem sz77 : szOf Try.prog 77 = some 1 := by kernel_rfl
theorem ag77 : isAggT Try.prog 77 = some false := by kernel_rfl
theorem zc77 : zeroC Try.prog 77 = some [.nfn] := by kernel_rfl
theorem npl77 : placesT Try.prog 77 = none := by kernel_rfl
theorem nar77 : arrT Try.prog 77 = none := by kernel_rfl
theorem nel77 : elemT Try.prog 77 = none := by kernel_rfl
theorem sz78 : szOf Try.prog 78 = some 1 := by kernel_rfl
theorem ag78 : isAggT Try.prog 78 = some false := by kernel_rfl
theorem zc78 : zeroC Try.prog 78 = some [.nfn] := by kernel_rfl
theorem npl78 : placesT Try.prog 78 = none := by kernel_rfl
theorem nar78 : arrT Try.prog 78 = none := by kernel_rfl
theorem nel78 : elemT Try.prog 78 = none := by kernel_rfl
theorem sz79 : szOf Try.prog 79 = some 1 := by kernel_rfl
theorem ag79 : isAggT Try.prog 79 = some false := by kernel_rfl
theorem zc79 : zeroC Try.prog 79 = some [.nfn] := by kernel_rfl
theorem npl79 : placesT Try.prog 79 = none := by kernel_rfl
theorem nar79 : arrT Try.prog 79 = none := by kernel_rfl
theorem nel79 : elemT Try.prog 79 = none := by kernel_rfl
theorem sz80 : szOf Try.prog 80 = some 1 := by kernel_rfl
theorem ag80 : isAggT Try.prog 80 = some false := by kernel_rfl
theorem zc80 : zeroC Try.prog 80 = some [.nfn] := by kernel_rfl
theorem npl80 : placesT Try.prog 80 = none := by kernel_rfl
theorem nar80 : arrT Try.prog 80 = none := by kernel_rfl
theorem nel80 : elemT Try.prog 80 = none := by kernel_rfl
theorem sz81 : szOf Try.prog 81 = some 1 := by kernel_rfl
theorem ag81 : isAggT Try.prog 81 = some false := by kernel_rfl
theorem zc81 : zeroC Try.prog 81 = some [.nfn] := by kernel_rfl
theorem npl81 : placesT Try.prog 81 = none := by kernel_rfl
theorem nar81 : arrT Try.prog 81 = none := by kernel_rfl
theorem nel81 : elemT Try.prog 81 = none := by kernel_rfl
theorem sz83 : szOf Try.prog 83 = some 1 := by kernel_rfl
theorem ag83 : isAggT Try.prog 83 = some false := by kernel_rfl
theorem zc83 : zeroC Try.prog 83 = some [.nfn] := by kernel_rfl
theorem npl83 : placesT Try.prog 83 = none := by kernel_rfl
theorem nar83 : arrT Try.prog 83 = none := by kernel_rfl
theorem nel83 : elemT Try.prog 83 = none := by kernel_rfl
theorem sz84 : szOf Try.prog 84 = some 1 := by kernel_rfl
theorem ag84 : isAggT Try.prog 84 = some false := by kernel_rfl
theorem zc84 : zeroC Try.prog 84 = some [.nfn] := by kernel_rfl
theorem npl84 : placesT Try.prog 84 = none := by kernel_rfl
theorem nar84 : arrT Try.prog 84 = none := by kernel_rfl
theorem nel84 : elemT Try.prog 84 = none := by kernel_rfl
theorem sz85 : szOf Try.prog 85 = some 1 := by kernel_rfl
theorem ag85 : isAggT Try.prog 85 = some false := by kernel_rfl
theorem zc85 : zeroC Try.prog 85 = some [.nfn] := by kernel_rfl
theorem npl85 : placesT Try.prog 85 = none := by kernel_rfl
theorem nar85 : arrT Try.prog 85 = none := by kernel_rfl
theorem nel85 : elemT Try.prog 85 = none := by kernel_rfl
theorem sz86 : szOf Try.prog 86 = some 1 := by kernel_rfl
theorem ag86 : isAggT Try.prog 86 = some false := by kernel_rfl
theorem zc86 : zeroC Try.prog 86 = some [.nfn] := by kernel_rfl
theorem npl86 : placesT Try.prog 86 = none := by kernel_rfl
theorem nar86 : arrT Try.prog 86 = none := by kernel_rfl
theorem nel86 : elemT Try.prog 86 = none := by kernel_rfl
theorem sz87 : szOf Try.prog 87 = some 1 := by kernel_rfl
theorem ag87 : isAggT Try.prog 87 = some false := by kernel_rfl
theorem zc87 : zeroC Try.prog 87 = some [.nfn] := by kernel_rfl
theorem npl87 : placesT Try.prog 87 = none := by kernel_rfl
theorem nar87 : arrT Try.prog 87 = none := by kernel_rfl
theorem nel87 : elemT Try.prog 87 = none := by kernel_rfl
theorem sz88 : szOf Try.prog 88 = some 1 := by kernel_rfl
theorem ag88 : isAggT Try.prog 88 = some false := by kernel_rfl
theorem zc88 : zeroC Try.prog 88 = some [.nfn] := by kernel_rfl
theorem npl88 : placesT Try.prog 88 = none := by kernel_rfl
theorem nar88 : arrT Try.prog 88 = none := by kernel_rfl
theorem nel88 : elemT Try.prog 88 = none := by kernel_rfl
theorem sz89 : szOf Try.prog 89 = some 1 := by kernel_rfl
theorem ag89 : isAggT Try.prog 89 = some false := by kernel_rfl
theorem zc89 : zeroC Try.prog 89 = some [.nfn] := by kernel_rfl
theorem npl89 : placesT Try.prog 89 = none := by kernel_rfl
theorem nar89 : arrT Try.prog 89 = none := by kernel_rfl
theorem nel89 : elemT Try.prog 89 = none := by kernel_rfl
theorem sz90 : szOf Try.prog 90 = some 1 := by kernel_rfl
theorem ag90 : isAggT Try.prog 90 = some false := by kernel_rfl
theorem zc90 : zeroC Try.prog 90 = some [.nfn] := by kernel_rfl
theorem npl90 : placesT Try.prog 90 = none := by kernel_rfl
theorem nar90 : arrT Try.prog 90 = none := by kernel_rfl
theorem nel90 : elemT Try.prog 90 = none := by kernel_rfl
theorem sz91 : szOf Try.prog 91 = some 1 := by kernel_rfl
theorem ag91 : isAggT Try.prog 91 = some false := by kernel_rfl
theorem zc91 : zeroC Try.prog 91 = some [.nfn] := by kernel_rfl
theorem npl91 : placesT Try.prog 91 = none := by kernel_rfl
theorem nar91 : arrT Try.prog 91 = none := by kernel_rfl
theorem nel91 : elemT Try.prog 91 = none := by kernel_rfl
theorem sz92 : szOf Try.prog 92 = some 1 := by kernel_rfl
theorem ag92 : isAggT Try.prog 92 = some false := by kernel_rfl
theorem zc92 : zeroC Try.prog 92 = some [.nsl] := by kernel_rfl
theorem npl92 : placesT Try.prog 92 = none := by kernel_rfl
theorem un92 : Try.prog.underlying 92 = some (.slice 57) := by kernel_rfl
theorem el92 : elemT Try.prog 92 = some 57 := by kernel_rfl
theorem ap92 : appT Try.prog 92 92 = some (1, 24) := by kernel_rfl
theorem nar92 : arrT Try.prog 92 = none := by kernel_rfl
theorem sz93 : szOf Try.prog 93 = some 1 := by kernel_rfl
theorem ag93 : isAggT Try.prog 93 = some false := by kernel_rfl
theorem zc93 : zeroC Try.prog 93 = some [.nfn] := by kernel_rfl
theorem npl93 : placesT Try.prog 93 = none := by kernel_rfl
theorem nar93 : arrT Try.prog 93 = none := by kernel_rfl
theorem nel93 : elemT Try.prog 93 = none := by kernel_rfl
theorem sz94 : szOf Try.prog 94 = some 1 := by kernel_rfl
theorem ag94 : isAggT Try.prog 94 = some false := by kernel_rfl
theorem zc94 : zeroC Try.prog 94 = some [.nfn] := by kernel_rfl
theorem npl94 : placesT Try.prog 94 = none := by kernel_rfl
theorem nar94 : arrT Try.prog 94 = none := by kernel_rfl
theorem nel94 : elemT Try.prog 94 = none := by kernel_rfl
theorem sz95 : szOf Try.prog 95 = some 1 := by kernel_rfl
theorem ag95 : isAggT Try.prog 95 = some false := by kernel_rfl
theorem zc95 : zeroC Try.prog 95 = some [.nfn] := by kernel_rfl
theorem npl95 : placesT Try.prog 95 = none := by kernel_rfl
theorem nar95 : arrT Try.prog 95 = none := by kernel_rfl
theorem nel95 : elemT Try.prog 95 = none := by kernel_rfl
theorem sz96 : szOf Try.prog 96 = some 1 := by kernel_rfl
theorem ag96 : isAggT Try.prog 96 = some false := by kernel_rfl
theorem zc96 : zeroC Try.prog 96 = some [.nfn] := by kernel_rfl
theorem npl96 : placesT Try.prog 96 = none := by kernel_rfl
theorem nar96 : arrT Try.prog 96 = none := by kernel_rfl
theorem nel96 : elemT Try.prog 96 = none := by kernel_rfl
theorem sz97 : szOf Try.prog 97 = some 1 := by kernel_rfl
theorem ag97 : isAggT Try.prog 97 = some false := by kernel_rfl
theorem zc97 : zeroC Try.prog 97 = some [.nsl] := by kernel_rfl
theorem npl97 : placesT Try.prog 97 = none := by kernel_rfl
theorem un97 : Try.prog.underlying 97 = some (.slice 28) := by kernel_rfl
theorem el97 : elemT Try.prog 97 = some 28 := by kernel_rfl
theorem ap97 : appT Try.prog 97 97 = some (1, 24) := by kernel_rfl
theorem nar97 : arrT Try.prog 97 = none := by kernel_rfl
theorem sz98 : szOf Try.prog 98 = some 1 := by kernel_rfl
theorem ag98 : isAggT Try.prog 98 = some false := by kernel_rfl
theorem zc98 : zeroC Try.prog 98 = some [.nfn] := by kernel_rfl
theorem npl98 : placesT Try.prog 98 = none := by kernel_rfl
theorem nar98 : arrT Try.prog 98 = none := by kernel_rfl
theorem nel98 : elemT Try.prog 98 = none := by kernel_rfl
theorem sz99 : szOf Try.prog 99 = some 1 := by kernel_rfl
theorem ag99 : isAggT Try.prog 99 = some false := by kernel_rfl
theorem zc99 : zeroC Try.prog 99 = some [.nfn] := by kernel_rfl
theorem npl99 : placesT Try.prog 99 = none := by kernel_rfl
theorem nar99 : arrT Try.prog 99 = none := by kernel_rfl
theorem nel99 : elemT Try.prog 99 = none := by kernel_rfl
theorem sz100 : szOf Try.prog 100 = some 1 := by kernel_rfl
theorem ag100 : isAggT Try.prog 100 = some false := by kernel_rfl
theorem zc100 : zeroC Try.prog 100 = some [.nfn] := by kernel_rfl
theorem npl100 : placesT Try.prog 100 = none := by kernel_rfl
theorem nar100 : arrT Try.prog 100 = none := by kernel_rfl
theorem nel100 : elemT Try.prog 100 = none := by kernel_rfl
theorem sz101 : szOf Try.prog 101 = some 1 := by kernel_rfl
theorem ag101 : isAggT Try.prog 101 = some false := by kernel_rfl
theorem zc101 : zeroC Try.prog 101 = some [.nfn] := by kernel_rfl
theorem npl101 : placesT Try.prog 101 = none := by kernel_rfl
theorem nar101 : arrT Try.prog 101 = none := by kernel_rfl
theorem nel101 : elemT Try.prog 101 = none := by kernel_rfl
theorem sz102 : szOf Try.prog 102 = some 1 := by kernel_rfl
theorem ag102 : isAggT Try.prog 102 = some false := by kernel_rfl
theorem zc102 : zeroC Try.prog 102 = some [.nfn] := by kernel_rfl
theorem npl102 : placesT Try.prog 102 = none := by kernel_rfl
theorem nar102 : arrT Try.prog 102 = none := by kernel_rfl
theorem nel102 : elemT Try.prog 102 = none := by kernel_rfl
theorem sz103 : szOf Try.prog 103 = some 1 := by kernel_rfl
theorem ag103 : isAggT Try.prog 103 = some false := by kernel_rfl
theorem zc103 : zeroC Try.prog 103 = some [.int .u64 0] := by kernel_rfl
theorem npl103 : placesT Try.prog 103 = none := by kernel_rfl
theorem un103 : Try.prog.underlying 103 = some (.int .u64) := by kernel_rfl
theorem nar103 : arrT Try.prog 103 = none := by kernel_rfl
theorem nel103 : elemT Try.prog 103 = none := by kernel_rfl
theorem sz104 : szOf Try.prog 104 = some 1 := by kernel_rfl
theorem ag104 : isAggT Try.prog 104 = some false := by kernel_rfl
theorem zc104 : zeroC Try.prog 104 = some [.nfn] := by kernel_rfl
theorem npl104 : placesT Try.prog 104 = none := by kernel_rfl
theorem nar104 : arrT Try.prog 104 = none := by kernel_rfl
theorem nel104 : elemT Try.prog 104 = none := by kernel_rfl
theorem sz105 : szOf Try.prog 105 = some 1 := by kernel_rfl
theorem ag105 : isAggT Try.prog 105 = some false := by kernel_rfl
theorem zc105 : zeroC Try.prog 105 = some [.nfn] := by kernel_rfl
theorem npl105 : placesT Try.prog 105 = none := by kernel_rfl
theorem nar105 : arrT Try.prog 105 = none := by kernel_rfl
theorem nel105 : elemT Try.prog 105 = none := by kernel_rfl
theorem sz106 : szOf Try.prog 106 = some 4 := by kernel_rfl
theorem ag106 : isAggT Try.prog 106 = some true := by kernel_rfl
theorem zc106 : zeroC Try.prog 106 = some [.nptr, .nptr, .nptr, .str ⟨#[]⟩] := by kernel_rfl
theorem pl106 : placesT Try.prog 106 = some [(0, 1), (1, 1), (2, 1), (3, 1)] := by kernel_rfl
theorem nar106 : arrT Try.prog 106 = none := by kernel_rfl
theorem nel106 : elemT Try.prog 106 = none := by kernel_rfl
theorem fo106_0 : fieldOT Try.prog 106 0 = some (0, 17) := by kernel_rfl
theorem fo106_1 : fieldOT Try.prog 106 1 = some (1, 17) := by kernel_rfl
theorem fo106_2 : fieldOT Try.prog 106 2 = some (2, 17) := by kernel_rfl
theorem fo106_3 : fieldOT Try.prog 106 3 = some (3, 9) := by kernel_rfl
theorem sz107 : szOf Try.prog 107 = some 4 := by kernel_rfl
theorem ag107 : isAggT Try.prog 107 = some true := by kernel_rfl
theorem zc107 : zeroC Try.prog 107 = some [.nptr, .nptr, .nptr, .str ⟨#[]⟩] := by kernel_rfl
theorem pl107 : placesT Try.prog 107 = some [(0, 1), (1, 1), (2, 1), (3, 1)] := by kernel_rfl
theorem nar107 : arrT Try.prog 107 = none := by kernel_rfl
theorem nel107 : elemT Try.prog 107 = none := by kernel_rfl
theorem fo107_0 : fieldOT Try.prog 107 0 = some (0, 17) := by kernel_rfl
theorem fo107_1 : fieldOT Try.prog 107 1 = some (1, 17) := by kernel_rfl
theorem fo107_2 : fieldOT Try.prog 107 2 = some (2, 17) := by kernel_rfl
theorem fo107_3 : fieldOT Try.prog 107 3 = some (3, 9) := by kernel_rfl
theorem sz108 : szOf Try.prog 108 = some 0 := by kernel_rfl
theorem ag108 : isAggT Try.prog 108 = some true := by kernel_rfl
theorem zc108 : zeroC Try.prog 108 = some [] := by kernel_rfl
theorem npl108 : placesT Try.prog 108 = none := by kernel_rfl
theorem un108 : Try.prog.underlying 108 = some (.array 0 16) := by kernel_rfl
theorem ar108 : arrT Try.prog 108 = some (0, 16) := by kernel_rfl
theorem nel108 : elemT Try.prog 108 = none := by kernel_rfl
theorem sz109 : szOf Try.prog 109 = some 0 := by kernel_rfl
theorem ag109 : isAggT Try.prog 109 = some true := by kernel_rfl
theorem zc109 : zeroC Try.prog 109 = some [] := by kernel_rfl
theorem pl109 : placesT Try.prog 109 = some [(0, 0)] := by kernel_rfl
theorem nar109 : arrT Try.prog 109 = none := by kernel_rfl
theorem nel109 : elemT Try.prog 109 = none := by kernel_rfl
theorem fo109_0 : fieldOT Try.prog 109 0 = some (0, 108) := by kernel_rfl
theorem sz110 : szOf Try.prog 110 = some 0 := by kernel_rfl
theorem ag110 : isAggT Try.prog 110 = some true := by kernel_rfl
theorem zc110 : zeroC Try.prog 110 = some [] := by kernel_rfl
theorem pl110 : placesT Try.prog 110 = some [(0, 0)] := by kernel_rfl
theorem nar110 : arrT Try.prog 110 = none := by kernel_rfl
theorem nel110 : elemT Try.prog 110 = none := by kernel_rfl
theorem fo110_0 : fieldOT Try.prog 110 0 = some (0, 108) := by kernel_rfl
theorem sz111 : szOf Try.prog 111 = some 1 := by kernel_rfl
theorem ag111 : isAggT Try.prog 111 = some false := by kernel_rfl
theorem zc111 : zeroC Try.prog 111 = some [.int .u32 0] := by kernel_rfl
theorem npl111 : placesT Try.prog 111 = none := by kernel_rfl
theorem un111 : Try.prog.underlying 111 = some (.int .u32) := by kernel_rfl
theorem nar111 : arrT Try.prog 111 = none := by kernel_rfl
theorem nel111 : elemT Try.prog 111 = none := by kernel_rfl
theorem sz112 : szOf Try.prog 112 = some 1 := by kernel_rfl
theorem ag112 : isAggT Try.prog 112 = some false := by kernel_rfl
theorem zc112 : zeroC Try.prog 112 = some [.int .u8 0] := by kernel_rfl
theorem npl112 : placesT Try.prog 112 = none := by kernel_rfl
theorem un112 : Try.prog.underlying 112 = some (.int .u8) := by kernel_rfl
theorem nar112 : arrT Try.prog 112 = none := by kernel_rfl
theorem nel112 : elemT Try.prog 112 = none := by kernel_rfl
theorem sz113 : szOf Try.prog 113 = some 1 := by kernel_rfl
theorem ag113 : isAggT Try.prog 113 = some false := by kernel_rfl
theorem zc113 : zeroC Try.prog 113 = some [.int .u8 0] := by kernel_rfl
theorem npl113 : placesT Try.prog 113 = none := by kernel_rfl
theorem un113 : Try.prog.underlying 113 = some (.int .u8) := by kernel_rfl
theorem nar113 : arrT Try.prog 113 = none := by kernel_rfl
theorem nel113 : elemT Try.prog 113 = none := by kernel_rfl
theorem sz114 : szOf Try.prog 114 = some 1 := by kernel_rfl
theorem ag114 : isAggT Try.prog 114 = some false := by kernel_rfl
theorem zc114 : zeroC Try.prog 114 = some [.nfn] := by kernel_rfl
theorem npl114 : placesT Try.prog 114 = none := by kernel_rfl
theorem nar114 : arrT Try.prog 114 = none := by kernel_rfl
theorem nel114 : elemT Try.prog 114 = none := by kernel_rfl
theorem sz115 : szOf Try.prog 115 = some 1 := by kernel_rfl
theorem ag115 : isAggT Try.prog 115 = some false := by kernel_rfl
theorem zc115 : zeroC Try.prog 115 = some [.nptr] := by kernel_rfl
theorem npl115 : placesT Try.prog 115 = none := by kernel_rfl
theorem un115 : Try.prog.underlying 115 = some (.pointer 5) := by kernel_rfl
theorem nar115 : arrT Try.prog 115 = none := by kernel_rfl
theorem nel115 : elemT Try.prog 115 = none := by kernel_rfl
theorem sz116 : szOf Try.prog 116 = some 1 := by kernel_rfl
theorem ag116 : isAggT Try.prog 116 = some false := by kernel_rfl
theorem zc116 : zeroC Try.prog 116 = some [.int .i32 0] := by kernel_rfl
theorem npl116 : placesT Try.prog 116 = none := by kernel_rfl
theorem un116 : Try.prog.underlying 116 = some (.int .i32) := by kernel_rfl
theorem nar116 : arrT Try.prog 116 = none := by kernel_rfl
theorem nel116 : elemT Try.prog 116 = none := by kernel_rfl
theorem sz117 : szOf Try.prog 117 = some 1 := by kernel_rfl
theorem ag117 : isAggT Try.prog 117 = some false := by kernel_rfl
theorem zc117 : zeroC Try.prog 117 = some [.int .i32 0] := by kernel_rfl
theorem npl117 : placesT Try.prog 117 = none := by kernel_rfl
theorem un117 : Try.prog.underlying 117 = some (.int .i32) := by kernel_rfl
theorem nar117 : arrT Try.prog 117 = none := by kernel_rfl
theorem nel117 : elemT Try.prog 117 = none := by kernel_rfl
theorem sz118 : szOf Try.prog 118 = some 11 := by kernel_rfl
theorem ag118 : isAggT Try.prog 118 = some true := by kernel_rfl
theorem zc118 : zeroC Try.prog 118 = some [.int .u64 0, .int .u64 0, .int .u32 0, .int .u8 0, .int .u8 0, .int .u8 0, .int .u8 0, .nfn, .nptr, .int .i32 0, .int .i32 0] := by kernel_rfl
theorem pl118 : placesT Try.prog 118 = some [(0, 1), (1, 1), (2, 1), (3, 1), (4, 1), (5, 1), (6, 1), (7, 1), (8, 1), (9, 1), (10, 1)] := by kernel_rfl
theorem nar118 : arrT Try.prog 118 = none := by kernel_rfl
theorem nel118 : elemT Try.prog 118 = none := by kernel_rfl
theorem fo118_0 : fieldOT Try.prog 118 0 = some (0, 12) := by kernel_rfl
theorem fo118_1 : fieldOT Try.prog 118 1 = some (1, 12) := by kernel_rfl
theorem fo118_2 : fieldOT Try.prog 118 2 = some (2, 111) := by kernel_rfl
theorem fo118_3 : fieldOT Try.prog 118 3 = some (3, 112) := by kernel_rfl
theorem fo118_4 : fieldOT Try.prog 118 4 = some (4, 5) := by kernel_rfl
theorem fo118_5 : fieldOT Try.prog 118 5 = some (5, 5) := by kernel_rfl
theorem fo118_6 : fieldOT Try.prog 118 6 = some (6, 113) := by kernel_rfl
theorem fo118_7 : fieldOT Try.prog 118 7 = some (7, 114) := by kernel_rfl
theorem fo118_8 : fieldOT Try.prog 118 8 = some (8, 115) := by kernel_rfl
theorem fo118_9 : fieldOT Try.prog 118 9 = some (9, 116) := by kernel_rfl
theorem fo118_10 : fieldOT Try.prog 118 10 = some (10, 117) := by kernel_rfl
theorem sz119 : szOf Try.prog 119 = some 11 := by kernel_rfl
theorem ag119 : isAggT Try.prog 119 = some true := by kernel_rfl
theorem zc119 : zeroC Try.prog 119 = some [.int .u64 0, .int .u64 0, .int .u32 0, .int .u8 0, .int .u8 0, .int .u8 0, .int .u8 0, .nfn, .nptr, .int .i32 0, .int .i32 0] := by kernel_rfl
theorem pl119 : placesT Try.prog 119 = some [(0, 1), (1, 1), (2, 1), (3, 1), (4, 1), (5, 1), (6, 1), (7, 1), (8, 1), (9, 1), (10, 1)] := by kernel_rfl
theorem nar119 : arrT Try.prog 119 = none := by kernel_rfl
theorem nel119 : elemT Try.prog 119 = none := by kernel_rfl
theorem fo119_0 : fieldOT Try.prog 119 0 = some (0, 12) := by kernel_rfl
theorem fo119_1 : fieldOT Try.prog 119 1 = some (1, 12) := by kernel_rfl
theorem fo119_2 : fieldOT Try.prog 119 2 = some (2, 111) := by kernel_rfl
theorem fo119_3 : fieldOT Try.prog 119 3 = some (3, 112) := by kernel_rfl
theorem fo119_4 : fieldOT Try.prog 119 4 = some (4, 5) := by kernel_rfl
theorem fo119_5 : fieldOT Try.prog 119 5 = some (5, 5) := by kernel_rfl
theorem fo119_6 : fieldOT Try.prog 119 6 = some (6, 113) := by kernel_rfl
theorem fo119_7 : fieldOT Try.prog 119 7 = some (7, 114) := by kernel_rfl
theorem fo119_8 : fieldOT Try.prog 119 8 = some (8, 115) := by kernel_rfl
theorem fo119_9 : fieldOT Try.prog 119 9 = some (9, 116) := by kernel_rfl
theorem fo119_10 : fieldOT Try.prog 119 10 = some (10, 117) := by kernel_rfl
theorem mixed : Try.prog.follows .mixedOrders = true := by kernel_rfl
attribute [simp] sz1 ag1 zc1 npl1 nar1 nel1 sz2 ag2 zc2 npl2 un2 nar2 nel2 sz3 by3 ag3 zc3 npl3 un3 nar3 nel3 sz4 ag4 zc4 npl4 un4 nar4 nel4 sz5 by5 ag5 zc5 npl5 un5 nar5 nel5 sz6 ag6 zc6 npl6 un6 nar6 nel6 sz7 ag7 zc7 pl7 nar7 nel7 fo7_0 fo7_1 fo7_2 fo7_3 sz8 ag8 zc8 pl8 nar8 nel8 fo8_0 fo8_1 fo8_2 fo8_3 sz9 ag9 zc9 npl9 un9 nar9 nel9 sz10 ag10 zc10 npl10 un10 nar10 nel10 sz11 ag11 zc11 npl11 un11 nar11 nel11 sz12 ag12 zc12 npl12 un12 nar12 nel12 sz13 ag13 zc13 pl13 nar13 nel13 fo13_0 fo13_1 sz14 ag14 zc14 pl14 nar14 nel14 fo14_0 fo14_1 sz15 ag15 zc15 npl15 un15 nar15 nel15 sz16 ag16 zc16 npl16 un16 nar16 nel16 sz17 ag17 zc17 npl17 un17 nar17 nel17 sz18 ag18 zc18 pl18 nar18 nel18 fo18_0 sz19 ag19 zc19 pl19 nar19 nel19 fo19_0 sz20 ag20 zc20 npl20 nar20 nel20 ic20 sz21 ag21 zc21 npl21 un21 nar21 nel21 sz22 ag22 zc22 npl22 un22 el22 ap22 nar22 sz23 ag23 zc23 npl23 un23 el23 ap23 nar23 sz25 ag25 zc25 npl25 nar25 nel25 sz26 ag26 zc26 npl26 nar26 nel26 sz27 ag27 zc27 npl27 nar27 nel27 sz28 by28 ag28 zc28 npl28 un28 el28 ap28 nar28 sz30 ag30 zc30 npl30 nar30 nel30 sz31 ag31 zc31 pl31 nar31 nel31 fs31 eg31 fo31_0 fo31_1 fo31_2 fo31_3 sz32 by32 ag32 zc32 pl32 nar32 nel32 fs32 eg32 fo32_0 fo32_1 fo32_2 fo32_3 sz33 by33 ag33 zc33 npl33 un33 el33 ap33 nar33 sz34 ag34 zc34 npl34 nar34 nel34 sz35 ag35 zc35 pl35 nar35 nel35 fo35_0 fo35_1 fo35_2 fo35_3 fo35_4 sz36 by36 ag36 zc36 pl36 nar36 nel36 fo36_0 fo36_1 fo36_2 fo36_3 fo36_4 sz37 ag37 zc37 npl37 nar37 nel37 sz38 ag38 zc38 npl38 nar38 nel38 sz39 ag39 zc39 npl39 un39 el39 ap39 nar39 sz40 ag40 zc40 npl40 un40 nar40 nel40 sz42 ag42 zc42 npl42 nar42 nel42 sz43 ag43 zc43 pl43 nar43 nel43 fo43_0 fo43_1 fo43_2 fo43_3 sz44 by44 ag44 zc44 pl44 nar44 nel44 fo44_0 fo44_1 fo44_2 fo44_3 sz45 ag45 zc45 npl45 nar45 nel45 sz46 ag46 zc46 npl46 nar46 nel46 sz47 ag47 zc47 pl47 nar47 nel47 fo47_0 fo47_1 sz48 by48 ag48 zc48 pl48 nar48 nel48 fo48_0 fo48_1 sz49 ag49 zc49 npl49 nar49 nel49 sz50 ag50 zc50 npl50 un50 el50 ap50 nar50 sz52 ag52 zc52 npl52 nar52 nel52 sz53 ag53 zc53 npl53 un53 el53 ap53 nar53 sz55 ag55 zc55 npl55 nar55 nel55 sz56 ag56 zc56 npl56 nar56 nel56 sz57 by57 ag57 zc57 npl57 un57 el57 ap57 nar57 sz58 ag58 zc58 npl58 un58 el58 ap58 nar58 sz60 ag60 zc60 npl60 nar60 nel60 sz61 by61 ag61 zc61 npl61 un61 nar61 nel61 sz62 ag62 zc62 npl62 un62 el62 ap62 nar62 sz63 ag63 zc63 pl63 nar63 nel63 fo63_0 fo63_1 fo63_2 sz64 by64 ag64 zc64 pl64 nar64 nel64 fo64_0 fo64_1 fo64_2 sz65 ag65 zc65 pl65 nar65 nel65 fo65_0 fo65_1 fo65_2 sz66 ag66 zc66 pl66 nar66 nel66 fo66_0 fo66_1 fo66_2 sz67 ag67 zc67 npl67 nar67 nel67 sz68 ag68 zc68 npl68 nar68 nel68 sz69 ag69 zc69 npl69 nar69 nel69 sz70 ag70 zc70 npl70 nar70 nel70 sz71 ag71 zc71 npl71 un71 nar71 nel71 sz72 ag72 zc72 npl72 nar72 nel72 sz73 ag73 zc73 npl73 nar73 nel73 sz74 ag74 zc74 npl74 nar74 nel74 sz75 ag75 zc75 npl75 nar75 nel75 sz77 ag77 zc77 npl77 nar77 nel77 sz78 ag78 zc78 npl78 nar78 nel78 sz79 ag79 zc79 npl79 nar79 nel79 sz80 ag80 zc80 npl80 nar80 nel80 sz81 ag81 zc81 npl81 nar81 nel81 sz83 ag83 zc83 npl83 nar83 nel83 sz84 ag84 zc84 npl84 nar84 nel84 sz85 ag85 zc85 npl85 nar85 nel85 sz86 ag86 zc86 npl86 nar86 nel86 sz87 ag87 zc87 npl87 nar87 nel87 sz88 ag88 zc88 npl88 nar88 nel88 sz89 ag89 zc89 npl89 nar89 nel89 sz90 ag90 zc90 npl90 nar90 nel90 sz91 ag91 zc91 npl91 nar91 nel91 sz92 ag92 zc92 npl92 un92 el92 ap92 nar92 sz93 ag93 zc93 npl93 nar93 nel93 sz94 ag94 zc94 npl94 nar94 nel94 sz95 ag95 zc95 npl95 nar95 nel95 sz96 ag96 zc96 npl96 nar96 nel96 sz97 ag97 zc97 npl97 un97 el97 ap97 nar97 sz98 ag98 zc98 npl98 nar98 nel98 sz99 ag99 zc99 npl99 nar99 nel99 sz100 ag100 zc100 npl100 nar100 nel100 sz101 ag101 zc101 npl101 nar101 nel101 sz102 ag102 zc102 npl102 nar102 nel102 sz103 ag103 zc103 npl103 un103 nar103 nel103 sz104 ag104 zc104 npl104 nar104 nel104 sz105 ag105 zc105 npl105 nar105 nel105 sz106 ag106 zc106 pl106 nar106 nel106 fo106_0 fo106_1 fo106_2 fo106_3 sz107 ag107 zc107 pl107 nar107 nel107 fo107_0 fo107_1 fo107_2 fo107_3 sz108 ag108 zc108 npl108 un108 ar108 nel108 sz109 ag109 zc109 pl109 nar109 nel109 fo109_0 sz110 ag110 zc110 pl110 nar110 nel110 fo110_0 sz111 ag111 zc111 npl111 un111 nar111 nel111 sz112 ag112 zc112 npl112 un112 nar112 nel112 sz113 ag113 zc113 npl113 un113 nar113 nel113 sz114 ag114 zc114 npl114 nar114 nel114 sz115 ag115 zc115 npl115 un115 nar115 nel115 sz116 ag116 zc116 npl116 un116 nar116 nel116 sz117 ag117 zc117 npl117 un117 nar117 nel117 sz118 ag118 zc118 pl118 nar118 nel118 fo118_0 fo118_1 fo118_2 fo118_3 fo118_4 fo118_5 fo118_6 fo118_7 fo118_8 fo118_9 fo118_10 sz119 ag119 zc119 pl119 nar119 nel119 fo119_0 fo119_1 fo119_2 fo119_3 fo119_4 fo119_5 fo119_6 fo119_7 fo119_8 fo119_9 fo119_10
@[simp] theorem ei2 {σ : Store} {k : IntKind} {a b : Int} : eqD Try.prog σ 18 2 (.int k a) (.int k b) = some (a == b) := eqD_int18 un2 k a b
@[simp] theorem ei3 {σ : Store} {k : IntKind} {a b : Int} : eqD Try.prog σ 18 3 (.int k a) (.int k b) = some (a == b) := eqD_int18 un3 k a b
@[simp] theorem ei5 {σ : Store} {k : IntKind} {a b : Int} : eqD Try.prog σ 18 5 (.int k a) (.int k b) = some (a == b) := eqD_int18 un5 k a b
@[simp] theorem ei6 {σ : Store} {k : IntKind} {a b : Int} : eqD Try.prog σ 18 6 (.int k a) (.int k b) = some (a == b) := eqD_int18 un6 k a b
@[simp] theorem ei12 {σ : Store} {k : IntKind} {a b : Int} : eqD Try.prog σ 18 12 (.int k a) (.int k b) = some (a == b) := eqD_int18 un12 k a b
@[simp] theorem ia20 {σ : Store} : eqD Try.prog σ 20 20 .nif .nif = some true := eqD_nif ic20
@[simp] theorem ib20 {σ : Store} {u : TypeId} {d : D} : eqD Try.prog σ 20 20 (.ifc u d) .nif = some false := eqD_ifc_nif ic20 u d
@[simp] theorem ig20 {σ : Store} {u : TypeId} {d : D} : eqD Try.prog σ 20 20 .nif (.ifc u d) = some false := eqD_nif_ifc ic20 u d
@[simp] theorem ei21 {σ : Store} {k : IntKind} {a b : Int} : eqD Try.prog σ 18 21 (.int k a) (.int k b) = some (a == b) := eqD_int18 un21 k a b
@[simp] theorem en22 {σ : Store} {f : Bool} {d : D} {cs : List D} {n : Nat} : eqD Try.prog σ 20 22 (.sl f (d :: cs) n) .nsl = some false := eqD_sl_nil un22 f d cs n
@[simp] theorem em22 {σ : Store} : eqD Try.prog σ 20 22 .nsl .nsl = some true := eqD_nil_nil un22
@[simp] theorem en23 {σ : Store} {f : Bool} {d : D} {cs : List D} {n : Nat} : eqD Try.prog σ 20 23 (.sl f (d :: cs) n) .nsl = some false := eqD_sl_nil un23 f d cs n
@[simp] theorem em23 {σ : Store} : eqD Try.prog σ 20 23 .nsl .nsl = some true := eqD_nil_nil un23
@[simp] theorem en28 {σ : Store} {f : Bool} {d : D} {cs : List D} {n : Nat} : eqD Try.prog σ 20 28 (.sl f (d :: cs) n) .nsl = some false := eqD_sl_nil un28 f d cs n
@[simp] theorem em28 {σ : Store} : eqD Try.prog σ 20 28 .nsl .nsl = some true := eqD_nil_nil un28
@[simp] theorem eq31 {σ : Store} {xs ys : List D} : eqD Try.prog σ 20 31 (.agg xs) (.agg ys) = eqG Try.prog σ 18 [(0, 4), (1, 3), (2, 3), (3, 3)] xs ys := eqD_struct20 fs31
@[simp] theorem go31 {c : Bool} {xs ys : List D} : guardOk Try.prog c 31 (.agg xs) (.agg ys) = true := guardOk_agg eg31
@[simp] theorem eq32 {σ : Store} {xs ys : List D} : eqD Try.prog σ 20 32 (.agg xs) (.agg ys) = eqG Try.prog σ 18 [(0, 4), (1, 3), (2, 3), (3, 3)] xs ys := eqD_struct20 fs32
@[simp] theorem go32 {c : Bool} {xs ys : List D} : guardOk Try.prog c 32 (.agg xs) (.agg ys) = true := guardOk_agg eg32
@[simp] theorem en33 {σ : Store} {f : Bool} {d : D} {cs : List D} {n : Nat} : eqD Try.prog σ 20 33 (.sl f (d :: cs) n) .nsl = some false := eqD_sl_nil un33 f d cs n
@[simp] theorem em33 {σ : Store} : eqD Try.prog σ 20 33 .nsl .nsl = some true := eqD_nil_nil un33
@[simp] theorem en39 {σ : Store} {f : Bool} {d : D} {cs : List D} {n : Nat} : eqD Try.prog σ 20 39 (.sl f (d :: cs) n) .nsl = some false := eqD_sl_nil un39 f d cs n
@[simp] theorem em39 {σ : Store} : eqD Try.prog σ 20 39 .nsl .nsl = some true := eqD_nil_nil un39
@[simp] theorem ei40 {σ : Store} {k : IntKind} {a b : Int} : eqD Try.prog σ 18 40 (.int k a) (.int k b) = some (a == b) := eqD_int18 un40 k a b
@[simp] theorem en50 {σ : Store} {f : Bool} {d : D} {cs : List D} {n : Nat} : eqD Try.prog σ 20 50 (.sl f (d :: cs) n) .nsl = some false := eqD_sl_nil un50 f d cs n
@[simp] theorem em50 {σ : Store} : eqD Try.prog σ 20 50 .nsl .nsl = some true := eqD_nil_nil un50
@[simp] theorem en53 {σ : Store} {f : Bool} {d : D} {cs : List D} {n : Nat} : eqD Try.prog σ 20 53 (.sl f (d :: cs) n) .nsl = some false := eqD_sl_nil un53 f d cs n
@[simp] theorem em53 {σ : Store} : eqD Try.prog σ 20 53 .nsl .nsl = some true := eqD_nil_nil un53
@[simp] theorem en57 {σ : Store} {f : Bool} {d : D} {cs : List D} {n : Nat} : eqD Try.prog σ 20 57 (.sl f (d :: cs) n) .nsl = some false := eqD_sl_nil un57 f d cs n
@[simp] theorem em57 {σ : Store} : eqD Try.prog σ 20 57 .nsl .nsl = some true := eqD_nil_nil un57
@[simp] theorem en58 {σ : Store} {f : Bool} {d : D} {cs : List D} {n : Nat} : eqD Try.prog σ 20 58 (.sl f (d :: cs) n) .nsl = some false := eqD_sl_nil un58 f d cs n
@[simp] theorem em58 {σ : Store} : eqD Try.prog σ 20 58 .nsl .nsl = some true := eqD_nil_nil un58
@[simp] theorem en62 {σ : Store} {f : Bool} {d : D} {cs : List D} {n : Nat} : eqD Try.prog σ 20 62 (.sl f (d :: cs) n) .nsl = some false := eqD_sl_nil un62 f d cs n
@[simp] theorem em62 {σ : Store} : eqD Try.prog σ 20 62 .nsl .nsl = some true := eqD_nil_nil un62
@[simp] theorem en92 {σ : Store} {f : Bool} {d : D} {cs : List D} {n : Nat} : eqD Try.prog σ 20 92 (.sl f (d :: cs) n) .nsl = some false := eqD_sl_nil un92 f d cs n
@[simp] theorem em92 {σ : Store} : eqD Try.prog σ 20 92 .nsl .nsl = some true := eqD_nil_nil un92
@[simp] theorem en97 {σ : Store} {f : Bool} {d : D} {cs : List D} {n : Nat} : eqD Try.prog σ 20 97 (.sl f (d :: cs) n) .nsl = some false := eqD_sl_nil un97 f d cs n
@[simp] theorem em97 {σ : Store} : eqD Try.prog σ 20 97 .nsl .nsl = some true := eqD_nil_nil un97
@[simp] theorem ei103 {σ : Store} {k : IntKind} {a b : Int} : eqD Try.prog σ 18 103 (.int k a) (.int k b) = some (a == b) := eqD_int18 un103 k a b
@[simp] theorem ei111 {σ : Store} {k : IntKind} {a b : Int} : eqD Try.prog σ 18 111 (.int k a) (.int k b) = some (a == b) := eqD_int18 un111 k a b
@[simp] theorem ei112 {σ : Store} {k : IntKind} {a b : Int} : eqD Try.prog σ 18 112 (.int k a) (.int k b) = some (a == b) := eqD_int18 un112 k a b
@[simp] theorem ei113 {σ : Store} {k : IntKind} {a b : Int} : eqD Try.prog σ 18 113 (.int k a) (.int k b) = some (a == b) := eqD_int18 un113 k a b
@[simp] theorem ei116 {σ : Store} {k : IntKind} {a b : Int} : eqD Try.prog σ 18 116 (.int k a) (.int k b) = some (a == b) := eqD_int18 un116 k a b
@[simp] theorem ei117 {σ : Store} {k : IntKind} {a b : Int} : eqD Try.prog σ 18 117 (.int k a) (.int k b) = some (a == b) := eqD_int18 un117 k a b
end Go.Proofs.Ytibcjkklgifgmaa
