/- Closed facts on the program's types and functions. Conditions: none. -/
import Derived.Test.YtdlinfekifnmkaaAmClo
import Derived.Test.YtdlinfekifnmkaaProg
import Derived.KernelRfl
namespace Go.Proofs.YtdlinfekifnmkaaAm
open Go.Proofs
theorem sz3 : szOf Try.prog 3 = some 1 := by kernel_rfl
theorem ag3 : isAg Try.prog 3 = some false := by kernel_rfl
theorem zr3 : zeroOf Try.prog 3 = some [(.int .i64 0)] := by kernel_rfl
theorem zv3 : zvOf Try.prog 3 = some (.int .i64 0) := by kernel_rfl
theorem by3 : byOf Try.prog 3 = some 8 := by kernel_rfl
theorem sz4 : szOf Try.prog 4 = some 1 := by kernel_rfl
theorem ag4 : isAg Try.prog 4 = some false := by kernel_rfl
theorem zr4 : zeroOf Try.prog 4 = some [(.bool false)] := by kernel_rfl
theorem zv4 : zvOf Try.prog 4 = some (.bool false) := by kernel_rfl
theorem by4 : byOf Try.prog 4 = some 1 := by kernel_rfl
theorem sz5 : szOf Try.prog 5 = some 1 := by kernel_rfl
theorem ag5 : isAg Try.prog 5 = some false := by kernel_rfl
theorem zr5 : zeroOf Try.prog 5 = some [(.int .u8 0)] := by kernel_rfl
theorem zv5 : zvOf Try.prog 5 = some (.int .u8 0) := by kernel_rfl
theorem by5 : byOf Try.prog 5 = some 1 := by kernel_rfl
theorem sz9 : szOf Try.prog 9 = some 1 := by kernel_rfl
theorem ag9 : isAg Try.prog 9 = some false := by kernel_rfl
theorem zr9 : zeroOf Try.prog 9 = some [(.string ⟨#[]⟩)] := by kernel_rfl
theorem zv9 : zvOf Try.prog 9 = some (.string ⟨#[]⟩) := by kernel_rfl
theorem by9 : byOf Try.prog 9 = some 16 := by kernel_rfl
theorem sz22 : szOf Try.prog 22 = some 1 := by kernel_rfl
theorem ag22 : isAg Try.prog 22 = some false := by kernel_rfl
theorem zr22 : zeroOf Try.prog 22 = some [(.int .u64 0)] := by kernel_rfl
theorem zv22 : zvOf Try.prog 22 = some (.int .u64 0) := by kernel_rfl
theorem by22 : byOf Try.prog 22 = some 8 := by kernel_rfl
theorem sz23 : szOf Try.prog 23 = some 1 := by kernel_rfl
theorem ag23 : isAg Try.prog 23 = some false := by kernel_rfl
theorem zr23 : zeroOf Try.prog 23 = some [.nilFunc] := by kernel_rfl
theorem zv23 : zvOf Try.prog 23 = some .nilFunc := by kernel_rfl
theorem by23 : byOf Try.prog 23 = some 8 := by kernel_rfl
theorem sz25 : szOf Try.prog 25 = some 1 := by kernel_rfl
theorem ag25 : isAg Try.prog 25 = some false := by kernel_rfl
theorem zr25 : zeroOf Try.prog 25 = some [(.slice none 0 0)] := by kernel_rfl
theorem zv25 : zvOf Try.prog 25 = some (.slice none 0 0) := by kernel_rfl
theorem by25 : byOf Try.prog 25 = some 24 := by kernel_rfl
theorem sz29 : szOf Try.prog 29 = some 2 := by kernel_rfl
theorem ag29 : isAg Try.prog 29 = some true := by kernel_rfl
theorem zr29 : zeroOf Try.prog 29 = some [(.int .u64 0), (.int .i64 0)] := by kernel_rfl
theorem by29 : byOf Try.prog 29 = some 16 := by kernel_rfl
theorem fl29_0 : fldOf Try.prog 29 0 = some (0, 1, false) := by kernel_rfl
theorem fl29_1 : fldOf Try.prog 29 1 = some (1, 1, false) := by kernel_rfl
theorem st29 : plOf Try.prog 29 = some [(0, 1), (1, 1)] := by kernel_rfl
theorem sz35 : szOf Try.prog 35 = some 1 := by kernel_rfl
theorem ag35 : isAg Try.prog 35 = some false := by kernel_rfl
theorem zr35 : zeroOf Try.prog 35 = some [(.slice none 0 0)] := by kernel_rfl
theorem zv35 : zvOf Try.prog 35 = some (.slice none 0 0) := by kernel_rfl
theorem by35 : byOf Try.prog 35 = some 24 := by kernel_rfl
theorem sz38 : szOf Try.prog 38 = some 1 := by kernel_rfl
theorem ag38 : isAg Try.prog 38 = some false := by kernel_rfl
theorem zr38 : zeroOf Try.prog 38 = some [(.slice none 0 0)] := by kernel_rfl
theorem zv38 : zvOf Try.prog 38 = some (.slice none 0 0) := by kernel_rfl
theorem by38 : byOf Try.prog 38 = some 24 := by kernel_rfl
theorem sz40 : szOf Try.prog 40 = some 5 := by kernel_rfl
theorem ag40 : isAg Try.prog 40 = some true := by kernel_rfl
theorem zr40 : zeroOf Try.prog 40 = some [(.int .u64 0), (.int .i64 0), (.string ⟨#[]⟩), (.string ⟨#[]⟩), (.string ⟨#[]⟩)] := by kernel_rfl
theorem by40 : byOf Try.prog 40 = some 64 := by kernel_rfl
theorem fl40_0 : fldOf Try.prog 40 0 = some (0, 2, true) := by kernel_rfl
theorem fl40_1 : fldOf Try.prog 40 1 = some (2, 1, false) := by kernel_rfl
theorem fl40_2 : fldOf Try.prog 40 2 = some (3, 1, false) := by kernel_rfl
theorem fl40_3 : fldOf Try.prog 40 3 = some (4, 1, false) := by kernel_rfl
theorem st40 : plOf Try.prog 40 = some [(0, 2), (2, 1), (3, 1), (4, 1)] := by kernel_rfl
theorem sz42 : szOf Try.prog 42 = some 1 := by kernel_rfl
theorem ag42 : isAg Try.prog 42 = some false := by kernel_rfl
theorem zr42 : zeroOf Try.prog 42 = some [(.slice none 0 0)] := by kernel_rfl
theorem zv42 : zvOf Try.prog 42 = some (.slice none 0 0) := by kernel_rfl
theorem by42 : byOf Try.prog 42 = some 24 := by kernel_rfl
theorem sz43 : szOf Try.prog 43 = some 1 := by kernel_rfl
theorem ag43 : isAg Try.prog 43 = some false := by kernel_rfl
theorem zr43 : zeroOf Try.prog 43 = some [(.slice none 0 0)] := by kernel_rfl
theorem zv43 : zvOf Try.prog 43 = some (.slice none 0 0) := by kernel_rfl
theorem by43 : byOf Try.prog 43 = some 24 := by kernel_rfl
theorem sz47 : szOf Try.prog 47 = some 1 := by kernel_rfl
theorem ag47 : isAg Try.prog 47 = some false := by kernel_rfl
theorem zr47 : zeroOf Try.prog 47 = some [(.int .i64 0)] := by kernel_rfl
theorem zv47 : zvOf Try.prog 47 = some (.int .i64 0) := by kernel_rfl
theorem by47 : byOf Try.prog 47 = some 8 := by kernel_rfl
theorem sz54 : szOf Try.prog 54 = some 1 := by kernel_rfl
theorem ag54 : isAg Try.prog 54 = some false := by kernel_rfl
theorem zr54 : zeroOf Try.prog 54 = some [(.slice none 0 0)] := by kernel_rfl
theorem zv54 : zvOf Try.prog 54 = some (.slice none 0 0) := by kernel_rfl
theorem by54 : byOf Try.prog 54 = some 24 := by kernel_rfl
theorem sz55 : szOf Try.prog 55 = some 2 := by kernel_rfl
theorem ag55 : isAg Try.prog 55 = some true := by kernel_rfl
theorem zr55 : zeroOf Try.prog 55 = some [(.string ⟨#[]⟩), (.string ⟨#[]⟩)] := by kernel_rfl
theorem by55 : byOf Try.prog 55 = some 32 := by kernel_rfl
theorem st55 : plOf Try.prog 55 = some [(0, 1), (1, 1)] := by kernel_rfl
theorem sz56 : szOf Try.prog 56 = some 12 := by kernel_rfl
theorem ag56 : isAg Try.prog 56 = some true := by kernel_rfl
theorem zr56 : zeroOf Try.prog 56 = some [(.string ⟨#[]⟩), (.string ⟨#[]⟩), (.string ⟨#[]⟩), (.string ⟨#[]⟩), (.string ⟨#[]⟩), (.string ⟨#[]⟩), (.string ⟨#[]⟩), (.string ⟨#[]⟩), (.string ⟨#[]⟩), (.string ⟨#[]⟩), (.string ⟨#[]⟩), (.string ⟨#[]⟩)] := by kernel_rfl
theorem by56 : byOf Try.prog 56 = some 192 := by kernel_rfl
theorem st56 : plOf Try.prog 56 = some [(0, 2), (2, 2), (4, 2), (6, 2), (8, 2), (10, 2)] := by kernel_rfl
theorem sz57 : szOf Try.prog 57 = some 1 := by kernel_rfl
theorem ag57 : isAg Try.prog 57 = some false := by kernel_rfl
theorem zr57 : zeroOf Try.prog 57 = some [(.slice none 0 0)] := by kernel_rfl
theorem zv57 : zvOf Try.prog 57 = some (.slice none 0 0) := by kernel_rfl
theorem by57 : byOf Try.prog 57 = some 24 := by kernel_rfl
theorem sz61 : szOf Try.prog 61 = some 1 := by kernel_rfl
theorem ag61 : isAg Try.prog 61 = some false := by kernel_rfl
theorem zr61 : zeroOf Try.prog 61 = some [(.slice none 0 0)] := by kernel_rfl
theorem zv61 : zvOf Try.prog 61 = some (.slice none 0 0) := by kernel_rfl
theorem by61 : byOf Try.prog 61 = some 24 := by kernel_rfl
theorem sz63 : szOf Try.prog 63 = some 3 := by kernel_rfl
theorem ag63 : isAg Try.prog 63 = some true := by kernel_rfl
theorem zr63 : zeroOf Try.prog 63 = some [(.int .i64 0), (.bool false), (.slice none 0 0)] := by kernel_rfl
theorem by63 : byOf Try.prog 63 = some 40 := by kernel_rfl
theorem fl63_0 : fldOf Try.prog 63 0 = some (0, 1, false) := by kernel_rfl
theorem fl63_1 : fldOf Try.prog 63 1 = some (1, 1, false) := by kernel_rfl
theorem fl63_2 : fldOf Try.prog 63 2 = some (2, 1, false) := by kernel_rfl
theorem st63 : plOf Try.prog 63 = some [(0, 1), (1, 1), (2, 1)] := by kernel_rfl
theorem sz64 : szOf Try.prog 64 = some 1 := by kernel_rfl
theorem ag64 : isAg Try.prog 64 = some false := by kernel_rfl
theorem zr64 : zeroOf Try.prog 64 = some [(.slice none 0 0)] := by kernel_rfl
theorem zv64 : zvOf Try.prog 64 = some (.slice none 0 0) := by kernel_rfl
theorem by64 : byOf Try.prog 64 = some 24 := by kernel_rfl
theorem sz69 : szOf Try.prog 69 = some 1 := by kernel_rfl
theorem ag69 : isAg Try.prog 69 = some false := by kernel_rfl
theorem zr69 : zeroOf Try.prog 69 = some [(.slice none 0 0)] := by kernel_rfl
theorem zv69 : zvOf Try.prog 69 = some (.slice none 0 0) := by kernel_rfl
theorem by69 : byOf Try.prog 69 = some 24 := by kernel_rfl
theorem sz70 : szOf Try.prog 70 = some 1 := by kernel_rfl
theorem ag70 : isAg Try.prog 70 = some false := by kernel_rfl
theorem zr70 : zeroOf Try.prog 70 = some [(.slice none 0 0)] := by kernel_rfl
theorem zv70 : zvOf Try.prog 70 = some (.slice none 0 0) := by kernel_rfl
theorem by70 : byOf Try.prog 70 = some 24 := by kernel_rfl
theorem sz75 : szOf Try.prog 75 = some 4 := by kernel_rfl
theorem ag75 : isAg Try.prog 75 = some true := by kernel_rfl
theorem zr75 : zeroOf Try.prog 75 = some [(.int .i64 0), (.int .i64 0), (.string ⟨#[]⟩), (.string ⟨#[]⟩)] := by kernel_rfl
theorem by75 : byOf Try.prog 75 = some 48 := by kernel_rfl
theorem fl75_0 : fldOf Try.prog 75 0 = some (0, 1, false) := by kernel_rfl
theorem fl75_1 : fldOf Try.prog 75 1 = some (1, 1, false) := by kernel_rfl
theorem fl75_2 : fldOf Try.prog 75 2 = some (2, 1, false) := by kernel_rfl
theorem fl75_3 : fldOf Try.prog 75 3 = some (3, 1, false) := by kernel_rfl
theorem st75 : plOf Try.prog 75 = some [(0, 1), (1, 1), (2, 1), (3, 1)] := by kernel_rfl
theorem sz83 : szOf Try.prog 83 = some 3 := by kernel_rfl
theorem ag83 : isAg Try.prog 83 = some true := by kernel_rfl
theorem zr83 : zeroOf Try.prog 83 = some [(.int .i64 0), (.int .i64 0), (.int .i64 0)] := by kernel_rfl
theorem by83 : byOf Try.prog 83 = some 24 := by kernel_rfl
theorem st83 : plOf Try.prog 83 = some [(0, 1), (1, 1), (2, 1)] := by kernel_rfl
theorem sz88 : szOf Try.prog 88 = some 1 := by kernel_rfl
theorem ag88 : isAg Try.prog 88 = some false := by kernel_rfl
theorem zr88 : zeroOf Try.prog 88 = some [(.slice none 0 0)] := by kernel_rfl
theorem zv88 : zvOf Try.prog 88 = some (.slice none 0 0) := by kernel_rfl
theorem by88 : byOf Try.prog 88 = some 24 := by kernel_rfl
theorem sz89 : szOf Try.prog 89 = some 1 := by kernel_rfl
theorem ag89 : isAg Try.prog 89 = some false := by kernel_rfl
theorem zr89 : zeroOf Try.prog 89 = some [(.slice none 0 0)] := by kernel_rfl
theorem zv89 : zvOf Try.prog 89 = some (.slice none 0 0) := by kernel_rfl
theorem by89 : byOf Try.prog 89 = some 24 := by kernel_rfl
theorem sz90 : szOf Try.prog 90 = some 1 := by kernel_rfl
theorem ag90 : isAg Try.prog 90 = some false := by kernel_rfl
theorem zr90 : zeroOf Try.prog 90 = some [(.slice none 0 0)] := by kernel_rfl
theorem zv90 : zvOf Try.prog 90 = some (.slice none 0 0) := by kernel_rfl
theorem by90 : byOf Try.prog 90 = some 24 := by kernel_rfl
theorem sz92 : szOf Try.prog 92 = some 1 := by kernel_rfl
theorem ag92 : isAg Try.prog 92 = some false := by kernel_rfl
theorem zr92 : zeroOf Try.prog 92 = some [(.slice none 0 0)] := by kernel_rfl
theorem zv92 : zvOf Try.prog 92 = some (.slice none 0 0) := by kernel_rfl
theorem by92 : byOf Try.prog 92 = some 24 := by kernel_rfl
theorem sz97 : szOf Try.prog 97 = some 1 := by kernel_rfl
theorem ag97 : isAg Try.prog 97 = some false := by kernel_rfl
theorem zr97 : zeroOf Try.prog 97 = some [(.slice none 0 0)] := by kernel_rfl
theorem zv97 : zvOf Try.prog 97 = some (.slice none 0 0) := by kernel_rfl
theorem by97 : byOf Try.prog 97 = some 24 := by kernel_rfl
theorem sz103 : szOf Try.prog 103 = some 7 := by kernel_rfl
theorem ag103 : isAg Try.prog 103 = some true := by kernel_rfl
theorem zr103 : zeroOf Try.prog 103 = some [(.bool false), (.int .i64 0), (.int .i64 0), (.int .i64 0), (.bool false), (.int .i64 0), (.int .i64 0)] := by kernel_rfl
theorem by103 : byOf Try.prog 103 = some 56 := by kernel_rfl
theorem fl103_0 : fldOf Try.prog 103 0 = some (0, 1, false) := by kernel_rfl
theorem fl103_1 : fldOf Try.prog 103 1 = some (1, 1, false) := by kernel_rfl
theorem fl103_2 : fldOf Try.prog 103 2 = some (2, 1, false) := by kernel_rfl
theorem fl103_3 : fldOf Try.prog 103 3 = some (3, 1, false) := by kernel_rfl
theorem fl103_4 : fldOf Try.prog 103 4 = some (4, 1, false) := by kernel_rfl
theorem fl103_5 : fldOf Try.prog 103 5 = some (5, 1, false) := by kernel_rfl
theorem fl103_6 : fldOf Try.prog 103 6 = some (6, 1, false) := by kernel_rfl
theorem st103 : plOf Try.prog 103 = some [(0, 1), (1, 1), (2, 1), (3, 1), (4, 1), (5, 1), (6, 1)] := by kernel_rfl
theorem sz108 : szOf Try.prog 108 = some 5 := by kernel_rfl
theorem ag108 : isAg Try.prog 108 = some true := by kernel_rfl
theorem zr108 : zeroOf Try.prog 108 = some [(.int .i64 0), (.int .i64 0), (.int .i64 0), (.int .i64 0), (.bool false)] := by kernel_rfl
theorem by108 : byOf Try.prog 108 = some 40 := by kernel_rfl
theorem fl108_0 : fldOf Try.prog 108 0 = some (0, 1, false) := by kernel_rfl
theorem fl108_1 : fldOf Try.prog 108 1 = some (1, 1, false) := by kernel_rfl
theorem fl108_2 : fldOf Try.prog 108 2 = some (2, 1, false) := by kernel_rfl
theorem fl108_3 : fldOf Try.prog 108 3 = some (3, 1, false) := by kernel_rfl
theorem fl108_4 : fldOf Try.prog 108 4 = some (4, 1, false) := by kernel_rfl
theorem st108 : plOf Try.prog 108 = some [(0, 1), (1, 1), (2, 1), (3, 1), (4, 1)] := by kernel_rfl
theorem sz112 : szOf Try.prog 112 = some 1 := by kernel_rfl
theorem ag112 : isAg Try.prog 112 = some false := by kernel_rfl
theorem zr112 : zeroOf Try.prog 112 = some [(.slice none 0 0)] := by kernel_rfl
theorem zv112 : zvOf Try.prog 112 = some (.slice none 0 0) := by kernel_rfl
theorem by112 : byOf Try.prog 112 = some 24 := by kernel_rfl
theorem sz113 : szOf Try.prog 113 = some 2 := by kernel_rfl
theorem ag113 : isAg Try.prog 113 = some true := by kernel_rfl
theorem zr113 : zeroOf Try.prog 113 = some [(.int .i64 0), (.int .i64 0)] := by kernel_rfl
theorem by113 : byOf Try.prog 113 = some 16 := by kernel_rfl
theorem st113 : plOf Try.prog 113 = some [(0, 1), (1, 1)] := by kernel_rfl
theorem sz115 : szOf Try.prog 115 = some 4 := by kernel_rfl
theorem ag115 : isAg Try.prog 115 = some true := by kernel_rfl
theorem zr115 : zeroOf Try.prog 115 = some [(.string ⟨#[]⟩), (.string ⟨#[]⟩), (.int .i64 0), (.slice none 0 0)] := by kernel_rfl
theorem by115 : byOf Try.prog 115 = some 64 := by kernel_rfl
theorem fl115_0 : fldOf Try.prog 115 0 = some (0, 1, false) := by kernel_rfl
theorem fl115_1 : fldOf Try.prog 115 1 = some (1, 1, false) := by kernel_rfl
theorem fl115_2 : fldOf Try.prog 115 2 = some (2, 1, false) := by kernel_rfl
theorem fl115_3 : fldOf Try.prog 115 3 = some (3, 1, false) := by kernel_rfl
theorem st115 : plOf Try.prog 115 = some [(0, 1), (1, 1), (2, 1), (3, 1)] := by kernel_rfl
theorem sz117 : szOf Try.prog 117 = some 1 := by kernel_rfl
theorem ag117 : isAg Try.prog 117 = some false := by kernel_rfl
theorem zr117 : zeroOf Try.prog 117 = some [(.slice none 0 0)] := by kernel_rfl
theorem zv117 : zvOf Try.prog 117 = some (.slice none 0 0) := by kernel_rfl
theorem by117 : byOf Try.prog 117 = some 24 := by kernel_rfl
theorem sz120 : szOf Try.prog 120 = some 1 := by kernel_rfl
theorem ag120 : isAg Try.prog 120 = some false := by kernel_rfl
theorem zr120 : zeroOf Try.prog 120 = some [(.slice none 0 0)] := by kernel_rfl
theorem zv120 : zvOf Try.prog 120 = some (.slice none 0 0) := by kernel_rfl
theorem by120 : byOf Try.prog 120 = some 24 := by kernel_rfl
theorem sz130 : szOf Try.prog 130 = some 24 := by kernel_rfl
theorem ag130 : isAg Try.prog 130 = some true := by kernel_rfl
theorem zr130 : zeroOf Try.prog 130 = some [(.int .i64 0), (.int .i64 0), (.int .i64 0), (.int .i64 0), (.int .i64 0), (.int .i64 0), (.int .i64 0), (.int .i64 0), (.int .i64 0), (.int .i64 0), (.int .i64 0), (.int .i64 0), (.int .i64 0), (.int .i64 0), (.int .i64 0), (.int .i64 0), (.int .i64 0), (.int .i64 0), (.int .i64 0), (.int .i64 0), (.int .i64 0), (.int .i64 0), (.int .i64 0), (.int .i64 0)] := by kernel_rfl
theorem by130 : byOf Try.prog 130 = some 192 := by kernel_rfl
theorem st130 : plOf Try.prog 130 = some [(0, 3), (3, 3), (6, 3), (9, 3), (12, 3), (15, 3), (18, 3), (21, 3)] := by kernel_rfl
theorem sz136 : szOf Try.prog 136 = some 7 := by kernel_rfl
theorem ag136 : isAg Try.prog 136 = some true := by kernel_rfl
theorem zr136 : zeroOf Try.prog 136 = some [(.int .i64 0), (.int .i64 0), (.slice none 0 0), (.int .i64 0), (.int .i64 0), (.int .i64 0), (.int .i64 0)] := by kernel_rfl
theorem by136 : byOf Try.prog 136 = some 72 := by kernel_rfl
theorem fl136_0 : fldOf Try.prog 136 0 = some (0, 1, false) := by kernel_rfl
theorem fl136_1 : fldOf Try.prog 136 1 = some (1, 1, false) := by kernel_rfl
theorem fl136_2 : fldOf Try.prog 136 2 = some (2, 1, false) := by kernel_rfl
theorem fl136_3 : fldOf Try.prog 136 3 = some (3, 1, false) := by kernel_rfl
theorem fl136_4 : fldOf Try.prog 136 4 = some (4, 1, false) := by kernel_rfl
theorem fl136_5 : fldOf Try.prog 136 5 = some (5, 1, false) := by kernel_rfl
theorem fl136_6 : fldOf Try.prog 136 6 = some (6, 1, false) := by kernel_rfl
theorem st136 : plOf Try.prog 136 = some [(0, 1), (1, 1), (2, 1), (3, 1), (4, 1), (5, 1), (6, 1)] := by kernel_rfl
theorem sz142 : szOf Try.prog 142 = some 1 := by kernel_rfl
theorem ag142 : isAg Try.prog 142 = some false := by kernel_rfl
theorem zr142 : zeroOf Try.prog 142 = some [(.slice none 0 0)] := by kernel_rfl
theorem zv142 : zvOf Try.prog 142 = some (.slice none 0 0) := by kernel_rfl
theorem by142 : byOf Try.prog 142 = some 24 := by kernel_rfl
theorem sz145 : szOf Try.prog 145 = some 3 := by kernel_rfl
theorem ag145 : isAg Try.prog 145 = some true := by kernel_rfl
theorem zr145 : zeroOf Try.prog 145 = some [(.string ⟨#[]⟩), (.string ⟨#[]⟩), (.string ⟨#[]⟩)] := by kernel_rfl
theorem by145 : byOf Try.prog 145 = some 48 := by kernel_rfl
theorem st145 : plOf Try.prog 145 = some [(0, 1), (1, 1), (2, 1)] := by kernel_rfl
theorem sz146 : szOf Try.prog 146 = some 1 := by kernel_rfl
theorem ag146 : isAg Try.prog 146 = some false := by kernel_rfl
theorem zr146 : zeroOf Try.prog 146 = some [(.slice none 0 0)] := by kernel_rfl
theorem zv146 : zvOf Try.prog 146 = some (.slice none 0 0) := by kernel_rfl
theorem by146 : byOf Try.prog 146 = some 24 := by kernel_rfl
theorem sz151 : szOf Try.prog 151 = some 6 := by kernel_rfl
theorem ag151 : isAg Try.prog 151 = some true := by kernel_rfl
theorem zr151 : zeroOf Try.prog 151 = some [(.string ⟨#[]⟩), (.string ⟨#[]⟩), (.string ⟨#[]⟩), (.string ⟨#[]⟩), (.string ⟨#[]⟩), (.string ⟨#[]⟩)] := by kernel_rfl
theorem by151 : byOf Try.prog 151 = some 96 := by kernel_rfl
theorem st151 : plOf Try.prog 151 = some [(0, 1), (1, 1), (2, 1), (3, 1), (4, 1), (5, 1)] := by kernel_rfl
theorem sz152 : szOf Try.prog 152 = some 36 := by kernel_rfl
theorem ag152 : isAg Try.prog 152 = some true := by kernel_rfl
theorem zr152 : zeroOf Try.prog 152 = some [(.string ⟨#[]⟩), (.string ⟨#[]⟩), (.string ⟨#[]⟩), (.string ⟨#[]⟩), (.string ⟨#[]⟩), (.string ⟨#[]⟩), (.string ⟨#[]⟩), (.string ⟨#[]⟩), (.string ⟨#[]⟩), (.string ⟨#[]⟩), (.string ⟨#[]⟩), (.string ⟨#[]⟩), (.string ⟨#[]⟩), (.string ⟨#[]⟩), (.string ⟨#[]⟩), (.string ⟨#[]⟩), (.string ⟨#[]⟩), (.string ⟨#[]⟩), (.string ⟨#[]⟩), (.string ⟨#[]⟩), (.string ⟨#[]⟩), (.string ⟨#[]⟩), (.string ⟨#[]⟩), (.string ⟨#[]⟩), (.string ⟨#[]⟩), (.string ⟨#[]⟩), (.string ⟨#[]⟩), (.string ⟨#[]⟩), (.string ⟨#[]⟩), (.string ⟨#[]⟩), (.string ⟨#[]⟩), (.string ⟨#[]⟩), (.string ⟨#[]⟩), (.string ⟨#[]⟩), (.string ⟨#[]⟩), (.string ⟨#[]⟩)] := by kernel_rfl
theorem by152 : byOf Try.prog 152 = some 576 := by kernel_rfl
theorem st152 : plOf Try.prog 152 = some [(0, 6), (6, 6), (12, 6), (18, 6), (24, 6), (30, 6)] := by kernel_rfl
theorem sz155 : szOf Try.prog 155 = some 4 := by kernel_rfl
theorem ag155 : isAg Try.prog 155 = some true := by kernel_rfl
theorem zr155 : zeroOf Try.prog 155 = some [(.int .i64 0), (.int .i64 0), (.int .i64 0), (.int .i64 0)] := by kernel_rfl
theorem by155 : byOf Try.prog 155 = some 32 := by kernel_rfl
theorem st155 : plOf Try.prog 155 = some [(0, 1), (1, 1), (2, 1), (3, 1)] := by kernel_rfl
theorem sz157 : szOf Try.prog 157 = some 6 := by kernel_rfl
theorem ag157 : isAg Try.prog 157 = some true := by kernel_rfl
theorem zr157 : zeroOf Try.prog 157 = some [(.bool false), (.bool false), (.bool false), (.bool false), (.bool false), (.bool false)] := by kernel_rfl
theorem by157 : byOf Try.prog 157 = some 6 := by kernel_rfl
theorem st157 : plOf Try.prog 157 = some [(0, 1), (1, 1), (2, 1), (3, 1), (4, 1), (5, 1)] := by kernel_rfl
theorem sz158 : szOf Try.prog 158 = some 36 := by kernel_rfl
theorem ag158 : isAg Try.prog 158 = some true := by kernel_rfl
theorem zr158 : zeroOf Try.prog 158 = some [(.bool false), (.bool false), (.bool false), (.bool false), (.bool false), (.bool false), (.bool false), (.bool false), (.bool false), (.bool false), (.bool false), (.bool false), (.bool false), (.bool false), (.bool false), (.bool false), (.bool false), (.bool false), (.bool false), (.bool false), (.bool false), (.bool false), (.bool false), (.bool false), (.bool false), (.bool false), (.bool false), (.bool false), (.bool false), (.bool false), (.bool false), (.bool false), (.bool false), (.bool false), (.bool false), (.bool false)] := by kernel_rfl
theorem by158 : byOf Try.prog 158 = some 36 := by kernel_rfl
theorem st158 : plOf Try.prog 158 = some [(0, 6), (6, 6), (12, 6), (18, 6), (24, 6), (30, 6)] := by kernel_rfl
theorem sz163 : szOf Try.prog 163 = some 1 := by kernel_rfl
theorem ag163 : isAg Try.prog 163 = some false := by kernel_rfl
theorem zr163 : zeroOf Try.prog 163 = some [(.map none)] := by kernel_rfl
theorem zv163 : zvOf Try.prog 163 = some (.map none) := by kernel_rfl
theorem by163 : byOf Try.prog 163 = some 8 := by kernel_rfl
theorem sz165 : szOf Try.prog 165 = some 1 := by kernel_rfl
theorem ag165 : isAg Try.prog 165 = some false := by kernel_rfl
theorem zr165 : zeroOf Try.prog 165 = some [.nilFunc] := by kernel_rfl
theorem zv165 : zvOf Try.prog 165 = some .nilFunc := by kernel_rfl
theorem by165 : byOf Try.prog 165 = some 8 := by kernel_rfl
theorem sz172 : szOf Try.prog 172 = some 1 := by kernel_rfl
theorem ag172 : isAg Try.prog 172 = some false := by kernel_rfl
theorem zr172 : zeroOf Try.prog 172 = some [.nilFunc] := by kernel_rfl
theorem zv172 : zvOf Try.prog 172 = some .nilFunc := by kernel_rfl
theorem by172 : byOf Try.prog 172 = some 8 := by kernel_rfl
theorem sz174 : szOf Try.prog 174 = some 1 := by kernel_rfl
theorem ag174 : isAg Try.prog 174 = some false := by kernel_rfl
theorem zr174 : zeroOf Try.prog 174 = some [(.map none)] := by kernel_rfl
theorem zv174 : zvOf Try.prog 174 = some (.map none) := by kernel_rfl
theorem by174 : byOf Try.prog 174 = some 8 := by kernel_rfl
theorem sz175 : szOf Try.prog 175 = some 1 := by kernel_rfl
theorem ag175 : isAg Try.prog 175 = some false := by kernel_rfl
theorem zr175 : zeroOf Try.prog 175 = some [(.map none)] := by kernel_rfl
theorem zv175 : zvOf Try.prog 175 = some (.map none) := by kernel_rfl
theorem by175 : byOf Try.prog 175 = some 8 := by kernel_rfl
theorem sz176 : szOf Try.prog 176 = some 8 := by kernel_rfl
theorem ag176 : isAg Try.prog 176 = some true := by kernel_rfl
theorem zr176 : zeroOf Try.prog 176 = some [(.int .i64 0), (.int .i64 0), (.int .i64 0), (.int .i64 0), (.int .i64 0), (.int .i64 0), (.int .i64 0), (.int .i64 0)] := by kernel_rfl
theorem by176 : byOf Try.prog 176 = some 64 := by kernel_rfl
theorem st176 : plOf Try.prog 176 = some [(0, 1), (1, 1), (2, 1), (3, 1), (4, 1), (5, 1), (6, 1), (7, 1)] := by kernel_rfl
theorem sz177 : szOf Try.prog 177 = some 1 := by kernel_rfl
theorem ag177 : isAg Try.prog 177 = some false := by kernel_rfl
theorem zr177 : zeroOf Try.prog 177 = some [.nilFunc] := by kernel_rfl
theorem zv177 : zvOf Try.prog 177 = some .nilFunc := by kernel_rfl
theorem by177 : byOf Try.prog 177 = some 8 := by kernel_rfl
theorem sz183 : szOf Try.prog 183 = some 1 := by kernel_rfl
theorem ag183 : isAg Try.prog 183 = some false := by kernel_rfl
theorem zr183 : zeroOf Try.prog 183 = some [(.map none)] := by kernel_rfl
theorem zv183 : zvOf Try.prog 183 = some (.map none) := by kernel_rfl
theorem by183 : byOf Try.prog 183 = some 8 := by kernel_rfl
theorem sz186 : szOf Try.prog 186 = some 1 := by kernel_rfl
theorem ag186 : isAg Try.prog 186 = some false := by kernel_rfl
theorem zr186 : zeroOf Try.prog 186 = some [(.map none)] := by kernel_rfl
theorem zv186 : zvOf Try.prog 186 = some (.map none) := by kernel_rfl
theorem by186 : byOf Try.prog 186 = some 8 := by kernel_rfl
theorem sz190 : szOf Try.prog 190 = some 1 := by kernel_rfl
theorem ag190 : isAg Try.prog 190 = some false := by kernel_rfl
theorem zr190 : zeroOf Try.prog 190 = some [.nilFunc] := by kernel_rfl
theorem zv190 : zvOf Try.prog 190 = some .nilFunc := by kernel_rfl
theorem by190 : byOf Try.prog 190 = some 8 := by kernel_rfl
theorem sz199 : szOf Try.prog 199 = some 1 := by kernel_rfl
theorem ag199 : isAg Try.prog 199 = some false := by kernel_rfl
theorem zr199 : zeroOf Try.prog 199 = some [(.pointer none)] := by kernel_rfl
theorem zv199 : zvOf Try.prog 199 = some (.pointer none) := by kernel_rfl
theorem by199 : byOf Try.prog 199 = some 8 := by kernel_rfl
theorem sz201 : szOf Try.prog 201 = some 1 := by kernel_rfl
theorem ag201 : isAg Try.prog 201 = some true := by kernel_rfl
theorem zr201 : zeroOf Try.prog 201 = some [(.pointer none)] := by kernel_rfl
theorem by201 : byOf Try.prog 201 = some 8 := by kernel_rfl
theorem fl201_0 : fldOf Try.prog 201 0 = some (0, 1, false) := by kernel_rfl
theorem st201 : plOf Try.prog 201 = some [(0, 1)] := by kernel_rfl
theorem sz203 : szOf Try.prog 203 = some 8 := by kernel_rfl
theorem ag203 : isAg Try.prog 203 = some true := by kernel_rfl
theorem zr203 : zeroOf Try.prog 203 = some [(.int .i64 0), (.int .i64 0), (.int .i64 0), (.int .i64 0), (.int .i64 0), (.int .i64 0), (.int .i64 0), (.int .i64 0)] := by kernel_rfl
theorem by203 : byOf Try.prog 203 = some 64 := by kernel_rfl
theorem st203 : plOf Try.prog 203 = some [(0, 2), (2, 2), (4, 2), (6, 2)] := by kernel_rfl
theorem sz204 : szOf Try.prog 204 = some 20 := by kernel_rfl
theorem ag204 : isAg Try.prog 204 = some true := by kernel_rfl
theorem zr204 : zeroOf Try.prog 204 = some [(.int .i64 0), (.int .i64 0), (.int .i64 0), (.int .i64 0), (.bool false), (.int .i64 0), (.int .i64 0), (.int .i64 0), (.int .i64 0), (.bool false), (.int .i64 0), (.int .i64 0), (.int .i64 0), (.int .i64 0), (.bool false), (.int .i64 0), (.int .i64 0), (.int .i64 0), (.int .i64 0), (.bool false)] := by kernel_rfl
theorem by204 : byOf Try.prog 204 = some 160 := by kernel_rfl
theorem st204 : plOf Try.prog 204 = some [(0, 5), (5, 5), (10, 5), (15, 5)] := by kernel_rfl
theorem gd29 : Try.prog.eqGuardType Try.prog.depth 29 = false := by kernel_rfl
theorem eq29 {d : Nat} {x0 y0 : Int} {x1 y1 : Int} (w : World) : (Op.equalIn (d + 2) 29 (.agg [.int .u64 x0, .int .i64 x1].toArray) (.agg [.int .u64 y0, .int .i64 y1].toArray)).run Try.prog w = .ok (x0 == y0 && (x1 == y1)) w := by
  refine eqA_of Try.underlying29 (by kernel_rfl) ?_
  refine eqf_cons (by rfl) (part_scalar ag22 rfl w) (part_scalar ag22 rfl w) (run_equalIn_int w (d + 0) 22 _ _ _ _ Try.underlying22) ?_
  exact eqf_last (by rfl) (part_scalar ag3 rfl w) (part_scalar ag3 rfl w) (run_equalIn_int w (d + 0) 3 _ _ _ _ Try.underlying3)
theorem gd40 : Try.prog.eqGuardType Try.prog.depth 40 = false := by kernel_rfl
theorem eq40 {d : Nat} {x0 y0 : Int} {x1 y1 : Int} {x2 y2 : ByteArray} {x3 y3 : ByteArray} {x4 y4 : ByteArray} (w : World) : (Op.equalIn (d + 3) 40 (.agg [.int .u64 x0, .int .i64 x1, .string x2, .string x3, .string x4].toArray) (.agg [.int .u64 y0, .int .i64 y1, .string y2, .string y3, .string y4].toArray)).run Try.prog w = .ok ((x0 == y0 && (x1 == y1)) && (x2.toList == y2.toList && (x3.toList == y3.toList && (x4.toList == y4.toList)))) w := by
  refine eqA_of Try.underlying40 (by kernel_rfl) ?_
  refine eqf_cons (by rfl) (part_agg ag29 sz29 (vs := [.int .u64 x0, .int .i64 x1].toArray) rfl w) (part_agg ag29 sz29 (vs := [.int .u64 y0, .int .i64 y1].toArray) rfl w) (eq29 (d := d + 0) w) ?_
  refine eqf_cons (by rfl) (part_scalar ag9 rfl w) (part_scalar ag9 rfl w) (run_equalIn_string w (d + 1) 9 _ _ Try.underlying9) ?_
  refine eqf_cons (by rfl) (part_scalar ag9 rfl w) (part_scalar ag9 rfl w) (run_equalIn_string w (d + 1) 9 _ _ Try.underlying9) ?_
  exact eqf_last (by rfl) (part_scalar ag9 rfl w) (part_scalar ag9 rfl w) (run_equalIn_string w (d + 1) 9 _ _ Try.underlying9)
theorem gd75 : Try.prog.eqGuardType Try.prog.depth 75 = false := by kernel_rfl
theorem eq75 {d : Nat} {x0 y0 : Int} {x1 y1 : Int} {x2 y2 : ByteArray} {x3 y3 : ByteArray} (w : World) : (Op.equalIn (d + 2) 75 (.agg [.int .i64 x0, .int .i64 x1, .string x2, .string x3].toArray) (.agg [.int .i64 y0, .int .i64 y1, .string y2, .string y3].toArray)).run Try.prog w = .ok (x0 == y0 && (x1 == y1 && (x2.toList == y2.toList && (x3.toList == y3.toList)))) w := by
  refine eqA_of Try.underlying75 (by kernel_rfl) ?_
  refine eqf_cons (by rfl) (part_scalar ag3 rfl w) (part_scalar ag3 rfl w) (run_equalIn_int w (d + 0) 3 _ _ _ _ Try.underlying3) ?_
  refine eqf_cons (by rfl) (part_scalar ag3 rfl w) (part_scalar ag3 rfl w) (run_equalIn_int w (d + 0) 3 _ _ _ _ Try.underlying3) ?_
  refine eqf_cons (by rfl) (part_scalar ag9 rfl w) (part_scalar ag9 rfl w) (run_equalIn_string w (d + 0) 9 _ _ Try.underlying9) ?_
  exact eqf_last (by rfl) (part_scalar ag9 rfl w) (part_scalar ag9 rfl w) (run_equalIn_string w (d + 0) 9 _ _ Try.underlying9)
theorem gd103 : Try.prog.eqGuardType Try.prog.depth 103 = false := by kernel_rfl
theorem eq103 {d : Nat} {x0 y0 : Bool} {x1 y1 : Int} {x2 y2 : Int} {x3 y3 : Int} {x4 y4 : Bool} {x5 y5 : Int} {x6 y6 : Int} (w : World) : (Op.equalIn (d + 2) 103 (.agg [.bool x0, .int .i64 x1, .int .i64 x2, .int .i64 x3, .bool x4, .int .i64 x5, .int .i64 x6].toArray) (.agg [.bool y0, .int .i64 y1, .int .i64 y2, .int .i64 y3, .bool y4, .int .i64 y5, .int .i64 y6].toArray)).run Try.prog w = .ok (x0 == y0 && (x1 == y1 && (x2 == y2 && (x3 == y3 && (x4 == y4 && (x5 == y5 && (x6 == y6))))))) w := by
  refine eqA_of Try.underlying103 (by kernel_rfl) ?_
  refine eqf_cons (by rfl) (part_scalar ag4 rfl w) (part_scalar ag4 rfl w) (run_equalIn_bool' w (d + 0) 4 _ _ Try.underlying4) ?_
  refine eqf_cons (by rfl) (part_scalar ag3 rfl w) (part_scalar ag3 rfl w) (run_equalIn_int w (d + 0) 3 _ _ _ _ Try.underlying3) ?_
  refine eqf_cons (by rfl) (part_scalar ag3 rfl w) (part_scalar ag3 rfl w) (run_equalIn_int w (d + 0) 3 _ _ _ _ Try.underlying3) ?_
  refine eqf_cons (by rfl) (part_scalar ag3 rfl w) (part_scalar ag3 rfl w) (run_equalIn_int w (d + 0) 3 _ _ _ _ Try.underlying3) ?_
  refine eqf_cons (by rfl) (part_scalar ag4 rfl w) (part_scalar ag4 rfl w) (run_equalIn_bool' w (d + 0) 4 _ _ Try.underlying4) ?_
  refine eqf_cons (by rfl) (part_scalar ag3 rfl w) (part_scalar ag3 rfl w) (run_equalIn_int w (d + 0) 3 _ _ _ _ Try.underlying3) ?_
  exact eqf_last (by rfl) (part_scalar ag3 rfl w) (part_scalar ag3 rfl w) (run_equalIn_int w (d + 0) 3 _ _ _ _ Try.underlying3)
theorem cb3 : Callable Try.prog 3 := ⟨Try.f3, Try.func3, by kernel_rfl, by kernel_rfl⟩
theorem cb4 : Callable Try.prog 4 := ⟨Try.f4, Try.func4, by kernel_rfl, by kernel_rfl⟩
theorem cb5 : Callable Try.prog 5 := ⟨Try.f5, Try.func5, by kernel_rfl, by kernel_rfl⟩
theorem cb6 : Callable Try.prog 6 := ⟨Try.f6, Try.func6, by kernel_rfl, by kernel_rfl⟩
theorem cb7 : Callable Try.prog 7 := ⟨Try.f7, Try.func7, by kernel_rfl, by kernel_rfl⟩
theorem cb8 : Callable Try.prog 8 := ⟨Try.f8, Try.func8, by kernel_rfl, by kernel_rfl⟩
theorem cb9 : Callable Try.prog 9 := ⟨Try.f9, Try.func9, by kernel_rfl, by kernel_rfl⟩
theorem cb10 : Callable Try.prog 10 := ⟨Try.f10, Try.func10, by kernel_rfl, by kernel_rfl⟩
theorem cb11 : Callable Try.prog 11 := ⟨Try.f11, Try.func11, by kernel_rfl, by kernel_rfl⟩
theorem cb12 : Callable Try.prog 12 := ⟨Try.f12, Try.func12, by kernel_rfl, by kernel_rfl⟩
theorem cb13 : Callable Try.prog 13 := ⟨Try.f13, Try.func13, by kernel_rfl, by kernel_rfl⟩
theorem cb14 : Callable Try.prog 14 := ⟨Try.f14, Try.func14, by kernel_rfl, by kernel_rfl⟩
theorem cb15 : Callable Try.prog 15 := ⟨Try.f15, Try.func15, by kernel_rfl, by kernel_rfl⟩
theorem cb16 : Callable Try.prog 16 := ⟨Try.f16, Try.func16, by kernel_rfl, by kernel_rfl⟩
theorem cb17 : Callable Try.prog 17 := ⟨Try.f17, Try.func17, by kernel_rfl, by kernel_rfl⟩
theorem cb18 : Callable Try.prog 18 := ⟨Try.f18, Try.func18, by kernel_rfl, by kernel_rfl⟩
theorem cb19 : Callable Try.prog 19 := ⟨Try.f19, Try.func19, by kernel_rfl, by kernel_rfl⟩
theorem cb20 : Callable Try.prog 20 := ⟨Try.f20, Try.func20, by kernel_rfl, by kernel_rfl⟩
theorem cb21 : Callable Try.prog 21 := ⟨Try.f21, Try.func21, by kernel_rfl, by kernel_rfl⟩
theorem cb22 : Callable Try.prog 22 := ⟨Try.f22, Try.func22, by kernel_rfl, by kernel_rfl⟩
theorem cb23 : Callable Try.prog 23 := ⟨Try.f23, Try.func23, by kernel_rfl, by kernel_rfl⟩
theorem cb24 : Callable Try.prog 24 := ⟨Try.f24, Try.func24, by kernel_rfl, by kernel_rfl⟩
theorem cb25 : Callable Try.prog 25 := ⟨Try.f25, Try.func25, by kernel_rfl, by kernel_rfl⟩
theorem cb26 : Callable Try.prog 26 := ⟨Try.f26, Try.func26, by kernel_rfl, by kernel_rfl⟩
theorem cb27 : Callable Try.prog 27 := ⟨Try.f27, Try.func27, by kernel_rfl, by kernel_rfl⟩
theorem cb28 : Callable Try.prog 28 := ⟨Try.f28, Try.func28, by kernel_rfl, by kernel_rfl⟩
theorem cb29 : Callable Try.prog 29 := ⟨Try.f29, Try.func29, by kernel_rfl, by kernel_rfl⟩
theorem cb30 : Callable Try.prog 30 := ⟨Try.f30, Try.func30, by kernel_rfl, by kernel_rfl⟩
theorem cb31 : Callable Try.prog 31 := ⟨Try.f31, Try.func31, by kernel_rfl, by kernel_rfl⟩
theorem cb32 : Callable Try.prog 32 := ⟨Try.f32, Try.func32, by kernel_rfl, by kernel_rfl⟩
theorem cb33 : Callable Try.prog 33 := ⟨Try.f33, Try.func33, by kernel_rfl, by kernel_rfl⟩
theorem cb34 : Callable Try.prog 34 := ⟨Try.f34, Try.func34, by kernel_rfl, by kernel_rfl⟩
theorem cb35 : Callable Try.prog 35 := ⟨Try.f35, Try.func35, by kernel_rfl, by kernel_rfl⟩
theorem cb36 : Callable Try.prog 36 := ⟨Try.f36, Try.func36, by kernel_rfl, by kernel_rfl⟩
theorem cb37 : Callable Try.prog 37 := ⟨Try.f37, Try.func37, by kernel_rfl, by kernel_rfl⟩
theorem cb38 : Callable Try.prog 38 := ⟨Try.f38, Try.func38, by kernel_rfl, by kernel_rfl⟩
theorem cb39 : Callable Try.prog 39 := ⟨Try.f39, Try.func39, by kernel_rfl, by kernel_rfl⟩
theorem cb40 : Callable Try.prog 40 := ⟨Try.f40, Try.func40, by kernel_rfl, by kernel_rfl⟩
theorem cb41 : Callable Try.prog 41 := ⟨Try.f41, Try.func41, by kernel_rfl, by kernel_rfl⟩
theorem cb42 : Callable Try.prog 42 := ⟨Try.f42, Try.func42, by kernel_rfl, by kernel_rfl⟩
theorem cb43 : Callable Try.prog 43 := ⟨Try.f43, Try.func43, by kernel_rfl, by kernel_rfl⟩
theorem cb44 : Callable Try.prog 44 := ⟨Try.f44, Try.func44, by kernel_rfl, by kernel_rfl⟩
theorem cb45 : Callable Try.prog 45 := ⟨Try.f45, Try.func45, by kernel_rfl, by kernel_rfl⟩
theorem cb46 : Callable Try.prog 46 := ⟨Try.f46, Try.func46, by kernel_rfl, by kernel_rfl⟩
theorem cb47 : Callable Try.prog 47 := ⟨Try.f47, Try.func47, by kernel_rfl, by kernel_rfl⟩
theorem cb48 : Callable Try.prog 48 := ⟨Try.f48, Try.func48, by kernel_rfl, by kernel_rfl⟩
theorem cb49 : Callable Try.prog 49 := ⟨Try.f49, Try.func49, by kernel_rfl, by kernel_rfl⟩
theorem cb50 : Callable Try.prog 50 := ⟨Try.f50, Try.func50, by kernel_rfl, by kernel_rfl⟩
theorem cb51 : Callable Try.prog 51 := ⟨Try.f51, Try.func51, by kernel_rfl, by kernel_rfl⟩
theorem cb52 : Callable Try.prog 52 := ⟨Try.f52, Try.func52, by kernel_rfl, by kernel_rfl⟩
theorem cb53 : Callable Try.prog 53 := ⟨Try.f53, Try.func53, by kernel_rfl, by kernel_rfl⟩
theorem cb54 : Callable Try.prog 54 := ⟨Try.f54, Try.func54, by kernel_rfl, by kernel_rfl⟩
theorem cb55 : Callable Try.prog 55 := ⟨Try.f55, Try.func55, by kernel_rfl, by kernel_rfl⟩
theorem cb56 : Callable Try.prog 56 := ⟨Try.f56, Try.func56, by kernel_rfl, by kernel_rfl⟩
theorem cb57 : Callable Try.prog 57 := ⟨Try.f57, Try.func57, by kernel_rfl, by kernel_rfl⟩
theorem cb58 : Callable Try.prog 58 := ⟨Try.f58, Try.func58, by kernel_rfl, by kernel_rfl⟩
theorem cb59 : Callable Try.prog 59 := ⟨Try.f59, Try.func59, by kernel_rfl, by kernel_rfl⟩
theorem cb60 : Callable Try.prog 60 := ⟨Try.f60, Try.func60, by kernel_rfl, by kernel_rfl⟩
theorem cb61 : Callable Try.prog 61 := ⟨Try.f61, Try.func61, by kernel_rfl, by kernel_rfl⟩
theorem cb62 : Callable Try.prog 62 := ⟨Try.f62, Try.func62, by kernel_rfl, by kernel_rfl⟩
theorem cb63 : Callable Try.prog 63 := ⟨Try.f63, Try.func63, by kernel_rfl, by kernel_rfl⟩
theorem cb64 : Callable Try.prog 64 := ⟨Try.f64, Try.func64, by kernel_rfl, by kernel_rfl⟩
theorem cb65 : Callable Try.prog 65 := ⟨Try.f65, Try.func65, by kernel_rfl, by kernel_rfl⟩
theorem cb66 : Callable Try.prog 66 := ⟨Try.f66, Try.func66, by kernel_rfl, by kernel_rfl⟩
theorem cb67 : Callable Try.prog 67 := ⟨Try.f67, Try.func67, by kernel_rfl, by kernel_rfl⟩
theorem cb68 : Callable Try.prog 68 := ⟨Try.f68, Try.func68, by kernel_rfl, by kernel_rfl⟩
theorem cb69 : Callable Try.prog 69 := ⟨Try.f69, Try.func69, by kernel_rfl, by kernel_rfl⟩
theorem cb70 : Callable Try.prog 70 := ⟨Try.f70, Try.func70, by kernel_rfl, by kernel_rfl⟩
theorem cb71 : Callable Try.prog 71 := ⟨Try.f71, Try.func71, by kernel_rfl, by kernel_rfl⟩
theorem cb72 : Callable Try.prog 72 := ⟨Try.f72, Try.func72, by kernel_rfl, by kernel_rfl⟩
theorem cb73 : Callable Try.prog 73 := ⟨Try.f73, Try.func73, by kernel_rfl, by kernel_rfl⟩
theorem cb74 : Callable Try.prog 74 := ⟨Try.f74, Try.func74, by kernel_rfl, by kernel_rfl⟩
theorem cb75 : Callable Try.prog 75 := ⟨Try.f75, Try.func75, by kernel_rfl, by kernel_rfl⟩
theorem cb76 : Callable Try.prog 76 := ⟨Try.f76, Try.func76, by kernel_rfl, by kernel_rfl⟩
theorem cb77 : Callable Try.prog 77 := ⟨Try.f77, Try.func77, by kernel_rfl, by kernel_rfl⟩
theorem cb78 : Callable Try.prog 78 := ⟨Try.f78, Try.func78, by kernel_rfl, by kernel_rfl⟩
theorem cb79 : Callable Try.prog 79 := ⟨Try.f79, Try.func79, by kernel_rfl, by kernel_rfl⟩
theorem cb80 : Callable Try.prog 80 := ⟨Try.f80, Try.func80, by kernel_rfl, by kernel_rfl⟩
theorem cb81 : Callable Try.prog 81 := ⟨Try.f81, Try.func81, by kernel_rfl, by kernel_rfl⟩
theorem cb82 : Callable Try.prog 82 := ⟨Try.f82, Try.func82, by kernel_rfl, by kernel_rfl⟩
theorem cb83 : Callable Try.prog 83 := ⟨Try.f83, Try.func83, by kernel_rfl, by kernel_rfl⟩
theorem cb84 : Callable Try.prog 84 := ⟨Try.f84, Try.func84, by kernel_rfl, by kernel_rfl⟩
theorem cb85 : Callable Try.prog 85 := ⟨Try.f85, Try.func85, by kernel_rfl, by kernel_rfl⟩
theorem cb86 : Callable Try.prog 86 := ⟨Try.f86, Try.func86, by kernel_rfl, by kernel_rfl⟩
theorem cb87 : Callable Try.prog 87 := ⟨Try.f87, Try.func87, by kernel_rfl, by kernel_rfl⟩
theorem cb88 : Callable Try.prog 88 := ⟨Try.f88, Try.func88, by kernel_rfl, by kernel_rfl⟩
theorem cb89 : Callable Try.prog 89 := ⟨Try.f89, Try.func89, by kernel_rfl, by kernel_rfl⟩
theorem cb90 : Callable Try.prog 90 := ⟨Try.f90, Try.func90, by kernel_rfl, by kernel_rfl⟩
theorem cb91 : Callable Try.prog 91 := ⟨Try.f91, Try.func91, by kernel_rfl, by kernel_rfl⟩
theorem cb92 : Callable Try.prog 92 := ⟨Try.f92, Try.func92, by kernel_rfl, by kernel_rfl⟩
theorem cb93 : Callable Try.prog 93 := ⟨Try.f93, Try.func93, by kernel_rfl, by kernel_rfl⟩
theorem cb94 : Callable Try.prog 94 := ⟨Try.f94, Try.func94, by kernel_rfl, by kernel_rfl⟩
theorem cb95 : Callable Try.prog 95 := ⟨Try.f95, Try.func95, by kernel_rfl, by kernel_rfl⟩
theorem cb96 : Callable Try.prog 96 := ⟨Try.f96, Try.func96, by kernel_rfl, by kernel_rfl⟩
theorem cb97 : Callable Try.prog 97 := ⟨Try.f97, Try.func97, by kernel_rfl, by kernel_rfl⟩
theorem cb98 : Callable Try.prog 98 := ⟨Try.f98, Try.func98, by kernel_rfl, by kernel_rfl⟩
theorem cb99 : Callable Try.prog 99 := ⟨Try.f99, Try.func99, by kernel_rfl, by kernel_rfl⟩
theorem cb100 : Callable Try.prog 100 := ⟨Try.f100, Try.func100, by kernel_rfl, by kernel_rfl⟩
theorem cb101 : Callable Try.prog 101 := ⟨Try.f101, Try.func101, by kernel_rfl, by kernel_rfl⟩
theorem cb102 : Callable Try.prog 102 := ⟨Try.f102, Try.func102, by kernel_rfl, by kernel_rfl⟩
theorem cb103 : Callable Try.prog 103 := ⟨Try.f103, Try.func103, by kernel_rfl, by kernel_rfl⟩
theorem cb104 : Callable Try.prog 104 := ⟨Try.f104, Try.func104, by kernel_rfl, by kernel_rfl⟩
theorem cb105 : Callable Try.prog 105 := ⟨Try.f105, Try.func105, by kernel_rfl, by kernel_rfl⟩
theorem cb106 : Callable Try.prog 106 := ⟨Try.f106, Try.func106, by kernel_rfl, by kernel_rfl⟩
theorem cb107 : Callable Try.prog 107 := ⟨Try.f107, Try.func107, by kernel_rfl, by kernel_rfl⟩
theorem cb108 : Callable Try.prog 108 := ⟨Try.f108, Try.func108, by kernel_rfl, by kernel_rfl⟩
theorem cb109 : Callable Try.prog 109 := ⟨Try.f109, Try.func109, by kernel_rfl, by kernel_rfl⟩
theorem cb110 : Callable Try.prog 110 := ⟨Try.f110, Try.func110, by kernel_rfl, by kernel_rfl⟩
theorem cb111 : Callable Try.prog 111 := ⟨Try.f111, Try.func111, by kernel_rfl, by kernel_rfl⟩
theorem cb112 : Callable Try.prog 112 := ⟨Try.f112, Try.func112, by kernel_rfl, by kernel_rfl⟩
theorem cb113 : Callable Try.prog 113 := ⟨Try.f113, Try.func113, by kernel_rfl, by kernel_rfl⟩
theorem cb114 : Callable Try.prog 114 := ⟨Try.f114, Try.func114, by kernel_rfl, by kernel_rfl⟩
theorem cb115 : Callable Try.prog 115 := ⟨Try.f115, Try.func115, by kernel_rfl, by kernel_rfl⟩
theorem cb116 : Callable Try.prog 116 := ⟨Try.f116, Try.func116, by kernel_rfl, by kernel_rfl⟩
theorem cb117 : Callable Try.prog 117 := ⟨Try.f117, Try.func117, by kernel_rfl, by kernel_rfl⟩
theorem cb118 : Callable Try.prog 118 := ⟨Try.f118, Try.func118, by kernel_rfl, by kernel_rfl⟩
theorem cb119 : Callable Try.prog 119 := ⟨Try.f119, Try.func119, by kernel_rfl, by kernel_rfl⟩
theorem cb120 : Callable Try.prog 120 := ⟨Try.f120, Try.func120, by kernel_rfl, by kernel_rfl⟩
theorem cb121 : Callable Try.prog 121 := ⟨Try.f121, Try.func121, by kernel_rfl, by kernel_rfl⟩
theorem cb122 : Callable Try.prog 122 := ⟨Try.f122, Try.func122, by kernel_rfl, by kernel_rfl⟩
theorem cb123 : Callable Try.prog 123 := ⟨Try.f123, Try.func123, by kernel_rfl, by kernel_rfl⟩
theorem cb124 : Callable Try.prog 124 := ⟨Try.f124, Try.func124, by kernel_rfl, by kernel_rfl⟩
theorem cb125 : Callable Try.prog 125 := ⟨Try.f125, Try.func125, by kernel_rfl, by kernel_rfl⟩
theorem cb126 : Callable Try.prog 126 := ⟨Try.f126, Try.func126, by kernel_rfl, by kernel_rfl⟩
theorem cb127 : Callable Try.prog 127 := ⟨Try.f127, Try.func127, by kernel_rfl, by kernel_rfl⟩
theorem cb128 : Callable Try.prog 128 := ⟨Try.f128, Try.func128, by kernel_rfl, by kernel_rfl⟩
theorem cb129 : Callable Try.prog 129 := ⟨Try.f129, Try.func129, by kernel_rfl, by kernel_rfl⟩
theorem cb130 : Callable Try.prog 130 := ⟨Try.f130, Try.func130, by kernel_rfl, by kernel_rfl⟩
theorem cb131 : Callable Try.prog 131 := ⟨Try.f131, Try.func131, by kernel_rfl, by kernel_rfl⟩
theorem cb132 : Callable Try.prog 132 := ⟨Try.f132, Try.func132, by kernel_rfl, by kernel_rfl⟩
theorem cb133 : Callable Try.prog 133 := ⟨Try.f133, Try.func133, by kernel_rfl, by kernel_rfl⟩
theorem cb134 : Callable Try.prog 134 := ⟨Try.f134, Try.func134, by kernel_rfl, by kernel_rfl⟩
theorem cb135 : Callable Try.prog 135 := ⟨Try.f135, Try.func135, by kernel_rfl, by kernel_rfl⟩
theorem cb136 : Callable Try.prog 136 := ⟨Try.f136, Try.func136, by kernel_rfl, by kernel_rfl⟩
theorem cb137 : Callable Try.prog 137 := ⟨Try.f137, Try.func137, by kernel_rfl, by kernel_rfl⟩
theorem cb138 : Callable Try.prog 138 := ⟨Try.f138, Try.func138, by kernel_rfl, by kernel_rfl⟩
theorem cb139 : Callable Try.prog 139 := ⟨Try.f139, Try.func139, by kernel_rfl, by kernel_rfl⟩
theorem cb140 : Callable Try.prog 140 := ⟨Try.f140, Try.func140, by kernel_rfl, by kernel_rfl⟩
theorem cb141 : Callable Try.prog 141 := ⟨Try.f141, Try.func141, by kernel_rfl, by kernel_rfl⟩
theorem cb142 : Callable Try.prog 142 := ⟨Try.f142, Try.func142, by kernel_rfl, by kernel_rfl⟩
theorem cb143 : Callable Try.prog 143 := ⟨Try.f143, Try.func143, by kernel_rfl, by kernel_rfl⟩
theorem cb144 : Callable Try.prog 144 := ⟨Try.f144, Try.func144, by kernel_rfl, by kernel_rfl⟩
theorem cb145 : Callable Try.prog 145 := ⟨Try.f145, Try.func145, by kernel_rfl, by kernel_rfl⟩
theorem cb146 : Callable Try.prog 146 := ⟨Try.f146, Try.func146, by kernel_rfl, by kernel_rfl⟩
theorem cb147 : Callable Try.prog 147 := ⟨Try.f147, Try.func147, by kernel_rfl, by kernel_rfl⟩
theorem cb148 : Callable Try.prog 148 := ⟨Try.f148, Try.func148, by kernel_rfl, by kernel_rfl⟩
theorem cb149 : Callable Try.prog 149 := ⟨Try.f149, Try.func149, by kernel_rfl, by kernel_rfl⟩
theorem cb150 : Callable Try.prog 150 := ⟨Try.f150, Try.func150, by kernel_rfl, by kernel_rfl⟩
theorem cb151 : Callable Try.prog 151 := ⟨Try.f151, Try.func151, by kernel_rfl, by kernel_rfl⟩
theorem cb152 : Callable Try.prog 152 := ⟨Try.f152, Try.func152, by kernel_rfl, by kernel_rfl⟩
theorem cb153 : Callable Try.prog 153 := ⟨Try.f153, Try.func153, by kernel_rfl, by kernel_rfl⟩
theorem cb154 : Callable Try.prog 154 := ⟨Try.f154, Try.func154, by kernel_rfl, by kernel_rfl⟩
theorem cb155 : Callable Try.prog 155 := ⟨Try.f155, Try.func155, by kernel_rfl, by kernel_rfl⟩
theorem cb156 : Callable Try.prog 156 := ⟨Try.f156, Try.func156, by kernel_rfl, by kernel_rfl⟩
theorem cb157 : Callable Try.prog 157 := ⟨Try.f157, Try.func157, by kernel_rfl, by kernel_rfl⟩
theorem cb158 : Callable Try.prog 158 := ⟨Try.f158, Try.func158, by kernel_rfl, by kernel_rfl⟩
theorem cb159 : Callable Try.prog 159 := ⟨Try.f159, Try.func159, by kernel_rfl, by kernel_rfl⟩
theorem cb160 : Callable Try.prog 160 := ⟨Try.f160, Try.func160, by kernel_rfl, by kernel_rfl⟩
theorem cb161 : Callable Try.prog 161 := ⟨Try.f161, Try.func161, by kernel_rfl, by kernel_rfl⟩
theorem cb162 : Callable Try.prog 162 := ⟨Try.f162, Try.func162, by kernel_rfl, by kernel_rfl⟩
theorem cb163 : Callable Try.prog 163 := ⟨Try.f163, Try.func163, by kernel_rfl, by kernel_rfl⟩
theorem cb164 : Callable Try.prog 164 := ⟨Try.f164, Try.func164, by kernel_rfl, by kernel_rfl⟩
theorem cb165 : Callable Try.prog 165 := ⟨Try.f165, Try.func165, by kernel_rfl, by kernel_rfl⟩
theorem cb166 : Callable Try.prog 166 := ⟨Try.f166, Try.func166, by kernel_rfl, by kernel_rfl⟩
theorem cb167 : Callable Try.prog 167 := ⟨Try.f167, Try.func167, by kernel_rfl, by kernel_rfl⟩
theorem cb168 : Callable Try.prog 168 := ⟨Try.f168, Try.func168, by kernel_rfl, by kernel_rfl⟩
theorem cb169 : Callable Try.prog 169 := ⟨Try.f169, Try.func169, by kernel_rfl, by kernel_rfl⟩
theorem cb170 : Callable Try.prog 170 := ⟨Try.f170, Try.func170, by kernel_rfl, by kernel_rfl⟩
theorem cb171 : Callable Try.prog 171 := ⟨Try.f171, Try.func171, by kernel_rfl, by kernel_rfl⟩
theorem cb172 : Callable Try.prog 172 := ⟨Try.f172, Try.func172, by kernel_rfl, by kernel_rfl⟩
theorem cb173 : Callable Try.prog 173 := ⟨Try.f173, Try.func173, by kernel_rfl, by kernel_rfl⟩
theorem cb174 : Callable Try.prog 174 := ⟨Try.f174, Try.func174, by kernel_rfl, by kernel_rfl⟩
theorem cb175 : Callable Try.prog 175 := ⟨Try.f175, Try.func175, by kernel_rfl, by kernel_rfl⟩
theorem cb176 : Callable Try.prog 176 := ⟨Try.f176, Try.func176, by kernel_rfl, by kernel_rfl⟩
theorem cb177 : Callable Try.prog 177 := ⟨Try.f177, Try.func177, by kernel_rfl, by kernel_rfl⟩
theorem cb178 : Callable Try.prog 178 := ⟨Try.f178, Try.func178, by kernel_rfl, by kernel_rfl⟩
theorem cb179 : Callable Try.prog 179 := ⟨Try.f179, Try.func179, by kernel_rfl, by kernel_rfl⟩
theorem mixed : Try.prog.follows .mixedOrders = true := by kernel_rfl
end Go.Proofs.YtdlinfekifnmkaaAm
