/- Facts of the program's types: how many cells, their zeros, their fields. -/
import Derived.Test.YtglcmlicfmmlpaaS4
namespace Go.Proofs.Ytglcmlicfmmlpaa
open Go.RowKit

theorem row1 : rowOf Try.prog 1 = some (1, false) := by kernel_rfl
theorem zero1 : zeroOf Try.prog 1 = some [Value.nilFunc] := by kernel_rfl
theorem row2 : rowOf Try.prog 2 = some (1, false) := by kernel_rfl
theorem zero2 : zeroOf Try.prog 2 = some [(Value.int IntKind.i64 0)] := by kernel_rfl
theorem row3 : rowOf Try.prog 3 = some (1, false) := by kernel_rfl
theorem zero3 : zeroOf Try.prog 3 = some [(Value.int IntKind.i64 0)] := by kernel_rfl
theorem row4 : rowOf Try.prog 4 = some (1, false) := by kernel_rfl
theorem zero4 : zeroOf Try.prog 4 = some [(Value.bool false)] := by kernel_rfl
theorem row5 : rowOf Try.prog 5 = some (1, false) := by kernel_rfl
theorem zero5 : zeroOf Try.prog 5 = some [(Value.int IntKind.u8 0)] := by kernel_rfl
theorem row6 : rowOf Try.prog 6 = some (1, false) := by kernel_rfl
theorem zero6 : zeroOf Try.prog 6 = some [(Value.int IntKind.u8 0)] := by kernel_rfl
theorem row7 : rowOf Try.prog 7 = some (4, true) := by kernel_rfl
theorem zero7 : zeroOf Try.prog 7 = some [(Value.int IntKind.i64 0), (Value.int IntKind.i64 0), (Value.bool false), (Value.int IntKind.u8 0)] := by kernel_rfl
theorem fld7_0 : fldOf Try.prog 7 0 = some (0, 1, false) := by kernel_rfl
theorem fld7_1 : fldOf Try.prog 7 1 = some (1, 1, false) := by kernel_rfl
theorem fld7_2 : fldOf Try.prog 7 2 = some (2, 1, false) := by kernel_rfl
theorem fld7_3 : fldOf Try.prog 7 3 = some (3, 1, false) := by kernel_rfl
theorem plc7 : placesOf Try.prog 7 = some [(0, 1), (1, 1), (2, 1), (3, 1)] := by kernel_rfl
theorem row8 : rowOf Try.prog 8 = some (4, true) := by kernel_rfl
theorem zero8 : zeroOf Try.prog 8 = some [(Value.int IntKind.i64 0), (Value.int IntKind.i64 0), (Value.bool false), (Value.int IntKind.u8 0)] := by kernel_rfl
theorem fld8_0 : fldOf Try.prog 8 0 = some (0, 1, false) := by kernel_rfl
theorem fld8_1 : fldOf Try.prog 8 1 = some (1, 1, false) := by kernel_rfl
theorem fld8_2 : fldOf Try.prog 8 2 = some (2, 1, false) := by kernel_rfl
theorem fld8_3 : fldOf Try.prog 8 3 = some (3, 1, false) := by kernel_rfl
theorem plc8 : placesOf Try.prog 8 = some [(0, 1), (1, 1), (2, 1), (3, 1)] := by kernel_rfl
theorem row9 : rowOf Try.prog 9 = some (1, false) := by kernel_rfl
theorem zero9 : zeroOf Try.prog 9 = some [(Value.string { data := #[] })] := by kernel_rfl
theorem row10 : rowOf Try.prog 10 = some (1, false) := by kernel_rfl
theorem zero10 : zeroOf Try.prog 10 = some [(Value.string { data := #[] })] := by kernel_rfl
theorem row11 : rowOf Try.prog 11 = some (1, false) := by kernel_rfl
theorem zero11 : zeroOf Try.prog 11 = some [(Value.string { data := #[] })] := by kernel_rfl
theorem row12 : rowOf Try.prog 12 = some (1, false) := by kernel_rfl
theorem zero12 : zeroOf Try.prog 12 = some [(Value.int IntKind.u64 0)] := by kernel_rfl
theorem row13 : rowOf Try.prog 13 = some (2, true) := by kernel_rfl
theorem zero13 : zeroOf Try.prog 13 = some [(Value.string { data := #[] }), (Value.int IntKind.u64 0)] := by kernel_rfl
theorem fld13_0 : fldOf Try.prog 13 0 = some (0, 1, false) := by kernel_rfl
theorem fld13_1 : fldOf Try.prog 13 1 = some (1, 1, false) := by kernel_rfl
theorem plc13 : placesOf Try.prog 13 = some [(0, 1), (1, 1)] := by kernel_rfl
theorem row14 : rowOf Try.prog 14 = some (2, true) := by kernel_rfl
theorem zero14 : zeroOf Try.prog 14 = some [(Value.string { data := #[] }), (Value.int IntKind.u64 0)] := by kernel_rfl
theorem fld14_0 : fldOf Try.prog 14 0 = some (0, 1, false) := by kernel_rfl
theorem fld14_1 : fldOf Try.prog 14 1 = some (1, 1, false) := by kernel_rfl
theorem plc14 : placesOf Try.prog 14 = some [(0, 1), (1, 1)] := by kernel_rfl
theorem row15 : rowOf Try.prog 15 = some (1, false) := by kernel_rfl
theorem zero15 : zeroOf Try.prog 15 = some [(Value.pointer none)] := by kernel_rfl
theorem row16 : rowOf Try.prog 16 = some (1, false) := by kernel_rfl
theorem zero16 : zeroOf Try.prog 16 = some [(Value.pointer none)] := by kernel_rfl
theorem row17 : rowOf Try.prog 17 = some (1, false) := by kernel_rfl
theorem zero17 : zeroOf Try.prog 17 = some [(Value.pointer none)] := by kernel_rfl
theorem row18 : rowOf Try.prog 18 = some (1, true) := by kernel_rfl
theorem zero18 : zeroOf Try.prog 18 = some [(Value.pointer none)] := by kernel_rfl
theorem fld18_0 : fldOf Try.prog 18 0 = some (0, 1, false) := by kernel_rfl
theorem plc18 : placesOf Try.prog 18 = some [(0, 1)] := by kernel_rfl
theorem row19 : rowOf Try.prog 19 = some (1, true) := by kernel_rfl
theorem zero19 : zeroOf Try.prog 19 = some [(Value.pointer none)] := by kernel_rfl
theorem fld19_0 : fldOf Try.prog 19 0 = some (0, 1, false) := by kernel_rfl
theorem plc19 : placesOf Try.prog 19 = some [(0, 1)] := by kernel_rfl
theorem row20 : rowOf Try.prog 20 = some (1, false) := by kernel_rfl
theorem zero20 : zeroOf Try.prog 20 = some [Value.nilIface] := by kernel_rfl
theorem row21 : rowOf Try.prog 21 = some (1, false) := by kernel_rfl
theorem zero21 : zeroOf Try.prog 21 = some [(Value.int IntKind.i32 0)] := by kernel_rfl
theorem row22 : rowOf Try.prog 22 = some (1, false) := by kernel_rfl
theorem zero22 : zeroOf Try.prog 22 = some [(Value.slice none 0 0)] := by kernel_rfl
theorem ei39 : EI Try.prog 39 (.agg #[(Value.string { data := #[] }), (Value.string { data := #[] }), (Value.string { data := #[] }), (Value.string { data := #[] }), (Value.int IntKind.i64 0), (Value.bool false), (Value.int IntKind.i64 0)]) 7 88 := ei_of (by kernel_rfl) rfl (by decide)
theorem row23 : rowOf Try.prog 23 = some (7, true) := by kernel_rfl
theorem zero23 : zeroOf Try.prog 23 = some [(Value.int IntKind.i64 0), (Value.string { data := #[] }), (Value.string { data := #[] }), (Value.int IntKind.i64 0), (Value.string { data := #[] }), (Value.int IntKind.i64 0), (Value.int IntKind.i64 0)] := by kernel_rfl
theorem fld23_0 : fldOf Try.prog 23 0 = some (0, 1, false) := by kernel_rfl
theorem fld23_1 : fldOf Try.prog 23 1 = some (1, 1, false) := by kernel_rfl
theorem fld23_2 : fldOf Try.prog 23 2 = some (2, 1, false) := by kernel_rfl
theorem fld23_3 : fldOf Try.prog 23 3 = some (3, 1, false) := by kernel_rfl
theorem fld23_4 : fldOf Try.prog 23 4 = some (4, 1, false) := by kernel_rfl
theorem fld23_5 : fldOf Try.prog 23 5 = some (5, 1, false) := by kernel_rfl
theorem fld23_6 : fldOf Try.prog 23 6 = some (6, 1, false) := by kernel_rfl
theorem plc23 : placesOf Try.prog 23 = some [(0, 1), (1, 1), (2, 1), (3, 1), (4, 1), (5, 1), (6, 1)] := by kernel_rfl
theorem row24 : rowOf Try.prog 24 = some (7, true) := by kernel_rfl
theorem zero24 : zeroOf Try.prog 24 = some [(Value.int IntKind.i64 0), (Value.string { data := #[] }), (Value.string { data := #[] }), (Value.int IntKind.i64 0), (Value.string { data := #[] }), (Value.int IntKind.i64 0), (Value.int IntKind.i64 0)] := by kernel_rfl
theorem fld24_0 : fldOf Try.prog 24 0 = some (0, 1, false) := by kernel_rfl
theorem fld24_1 : fldOf Try.prog 24 1 = some (1, 1, false) := by kernel_rfl
theorem fld24_2 : fldOf Try.prog 24 2 = some (2, 1, false) := by kernel_rfl
theorem fld24_3 : fldOf Try.prog 24 3 = some (3, 1, false) := by kernel_rfl
theorem fld24_4 : fldOf Try.prog 24 4 = some (4, 1, false) := by kernel_rfl
theorem fld24_5 : fldOf Try.prog 24 5 = some (5, 1, false) := by kernel_rfl
theorem fld24_6 : fldOf Try.prog 24 6 = some (6, 1, false) := by kernel_rfl
theorem plc24 : placesOf Try.prog 24 = some [(0, 1), (1, 1), (2, 1), (3, 1), (4, 1), (5, 1), (6, 1)] := by kernel_rfl
theorem row25 : rowOf Try.prog 25 = some (1, false) := by kernel_rfl
theorem zero25 : zeroOf Try.prog 25 = some [(Value.int IntKind.i64 0)] := by kernel_rfl
theorem row26 : rowOf Try.prog 26 = some (1, false) := by kernel_rfl
theorem zero26 : zeroOf Try.prog 26 = some [(Value.slice none 0 0)] := by kernel_rfl
theorem ei5 : EI Try.prog 5 (Value.int IntKind.u8 0) 1 1 := ei_of (by kernel_rfl) rfl (by decide)
theorem row27 : rowOf Try.prog 27 = some (17, true) := by kernel_rfl
theorem zero27 : zeroOf Try.prog 27 = some [(Value.int IntKind.i64 0), (Value.int IntKind.i64 0), (Value.string { data := #[] }), (Value.string { data := #[] }), (Value.int IntKind.i64 0), (Value.string { data := #[] }), (Value.int IntKind.i64 0), (Value.int IntKind.i64 0), (Value.string { data := #[] }), (Value.string { data := #[] }), (Value.int IntKind.i64 0), (Value.int IntKind.i64 0), (Value.int IntKind.i64 0), (Value.int IntKind.i64 0), (Value.int IntKind.i64 0), (Value.bool false), (Value.slice none 0 0)] := by kernel_rfl
theorem fld27_0 : fldOf Try.prog 27 0 = some (0, 1, false) := by kernel_rfl
theorem fld27_1 : fldOf Try.prog 27 1 = some (1, 7, true) := by kernel_rfl
theorem fld27_2 : fldOf Try.prog 27 2 = some (8, 1, false) := by kernel_rfl
theorem fld27_3 : fldOf Try.prog 27 3 = some (9, 1, false) := by kernel_rfl
theorem fld27_4 : fldOf Try.prog 27 4 = some (10, 1, false) := by kernel_rfl
theorem fld27_5 : fldOf Try.prog 27 5 = some (11, 1, false) := by kernel_rfl
theorem fld27_6 : fldOf Try.prog 27 6 = some (12, 1, false) := by kernel_rfl
theorem fld27_7 : fldOf Try.prog 27 7 = some (13, 1, false) := by kernel_rfl
theorem fld27_8 : fldOf Try.prog 27 8 = some (14, 1, false) := by kernel_rfl
theorem fld27_9 : fldOf Try.prog 27 9 = some (15, 1, false) := by kernel_rfl
theorem fld27_10 : fldOf Try.prog 27 10 = some (16, 1, false) := by kernel_rfl
theorem plc27 : placesOf Try.prog 27 = some [(0, 1), (1, 7), (8, 1), (9, 1), (10, 1), (11, 1), (12, 1), (13, 1), (14, 1), (15, 1), (16, 1)] := by kernel_rfl
theorem row28 : rowOf Try.prog 28 = some (17, true) := by kernel_rfl
theorem zero28 : zeroOf Try.prog 28 = some [(Value.int IntKind.i64 0), (Value.int IntKind.i64 0), (Value.string { data := #[] }), (Value.string { data := #[] }), (Value.int IntKind.i64 0), (Value.string { data := #[] }), (Value.int IntKind.i64 0), (Value.int IntKind.i64 0), (Value.string { data := #[] }), (Value.string { data := #[] }), (Value.int IntKind.i64 0), (Value.int IntKind.i64 0), (Value.int IntKind.i64 0), (Value.int IntKind.i64 0), (Value.int IntKind.i64 0), (Value.bool false), (Value.slice none 0 0)] := by kernel_rfl
theorem fld28_0 : fldOf Try.prog 28 0 = some (0, 1, false) := by kernel_rfl
theorem fld28_1 : fldOf Try.prog 28 1 = some (1, 7, true) := by kernel_rfl
theorem fld28_2 : fldOf Try.prog 28 2 = some (8, 1, false) := by kernel_rfl
theorem fld28_3 : fldOf Try.prog 28 3 = some (9, 1, false) := by kernel_rfl
theorem fld28_4 : fldOf Try.prog 28 4 = some (10, 1, false) := by kernel_rfl
theorem fld28_5 : fldOf Try.prog 28 5 = some (11, 1, false) := by kernel_rfl
theorem fld28_6 : fldOf Try.prog 28 6 = some (12, 1, false) := by kernel_rfl
theorem fld28_7 : fldOf Try.prog 28 7 = some (13, 1, false) := by kernel_rfl
theorem fld28_8 : fldOf Try.prog 28 8 = some (14, 1, false) := by kernel_rfl
theorem fld28_9 : fldOf Try.prog 28 9 = some (15, 1, false) := by kernel_rfl
theorem fld28_10 : fldOf Try.prog 28 10 = some (16, 1, false) := by kernel_rfl
theorem plc28 : placesOf Try.prog 28 = some [(0, 1), (1, 7), (8, 1), (9, 1), (10, 1), (11, 1), (12, 1), (13, 1), (14, 1), (15, 1), (16, 1)] := by kernel_rfl
theorem row29 : rowOf Try.prog 29 = some (18, true) := by kernel_rfl
theorem zero29 : zeroOf Try.prog 29 = some [(Value.int IntKind.i64 0), (Value.int IntKind.i64 0), (Value.int IntKind.i64 0), (Value.string { data := #[] }), (Value.string { data := #[] }), (Value.int IntKind.i64 0), (Value.string { data := #[] }), (Value.int IntKind.i64 0), (Value.int IntKind.i64 0), (Value.string { data := #[] }), (Value.string { data := #[] }), (Value.int IntKind.i64 0), (Value.int IntKind.i64 0), (Value.int IntKind.i64 0), (Value.int IntKind.i64 0), (Value.int IntKind.i64 0), (Value.bool false), (Value.slice none 0 0)] := by kernel_rfl
theorem fld29_0 : fldOf Try.prog 29 0 = some (0, 1, false) := by kernel_rfl
theorem fld29_1 : fldOf Try.prog 29 1 = some (1, 17, true) := by kernel_rfl
theorem plc29 : placesOf Try.prog 29 = some [(0, 1), (1, 17)] := by kernel_rfl
theorem row30 : rowOf Try.prog 30 = some (18, true) := by kernel_rfl
theorem zero30 : zeroOf Try.prog 30 = some [(Value.int IntKind.i64 0), (Value.int IntKind.i64 0), (Value.int IntKind.i64 0), (Value.string { data := #[] }), (Value.string { data := #[] }), (Value.int IntKind.i64 0), (Value.string { data := #[] }), (Value.int IntKind.i64 0), (Value.int IntKind.i64 0), (Value.string { data := #[] }), (Value.string { data := #[] }), (Value.int IntKind.i64 0), (Value.int IntKind.i64 0), (Value.int IntKind.i64 0), (Value.int IntKind.i64 0), (Value.int IntKind.i64 0), (Value.bool false), (Value.slice none 0 0)] := by kernel_rfl
theorem fld30_0 : fldOf Try.prog 30 0 = some (0, 1, false) := by kernel_rfl
theorem fld30_1 : fldOf Try.prog 30 1 = some (1, 17, true) := by kernel_rfl
theorem plc30 : placesOf Try.prog 30 = some [(0, 1), (1, 17)] := by kernel_rfl
theorem row31 : rowOf Try.prog 31 = some (1, false) := by kernel_rfl
theorem zero31 : zeroOf Try.prog 31 = some [(Value.slice none 0 0)] := by kernel_rfl
theorem ei108 : EI Try.prog 108 (.agg #[(Value.string { data := #[] }), (Value.int IntKind.i64 0)]) 2 24 := ei_of (by kernel_rfl) rfl (by decide)
theorem row32 : rowOf Try.prog 32 = some (3, true) := by kernel_rfl
theorem zero32 : zeroOf Try.prog 32 = some [(Value.int IntKind.i64 0), (Value.int IntKind.i64 0), (Value.slice none 0 0)] := by kernel_rfl
theorem fld32_0 : fldOf Try.prog 32 0 = some (0, 1, false) := by kernel_rfl
theorem fld32_1 : fldOf Try.prog 32 1 = some (1, 1, false) := by kernel_rfl
theorem fld32_2 : fldOf Try.prog 32 2 = some (2, 1, false) := by kernel_rfl
theorem plc32 : placesOf Try.prog 32 = some [(0, 1), (1, 1), (2, 1)] := by kernel_rfl
theorem row33 : rowOf Try.prog 33 = some (3, true) := by kernel_rfl
theorem zero33 : zeroOf Try.prog 33 = some [(Value.int IntKind.i64 0), (Value.int IntKind.i64 0), (Value.slice none 0 0)] := by kernel_rfl
theorem fld33_0 : fldOf Try.prog 33 0 = some (0, 1, false) := by kernel_rfl
theorem fld33_1 : fldOf Try.prog 33 1 = some (1, 1, false) := by kernel_rfl
theorem fld33_2 : fldOf Try.prog 33 2 = some (2, 1, false) := by kernel_rfl
theorem plc33 : placesOf Try.prog 33 = some [(0, 1), (1, 1), (2, 1)] := by kernel_rfl
theorem row34 : rowOf Try.prog 34 = some (6, true) := by kernel_rfl
theorem zero34 : zeroOf Try.prog 34 = some [(Value.int IntKind.i64 0), (Value.bool false), (Value.int IntKind.i64 0), (Value.int IntKind.i64 0), (Value.slice none 0 0), (Value.slice none 0 0)] := by kernel_rfl
theorem fld34_0 : fldOf Try.prog 34 0 = some (0, 1, false) := by kernel_rfl
theorem fld34_1 : fldOf Try.prog 34 1 = some (1, 1, false) := by kernel_rfl
theorem fld34_2 : fldOf Try.prog 34 2 = some (2, 3, true) := by kernel_rfl
theorem fld34_3 : fldOf Try.prog 34 3 = some (5, 1, false) := by kernel_rfl
theorem plc34 : placesOf Try.prog 34 = some [(0, 1), (1, 1), (2, 3), (5, 1)] := by kernel_rfl
theorem row35 : rowOf Try.prog 35 = some (6, true) := by kernel_rfl
theorem zero35 : zeroOf Try.prog 35 = some [(Value.int IntKind.i64 0), (Value.bool false), (Value.int IntKind.i64 0), (Value.int IntKind.i64 0), (Value.slice none 0 0), (Value.slice none 0 0)] := by kernel_rfl
theorem fld35_0 : fldOf Try.prog 35 0 = some (0, 1, false) := by kernel_rfl
theorem fld35_1 : fldOf Try.prog 35 1 = some (1, 1, false) := by kernel_rfl
theorem fld35_2 : fldOf Try.prog 35 2 = some (2, 3, true) := by kernel_rfl
theorem fld35_3 : fldOf Try.prog 35 3 = some (5, 1, false) := by kernel_rfl
theorem plc35 : placesOf Try.prog 35 = some [(0, 1), (1, 1), (2, 3), (5, 1)] := by kernel_rfl
theorem row36 : rowOf Try.prog 36 = some (1, false) := by kernel_rfl
theorem zero36 : zeroOf Try.prog 36 = some [Value.nilFunc] := by kernel_rfl
theorem row37 : rowOf Try.prog 37 = some (1, false) := by kernel_rfl
theorem zero37 : zeroOf Try.prog 37 = some [(Value.slice none 0 0)] := by kernel_rfl
theorem ei40 : EI Try.prog 40 (.agg #[(Value.string { data := #[] }), (Value.string { data := #[] }), (Value.string { data := #[] }), (Value.string { data := #[] }), (Value.int IntKind.i64 0), (Value.bool false), (Value.int IntKind.i64 0)]) 7 88 := ei_of (by kernel_rfl) rfl (by decide)
theorem row38 : rowOf Try.prog 38 = some (7, true) := by kernel_rfl
theorem zero38 : zeroOf Try.prog 38 = some [(Value.string { data := #[] }), (Value.string { data := #[] }), (Value.string { data := #[] }), (Value.string { data := #[] }), (Value.int IntKind.i64 0), (Value.bool false), (Value.int IntKind.i64 0)] := by kernel_rfl
theorem fld38_0 : fldOf Try.prog 38 0 = some (0, 1, false) := by kernel_rfl
theorem fld38_1 : fldOf Try.prog 38 1 = some (1, 1, false) := by kernel_rfl
theorem fld38_2 : fldOf Try.prog 38 2 = some (2, 1, false) := by kernel_rfl
theorem fld38_3 : fldOf Try.prog 38 3 = some (3, 1, false) := by kernel_rfl
theorem fld38_4 : fldOf Try.prog 38 4 = some (4, 1, false) := by kernel_rfl
theorem fld38_5 : fldOf Try.prog 38 5 = some (5, 1, false) := by kernel_rfl
theorem fld38_6 : fldOf Try.prog 38 6 = some (6, 1, false) := by kernel_rfl
theorem plc38 : placesOf Try.prog 38 = some [(0, 1), (1, 1), (2, 1), (3, 1), (4, 1), (5, 1), (6, 1)] := by kernel_rfl
theorem row39 : rowOf Try.prog 39 = some (7, true) := by kernel_rfl
theorem zero39 : zeroOf Try.prog 39 = some [(Value.string { data := #[] }), (Value.string { data := #[] }), (Value.string { data := #[] }), (Value.string { data := #[] }), (Value.int IntKind.i64 0), (Value.bool false), (Value.int IntKind.i64 0)] := by kernel_rfl
theorem fld39_0 : fldOf Try.prog 39 0 = some (0, 1, false) := by kernel_rfl
theorem fld39_1 : fldOf Try.prog 39 1 = some (1, 1, false) := by kernel_rfl
theorem fld39_2 : fldOf Try.prog 39 2 = some (2, 1, false) := by kernel_rfl
theorem fld39_3 : fldOf Try.prog 39 3 = some (3, 1, false) := by kernel_rfl
theorem fld39_4 : fldOf Try.prog 39 4 = some (4, 1, false) := by kernel_rfl
theorem fld39_5 : fldOf Try.prog 39 5 = some (5, 1, false) := by kernel_rfl
theorem fld39_6 : fldOf Try.prog 39 6 = some (6, 1, false) := by kernel_rfl
theorem plc39 : placesOf Try.prog 39 = some [(0, 1), (1, 1), (2, 1), (3, 1), (4, 1), (5, 1), (6, 1)] := by kernel_rfl
theorem row40 : rowOf Try.prog 40 = some (7, true) := by kernel_rfl
theorem zero40 : zeroOf Try.prog 40 = some [(Value.string { data := #[] }), (Value.string { data := #[] }), (Value.string { data := #[] }), (Value.string { data := #[] }), (Value.int IntKind.i64 0), (Value.bool false), (Value.int IntKind.i64 0)] := by kernel_rfl
theorem fld40_0 : fldOf Try.prog 40 0 = some (0, 1, false) := by kernel_rfl
theorem fld40_1 : fldOf Try.prog 40 1 = some (1, 1, false) := by kernel_rfl
theorem fld40_2 : fldOf Try.prog 40 2 = some (2, 1, false) := by kernel_rfl
theorem fld40_3 : fldOf Try.prog 40 3 = some (3, 1, false) := by kernel_rfl
theorem fld40_4 : fldOf Try.prog 40 4 = some (4, 1, false) := by kernel_rfl
theorem fld40_5 : fldOf Try.prog 40 5 = some (5, 1, false) := by kernel_rfl
theorem fld40_6 : fldOf Try.prog 40 6 = some (6, 1, false) := by kernel_rfl
theorem plc40 : placesOf Try.prog 40 = some [(0, 1), (1, 1), (2, 1), (3, 1), (4, 1), (5, 1), (6, 1)] := by kernel_rfl
theorem row41 : rowOf Try.prog 41 = some (1, false) := by kernel_rfl
theorem zero41 : zeroOf Try.prog 41 = some [(Value.slice none 0 0)] := by kernel_rfl
theorem ei49 : EI Try.prog 49 (.agg #[(Value.int IntKind.i64 0), (Value.int IntKind.i64 0), (Value.int IntKind.i64 0), (Value.string { data := #[] }), (Value.string { data := #[] }), (Value.int IntKind.i64 0), (Value.string { data := #[] }), (Value.int IntKind.i64 0), (Value.int IntKind.i64 0), (Value.string { data := #[] }), (Value.string { data := #[] }), (Value.int IntKind.i64 0), (Value.int IntKind.i64 0), (Value.int IntKind.i64 0), (Value.int IntKind.i64 0), (Value.int IntKind.i64 0), (Value.bool false), (Value.slice none 0 0)]) 18 200 := ei_of (by kernel_rfl) rfl (by decide)
theorem row42 : rowOf Try.prog 42 = some (1, false) := by kernel_rfl
theorem zero42 : zeroOf Try.prog 42 = some [Value.nilFunc] := by kernel_rfl
theorem row43 : rowOf Try.prog 43 = some (1, false) := by kernel_rfl
theorem zero43 : zeroOf Try.prog 43 = some [(Value.slice none 0 0)] := by kernel_rfl
theorem ei30 : EI Try.prog 30 (.agg #[(Value.int IntKind.i64 0), (Value.int IntKind.i64 0), (Value.int IntKind.i64 0), (Value.string { data := #[] }), (Value.string { data := #[] }), (Value.int IntKind.i64 0), (Value.string { data := #[] }), (Value.int IntKind.i64 0), (Value.int IntKind.i64 0), (Value.string { data := #[] }), (Value.string { data := #[] }), (Value.int IntKind.i64 0), (Value.int IntKind.i64 0), (Value.int IntKind.i64 0), (Value.int IntKind.i64 0), (Value.int IntKind.i64 0), (Value.bool false), (Value.slice none 0 0)]) 18 200 := ei_of (by kernel_rfl) rfl (by decide)
theorem row44 : rowOf Try.prog 44 = some (1, false) := by kernel_rfl
theorem zero44 : zeroOf Try.prog 44 = some [Value.nilFunc] := by kernel_rfl
theorem row45 : rowOf Try.prog 45 = some (1, false) := by kernel_rfl
theorem zero45 : zeroOf Try.prog 45 = some [Value.nilFunc] := by kernel_rfl
theorem row46 : rowOf Try.prog 46 = some (1, false) := by kernel_rfl
theorem zero46 : zeroOf Try.prog 46 = some [Value.nilFunc] := by kernel_rfl
theorem row47 : rowOf Try.prog 47 = some (17, true) := by kernel_rfl
theorem zero47 : zeroOf Try.prog 47 = some [(Value.int IntKind.i64 0), (Value.int IntKind.i64 0), (Value.string { data := #[] }), (Value.string { data := #[] }), (Value.int IntKind.i64 0), (Value.string { data := #[] }), (Value.int IntKind.i64 0), (Value.int IntKind.i64 0), (Value.string { data := #[] }), (Value.string { data := #[] }), (Value.int IntKind.i64 0), (Value.int IntKind.i64 0), (Value.int IntKind.i64 0), (Value.int IntKind.i64 0), (Value.int IntKind.i64 0), (Value.bool false), (Value.slice none 0 0)] := by kernel_rfl
theorem fld47_0 : fldOf Try.prog 47 0 = some (0, 1, false) := by kernel_rfl
theorem fld47_1 : fldOf Try.prog 47 1 = some (1, 7, true) := by kernel_rfl
theorem fld47_2 : fldOf Try.prog 47 2 = some (8, 1, false) := by kernel_rfl
theorem fld47_3 : fldOf Try.prog 47 3 = some (9, 1, false) := by kernel_rfl
theorem fld47_4 : fldOf Try.prog 47 4 = some (10, 1, false) := by kernel_rfl
theorem fld47_5 : fldOf Try.prog 47 5 = some (11, 1, false) := by kernel_rfl
theorem fld47_6 : fldOf Try.prog 47 6 = some (12, 1, false) := by kernel_rfl
theorem fld47_7 : fldOf Try.prog 47 7 = some (13, 1, false) := by kernel_rfl
theorem fld47_8 : fldOf Try.prog 47 8 = some (14, 1, false) := by kernel_rfl
theorem fld47_9 : fldOf Try.prog 47 9 = some (15, 1, false) := by kernel_rfl
theorem fld47_10 : fldOf Try.prog 47 10 = some (16, 1, false) := by kernel_rfl
theorem plc47 : placesOf Try.prog 47 = some [(0, 1), (1, 7), (8, 1), (9, 1), (10, 1), (11, 1), (12, 1), (13, 1), (14, 1), (15, 1), (16, 1)] := by kernel_rfl
theorem row48 : rowOf Try.prog 48 = some (18, true) := by kernel_rfl
theorem zero48 : zeroOf Try.prog 48 = some [(Value.int IntKind.i64 0), (Value.int IntKind.i64 0), (Value.int IntKind.i64 0), (Value.string { data := #[] }), (Value.string { data := #[] }), (Value.int IntKind.i64 0), (Value.string { data := #[] }), (Value.int IntKind.i64 0), (Value.int IntKind.i64 0), (Value.string { data := #[] }), (Value.string { data := #[] }), (Value.int IntKind.i64 0), (Value.int IntKind.i64 0), (Value.int IntKind.i64 0), (Value.int IntKind.i64 0), (Value.int IntKind.i64 0), (Value.bool false), (Value.slice none 0 0)] := by kernel_rfl
theorem fld48_0 : fldOf Try.prog 48 0 = some (0, 1, false) := by kernel_rfl
theorem fld48_1 : fldOf Try.prog 48 1 = some (1, 17, true) := by kernel_rfl
theorem plc48 : placesOf Try.prog 48 = some [(0, 1), (1, 17)] := by kernel_rfl
theorem row49 : rowOf Try.prog 49 = some (18, true) := by kernel_rfl
theorem zero49 : zeroOf Try.prog 49 = some [(Value.int IntKind.i64 0), (Value.int IntKind.i64 0), (Value.int IntKind.i64 0), (Value.string { data := #[] }), (Value.string { data := #[] }), (Value.int IntKind.i64 0), (Value.string { data := #[] }), (Value.int IntKind.i64 0), (Value.int IntKind.i64 0), (Value.string { data := #[] }), (Value.string { data := #[] }), (Value.int IntKind.i64 0), (Value.int IntKind.i64 0), (Value.int IntKind.i64 0), (Value.int IntKind.i64 0), (Value.int IntKind.i64 0), (Value.bool false), (Value.slice none 0 0)] := by kernel_rfl
theorem fld49_0 : fldOf Try.prog 49 0 = some (0, 1, false) := by kernel_rfl
theorem fld49_1 : fldOf Try.prog 49 1 = some (1, 17, true) := by kernel_rfl
theorem plc49 : placesOf Try.prog 49 = some [(0, 1), (1, 17)] := by kernel_rfl
theorem row51 : rowOf Try.prog 51 = some (1, false) := by kernel_rfl
theorem zero51 : zeroOf Try.prog 51 = some [Value.nilFunc] := by kernel_rfl
theorem row52 : rowOf Try.prog 52 = some (1, false) := by kernel_rfl
theorem zero52 : zeroOf Try.prog 52 = some [Value.nilFunc] := by kernel_rfl
theorem row53 : rowOf Try.prog 53 = some (6, true) := by kernel_rfl
theorem zero53 : zeroOf Try.prog 53 = some [(Value.int IntKind.i64 0), (Value.bool false), (Value.int IntKind.i64 0), (Value.int IntKind.i64 0), (Value.slice none 0 0), (Value.slice none 0 0)] := by kernel_rfl
theorem fld53_0 : fldOf Try.prog 53 0 = some (0, 1, false) := by kernel_rfl
theorem fld53_1 : fldOf Try.prog 53 1 = some (1, 1, false) := by kernel_rfl
theorem fld53_2 : fldOf Try.prog 53 2 = some (2, 3, true) := by kernel_rfl
theorem fld53_3 : fldOf Try.prog 53 3 = some (5, 1, false) := by kernel_rfl
theorem plc53 : placesOf Try.prog 53 = some [(0, 1), (1, 1), (2, 3), (5, 1)] := by kernel_rfl
theorem row54 : rowOf Try.prog 54 = some (1, false) := by kernel_rfl
theorem zero54 : zeroOf Try.prog 54 = some [Value.nilFunc] := by kernel_rfl
theorem row56 : rowOf Try.prog 56 = some (1, false) := by kernel_rfl
theorem zero56 : zeroOf Try.prog 56 = some [Value.nilFunc] := by kernel_rfl
theorem row57 : rowOf Try.prog 57 = some (1, false) := by kernel_rfl
theorem zero57 : zeroOf Try.prog 57 = some [Value.nilFunc] := by kernel_rfl
theorem row58 : rowOf Try.prog 58 = some (1, false) := by kernel_rfl
theorem zero58 : zeroOf Try.prog 58 = some [Value.nilFunc] := by kernel_rfl
theorem row59 : rowOf Try.prog 59 = some (1, false) := by kernel_rfl
theorem zero59 : zeroOf Try.prog 59 = some [Value.nilFunc] := by kernel_rfl
theorem row60 : rowOf Try.prog 60 = some (1, false) := by kernel_rfl
theorem zero60 : zeroOf Try.prog 60 = some [(Value.slice none 0 0)] := by kernel_rfl
theorem ei3 : EI Try.prog 3 (Value.int IntKind.i64 0) 1 8 := ei_of (by kernel_rfl) rfl (by decide)
theorem row61 : rowOf Try.prog 61 = some (1, false) := by kernel_rfl
theorem zero61 : zeroOf Try.prog 61 = some [Value.nilFunc] := by kernel_rfl
theorem row62 : rowOf Try.prog 62 = some (1, false) := by kernel_rfl
theorem zero62 : zeroOf Try.prog 62 = some [Value.nilFunc] := by kernel_rfl
theorem row63 : rowOf Try.prog 63 = some (1, false) := by kernel_rfl
theorem zero63 : zeroOf Try.prog 63 = some [(Value.slice none 0 0)] := by kernel_rfl
theorem ei72 : EI Try.prog 72 (.agg #[(Value.int IntKind.i64 0), (Value.int IntKind.i64 0), (Value.int IntKind.i64 0), (Value.int IntKind.i64 0), (Value.int IntKind.i64 0), (Value.int IntKind.i64 0), (Value.int IntKind.i64 0), (Value.int IntKind.i64 0), (Value.int IntKind.i64 0), (Value.int IntKind.i64 0), (Value.string { data := #[] }), (Value.string { data := #[] }), (Value.int IntKind.i64 0), (Value.string { data := #[] }), (Value.int IntKind.i64 0), (Value.int IntKind.i64 0), (Value.string { data := #[] }), (Value.string { data := #[] }), (Value.int IntKind.i64 0), (Value.int IntKind.i64 0), (Value.int IntKind.i64 0), (Value.int IntKind.i64 0), (Value.int IntKind.i64 0), (Value.bool false), (Value.slice none 0 0), (Value.int IntKind.i64 0), (Value.bool false), (Value.int IntKind.i64 0), (Value.int IntKind.i64 0), (Value.slice none 0 0), (Value.slice none 0 0)]) 31 336 := ei_of (by kernel_rfl) rfl (by decide)
theorem row64 : rowOf Try.prog 64 = some (1, false) := by kernel_rfl
theorem zero64 : zeroOf Try.prog 64 = some [(Value.pointer none)] := by kernel_rfl
theorem row65 : rowOf Try.prog 65 = some (1, false) := by kernel_rfl
theorem zero65 : zeroOf Try.prog 65 = some [Value.nilFunc] := by kernel_rfl
theorem row66 : rowOf Try.prog 66 = some (1, false) := by kernel_rfl
theorem zero66 : zeroOf Try.prog 66 = some [(Value.pointer none)] := by kernel_rfl
theorem row67 : rowOf Try.prog 67 = some (4, true) := by kernel_rfl
theorem zero67 : zeroOf Try.prog 67 = some [(Value.int IntKind.i64 0), (Value.bool false), (Value.slice none 0 0), (Value.int IntKind.i64 0)] := by kernel_rfl
theorem fld67_0 : fldOf Try.prog 67 0 = some (0, 1, false) := by kernel_rfl
theorem fld67_1 : fldOf Try.prog 67 1 = some (1, 1, false) := by kernel_rfl
theorem fld67_2 : fldOf Try.prog 67 2 = some (2, 1, false) := by kernel_rfl
theorem fld67_3 : fldOf Try.prog 67 3 = some (3, 1, false) := by kernel_rfl
theorem plc67 : placesOf Try.prog 67 = some [(0, 1), (1, 1), (2, 1), (3, 1)] := by kernel_rfl
theorem row68 : rowOf Try.prog 68 = some (4, true) := by kernel_rfl
theorem zero68 : zeroOf Try.prog 68 = some [(Value.int IntKind.i64 0), (Value.bool false), (Value.slice none 0 0), (Value.int IntKind.i64 0)] := by kernel_rfl
theorem fld68_0 : fldOf Try.prog 68 0 = some (0, 1, false) := by kernel_rfl
theorem fld68_1 : fldOf Try.prog 68 1 = some (1, 1, false) := by kernel_rfl
theorem fld68_2 : fldOf Try.prog 68 2 = some (2, 1, false) := by kernel_rfl
theorem fld68_3 : fldOf Try.prog 68 3 = some (3, 1, false) := by kernel_rfl
theorem plc68 : placesOf Try.prog 68 = some [(0, 1), (1, 1), (2, 1), (3, 1)] := by kernel_rfl
theorem row69 : rowOf Try.prog 69 = some (6, true) := by kernel_rfl
theorem zero69 : zeroOf Try.prog 69 = some [(Value.int IntKind.i64 0), (Value.int IntKind.i64 0), (Value.int IntKind.i64 0), (Value.int IntKind.i64 0), (Value.int IntKind.i64 0), (Value.int IntKind.i64 0)] := by kernel_rfl
theorem fld69_0 : fldOf Try.prog 69 0 = some (0, 1, false) := by kernel_rfl
theorem fld69_1 : fldOf Try.prog 69 1 = some (1, 1, false) := by kernel_rfl
theorem fld69_2 : fldOf Try.prog 69 2 = some (2, 1, false) := by kernel_rfl
theorem fld69_3 : fldOf Try.prog 69 3 = some (3, 1, false) := by kernel_rfl
theorem fld69_4 : fldOf Try.prog 69 4 = some (4, 1, false) := by kernel_rfl
theorem fld69_5 : fldOf Try.prog 69 5 = some (5, 1, false) := by kernel_rfl
theorem plc69 : placesOf Try.prog 69 = some [(0, 1), (1, 1), (2, 1), (3, 1), (4, 1), (5, 1)] := by kernel_rfl
theorem row70 : rowOf Try.prog 70 = some (6, true) := by kernel_rfl
theorem zero70 : zeroOf Try.prog 70 = some [(Value.int IntKind.i64 0), (Value.int IntKind.i64 0), (Value.int IntKind.i64 0), (Value.int IntKind.i64 0), (Value.int IntKind.i64 0), (Value.int IntKind.i64 0)] := by kernel_rfl
theorem fld70_0 : fldOf Try.prog 70 0 = some (0, 1, false) := by kernel_rfl
theorem fld70_1 : fldOf Try.prog 70 1 = some (1, 1, false) := by kernel_rfl
theorem fld70_2 : fldOf Try.prog 70 2 = some (2, 1, false) := by kernel_rfl
theorem fld70_3 : fldOf Try.prog 70 3 = some (3, 1, false) := by kernel_rfl
theorem fld70_4 : fldOf Try.prog 70 4 = some (4, 1, false) := by kernel_rfl
theorem fld70_5 : fldOf Try.prog 70 5 = some (5, 1, false) := by kernel_rfl
theorem plc70 : placesOf Try.prog 70 = some [(0, 1), (1, 1), (2, 1), (3, 1), (4, 1), (5, 1)] := by kernel_rfl
theorem row71 : rowOf Try.prog 71 = some (31, true) := by kernel_rfl
theorem zero71 : zeroOf Try.prog 71 = some [(Value.int IntKind.i64 0), (Value.int IntKind.i64 0), (Value.int IntKind.i64 0), (Value.int IntKind.i64 0), (Value.int IntKind.i64 0), (Value.int IntKind.i64 0), (Value.int IntKind.i64 0), (Value.int IntKind.i64 0), (Value.int IntKind.i64 0), (Value.int IntKind.i64 0), (Value.string { data := #[] }), (Value.string { data := #[] }), (Value.int IntKind.i64 0), (Value.string { data := #[] }), (Value.int IntKind.i64 0), (Value.int IntKind.i64 0), (Value.string { data := #[] }), (Value.string { data := #[] }), (Value.int IntKind.i64 0), (Value.int IntKind.i64 0), (Value.int IntKind.i64 0), (Value.int IntKind.i64 0), (Value.int IntKind.i64 0), (Value.bool false), (Value.slice none 0 0), (Value.int IntKind.i64 0), (Value.bool false), (Value.int IntKind.i64 0), (Value.int IntKind.i64 0), (Value.slice none 0 0), (Value.slice none 0 0)] := by kernel_rfl
theorem fld71_0 : fldOf Try.prog 71 0 = some (0, 1, false) := by kernel_rfl
theorem fld71_1 : fldOf Try.prog 71 1 = some (1, 6, true) := by kernel_rfl
theorem fld71_2 : fldOf Try.prog 71 2 = some (7, 18, true) := by kernel_rfl
theorem fld71_3 : fldOf Try.prog 71 3 = some (25, 6, true) := by kernel_rfl
theorem plc71 : placesOf Try.prog 71 = some [(0, 1), (1, 6), (7, 18), (25, 6)] := by kernel_rfl
theorem row72 : rowOf Try.prog 72 = some (31, true) := by kernel_rfl
theorem zero72 : zeroOf Try.prog 72 = some [(Value.int IntKind.i64 0), (Value.int IntKind.i64 0), (Value.int IntKind.i64 0), (Value.int IntKind.i64 0), (Value.int IntKind.i64 0), (Value.int IntKind.i64 0), (Value.int IntKind.i64 0), (Value.int IntKind.i64 0), (Value.int IntKind.i64 0), (Value.int IntKind.i64 0), (Value.string { data := #[] }), (Value.string { data := #[] }), (Value.int IntKind.i64 0), (Value.string { data := #[] }), (Value.int IntKind.i64 0), (Value.int IntKind.i64 0), (Value.string { data := #[] }), (Value.string { data := #[] }), (Value.int IntKind.i64 0), (Value.int IntKind.i64 0), (Value.int IntKind.i64 0), (Value.int IntKind.i64 0), (Value.int IntKind.i64 0), (Value.bool false), (Value.slice none 0 0), (Value.int IntKind.i64 0), (Value.bool false), (Value.int IntKind.i64 0), (Value.int IntKind.i64 0), (Value.slice none 0 0), (Value.slice none 0 0)] := by kernel_rfl
theorem fld72_0 : fldOf Try.prog 72 0 = some (0, 1, false) := by kernel_rfl
theorem fld72_1 : fldOf Try.prog 72 1 = some (1, 6, true) := by kernel_rfl
theorem fld72_2 : fldOf Try.prog 72 2 = some (7, 18, true) := by kernel_rfl
theorem fld72_3 : fldOf Try.prog 72 3 = some (25, 6, true) := by kernel_rfl
theorem plc72 : placesOf Try.prog 72 = some [(0, 1), (1, 6), (7, 18), (25, 6)] := by kernel_rfl
theorem row73 : rowOf Try.prog 73 = some (1, false) := by kernel_rfl
theorem zero73 : zeroOf Try.prog 73 = some [Value.nilFunc] := by kernel_rfl
theorem row74 : rowOf Try.prog 74 = some (6, true) := by kernel_rfl
theorem zero74 : zeroOf Try.prog 74 = some [(Value.int IntKind.i64 0), (Value.int IntKind.i64 0), (Value.int IntKind.i64 0), (Value.int IntKind.i64 0), (Value.int IntKind.i64 0), (Value.int IntKind.i64 0)] := by kernel_rfl
theorem fld74_0 : fldOf Try.prog 74 0 = some (0, 1, false) := by kernel_rfl
theorem fld74_1 : fldOf Try.prog 74 1 = some (1, 1, false) := by kernel_rfl
theorem fld74_2 : fldOf Try.prog 74 2 = some (2, 1, false) := by kernel_rfl
theorem fld74_3 : fldOf Try.prog 74 3 = some (3, 1, false) := by kernel_rfl
theorem fld74_4 : fldOf Try.prog 74 4 = some (4, 1, false) := by kernel_rfl
theorem fld74_5 : fldOf Try.prog 74 5 = some (5, 1, false) := by kernel_rfl
theorem plc74 : placesOf Try.prog 74 = some [(0, 1), (1, 1), (2, 1), (3, 1), (4, 1), (5, 1)] := by kernel_rfl
theorem row75 : rowOf Try.prog 75 = some (1, false) := by kernel_rfl
theorem zero75 : zeroOf Try.prog 75 = some [Value.nilFunc] := by kernel_rfl
theorem row76 : rowOf Try.prog 76 = some (1, false) := by kernel_rfl
theorem zero76 : zeroOf Try.prog 76 = some [Value.nilFunc] := by kernel_rfl
theorem row77 : rowOf Try.prog 77 = some (1, false) := by kernel_rfl
theorem zero77 : zeroOf Try.prog 77 = some [Value.nilFunc] := by kernel_rfl
theorem row78 : rowOf Try.prog 78 = some (5, true) := by kernel_rfl
theorem zero78 : zeroOf Try.prog 78 = some [(Value.int IntKind.i64 0), (Value.int IntKind.i64 0), (Value.int IntKind.i64 0), (Value.int IntKind.i64 0), (Value.int IntKind.i64 0)] := by kernel_rfl
theorem fld78_0 : fldOf Try.prog 78 0 = some (0, 1, false) := by kernel_rfl
theorem fld78_1 : fldOf Try.prog 78 1 = some (1, 1, false) := by kernel_rfl
theorem fld78_2 : fldOf Try.prog 78 2 = some (2, 1, false) := by kernel_rfl
theorem fld78_3 : fldOf Try.prog 78 3 = some (3, 1, false) := by kernel_rfl
theorem fld78_4 : fldOf Try.prog 78 4 = some (4, 1, false) := by kernel_rfl
theorem plc78 : placesOf Try.prog 78 = some [(0, 1), (1, 1), (2, 1), (3, 1), (4, 1)] := by kernel_rfl
theorem row79 : rowOf Try.prog 79 = some (5, true) := by kernel_rfl
theorem zero79 : zeroOf Try.prog 79 = some [(Value.int IntKind.i64 0), (Value.int IntKind.i64 0), (Value.int IntKind.i64 0), (Value.int IntKind.i64 0), (Value.int IntKind.i64 0)] := by kernel_rfl
theorem fld79_0 : fldOf Try.prog 79 0 = some (0, 1, false) := by kernel_rfl
theorem fld79_1 : fldOf Try.prog 79 1 = some (1, 1, false) := by kernel_rfl
theorem fld79_2 : fldOf Try.prog 79 2 = some (2, 1, false) := by kernel_rfl
theorem fld79_3 : fldOf Try.prog 79 3 = some (3, 1, false) := by kernel_rfl
theorem fld79_4 : fldOf Try.prog 79 4 = some (4, 1, false) := by kernel_rfl
theorem plc79 : placesOf Try.prog 79 = some [(0, 1), (1, 1), (2, 1), (3, 1), (4, 1)] := by kernel_rfl
theorem row81 : rowOf Try.prog 81 = some (1, false) := by kernel_rfl
theorem zero81 : zeroOf Try.prog 81 = some [Value.nilFunc] := by kernel_rfl
theorem row82 : rowOf Try.prog 82 = some (5, true) := by kernel_rfl
theorem zero82 : zeroOf Try.prog 82 = some [(Value.int IntKind.i64 0), (Value.int IntKind.i64 0), (Value.int IntKind.i64 0), (Value.int IntKind.i64 0), (Value.int IntKind.i64 0)] := by kernel_rfl
theorem fld82_0 : fldOf Try.prog 82 0 = some (0, 1, false) := by kernel_rfl
theorem fld82_1 : fldOf Try.prog 82 1 = some (1, 1, false) := by kernel_rfl
theorem fld82_2 : fldOf Try.prog 82 2 = some (2, 1, false) := by kernel_rfl
theorem fld82_3 : fldOf Try.prog 82 3 = some (3, 1, false) := by kernel_rfl
theorem fld82_4 : fldOf Try.prog 82 4 = some (4, 1, false) := by kernel_rfl
theorem plc82 : placesOf Try.prog 82 = some [(0, 1), (1, 1), (2, 1), (3, 1), (4, 1)] := by kernel_rfl
theorem row84 : rowOf Try.prog 84 = some (1, false) := by kernel_rfl
theorem zero84 : zeroOf Try.prog 84 = some [Value.nilFunc] := by kernel_rfl
theorem row85 : rowOf Try.prog 85 = some (1, false) := by kernel_rfl
theorem zero85 : zeroOf Try.prog 85 = some [Value.nilFunc] := by kernel_rfl
theorem row86 : rowOf Try.prog 86 = some (1, false) := by kernel_rfl
theorem zero86 : zeroOf Try.prog 86 = some [Value.nilFunc] := by kernel_rfl
theorem row87 : rowOf Try.prog 87 = some (1, false) := by kernel_rfl
theorem zero87 : zeroOf Try.prog 87 = some [Value.nilFunc] := by kernel_rfl
theorem row88 : rowOf Try.prog 88 = some (1, false) := by kernel_rfl
theorem zero88 : zeroOf Try.prog 88 = some [(Value.slice none 0 0)] := by kernel_rfl
theorem ei4 : EI Try.prog 4 (Value.bool false) 1 1 := ei_of (by kernel_rfl) rfl (by decide)
theorem row89 : rowOf Try.prog 89 = some (1, false) := by kernel_rfl
theorem zero89 : zeroOf Try.prog 89 = some [Value.nilFunc] := by kernel_rfl
theorem row91 : rowOf Try.prog 91 = some (1, false) := by kernel_rfl
theorem zero91 : zeroOf Try.prog 91 = some [Value.nilFunc] := by kernel_rfl
theorem row92 : rowOf Try.prog 92 = some (1, false) := by kernel_rfl
theorem zero92 : zeroOf Try.prog 92 = some [Value.nilFunc] := by kernel_rfl
theorem row93 : rowOf Try.prog 93 = some (1, false) := by kernel_rfl
theorem zero93 : zeroOf Try.prog 93 = some [Value.nilFunc] := by kernel_rfl
theorem row94 : rowOf Try.prog 94 = some (1, false) := by kernel_rfl
theorem zero94 : zeroOf Try.prog 94 = some [Value.nilFunc] := by kernel_rfl
theorem row95 : rowOf Try.prog 95 = some (1, false) := by kernel_rfl
theorem zero95 : zeroOf Try.prog 95 = some [Value.nilFunc] := by kernel_rfl
theorem row97 : rowOf Try.prog 97 = some (1, false) := by kernel_rfl
theorem zero97 : zeroOf Try.prog 97 = some [Value.nilFunc] := by kernel_rfl
theorem row99 : rowOf Try.prog 99 = some (1, false) := by kernel_rfl
theorem zero99 : zeroOf Try.prog 99 = some [Value.nilFunc] := by kernel_rfl
theorem row101 : rowOf Try.prog 101 = some (1, false) := by kernel_rfl
theorem zero101 : zeroOf Try.prog 101 = some [Value.nilFunc] := by kernel_rfl
theorem row103 : rowOf Try.prog 103 = some (1, false) := by kernel_rfl
theorem zero103 : zeroOf Try.prog 103 = some [Value.nilFunc] := by kernel_rfl
theorem row104 : rowOf Try.prog 104 = some (1, false) := by kernel_rfl
theorem zero104 : zeroOf Try.prog 104 = some [Value.nilFunc] := by kernel_rfl
theorem row105 : rowOf Try.prog 105 = some (1, false) := by kernel_rfl
theorem zero105 : zeroOf Try.prog 105 = some [Value.nilFunc] := by kernel_rfl
theorem row106 : rowOf Try.prog 106 = some (1, false) := by kernel_rfl
theorem zero106 : zeroOf Try.prog 106 = some [Value.nilFunc] := by kernel_rfl
theorem row107 : rowOf Try.prog 107 = some (2, true) := by kernel_rfl
theorem zero107 : zeroOf Try.prog 107 = some [(Value.string { data := #[] }), (Value.int IntKind.i64 0)] := by kernel_rfl
theorem fld107_0 : fldOf Try.prog 107 0 = some (0, 1, false) := by kernel_rfl
theorem fld107_1 : fldOf Try.prog 107 1 = some (1, 1, false) := by kernel_rfl
theorem plc107 : placesOf Try.prog 107 = some [(0, 1), (1, 1)] := by kernel_rfl
theorem row108 : rowOf Try.prog 108 = some (2, true) := by kernel_rfl
theorem zero108 : zeroOf Try.prog 108 = some [(Value.string { data := #[] }), (Value.int IntKind.i64 0)] := by kernel_rfl
theorem fld108_0 : fldOf Try.prog 108 0 = some (0, 1, false) := by kernel_rfl
theorem fld108_1 : fldOf Try.prog 108 1 = some (1, 1, false) := by kernel_rfl
theorem plc108 : placesOf Try.prog 108 = some [(0, 1), (1, 1)] := by kernel_rfl
theorem row109 : rowOf Try.prog 109 = some (1, false) := by kernel_rfl
theorem zero109 : zeroOf Try.prog 109 = some [Value.nilFunc] := by kernel_rfl
theorem row110 : rowOf Try.prog 110 = some (1, false) := by kernel_rfl
theorem zero110 : zeroOf Try.prog 110 = some [(Value.slice none 0 0)] := by kernel_rfl
theorem ei116 : EI Try.prog 116 (.agg #[(Value.int IntKind.i64 0), (Value.int IntKind.i64 0), (Value.int IntKind.i64 0), (Value.int IntKind.i64 0), (Value.int IntKind.i64 0), (Value.int IntKind.i64 0), (Value.string { data := #[] }), (Value.string { data := #[] }), (Value.int IntKind.i64 0), (Value.string { data := #[] }), (Value.int IntKind.i64 0), (Value.int IntKind.i64 0), (Value.string { data := #[] }), (Value.string { data := #[] }), (Value.int IntKind.i64 0), (Value.int IntKind.i64 0), (Value.int IntKind.i64 0), (Value.int IntKind.i64 0), (Value.int IntKind.i64 0), (Value.bool false), (Value.slice none 0 0), (Value.int IntKind.i64 0), (Value.bool false), (Value.int IntKind.i64 0), (Value.int IntKind.i64 0), (Value.slice none 0 0), (Value.slice none 0 0), (Value.int IntKind.i64 0)]) 28 312 := ei_of (by kernel_rfl) rfl (by decide)
theorem row111 : rowOf Try.prog 111 = some (1, false) := by kernel_rfl
theorem zero111 : zeroOf Try.prog 111 = some [(Value.pointer none)] := by kernel_rfl
theorem row112 : rowOf Try.prog 112 = some (1, false) := by kernel_rfl
theorem zero112 : zeroOf Try.prog 112 = some [Value.nilFunc] := by kernel_rfl
theorem row113 : rowOf Try.prog 113 = some (1, false) := by kernel_rfl
theorem zero113 : zeroOf Try.prog 113 = some [(Value.pointer none)] := by kernel_rfl
theorem row114 : rowOf Try.prog 114 = some (1, false) := by kernel_rfl
theorem zero114 : zeroOf Try.prog 114 = some [Value.nilFunc] := by kernel_rfl
theorem row115 : rowOf Try.prog 115 = some (28, true) := by kernel_rfl
theorem zero115 : zeroOf Try.prog 115 = some [(Value.int IntKind.i64 0), (Value.int IntKind.i64 0), (Value.int IntKind.i64 0), (Value.int IntKind.i64 0), (Value.int IntKind.i64 0), (Value.int IntKind.i64 0), (Value.string { data := #[] }), (Value.string { data := #[] }), (Value.int IntKind.i64 0), (Value.string { data := #[] }), (Value.int IntKind.i64 0), (Value.int IntKind.i64 0), (Value.string { data := #[] }), (Value.string { data := #[] }), (Value.int IntKind.i64 0), (Value.int IntKind.i64 0), (Value.int IntKind.i64 0), (Value.int IntKind.i64 0), (Value.int IntKind.i64 0), (Value.bool false), (Value.slice none 0 0), (Value.int IntKind.i64 0), (Value.bool false), (Value.int IntKind.i64 0), (Value.int IntKind.i64 0), (Value.slice none 0 0), (Value.slice none 0 0), (Value.int IntKind.i64 0)] := by kernel_rfl
theorem fld115_0 : fldOf Try.prog 115 0 = some (0, 1, false) := by kernel_rfl
theorem fld115_1 : fldOf Try.prog 115 1 = some (1, 1, false) := by kernel_rfl
theorem fld115_2 : fldOf Try.prog 115 2 = some (2, 1, false) := by kernel_rfl
theorem fld115_3 : fldOf Try.prog 115 3 = some (3, 18, true) := by kernel_rfl
theorem fld115_4 : fldOf Try.prog 115 4 = some (21, 6, true) := by kernel_rfl
theorem fld115_5 : fldOf Try.prog 115 5 = some (27, 1, false) := by kernel_rfl
theorem plc115 : placesOf Try.prog 115 = some [(0, 1), (1, 1), (2, 1), (3, 18), (21, 6), (27, 1)] := by kernel_rfl
theorem row116 : rowOf Try.prog 116 = some (28, true) := by kernel_rfl
theorem zero116 : zeroOf Try.prog 116 = some [(Value.int IntKind.i64 0), (Value.int IntKind.i64 0), (Value.int IntKind.i64 0), (Value.int IntKind.i64 0), (Value.int IntKind.i64 0), (Value.int IntKind.i64 0), (Value.string { data := #[] }), (Value.string { data := #[] }), (Value.int IntKind.i64 0), (Value.string { data := #[] }), (Value.int IntKind.i64 0), (Value.int IntKind.i64 0), (Value.string { data := #[] }), (Value.string { data := #[] }), (Value.int IntKind.i64 0), (Value.int IntKind.i64 0), (Value.int IntKind.i64 0), (Value.int IntKind.i64 0), (Value.int IntKind.i64 0), (Value.bool false), (Value.slice none 0 0), (Value.int IntKind.i64 0), (Value.bool false), (Value.int IntKind.i64 0), (Value.int IntKind.i64 0), (Value.slice none 0 0), (Value.slice none 0 0), (Value.int IntKind.i64 0)] := by kernel_rfl
theorem fld116_0 : fldOf Try.prog 116 0 = some (0, 1, false) := by kernel_rfl
theorem fld116_1 : fldOf Try.prog 116 1 = some (1, 1, false) := by kernel_rfl
theorem fld116_2 : fldOf Try.prog 116 2 = some (2, 1, false) := by kernel_rfl
theorem fld116_3 : fldOf Try.prog 116 3 = some (3, 18, true) := by kernel_rfl
theorem fld116_4 : fldOf Try.prog 116 4 = some (21, 6, true) := by kernel_rfl
theorem fld116_5 : fldOf Try.prog 116 5 = some (27, 1, false) := by kernel_rfl
theorem plc116 : placesOf Try.prog 116 = some [(0, 1), (1, 1), (2, 1), (3, 18), (21, 6), (27, 1)] := by kernel_rfl
theorem row117 : rowOf Try.prog 117 = some (1, false) := by kernel_rfl
theorem zero117 : zeroOf Try.prog 117 = some [Value.nilFunc] := by kernel_rfl
theorem row118 : rowOf Try.prog 118 = some (1, false) := by kernel_rfl
theorem zero118 : zeroOf Try.prog 118 = some [Value.nilFunc] := by kernel_rfl
theorem row119 : rowOf Try.prog 119 = some (1, false) := by kernel_rfl
theorem zero119 : zeroOf Try.prog 119 = some [Value.nilFunc] := by kernel_rfl
theorem row120 : rowOf Try.prog 120 = some (1, false) := by kernel_rfl
theorem zero120 : zeroOf Try.prog 120 = some [Value.nilFunc] := by kernel_rfl
theorem row122 : rowOf Try.prog 122 = some (1, false) := by kernel_rfl
theorem zero122 : zeroOf Try.prog 122 = some [Value.nilFunc] := by kernel_rfl
theorem row123 : rowOf Try.prog 123 = some (1, false) := by kernel_rfl
theorem zero123 : zeroOf Try.prog 123 = some [Value.nilFunc] := by kernel_rfl
theorem row124 : rowOf Try.prog 124 = some (1, false) := by kernel_rfl
theorem zero124 : zeroOf Try.prog 124 = some [Value.nilFunc] := by kernel_rfl
theorem row125 : rowOf Try.prog 125 = some (1, false) := by kernel_rfl
theorem zero125 : zeroOf Try.prog 125 = some [Value.nilFunc] := by kernel_rfl
theorem row126 : rowOf Try.prog 126 = some (1, false) := by kernel_rfl
theorem zero126 : zeroOf Try.prog 126 = some [Value.nilFunc] := by kernel_rfl
theorem row127 : rowOf Try.prog 127 = some (1, false) := by kernel_rfl
theorem zero127 : zeroOf Try.prog 127 = some [(Value.slice none 0 0)] := by kernel_rfl
theorem ei31 : EI Try.prog 31 (Value.slice none 0 0) 1 24 := ei_of (by kernel_rfl) rfl (by decide)
theorem row128 : rowOf Try.prog 128 = some (1, false) := by kernel_rfl
theorem zero128 : zeroOf Try.prog 128 = some [Value.nilFunc] := by kernel_rfl
theorem row129 : rowOf Try.prog 129 = some (1, false) := by kernel_rfl
theorem zero129 : zeroOf Try.prog 129 = some [Value.nilFunc] := by kernel_rfl
theorem row130 : rowOf Try.prog 130 = some (1, false) := by kernel_rfl
theorem zero130 : zeroOf Try.prog 130 = some [Value.nilFunc] := by kernel_rfl
theorem row131 : rowOf Try.prog 131 = some (1, false) := by kernel_rfl
theorem zero131 : zeroOf Try.prog 131 = some [Value.nilFunc] := by kernel_rfl
theorem row132 : rowOf Try.prog 132 = some (1, false) := by kernel_rfl
theorem zero132 : zeroOf Try.prog 132 = some [Value.nilFunc] := by kernel_rfl
theorem row133 : rowOf Try.prog 133 = some (3, true) := by kernel_rfl
theorem zero133 : zeroOf Try.prog 133 = some [(Value.int IntKind.i64 0), (Value.slice none 0 0), (Value.int IntKind.i64 0)] := by kernel_rfl
theorem fld133_0 : fldOf Try.prog 133 0 = some (0, 1, false) := by kernel_rfl
theorem fld133_1 : fldOf Try.prog 133 1 = some (1, 1, false) := by kernel_rfl
theorem fld133_2 : fldOf Try.prog 133 2 = some (2, 1, false) := by kernel_rfl
theorem plc133 : placesOf Try.prog 133 = some [(0, 1), (1, 1), (2, 1)] := by kernel_rfl
theorem row134 : rowOf Try.prog 134 = some (3, true) := by kernel_rfl
theorem zero134 : zeroOf Try.prog 134 = some [(Value.int IntKind.i64 0), (Value.slice none 0 0), (Value.int IntKind.i64 0)] := by kernel_rfl
theorem fld134_0 : fldOf Try.prog 134 0 = some (0, 1, false) := by kernel_rfl
theorem fld134_1 : fldOf Try.prog 134 1 = some (1, 1, false) := by kernel_rfl
theorem fld134_2 : fldOf Try.prog 134 2 = some (2, 1, false) := by kernel_rfl
theorem plc134 : placesOf Try.prog 134 = some [(0, 1), (1, 1), (2, 1)] := by kernel_rfl
theorem row135 : rowOf Try.prog 135 = some (1, false) := by kernel_rfl
theorem zero135 : zeroOf Try.prog 135 = some [Value.nilFunc] := by kernel_rfl
theorem row136 : rowOf Try.prog 136 = some (1, false) := by kernel_rfl
theorem zero136 : zeroOf Try.prog 136 = some [Value.nilFunc] := by kernel_rfl
theorem row137 : rowOf Try.prog 137 = some (1, false) := by kernel_rfl
theorem zero137 : zeroOf Try.prog 137 = some [Value.nilFunc] := by kernel_rfl
theorem row138 : rowOf Try.prog 138 = some (1, false) := by kernel_rfl
theorem zero138 : zeroOf Try.prog 138 = some [Value.nilFunc] := by kernel_rfl
theorem row139 : rowOf Try.prog 139 = some (1, false) := by kernel_rfl
theorem zero139 : zeroOf Try.prog 139 = some [Value.nilFunc] := by kernel_rfl
theorem row140 : rowOf Try.prog 140 = some (1, false) := by kernel_rfl
theorem zero140 : zeroOf Try.prog 140 = some [Value.nilFunc] := by kernel_rfl
theorem row141 : rowOf Try.prog 141 = some (1, false) := by kernel_rfl
theorem zero141 : zeroOf Try.prog 141 = some [Value.nilFunc] := by kernel_rfl
theorem row142 : rowOf Try.prog 142 = some (1, false) := by kernel_rfl
theorem zero142 : zeroOf Try.prog 142 = some [Value.nilFunc] := by kernel_rfl
theorem row143 : rowOf Try.prog 143 = some (1, false) := by kernel_rfl
theorem zero143 : zeroOf Try.prog 143 = some [Value.nilFunc] := by kernel_rfl
theorem row144 : rowOf Try.prog 144 = some (1, false) := by kernel_rfl
theorem zero144 : zeroOf Try.prog 144 = some [Value.nilFunc] := by kernel_rfl
theorem row145 : rowOf Try.prog 145 = some (1, false) := by kernel_rfl
theorem zero145 : zeroOf Try.prog 145 = some [Value.nilFunc] := by kernel_rfl
theorem row146 : rowOf Try.prog 146 = some (1, false) := by kernel_rfl
theorem zero146 : zeroOf Try.prog 146 = some [(Value.pointer none)] := by kernel_rfl
theorem row147 : rowOf Try.prog 147 = some (1, false) := by kernel_rfl
theorem zero147 : zeroOf Try.prog 147 = some [Value.nilFunc] := by kernel_rfl
theorem row148 : rowOf Try.prog 148 = some (1, false) := by kernel_rfl
theorem zero148 : zeroOf Try.prog 148 = some [Value.nilFunc] := by kernel_rfl
theorem row149 : rowOf Try.prog 149 = some (1, false) := by kernel_rfl
theorem zero149 : zeroOf Try.prog 149 = some [Value.nilFunc] := by kernel_rfl
theorem row150 : rowOf Try.prog 150 = some (1, false) := by kernel_rfl
theorem zero150 : zeroOf Try.prog 150 = some [Value.nilFunc] := by kernel_rfl
theorem row152 : rowOf Try.prog 152 = some (1, false) := by kernel_rfl
theorem zero152 : zeroOf Try.prog 152 = some [Value.nilFunc] := by kernel_rfl
theorem row153 : rowOf Try.prog 153 = some (1, false) := by kernel_rfl
theorem zero153 : zeroOf Try.prog 153 = some [(Value.pointer none)] := by kernel_rfl
theorem row154 : rowOf Try.prog 154 = some (1, false) := by kernel_rfl
theorem zero154 : zeroOf Try.prog 154 = some [Value.nilFunc] := by kernel_rfl
theorem row156 : rowOf Try.prog 156 = some (1, false) := by kernel_rfl
theorem zero156 : zeroOf Try.prog 156 = some [Value.nilFunc] := by kernel_rfl
theorem row157 : rowOf Try.prog 157 = some (1, false) := by kernel_rfl
theorem zero157 : zeroOf Try.prog 157 = some [Value.nilFunc] := by kernel_rfl
theorem row158 : rowOf Try.prog 158 = some (1, false) := by kernel_rfl
theorem zero158 : zeroOf Try.prog 158 = some [Value.nilFunc] := by kernel_rfl
theorem row159 : rowOf Try.prog 159 = some (1, false) := by kernel_rfl
theorem zero159 : zeroOf Try.prog 159 = some [Value.nilFunc] := by kernel_rfl
theorem row160 : rowOf Try.prog 160 = some (1, false) := by kernel_rfl
theorem zero160 : zeroOf Try.prog 160 = some [(Value.slice none 0 0)] := by kernel_rfl
theorem ei170 : EI Try.prog 170 (.agg #[(Value.bool false), (Value.slice none 0 0)]) 2 32 := ei_of (by kernel_rfl) rfl (by decide)
theorem row161 : rowOf Try.prog 161 = some (4, true) := by kernel_rfl
theorem zero161 : zeroOf Try.prog 161 = some [(Value.int IntKind.i64 0), (Value.int IntKind.i64 0), (Value.bool false), (Value.slice none 0 0)] := by kernel_rfl
theorem fld161_0 : fldOf Try.prog 161 0 = some (0, 1, false) := by kernel_rfl
theorem fld161_1 : fldOf Try.prog 161 1 = some (1, 1, false) := by kernel_rfl
theorem fld161_2 : fldOf Try.prog 161 2 = some (2, 1, false) := by kernel_rfl
theorem fld161_3 : fldOf Try.prog 161 3 = some (3, 1, false) := by kernel_rfl
theorem plc161 : placesOf Try.prog 161 = some [(0, 1), (1, 1), (2, 1), (3, 1)] := by kernel_rfl
theorem row162 : rowOf Try.prog 162 = some (4, true) := by kernel_rfl
theorem zero162 : zeroOf Try.prog 162 = some [(Value.int IntKind.i64 0), (Value.int IntKind.i64 0), (Value.bool false), (Value.slice none 0 0)] := by kernel_rfl
theorem fld162_0 : fldOf Try.prog 162 0 = some (0, 1, false) := by kernel_rfl
theorem fld162_1 : fldOf Try.prog 162 1 = some (1, 1, false) := by kernel_rfl
theorem fld162_2 : fldOf Try.prog 162 2 = some (2, 1, false) := by kernel_rfl
theorem fld162_3 : fldOf Try.prog 162 3 = some (3, 1, false) := by kernel_rfl
theorem plc162 : placesOf Try.prog 162 = some [(0, 1), (1, 1), (2, 1), (3, 1)] := by kernel_rfl
theorem row163 : rowOf Try.prog 163 = some (5, true) := by kernel_rfl
theorem zero163 : zeroOf Try.prog 163 = some [(Value.int IntKind.i64 0), (Value.int IntKind.i64 0), (Value.slice none 0 0), (Value.bool false), (Value.slice none 0 0)] := by kernel_rfl
theorem fld163_0 : fldOf Try.prog 163 0 = some (0, 1, false) := by kernel_rfl
theorem fld163_1 : fldOf Try.prog 163 1 = some (1, 1, false) := by kernel_rfl
theorem fld163_2 : fldOf Try.prog 163 2 = some (2, 1, false) := by kernel_rfl
theorem fld163_3 : fldOf Try.prog 163 3 = some (3, 1, false) := by kernel_rfl
theorem fld163_4 : fldOf Try.prog 163 4 = some (4, 1, false) := by kernel_rfl
theorem plc163 : placesOf Try.prog 163 = some [(0, 1), (1, 1), (2, 1), (3, 1), (4, 1)] := by kernel_rfl
theorem row164 : rowOf Try.prog 164 = some (5, true) := by kernel_rfl
theorem zero164 : zeroOf Try.prog 164 = some [(Value.int IntKind.i64 0), (Value.int IntKind.i64 0), (Value.slice none 0 0), (Value.bool false), (Value.slice none 0 0)] := by kernel_rfl
theorem fld164_0 : fldOf Try.prog 164 0 = some (0, 1, false) := by kernel_rfl
theorem fld164_1 : fldOf Try.prog 164 1 = some (1, 1, false) := by kernel_rfl
theorem fld164_2 : fldOf Try.prog 164 2 = some (2, 1, false) := by kernel_rfl
theorem fld164_3 : fldOf Try.prog 164 3 = some (3, 1, false) := by kernel_rfl
theorem fld164_4 : fldOf Try.prog 164 4 = some (4, 1, false) := by kernel_rfl
theorem plc164 : placesOf Try.prog 164 = some [(0, 1), (1, 1), (2, 1), (3, 1), (4, 1)] := by kernel_rfl
theorem row165 : rowOf Try.prog 165 = some (1, false) := by kernel_rfl
theorem zero165 : zeroOf Try.prog 165 = some [Value.nilFunc] := by kernel_rfl
theorem row166 : rowOf Try.prog 166 = some (1, false) := by kernel_rfl
theorem zero166 : zeroOf Try.prog 166 = some [Value.nilFunc] := by kernel_rfl
theorem row167 : rowOf Try.prog 167 = some (1, false) := by kernel_rfl
theorem zero167 : zeroOf Try.prog 167 = some [Value.nilFunc] := by kernel_rfl
theorem row168 : rowOf Try.prog 168 = some (1, false) := by kernel_rfl
theorem zero168 : zeroOf Try.prog 168 = some [(Value.pointer none)] := by kernel_rfl
theorem row169 : rowOf Try.prog 169 = some (2, true) := by kernel_rfl
theorem zero169 : zeroOf Try.prog 169 = some [(Value.bool false), (Value.slice none 0 0)] := by kernel_rfl
theorem fld169_0 : fldOf Try.prog 169 0 = some (0, 1, false) := by kernel_rfl
theorem fld169_1 : fldOf Try.prog 169 1 = some (1, 1, false) := by kernel_rfl
theorem plc169 : placesOf Try.prog 169 = some [(0, 1), (1, 1)] := by kernel_rfl
theorem row170 : rowOf Try.prog 170 = some (2, true) := by kernel_rfl
theorem zero170 : zeroOf Try.prog 170 = some [(Value.bool false), (Value.slice none 0 0)] := by kernel_rfl
theorem fld170_0 : fldOf Try.prog 170 0 = some (0, 1, false) := by kernel_rfl
theorem fld170_1 : fldOf Try.prog 170 1 = some (1, 1, false) := by kernel_rfl
theorem plc170 : placesOf Try.prog 170 = some [(0, 1), (1, 1)] := by kernel_rfl
theorem row171 : rowOf Try.prog 171 = some (1, false) := by kernel_rfl
theorem zero171 : zeroOf Try.prog 171 = some [Value.nilFunc] := by kernel_rfl
theorem row172 : rowOf Try.prog 172 = some (1, false) := by kernel_rfl
theorem zero172 : zeroOf Try.prog 172 = some [Value.nilFunc] := by kernel_rfl
theorem row173 : rowOf Try.prog 173 = some (1, false) := by kernel_rfl
theorem zero173 : zeroOf Try.prog 173 = some [Value.nilFunc] := by kernel_rfl
theorem row174 : rowOf Try.prog 174 = some (1, false) := by kernel_rfl
theorem zero174 : zeroOf Try.prog 174 = some [Value.nilFunc] := by kernel_rfl
theorem row175 : rowOf Try.prog 175 = some (1, false) := by kernel_rfl
theorem zero175 : zeroOf Try.prog 175 = some [Value.nilFunc] := by kernel_rfl
theorem row176 : rowOf Try.prog 176 = some (1, false) := by kernel_rfl
theorem zero176 : zeroOf Try.prog 176 = some [Value.nilFunc] := by kernel_rfl
theorem row177 : rowOf Try.prog 177 = some (1, false) := by kernel_rfl
theorem zero177 : zeroOf Try.prog 177 = some [Value.nilFunc] := by kernel_rfl
theorem row178 : rowOf Try.prog 178 = some (1, false) := by kernel_rfl
theorem zero178 : zeroOf Try.prog 178 = some [Value.nilFunc] := by kernel_rfl
theorem row179 : rowOf Try.prog 179 = some (1, false) := by kernel_rfl
theorem zero179 : zeroOf Try.prog 179 = some [Value.nilFunc] := by kernel_rfl
theorem row181 : rowOf Try.prog 181 = some (1, false) := by kernel_rfl
theorem zero181 : zeroOf Try.prog 181 = some [Value.nilFunc] := by kernel_rfl
theorem row182 : rowOf Try.prog 182 = some (1, false) := by kernel_rfl
theorem zero182 : zeroOf Try.prog 182 = some [Value.nilFunc] := by kernel_rfl
theorem row183 : rowOf Try.prog 183 = some (1, false) := by kernel_rfl
theorem zero183 : zeroOf Try.prog 183 = some [(Value.int IntKind.u64 0)] := by kernel_rfl
theorem row184 : rowOf Try.prog 184 = some (1, false) := by kernel_rfl
theorem zero184 : zeroOf Try.prog 184 = some [(Value.int IntKind.u64 0)] := by kernel_rfl
theorem row185 : rowOf Try.prog 185 = some (1, false) := by kernel_rfl
theorem zero185 : zeroOf Try.prog 185 = some [Value.nilFunc] := by kernel_rfl
theorem row186 : rowOf Try.prog 186 = some (1, false) := by kernel_rfl
theorem zero186 : zeroOf Try.prog 186 = some [Value.nilFunc] := by kernel_rfl
theorem row187 : rowOf Try.prog 187 = some (1, false) := by kernel_rfl
theorem zero187 : zeroOf Try.prog 187 = some [(Value.slice none 0 0)] := by kernel_rfl
theorem ei2 : EI Try.prog 2 (Value.int IntKind.i64 0) 1 8 := ei_of (by kernel_rfl) rfl (by decide)
theorem row188 : rowOf Try.prog 188 = some (3, true) := by kernel_rfl
theorem zero188 : zeroOf Try.prog 188 = some [(Value.slice none 0 0), (Value.int IntKind.i64 0), (Value.int IntKind.i64 0)] := by kernel_rfl
theorem fld188_0 : fldOf Try.prog 188 0 = some (0, 1, false) := by kernel_rfl
theorem fld188_1 : fldOf Try.prog 188 1 = some (1, 1, false) := by kernel_rfl
theorem fld188_2 : fldOf Try.prog 188 2 = some (2, 1, false) := by kernel_rfl
theorem plc188 : placesOf Try.prog 188 = some [(0, 1), (1, 1), (2, 1)] := by kernel_rfl
theorem row189 : rowOf Try.prog 189 = some (3, true) := by kernel_rfl
theorem zero189 : zeroOf Try.prog 189 = some [(Value.slice none 0 0), (Value.int IntKind.i64 0), (Value.int IntKind.i64 0)] := by kernel_rfl
theorem fld189_0 : fldOf Try.prog 189 0 = some (0, 1, false) := by kernel_rfl
theorem fld189_1 : fldOf Try.prog 189 1 = some (1, 1, false) := by kernel_rfl
theorem fld189_2 : fldOf Try.prog 189 2 = some (2, 1, false) := by kernel_rfl
theorem plc189 : placesOf Try.prog 189 = some [(0, 1), (1, 1), (2, 1)] := by kernel_rfl
theorem row190 : rowOf Try.prog 190 = some (1, false) := by kernel_rfl
theorem zero190 : zeroOf Try.prog 190 = some [Value.nilFunc] := by kernel_rfl
theorem row191 : rowOf Try.prog 191 = some (1, false) := by kernel_rfl
theorem zero191 : zeroOf Try.prog 191 = some [Value.nilFunc] := by kernel_rfl
theorem row192 : rowOf Try.prog 192 = some (1, false) := by kernel_rfl
theorem zero192 : zeroOf Try.prog 192 = some [Value.nilFunc] := by kernel_rfl
theorem row193 : rowOf Try.prog 193 = some (3, true) := by kernel_rfl
theorem zero193 : zeroOf Try.prog 193 = some [(Value.slice none 0 0), (Value.int IntKind.i64 0), (Value.int IntKind.i64 0)] := by kernel_rfl
theorem fld193_0 : fldOf Try.prog 193 0 = some (0, 1, false) := by kernel_rfl
theorem fld193_1 : fldOf Try.prog 193 1 = some (1, 1, false) := by kernel_rfl
theorem fld193_2 : fldOf Try.prog 193 2 = some (2, 1, false) := by kernel_rfl
theorem plc193 : placesOf Try.prog 193 = some [(0, 1), (1, 1), (2, 1)] := by kernel_rfl
theorem row194 : rowOf Try.prog 194 = some (3, true) := by kernel_rfl
theorem zero194 : zeroOf Try.prog 194 = some [(Value.slice none 0 0), (Value.int IntKind.i64 0), (Value.int IntKind.i64 0)] := by kernel_rfl
theorem fld194_0 : fldOf Try.prog 194 0 = some (0, 1, false) := by kernel_rfl
theorem fld194_1 : fldOf Try.prog 194 1 = some (1, 1, false) := by kernel_rfl
theorem fld194_2 : fldOf Try.prog 194 2 = some (2, 1, false) := by kernel_rfl
theorem plc194 : placesOf Try.prog 194 = some [(0, 1), (1, 1), (2, 1)] := by kernel_rfl
theorem row195 : rowOf Try.prog 195 = some (1, false) := by kernel_rfl
theorem zero195 : zeroOf Try.prog 195 = some [Value.nilFunc] := by kernel_rfl
theorem row196 : rowOf Try.prog 196 = some (1, false) := by kernel_rfl
theorem zero196 : zeroOf Try.prog 196 = some [Value.nilFunc] := by kernel_rfl
theorem row197 : rowOf Try.prog 197 = some (1, false) := by kernel_rfl
theorem zero197 : zeroOf Try.prog 197 = some [Value.nilFunc] := by kernel_rfl
theorem row198 : rowOf Try.prog 198 = some (1, false) := by kernel_rfl
theorem zero198 : zeroOf Try.prog 198 = some [Value.nilFunc] := by kernel_rfl
theorem row200 : rowOf Try.prog 200 = some (1, false) := by kernel_rfl
theorem zero200 : zeroOf Try.prog 200 = some [Value.nilFunc] := by kernel_rfl
theorem row201 : rowOf Try.prog 201 = some (1, false) := by kernel_rfl
theorem zero201 : zeroOf Try.prog 201 = some [Value.nilFunc] := by kernel_rfl
theorem row202 : rowOf Try.prog 202 = some (1, false) := by kernel_rfl
theorem zero202 : zeroOf Try.prog 202 = some [Value.nilFunc] := by kernel_rfl
theorem row203 : rowOf Try.prog 203 = some (4, true) := by kernel_rfl
theorem zero203 : zeroOf Try.prog 203 = some [(Value.pointer none), (Value.pointer none), (Value.pointer none), (Value.string { data := #[] })] := by kernel_rfl
theorem fld203_0 : fldOf Try.prog 203 0 = some (0, 1, false) := by kernel_rfl
theorem fld203_1 : fldOf Try.prog 203 1 = some (1, 1, false) := by kernel_rfl
theorem fld203_2 : fldOf Try.prog 203 2 = some (2, 1, false) := by kernel_rfl
theorem fld203_3 : fldOf Try.prog 203 3 = some (3, 1, false) := by kernel_rfl
theorem plc203 : placesOf Try.prog 203 = some [(0, 1), (1, 1), (2, 1), (3, 1)] := by kernel_rfl
theorem row204 : rowOf Try.prog 204 = some (4, true) := by kernel_rfl
theorem zero204 : zeroOf Try.prog 204 = some [(Value.pointer none), (Value.pointer none), (Value.pointer none), (Value.string { data := #[] })] := by kernel_rfl
theorem fld204_0 : fldOf Try.prog 204 0 = some (0, 1, false) := by kernel_rfl
theorem fld204_1 : fldOf Try.prog 204 1 = some (1, 1, false) := by kernel_rfl
theorem fld204_2 : fldOf Try.prog 204 2 = some (2, 1, false) := by kernel_rfl
theorem fld204_3 : fldOf Try.prog 204 3 = some (3, 1, false) := by kernel_rfl
theorem plc204 : placesOf Try.prog 204 = some [(0, 1), (1, 1), (2, 1), (3, 1)] := by kernel_rfl
theorem row205 : rowOf Try.prog 205 = some (0, true) := by kernel_rfl
theorem zero205 : zeroOf Try.prog 205 = some [] := by kernel_rfl
theorem row206 : rowOf Try.prog 206 = some (0, true) := by kernel_rfl
theorem zero206 : zeroOf Try.prog 206 = some [] := by kernel_rfl
theorem fld206_0 : fldOf Try.prog 206 0 = some (0, 0, true) := by kernel_rfl
theorem plc206 : placesOf Try.prog 206 = some [(0, 0)] := by kernel_rfl
theorem row207 : rowOf Try.prog 207 = some (0, true) := by kernel_rfl
theorem zero207 : zeroOf Try.prog 207 = some [] := by kernel_rfl
theorem fld207_0 : fldOf Try.prog 207 0 = some (0, 0, true) := by kernel_rfl
theorem plc207 : placesOf Try.prog 207 = some [(0, 0)] := by kernel_rfl
theorem row208 : rowOf Try.prog 208 = some (1, false) := by kernel_rfl
theorem zero208 : zeroOf Try.prog 208 = some [(Value.int IntKind.u32 0)] := by kernel_rfl
theorem row209 : rowOf Try.prog 209 = some (1, false) := by kernel_rfl
theorem zero209 : zeroOf Try.prog 209 = some [(Value.int IntKind.u8 0)] := by kernel_rfl
theorem row210 : rowOf Try.prog 210 = some (1, false) := by kernel_rfl
theorem zero210 : zeroOf Try.prog 210 = some [(Value.int IntKind.u8 0)] := by kernel_rfl
theorem row211 : rowOf Try.prog 211 = some (1, false) := by kernel_rfl
theorem zero211 : zeroOf Try.prog 211 = some [Value.nilFunc] := by kernel_rfl
theorem row212 : rowOf Try.prog 212 = some (1, false) := by kernel_rfl
theorem zero212 : zeroOf Try.prog 212 = some [(Value.pointer none)] := by kernel_rfl
theorem row213 : rowOf Try.prog 213 = some (1, false) := by kernel_rfl
theorem zero213 : zeroOf Try.prog 213 = some [(Value.int IntKind.i32 0)] := by kernel_rfl
theorem row214 : rowOf Try.prog 214 = some (1, false) := by kernel_rfl
theorem zero214 : zeroOf Try.prog 214 = some [(Value.int IntKind.i32 0)] := by kernel_rfl
theorem row215 : rowOf Try.prog 215 = some (11, true) := by kernel_rfl
theorem zero215 : zeroOf Try.prog 215 = some [(Value.int IntKind.u64 0), (Value.int IntKind.u64 0), (Value.int IntKind.u32 0), (Value.int IntKind.u8 0), (Value.int IntKind.u8 0), (Value.int IntKind.u8 0), (Value.int IntKind.u8 0), Value.nilFunc, (Value.pointer none), (Value.int IntKind.i32 0), (Value.int IntKind.i32 0)] := by kernel_rfl
theorem fld215_0 : fldOf Try.prog 215 0 = some (0, 1, false) := by kernel_rfl
theorem fld215_1 : fldOf Try.prog 215 1 = some (1, 1, false) := by kernel_rfl
theorem fld215_2 : fldOf Try.prog 215 2 = some (2, 1, false) := by kernel_rfl
theorem fld215_3 : fldOf Try.prog 215 3 = some (3, 1, false) := by kernel_rfl
theorem fld215_4 : fldOf Try.prog 215 4 = some (4, 1, false) := by kernel_rfl
theorem fld215_5 : fldOf Try.prog 215 5 = some (5, 1, false) := by kernel_rfl
theorem fld215_6 : fldOf Try.prog 215 6 = some (6, 1, false) := by kernel_rfl
theorem fld215_7 : fldOf Try.prog 215 7 = some (7, 1, false) := by kernel_rfl
theorem fld215_8 : fldOf Try.prog 215 8 = some (8, 1, false) := by kernel_rfl
theorem fld215_9 : fldOf Try.prog 215 9 = some (9, 1, false) := by kernel_rfl
theorem fld215_10 : fldOf Try.prog 215 10 = some (10, 1, false) := by kernel_rfl
theorem plc215 : placesOf Try.prog 215 = some [(0, 1), (1, 1), (2, 1), (3, 1), (4, 1), (5, 1), (6, 1), (7, 1), (8, 1), (9, 1), (10, 1)] := by kernel_rfl
theorem row216 : rowOf Try.prog 216 = some (11, true) := by kernel_rfl
theorem zero216 : zeroOf Try.prog 216 = some [(Value.int IntKind.u64 0), (Value.int IntKind.u64 0), (Value.int IntKind.u32 0), (Value.int IntKind.u8 0), (Value.int IntKind.u8 0), (Value.int IntKind.u8 0), (Value.int IntKind.u8 0), Value.nilFunc, (Value.pointer none), (Value.int IntKind.i32 0), (Value.int IntKind.i32 0)] := by kernel_rfl
theorem fld216_0 : fldOf Try.prog 216 0 = some (0, 1, false) := by kernel_rfl
theorem fld216_1 : fldOf Try.prog 216 1 = some (1, 1, false) := by kernel_rfl
theorem fld216_2 : fldOf Try.prog 216 2 = some (2, 1, false) := by kernel_rfl
theorem fld216_3 : fldOf Try.prog 216 3 = some (3, 1, false) := by kernel_rfl
theorem fld216_4 : fldOf Try.prog 216 4 = some (4, 1, false) := by kernel_rfl
theorem fld216_5 : fldOf Try.prog 216 5 = some (5, 1, false) := by kernel_rfl
theorem fld216_6 : fldOf Try.prog 216 6 = some (6, 1, false) := by kernel_rfl
theorem fld216_7 : fldOf Try.prog 216 7 = some (7, 1, false) := by kernel_rfl
theorem fld216_8 : fldOf Try.prog 216 8 = some (8, 1, false) := by kernel_rfl
theorem fld216_9 : fldOf Try.prog 216 9 = some (9, 1, false) := by kernel_rfl
theorem fld216_10 : fldOf Try.prog 216 10 = some (10, 1, false) := by kernel_rfl
theorem plc216 : placesOf Try.prog 216 = some [(0, 1), (1, 1), (2, 1), (3, 1), (4, 1), (5, 1), (6, 1), (7, 1), (8, 1), (9, 1), (10, 1)] := by kernel_rfl
theorem row217 : rowOf Try.prog 217 = some (1, false) := by kernel_rfl
theorem zero217 : zeroOf Try.prog 217 = some [(Value.pointer none)] := by kernel_rfl
end Go.Proofs.Ytglcmlicfmmlpaa
