/- Facts of the program's types: how many cells, their zeros, their fields. -/
import Derived.Test.YtnfmmfodnhmfaaaS4
namespace Go.Proofs.Ytnfmmfodnhmfaaa
open Go.RowKit

theorem row1 : rowOf Try.prog 1 = some (1, false) := by kernel_rfl
theorem zero1 : zeroOf Try.prog 1 = some [Value.nilFunc] := by kernel_rfl
theorem row2 : rowOf Try.prog 2 = some (1, false) := by kernel_rfl
theorem zero2 : zeroOf Try.prog 2 = some [(Value.int IntKind.i64 0)] := by kernel_rfl
theorem row3 : rowOf Try.prog 3 = some (1, false) := by kernel_rfl
theorem zero3 : zeroOf Try.prog 3 = some [(Value.int IntKind.i64 0)] := by kernel_rfl
theorem row4 : rowOf Try.prog 4 = some (1, false) := by kernel_rfl
theorem zero4 : zeroOf Try.prog 4 = some [(Value.bool false)] := by kernel_rfl
theorem row5 : rowOf Try.prog 5 = some (1, false) := by kernel_rfl
theorem zero5 : zeroOf Try.prog 5 = some [(Value.int IntKind.u8 0)] := by kernel_rfl
theorem row6 : rowOf Try.prog 6 = some (1, false) := by kernel_rfl
theorem zero6 : zeroOf Try.prog 6 = some [(Value.int IntKind.u8 0)] := by kernel_rfl
theorem row7 : rowOf Try.prog 7 = some (4, true) := by kernel_rfl
theorem zero7 : zeroOf Try.prog 7 = some [(Value.int IntKind.i64 0), (Value.int IntKind.i64 0), (Value.bool false), (Value.int IntKind.u8 0)] := by kernel_rfl
theorem fld7_0 : fldOf Try.prog 7 0 = some (0, 1, false) := by kernel_rfl
theorem fld7_1 : fldOf Try.prog 7 1 = some (1, 1, false) := by kernel_rfl
theorem fld7_2 : fldOf Try.prog 7 2 = some (2, 1, false) := by kernel_rfl
theorem fld7_3 : fldOf Try.prog 7 3 = some (3, 1, false) := by kernel_rfl
theorem plc7 : placesOf Try.prog 7 = some [(0, 1), (1, 1), (2, 1), (3, 1)] := by kernel_rfl
theorem row8 : rowOf Try.prog 8 = some (4, true) := by kernel_rfl
theorem zero8 : zeroOf Try.prog 8 = some [(Value.int IntKind.i64 0), (Value.int IntKind.i64 0), (Value.bool false), (Value.int IntKind.u8 0)] := by kernel_rfl
theorem fld8_0 : fldOf Try.prog 8 0 = some (0, 1, false) := by kernel_rfl
theorem fld8_1 : fldOf Try.prog 8 1 = some (1, 1, false) := by kernel_rfl
theorem fld8_2 : fldOf Try.prog 8 2 = some (2, 1, false) := by kernel_rfl
theorem fld8_3 : fldOf Try.prog 8 3 = some (3, 1, false) := by kernel_rfl
theorem plc8 : placesOf Try.prog 8 = some [(0, 1), (1, 1), (2, 1), (3, 1)] := by kernel_rfl
theorem row9 : rowOf Try.prog 9 = some (1, false) := by kernel_rfl
theorem zero9 : zeroOf Try.prog 9 = some [(Value.string { data := #[] })] := by kernel_rfl
theorem row10 : rowOf Try.prog 10 = some (1, false) := by kernel_rfl
theorem zero10 : zeroOf Try.prog 10 = some [(Value.string { data := #[] })] := by kernel_rfl
theorem row11 : rowOf Try.prog 11 = some (1, false) := by kernel_rfl
theorem zero11 : zeroOf Try.prog 11 = some [(Value.string { data := #[] })] := by kernel_rfl
theorem row12 : rowOf Try.prog 12 = some (1, false) := by kernel_rfl
theorem zero12 : zeroOf Try.prog 12 = some [(Value.int IntKind.u64 0)] := by kernel_rfl
theorem row13 : rowOf Try.prog 13 = some (2, true) := by kernel_rfl
theorem zero13 : zeroOf Try.prog 13 = some [(Value.string { data := #[] }), (Value.int IntKind.u64 0)] := by kernel_rfl
theorem fld13_0 : fldOf Try.prog 13 0 = some (0, 1, false) := by kernel_rfl
theorem fld13_1 : fldOf Try.prog 13 1 = some (1, 1, false) := by kernel_rfl
theorem plc13 : placesOf Try.prog 13 = some [(0, 1), (1, 1)] := by kernel_rfl
theorem row14 : rowOf Try.prog 14 = some (2, true) := by kernel_rfl
theorem zero14 : zeroOf Try.prog 14 = some [(Value.string { data := #[] }), (Value.int IntKind.u64 0)] := by kernel_rfl
theorem fld14_0 : fldOf Try.prog 14 0 = some (0, 1, false) := by kernel_rfl
theorem fld14_1 : fldOf Try.prog 14 1 = some (1, 1, false) := by kernel_rfl
theorem plc14 : placesOf Try.prog 14 = some [(0, 1), (1, 1)] := by kernel_rfl
theorem row15 : rowOf Try.prog 15 = some (1, false) := by kernel_rfl
theorem zero15 : zeroOf Try.prog 15 = some [(Value.pointer none)] := by kernel_rfl
theorem row16 : rowOf Try.prog 16 = some (1, false) := by kernel_rfl
theorem zero16 : zeroOf Try.prog 16 = some [(Value.pointer none)] := by kernel_rfl
theorem row17 : rowOf Try.prog 17 = some (1, false) := by kernel_rfl
theorem zero17 : zeroOf Try.prog 17 = some [(Value.pointer none)] := by kernel_rfl
theorem row18 : rowOf Try.prog 18 = some (1, true) := by kernel_rfl
theorem zero18 : zeroOf Try.prog 18 = some [(Value.pointer none)] := by kernel_rfl
theorem fld18_0 : fldOf Try.prog 18 0 = some (0, 1, false) := by kernel_rfl
theorem plc18 : placesOf Try.prog 18 = some [(0, 1)] := by kernel_rfl
theorem row19 : rowOf Try.prog 19 = some (1, true) := by kernel_rfl
theorem zero19 : zeroOf Try.prog 19 = some [(Value.pointer none)] := by kernel_rfl
theorem fld19_0 : fldOf Try.prog 19 0 = some (0, 1, false) := by kernel_rfl
theorem plc19 : placesOf Try.prog 19 = some [(0, 1)] := by kernel_rfl
theorem row20 : rowOf Try.prog 20 = some (1, false) := by kernel_rfl
theorem zero20 : zeroOf Try.prog 20 = some [Value.nilIface] := by kernel_rfl
theorem row21 : rowOf Try.prog 21 = some (1, false) := by kernel_rfl
theorem zero21 : zeroOf Try.prog 21 = some [(Value.int IntKind.i32 0)] := by kernel_rfl
theorem row22 : rowOf Try.prog 22 = some (1, false) := by kernel_rfl
theorem zero22 : zeroOf Try.prog 22 = some [(Value.slice none 0 0)] := by kernel_rfl
theorem ei30 : EI Try.prog 30 (.agg #[(Value.int IntKind.i64 0), (Value.int IntKind.i64 0), (Value.int IntKind.i64 0), (Value.slice none 0 0)]) 4 48 := ei_of (by kernel_rfl) rfl (by decide)
theorem row23 : rowOf Try.prog 23 = some (1, false) := by kernel_rfl
theorem zero23 : zeroOf Try.prog 23 = some [(Value.pointer none)] := by kernel_rfl
theorem row24 : rowOf Try.prog 24 = some (1, false) := by kernel_rfl
theorem zero24 : zeroOf Try.prog 24 = some [Value.nilFunc] := by kernel_rfl
theorem row25 : rowOf Try.prog 25 = some (1, false) := by kernel_rfl
theorem zero25 : zeroOf Try.prog 25 = some [(Value.slice none 0 0)] := by kernel_rfl
theorem ei32 : EI Try.prog 32 (.agg #[(Value.int IntKind.i64 0), (Value.int IntKind.i64 0), (Value.slice none 0 0)]) 3 40 := ei_of (by kernel_rfl) rfl (by decide)
theorem row26 : rowOf Try.prog 26 = some (1, false) := by kernel_rfl
theorem zero26 : zeroOf Try.prog 26 = some [(Value.int IntKind.i64 0)] := by kernel_rfl
theorem row27 : rowOf Try.prog 27 = some (1, false) := by kernel_rfl
theorem zero27 : zeroOf Try.prog 27 = some [Value.nilFunc] := by kernel_rfl
theorem row28 : rowOf Try.prog 28 = some (1, false) := by kernel_rfl
theorem zero28 : zeroOf Try.prog 28 = some [(Value.slice none 0 0)] := by kernel_rfl
theorem ei5 : EI Try.prog 5 (Value.int IntKind.u8 0) 1 1 := ei_of (by kernel_rfl) rfl (by decide)
theorem row29 : rowOf Try.prog 29 = some (4, true) := by kernel_rfl
theorem zero29 : zeroOf Try.prog 29 = some [(Value.int IntKind.i64 0), (Value.int IntKind.i64 0), (Value.int IntKind.i64 0), (Value.slice none 0 0)] := by kernel_rfl
theorem fld29_0 : fldOf Try.prog 29 0 = some (0, 1, false) := by kernel_rfl
theorem fld29_1 : fldOf Try.prog 29 1 = some (1, 1, false) := by kernel_rfl
theorem fld29_2 : fldOf Try.prog 29 2 = some (2, 1, false) := by kernel_rfl
theorem fld29_3 : fldOf Try.prog 29 3 = some (3, 1, false) := by kernel_rfl
theorem plc29 : placesOf Try.prog 29 = some [(0, 1), (1, 1), (2, 1), (3, 1)] := by kernel_rfl
theorem row30 : rowOf Try.prog 30 = some (4, true) := by kernel_rfl
theorem zero30 : zeroOf Try.prog 30 = some [(Value.int IntKind.i64 0), (Value.int IntKind.i64 0), (Value.int IntKind.i64 0), (Value.slice none 0 0)] := by kernel_rfl
theorem fld30_0 : fldOf Try.prog 30 0 = some (0, 1, false) := by kernel_rfl
theorem fld30_1 : fldOf Try.prog 30 1 = some (1, 1, false) := by kernel_rfl
theorem fld30_2 : fldOf Try.prog 30 2 = some (2, 1, false) := by kernel_rfl
theorem fld30_3 : fldOf Try.prog 30 3 = some (3, 1, false) := by kernel_rfl
theorem plc30 : placesOf Try.prog 30 = some [(0, 1), (1, 1), (2, 1), (3, 1)] := by kernel_rfl
theorem row31 : rowOf Try.prog 31 = some (3, true) := by kernel_rfl
theorem zero31 : zeroOf Try.prog 31 = some [(Value.int IntKind.i64 0), (Value.int IntKind.i64 0), (Value.slice none 0 0)] := by kernel_rfl
theorem fld31_0 : fldOf Try.prog 31 0 = some (0, 1, false) := by kernel_rfl
theorem fld31_1 : fldOf Try.prog 31 1 = some (1, 1, false) := by kernel_rfl
theorem fld31_2 : fldOf Try.prog 31 2 = some (2, 1, false) := by kernel_rfl
theorem plc31 : placesOf Try.prog 31 = some [(0, 1), (1, 1), (2, 1)] := by kernel_rfl
theorem row32 : rowOf Try.prog 32 = some (3, true) := by kernel_rfl
theorem zero32 : zeroOf Try.prog 32 = some [(Value.int IntKind.i64 0), (Value.int IntKind.i64 0), (Value.slice none 0 0)] := by kernel_rfl
theorem fld32_0 : fldOf Try.prog 32 0 = some (0, 1, false) := by kernel_rfl
theorem fld32_1 : fldOf Try.prog 32 1 = some (1, 1, false) := by kernel_rfl
theorem fld32_2 : fldOf Try.prog 32 2 = some (2, 1, false) := by kernel_rfl
theorem plc32 : placesOf Try.prog 32 = some [(0, 1), (1, 1), (2, 1)] := by kernel_rfl
theorem row33 : rowOf Try.prog 33 = some (1, false) := by kernel_rfl
theorem zero33 : zeroOf Try.prog 33 = some [Value.nilFunc] := by kernel_rfl
theorem row34 : rowOf Try.prog 34 = some (1, false) := by kernel_rfl
theorem zero34 : zeroOf Try.prog 34 = some [Value.nilFunc] := by kernel_rfl
theorem row35 : rowOf Try.prog 35 = some (3, true) := by kernel_rfl
theorem zero35 : zeroOf Try.prog 35 = some [(Value.int IntKind.i64 0), (Value.int IntKind.i64 0), (Value.slice none 0 0)] := by kernel_rfl
theorem fld35_0 : fldOf Try.prog 35 0 = some (0, 1, false) := by kernel_rfl
theorem fld35_1 : fldOf Try.prog 35 1 = some (1, 1, false) := by kernel_rfl
theorem fld35_2 : fldOf Try.prog 35 2 = some (2, 1, false) := by kernel_rfl
theorem plc35 : placesOf Try.prog 35 = some [(0, 1), (1, 1), (2, 1)] := by kernel_rfl
theorem row37 : rowOf Try.prog 37 = some (1, false) := by kernel_rfl
theorem zero37 : zeroOf Try.prog 37 = some [Value.nilFunc] := by kernel_rfl
theorem row38 : rowOf Try.prog 38 = some (1, false) := by kernel_rfl
theorem zero38 : zeroOf Try.prog 38 = some [Value.nilFunc] := by kernel_rfl
theorem row39 : rowOf Try.prog 39 = some (1, false) := by kernel_rfl
theorem zero39 : zeroOf Try.prog 39 = some [Value.nilFunc] := by kernel_rfl
theorem row40 : rowOf Try.prog 40 = some (1, false) := by kernel_rfl
theorem zero40 : zeroOf Try.prog 40 = some [Value.nilFunc] := by kernel_rfl
theorem row41 : rowOf Try.prog 41 = some (1, false) := by kernel_rfl
theorem zero41 : zeroOf Try.prog 41 = some [Value.nilFunc] := by kernel_rfl
theorem row42 : rowOf Try.prog 42 = some (1, false) := by kernel_rfl
theorem zero42 : zeroOf Try.prog 42 = some [(Value.slice none 0 0)] := by kernel_rfl
theorem ei3 : EI Try.prog 3 (Value.int IntKind.i64 0) 1 8 := ei_of (by kernel_rfl) rfl (by decide)
theorem row43 : rowOf Try.prog 43 = some (1, false) := by kernel_rfl
theorem zero43 : zeroOf Try.prog 43 = some [Value.nilFunc] := by kernel_rfl
theorem row44 : rowOf Try.prog 44 = some (1, false) := by kernel_rfl
theorem zero44 : zeroOf Try.prog 44 = some [(Value.pointer none)] := by kernel_rfl
theorem row45 : rowOf Try.prog 45 = some (1, true) := by kernel_rfl
theorem zero45 : zeroOf Try.prog 45 = some [(Value.slice none 0 0)] := by kernel_rfl
theorem fld45_0 : fldOf Try.prog 45 0 = some (0, 1, false) := by kernel_rfl
theorem plc45 : placesOf Try.prog 45 = some [(0, 1)] := by kernel_rfl
theorem row46 : rowOf Try.prog 46 = some (1, true) := by kernel_rfl
theorem zero46 : zeroOf Try.prog 46 = some [(Value.slice none 0 0)] := by kernel_rfl
theorem fld46_0 : fldOf Try.prog 46 0 = some (0, 1, false) := by kernel_rfl
theorem plc46 : placesOf Try.prog 46 = some [(0, 1)] := by kernel_rfl
theorem row47 : rowOf Try.prog 47 = some (1, false) := by kernel_rfl
theorem zero47 : zeroOf Try.prog 47 = some [Value.nilFunc] := by kernel_rfl
theorem row48 : rowOf Try.prog 48 = some (1, false) := by kernel_rfl
theorem zero48 : zeroOf Try.prog 48 = some [Value.nilFunc] := by kernel_rfl
theorem row49 : rowOf Try.prog 49 = some (1, false) := by kernel_rfl
theorem zero49 : zeroOf Try.prog 49 = some [Value.nilFunc] := by kernel_rfl
theorem row50 : rowOf Try.prog 50 = some (1, false) := by kernel_rfl
theorem zero50 : zeroOf Try.prog 50 = some [Value.nilFunc] := by kernel_rfl
theorem row51 : rowOf Try.prog 51 = some (1, false) := by kernel_rfl
theorem zero51 : zeroOf Try.prog 51 = some [Value.nilFunc] := by kernel_rfl
theorem row52 : rowOf Try.prog 52 = some (1, false) := by kernel_rfl
theorem zero52 : zeroOf Try.prog 52 = some [Value.nilFunc] := by kernel_rfl
theorem row53 : rowOf Try.prog 53 = some (1, false) := by kernel_rfl
theorem zero53 : zeroOf Try.prog 53 = some [(Value.map none)] := by kernel_rfl
theorem row54 : rowOf Try.prog 54 = some (1, false) := by kernel_rfl
theorem zero54 : zeroOf Try.prog 54 = some [(Value.slice none 0 0)] := by kernel_rfl
theorem ei35 : EI Try.prog 35 (.agg #[(Value.int IntKind.i64 0), (Value.int IntKind.i64 0), (Value.slice none 0 0)]) 3 40 := ei_of (by kernel_rfl) rfl (by decide)
theorem row55 : rowOf Try.prog 55 = some (2, true) := by kernel_rfl
theorem zero55 : zeroOf Try.prog 55 = some [(Value.slice none 0 0), (Value.map none)] := by kernel_rfl
theorem fld55_0 : fldOf Try.prog 55 0 = some (0, 1, false) := by kernel_rfl
theorem fld55_1 : fldOf Try.prog 55 1 = some (1, 1, false) := by kernel_rfl
theorem plc55 : placesOf Try.prog 55 = some [(0, 1), (1, 1)] := by kernel_rfl
theorem row56 : rowOf Try.prog 56 = some (2, true) := by kernel_rfl
theorem zero56 : zeroOf Try.prog 56 = some [(Value.slice none 0 0), (Value.map none)] := by kernel_rfl
theorem fld56_0 : fldOf Try.prog 56 0 = some (0, 1, false) := by kernel_rfl
theorem fld56_1 : fldOf Try.prog 56 1 = some (1, 1, false) := by kernel_rfl
theorem plc56 : placesOf Try.prog 56 = some [(0, 1), (1, 1)] := by kernel_rfl
theorem row57 : rowOf Try.prog 57 = some (1, false) := by kernel_rfl
theorem zero57 : zeroOf Try.prog 57 = some [Value.nilFunc] := by kernel_rfl
theorem row58 : rowOf Try.prog 58 = some (1, false) := by kernel_rfl
theorem zero58 : zeroOf Try.prog 58 = some [Value.nilFunc] := by kernel_rfl
theorem row59 : rowOf Try.prog 59 = some (1, false) := by kernel_rfl
theorem zero59 : zeroOf Try.prog 59 = some [Value.nilFunc] := by kernel_rfl
theorem row60 : rowOf Try.prog 60 = some (1, false) := by kernel_rfl
theorem zero60 : zeroOf Try.prog 60 = some [Value.nilFunc] := by kernel_rfl
theorem row61 : rowOf Try.prog 61 = some (1, false) := by kernel_rfl
theorem zero61 : zeroOf Try.prog 61 = some [Value.nilFunc] := by kernel_rfl
theorem row62 : rowOf Try.prog 62 = some (1, false) := by kernel_rfl
theorem zero62 : zeroOf Try.prog 62 = some [Value.nilFunc] := by kernel_rfl
theorem row63 : rowOf Try.prog 63 = some (1, false) := by kernel_rfl
theorem zero63 : zeroOf Try.prog 63 = some [Value.nilFunc] := by kernel_rfl
theorem row65 : rowOf Try.prog 65 = some (1, false) := by kernel_rfl
theorem zero65 : zeroOf Try.prog 65 = some [Value.nilFunc] := by kernel_rfl
theorem row66 : rowOf Try.prog 66 = some (1, false) := by kernel_rfl
theorem zero66 : zeroOf Try.prog 66 = some [Value.nilFunc] := by kernel_rfl
theorem row67 : rowOf Try.prog 67 = some (1, false) := by kernel_rfl
theorem zero67 : zeroOf Try.prog 67 = some [Value.nilFunc] := by kernel_rfl
theorem row68 : rowOf Try.prog 68 = some (1, false) := by kernel_rfl
theorem zero68 : zeroOf Try.prog 68 = some [Value.nilFunc] := by kernel_rfl
theorem row69 : rowOf Try.prog 69 = some (1, false) := by kernel_rfl
theorem zero69 : zeroOf Try.prog 69 = some [Value.nilFunc] := by kernel_rfl
theorem row70 : rowOf Try.prog 70 = some (4, true) := by kernel_rfl
theorem zero70 : zeroOf Try.prog 70 = some [(Value.pointer none), (Value.pointer none), (Value.pointer none), (Value.string { data := #[] })] := by kernel_rfl
theorem fld70_0 : fldOf Try.prog 70 0 = some (0, 1, false) := by kernel_rfl
theorem fld70_1 : fldOf Try.prog 70 1 = some (1, 1, false) := by kernel_rfl
theorem fld70_2 : fldOf Try.prog 70 2 = some (2, 1, false) := by kernel_rfl
theorem fld70_3 : fldOf Try.prog 70 3 = some (3, 1, false) := by kernel_rfl
theorem plc70 : placesOf Try.prog 70 = some [(0, 1), (1, 1), (2, 1), (3, 1)] := by kernel_rfl
theorem row71 : rowOf Try.prog 71 = some (4, true) := by kernel_rfl
theorem zero71 : zeroOf Try.prog 71 = some [(Value.pointer none), (Value.pointer none), (Value.pointer none), (Value.string { data := #[] })] := by kernel_rfl
theorem fld71_0 : fldOf Try.prog 71 0 = some (0, 1, false) := by kernel_rfl
theorem fld71_1 : fldOf Try.prog 71 1 = some (1, 1, false) := by kernel_rfl
theorem fld71_2 : fldOf Try.prog 71 2 = some (2, 1, false) := by kernel_rfl
theorem fld71_3 : fldOf Try.prog 71 3 = some (3, 1, false) := by kernel_rfl
theorem plc71 : placesOf Try.prog 71 = some [(0, 1), (1, 1), (2, 1), (3, 1)] := by kernel_rfl
theorem row72 : rowOf Try.prog 72 = some (0, true) := by kernel_rfl
theorem zero72 : zeroOf Try.prog 72 = some [] := by kernel_rfl
theorem row73 : rowOf Try.prog 73 = some (0, true) := by kernel_rfl
theorem zero73 : zeroOf Try.prog 73 = some [] := by kernel_rfl
theorem fld73_0 : fldOf Try.prog 73 0 = some (0, 0, true) := by kernel_rfl
theorem plc73 : placesOf Try.prog 73 = some [(0, 0)] := by kernel_rfl
theorem row74 : rowOf Try.prog 74 = some (0, true) := by kernel_rfl
theorem zero74 : zeroOf Try.prog 74 = some [] := by kernel_rfl
theorem fld74_0 : fldOf Try.prog 74 0 = some (0, 0, true) := by kernel_rfl
theorem plc74 : placesOf Try.prog 74 = some [(0, 0)] := by kernel_rfl
theorem row75 : rowOf Try.prog 75 = some (1, false) := by kernel_rfl
theorem zero75 : zeroOf Try.prog 75 = some [(Value.int IntKind.u32 0)] := by kernel_rfl
theorem row76 : rowOf Try.prog 76 = some (1, false) := by kernel_rfl
theorem zero76 : zeroOf Try.prog 76 = some [(Value.int IntKind.u8 0)] := by kernel_rfl
theorem row77 : rowOf Try.prog 77 = some (1, false) := by kernel_rfl
theorem zero77 : zeroOf Try.prog 77 = some [(Value.int IntKind.u8 0)] := by kernel_rfl
theorem row78 : rowOf Try.prog 78 = some (1, false) := by kernel_rfl
theorem zero78 : zeroOf Try.prog 78 = some [Value.nilFunc] := by kernel_rfl
theorem row79 : rowOf Try.prog 79 = some (1, false) := by kernel_rfl
theorem zero79 : zeroOf Try.prog 79 = some [(Value.pointer none)] := by kernel_rfl
theorem row80 : rowOf Try.prog 80 = some (1, false) := by kernel_rfl
theorem zero80 : zeroOf Try.prog 80 = some [(Value.int IntKind.i32 0)] := by kernel_rfl
theorem row81 : rowOf Try.prog 81 = some (1, false) := by kernel_rfl
theorem zero81 : zeroOf Try.prog 81 = some [(Value.int IntKind.i32 0)] := by kernel_rfl
theorem row82 : rowOf Try.prog 82 = some (11, true) := by kernel_rfl
theorem zero82 : zeroOf Try.prog 82 = some [(Value.int IntKind.u64 0), (Value.int IntKind.u64 0), (Value.int IntKind.u32 0), (Value.int IntKind.u8 0), (Value.int IntKind.u8 0), (Value.int IntKind.u8 0), (Value.int IntKind.u8 0), Value.nilFunc, (Value.pointer none), (Value.int IntKind.i32 0), (Value.int IntKind.i32 0)] := by kernel_rfl
theorem fld82_0 : fldOf Try.prog 82 0 = some (0, 1, false) := by kernel_rfl
theorem fld82_1 : fldOf Try.prog 82 1 = some (1, 1, false) := by kernel_rfl
theorem fld82_2 : fldOf Try.prog 82 2 = some (2, 1, false) := by kernel_rfl
theorem fld82_3 : fldOf Try.prog 82 3 = some (3, 1, false) := by kernel_rfl
theorem fld82_4 : fldOf Try.prog 82 4 = some (4, 1, false) := by kernel_rfl
theorem fld82_5 : fldOf Try.prog 82 5 = some (5, 1, false) := by kernel_rfl
theorem fld82_6 : fldOf Try.prog 82 6 = some (6, 1, false) := by kernel_rfl
theorem fld82_7 : fldOf Try.prog 82 7 = some (7, 1, false) := by kernel_rfl
theorem fld82_8 : fldOf Try.prog 82 8 = some (8, 1, false) := by kernel_rfl
theorem fld82_9 : fldOf Try.prog 82 9 = some (9, 1, false) := by kernel_rfl
theorem fld82_10 : fldOf Try.prog 82 10 = some (10, 1, false) := by kernel_rfl
theorem plc82 : placesOf Try.prog 82 = some [(0, 1), (1, 1), (2, 1), (3, 1), (4, 1), (5, 1), (6, 1), (7, 1), (8, 1), (9, 1), (10, 1)] := by kernel_rfl
theorem row83 : rowOf Try.prog 83 = some (11, true) := by kernel_rfl
theorem zero83 : zeroOf Try.prog 83 = some [(Value.int IntKind.u64 0), (Value.int IntKind.u64 0), (Value.int IntKind.u32 0), (Value.int IntKind.u8 0), (Value.int IntKind.u8 0), (Value.int IntKind.u8 0), (Value.int IntKind.u8 0), Value.nilFunc, (Value.pointer none), (Value.int IntKind.i32 0), (Value.int IntKind.i32 0)] := by kernel_rfl
theorem fld83_0 : fldOf Try.prog 83 0 = some (0, 1, false) := by kernel_rfl
theorem fld83_1 : fldOf Try.prog 83 1 = some (1, 1, false) := by kernel_rfl
theorem fld83_2 : fldOf Try.prog 83 2 = some (2, 1, false) := by kernel_rfl
theorem fld83_3 : fldOf Try.prog 83 3 = some (3, 1, false) := by kernel_rfl
theorem fld83_4 : fldOf Try.prog 83 4 = some (4, 1, false) := by kernel_rfl
theorem fld83_5 : fldOf Try.prog 83 5 = some (5, 1, false) := by kernel_rfl
theorem fld83_6 : fldOf Try.prog 83 6 = some (6, 1, false) := by kernel_rfl
theorem fld83_7 : fldOf Try.prog 83 7 = some (7, 1, false) := by kernel_rfl
theorem fld83_8 : fldOf Try.prog 83 8 = some (8, 1, false) := by kernel_rfl
theorem fld83_9 : fldOf Try.prog 83 9 = some (9, 1, false) := by kernel_rfl
theorem fld83_10 : fldOf Try.prog 83 10 = some (10, 1, false) := by kernel_rfl
theorem plc83 : placesOf Try.prog 83 = some [(0, 1), (1, 1), (2, 1), (3, 1), (4, 1), (5, 1), (6, 1), (7, 1), (8, 1), (9, 1), (10, 1)] := by kernel_rfl
theorem row84 : rowOf Try.prog 84 = some (1, false) := by kernel_rfl
theorem zero84 : zeroOf Try.prog 84 = some [(Value.pointer none)] := by kernel_rfl
end Go.Proofs.Ytnfmmfodnhmfaaa
