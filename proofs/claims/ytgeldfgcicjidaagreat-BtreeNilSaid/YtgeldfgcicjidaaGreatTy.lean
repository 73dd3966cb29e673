/- Facts of the program's types: how many cells, their zeros, their fields. -/
import Derived.Test.YtgeldfgcicjidaaGreatS4
namespace Go.Proofs.YtgeldfgcicjidaaGreat
open Go.RowKit

theorem row1 : rowOf Tryz.prog 1 = some (1, false) := by kernel_rfl
theorem zero1 : zeroOf Tryz.prog 1 = some [Value.nilFunc] := by kernel_rfl
theorem row2 : rowOf Tryz.prog 2 = some (1, false) := by kernel_rfl
theorem zero2 : zeroOf Tryz.prog 2 = some [(Value.int IntKind.i64 0)] := by kernel_rfl
theorem row3 : rowOf Tryz.prog 3 = some (1, false) := by kernel_rfl
theorem zero3 : zeroOf Tryz.prog 3 = some [(Value.int IntKind.i64 0)] := by kernel_rfl
theorem row4 : rowOf Tryz.prog 4 = some (1, false) := by kernel_rfl
theorem zero4 : zeroOf Tryz.prog 4 = some [(Value.bool false)] := by kernel_rfl
theorem row5 : rowOf Tryz.prog 5 = some (1, false) := by kernel_rfl
theorem zero5 : zeroOf Tryz.prog 5 = some [(Value.int IntKind.u8 0)] := by kernel_rfl
theorem row6 : rowOf Tryz.prog 6 = some (1, false) := by kernel_rfl
theorem zero6 : zeroOf Tryz.prog 6 = some [(Value.int IntKind.u8 0)] := by kernel_rfl
theorem row7 : rowOf Tryz.prog 7 = some (4, true) := by kernel_rfl
theorem zero7 : zeroOf Tryz.prog 7 = some [(Value.int IntKind.i64 0), (Value.int IntKind.i64 0), (Value.bool false), (Value.int IntKind.u8 0)] := by kernel_rfl
theorem fld7_0 : fldOf Tryz.prog 7 0 = some (0, 1, false) := by kernel_rfl
theorem fld7_1 : fldOf Tryz.prog 7 1 = some (1, 1, false) := by kernel_rfl
theorem fld7_2 : fldOf Tryz.prog 7 2 = some (2, 1, false) := by kernel_rfl
theorem fld7_3 : fldOf Tryz.prog 7 3 = some (3, 1, false) := by kernel_rfl
theorem plc7 : placesOf Tryz.prog 7 = some [(0, 1), (1, 1), (2, 1), (3, 1)] := by kernel_rfl
theorem row8 : rowOf Tryz.prog 8 = some (4, true) := by kernel_rfl
theorem zero8 : zeroOf Tryz.prog 8 = some [(Value.int IntKind.i64 0), (Value.int IntKind.i64 0), (Value.bool false), (Value.int IntKind.u8 0)] := by kernel_rfl
theorem fld8_0 : fldOf Tryz.prog 8 0 = some (0, 1, false) := by kernel_rfl
theorem fld8_1 : fldOf Tryz.prog 8 1 = some (1, 1, false) := by kernel_rfl
theorem fld8_2 : fldOf Tryz.prog 8 2 = some (2, 1, false) := by kernel_rfl
theorem fld8_3 : fldOf Tryz.prog 8 3 = some (3, 1, false) := by kernel_rfl
theorem plc8 : placesOf Tryz.prog 8 = some [(0, 1), (1, 1), (2, 1), (3, 1)] := by kernel_rfl
theorem row9 : rowOf Tryz.prog 9 = some (1, false) := by kernel_rfl
theorem zero9 : zeroOf Tryz.prog 9 = some [(Value.string { data := #[] })] := by kernel_rfl
theorem row10 : rowOf Tryz.prog 10 = some (1, false) := by kernel_rfl
theorem zero10 : zeroOf Tryz.prog 10 = some [(Value.string { data := #[] })] := by kernel_rfl
theorem row11 : rowOf Tryz.prog 11 = some (1, false) := by kernel_rfl
theorem zero11 : zeroOf Tryz.prog 11 = some [(Value.string { data := #[] })] := by kernel_rfl
theorem row12 : rowOf Tryz.prog 12 = some (1, false) := by kernel_rfl
theorem zero12 : zeroOf Tryz.prog 12 = some [(Value.int IntKind.u64 0)] := by kernel_rfl
theorem row13 : rowOf Tryz.prog 13 = some (2, true) := by kernel_rfl
theorem zero13 : zeroOf Tryz.prog 13 = some [(Value.string { data := #[] }), (Value.int IntKind.u64 0)] := by kernel_rfl
theorem fld13_0 : fldOf Tryz.prog 13 0 = some (0, 1, false) := by kernel_rfl
theorem fld13_1 : fldOf Tryz.prog 13 1 = some (1, 1, false) := by kernel_rfl
theorem plc13 : placesOf Tryz.prog 13 = some [(0, 1), (1, 1)] := by kernel_rfl
theorem row14 : rowOf Tryz.prog 14 = some (2, true) := by kernel_rfl
theorem zero14 : zeroOf Tryz.prog 14 = some [(Value.string { data := #[] }), (Value.int IntKind.u64 0)] := by kernel_rfl
theorem fld14_0 : fldOf Tryz.prog 14 0 = some (0, 1, false) := by kernel_rfl
theorem fld14_1 : fldOf Tryz.prog 14 1 = some (1, 1, false) := by kernel_rfl
theorem plc14 : placesOf Tryz.prog 14 = some [(0, 1), (1, 1)] := by kernel_rfl
theorem row15 : rowOf Tryz.prog 15 = some (1, false) := by kernel_rfl
theorem zero15 : zeroOf Tryz.prog 15 = some [(Value.pointer none)] := by kernel_rfl
theorem row16 : rowOf Tryz.prog 16 = some (1, false) := by kernel_rfl
theorem zero16 : zeroOf Tryz.prog 16 = some [(Value.pointer none)] := by kernel_rfl
theorem row17 : rowOf Tryz.prog 17 = some (1, false) := by kernel_rfl
theorem zero17 : zeroOf Tryz.prog 17 = some [(Value.pointer none)] := by kernel_rfl
theorem row18 : rowOf Tryz.prog 18 = some (1, true) := by kernel_rfl
theorem zero18 : zeroOf Tryz.prog 18 = some [(Value.pointer none)] := by kernel_rfl
theorem fld18_0 : fldOf Tryz.prog 18 0 = some (0, 1, false) := by kernel_rfl
theorem plc18 : placesOf Tryz.prog 18 = some [(0, 1)] := by kernel_rfl
theorem row19 : rowOf Tryz.prog 19 = some (1, true) := by kernel_rfl
theorem zero19 : zeroOf Tryz.prog 19 = some [(Value.pointer none)] := by kernel_rfl
theorem fld19_0 : fldOf Tryz.prog 19 0 = some (0, 1, false) := by kernel_rfl
theorem plc19 : placesOf Tryz.prog 19 = some [(0, 1)] := by kernel_rfl
theorem row20 : rowOf Tryz.prog 20 = some (1, false) := by kernel_rfl
theorem zero20 : zeroOf Tryz.prog 20 = some [Value.nilIface] := by kernel_rfl
theorem row21 : rowOf Tryz.prog 21 = some (1, false) := by kernel_rfl
theorem zero21 : zeroOf Tryz.prog 21 = some [(Value.int IntKind.i32 0)] := by kernel_rfl
theorem row22 : rowOf Tryz.prog 22 = some (1, false) := by kernel_rfl
theorem zero22 : zeroOf Tryz.prog 22 = some [(Value.slice none 0 0)] := by kernel_rfl
theorem ei39 : EI Tryz.prog 39 (.agg #[(Value.int IntKind.i64 0), (Value.string { data := #[] }), (Value.slice none 0 0), (Value.int IntKind.i64 0), (Value.slice none 0 0)]) 5 80 := ei_of (by kernel_rfl) rfl (by decide)
theorem row23 : rowOf Tryz.prog 23 = some (1, false) := by kernel_rfl
theorem zero23 : zeroOf Tryz.prog 23 = some [(Value.pointer none)] := by kernel_rfl
theorem row24 : rowOf Tryz.prog 24 = some (1, false) := by kernel_rfl
theorem zero24 : zeroOf Tryz.prog 24 = some [(Value.pointer none)] := by kernel_rfl
theorem row26 : rowOf Tryz.prog 26 = some (1, false) := by kernel_rfl
theorem zero26 : zeroOf Tryz.prog 26 = some [Value.nilFunc] := by kernel_rfl
theorem row27 : rowOf Tryz.prog 27 = some (1, false) := by kernel_rfl
theorem zero27 : zeroOf Tryz.prog 27 = some [(Value.pointer none)] := by kernel_rfl
theorem row28 : rowOf Tryz.prog 28 = some (1, false) := by kernel_rfl
theorem zero28 : zeroOf Tryz.prog 28 = some [(Value.int IntKind.i64 0)] := by kernel_rfl
theorem row30 : rowOf Tryz.prog 30 = some (1, false) := by kernel_rfl
theorem zero30 : zeroOf Tryz.prog 30 = some [Value.nilFunc] := by kernel_rfl
theorem row31 : rowOf Tryz.prog 31 = some (1, false) := by kernel_rfl
theorem zero31 : zeroOf Tryz.prog 31 = some [(Value.pointer none)] := by kernel_rfl
theorem row32 : rowOf Tryz.prog 32 = some (1, false) := by kernel_rfl
theorem zero32 : zeroOf Tryz.prog 32 = some [(Value.slice none 0 0)] := by kernel_rfl
theorem ei83 : EI Tryz.prog 83 (.agg #[(Value.string { data := #[] }), (Value.slice none 0 0), (Value.bool false)]) 3 48 := ei_of (by kernel_rfl) rfl (by decide)
theorem row33 : rowOf Tryz.prog 33 = some (1, true) := by kernel_rfl
theorem zero33 : zeroOf Tryz.prog 33 = some [(Value.slice none 0 0)] := by kernel_rfl
theorem fld33_0 : fldOf Tryz.prog 33 0 = some (0, 1, false) := by kernel_rfl
theorem plc33 : placesOf Tryz.prog 33 = some [(0, 1)] := by kernel_rfl
theorem row34 : rowOf Tryz.prog 34 = some (1, true) := by kernel_rfl
theorem zero34 : zeroOf Tryz.prog 34 = some [(Value.slice none 0 0)] := by kernel_rfl
theorem fld34_0 : fldOf Tryz.prog 34 0 = some (0, 1, false) := by kernel_rfl
theorem plc34 : placesOf Tryz.prog 34 = some [(0, 1)] := by kernel_rfl
theorem row35 : rowOf Tryz.prog 35 = some (1, false) := by kernel_rfl
theorem zero35 : zeroOf Tryz.prog 35 = some [(Value.slice none 0 0)] := by kernel_rfl
theorem ei3 : EI Tryz.prog 3 (Value.int IntKind.i64 0) 1 8 := ei_of (by kernel_rfl) rfl (by decide)
theorem row36 : rowOf Tryz.prog 36 = some (1, false) := by kernel_rfl
theorem zero36 : zeroOf Tryz.prog 36 = some [(Value.slice none 0 0)] := by kernel_rfl
theorem ei32 : EI Tryz.prog 32 (Value.slice none 0 0) 1 24 := ei_of (by kernel_rfl) rfl (by decide)
theorem row37 : rowOf Tryz.prog 37 = some (1, false) := by kernel_rfl
theorem zero37 : zeroOf Tryz.prog 37 = some [(Value.slice none 0 0)] := by kernel_rfl
theorem ei5 : EI Tryz.prog 5 (Value.int IntKind.u8 0) 1 1 := ei_of (by kernel_rfl) rfl (by decide)
theorem row38 : rowOf Tryz.prog 38 = some (5, true) := by kernel_rfl
theorem zero38 : zeroOf Tryz.prog 38 = some [(Value.int IntKind.i64 0), (Value.string { data := #[] }), (Value.slice none 0 0), (Value.int IntKind.i64 0), (Value.slice none 0 0)] := by kernel_rfl
theorem fld38_0 : fldOf Tryz.prog 38 0 = some (0, 1, false) := by kernel_rfl
theorem fld38_1 : fldOf Tryz.prog 38 1 = some (1, 1, false) := by kernel_rfl
theorem fld38_2 : fldOf Tryz.prog 38 2 = some (2, 1, false) := by kernel_rfl
theorem fld38_3 : fldOf Tryz.prog 38 3 = some (3, 1, false) := by kernel_rfl
theorem fld38_4 : fldOf Tryz.prog 38 4 = some (4, 1, false) := by kernel_rfl
theorem plc38 : placesOf Tryz.prog 38 = some [(0, 1), (1, 1), (2, 1), (3, 1), (4, 1)] := by kernel_rfl
theorem row39 : rowOf Tryz.prog 39 = some (5, true) := by kernel_rfl
theorem zero39 : zeroOf Tryz.prog 39 = some [(Value.int IntKind.i64 0), (Value.string { data := #[] }), (Value.slice none 0 0), (Value.int IntKind.i64 0), (Value.slice none 0 0)] := by kernel_rfl
theorem fld39_0 : fldOf Tryz.prog 39 0 = some (0, 1, false) := by kernel_rfl
theorem fld39_1 : fldOf Tryz.prog 39 1 = some (1, 1, false) := by kernel_rfl
theorem fld39_2 : fldOf Tryz.prog 39 2 = some (2, 1, false) := by kernel_rfl
theorem fld39_3 : fldOf Tryz.prog 39 3 = some (3, 1, false) := by kernel_rfl
theorem fld39_4 : fldOf Tryz.prog 39 4 = some (4, 1, false) := by kernel_rfl
theorem plc39 : placesOf Tryz.prog 39 = some [(0, 1), (1, 1), (2, 1), (3, 1), (4, 1)] := by kernel_rfl
theorem row40 : rowOf Tryz.prog 40 = some (1, false) := by kernel_rfl
theorem zero40 : zeroOf Tryz.prog 40 = some [Value.nilFunc] := by kernel_rfl
theorem row41 : rowOf Tryz.prog 41 = some (1, false) := by kernel_rfl
theorem zero41 : zeroOf Tryz.prog 41 = some [Value.nilFunc] := by kernel_rfl
theorem row42 : rowOf Tryz.prog 42 = some (1, false) := by kernel_rfl
theorem zero42 : zeroOf Tryz.prog 42 = some [Value.nilFunc] := by kernel_rfl
theorem row43 : rowOf Tryz.prog 43 = some (1, false) := by kernel_rfl
theorem zero43 : zeroOf Tryz.prog 43 = some [Value.nilFunc] := by kernel_rfl
theorem row44 : rowOf Tryz.prog 44 = some (1, false) := by kernel_rfl
theorem zero44 : zeroOf Tryz.prog 44 = some [Value.nilFunc] := by kernel_rfl
theorem row45 : rowOf Tryz.prog 45 = some (1, false) := by kernel_rfl
theorem zero45 : zeroOf Tryz.prog 45 = some [Value.nilFunc] := by kernel_rfl
theorem row46 : rowOf Tryz.prog 46 = some (1, false) := by kernel_rfl
theorem zero46 : zeroOf Tryz.prog 46 = some [Value.nilFunc] := by kernel_rfl
theorem row47 : rowOf Tryz.prog 47 = some (1, false) := by kernel_rfl
theorem zero47 : zeroOf Tryz.prog 47 = some [Value.nilFunc] := by kernel_rfl
theorem row49 : rowOf Tryz.prog 49 = some (1, false) := by kernel_rfl
theorem zero49 : zeroOf Tryz.prog 49 = some [Value.nilFunc] := by kernel_rfl
theorem row50 : rowOf Tryz.prog 50 = some (1, false) := by kernel_rfl
theorem zero50 : zeroOf Tryz.prog 50 = some [Value.nilFunc] := by kernel_rfl
theorem row51 : rowOf Tryz.prog 51 = some (1, false) := by kernel_rfl
theorem zero51 : zeroOf Tryz.prog 51 = some [Value.nilFunc] := by kernel_rfl
theorem row52 : rowOf Tryz.prog 52 = some (1, false) := by kernel_rfl
theorem zero52 : zeroOf Tryz.prog 52 = some [Value.nilFunc] := by kernel_rfl
theorem row53 : rowOf Tryz.prog 53 = some (1, false) := by kernel_rfl
theorem zero53 : zeroOf Tryz.prog 53 = some [Value.nilFunc] := by kernel_rfl
theorem row54 : rowOf Tryz.prog 54 = some (1, false) := by kernel_rfl
theorem zero54 : zeroOf Tryz.prog 54 = some [Value.nilFunc] := by kernel_rfl
theorem row55 : rowOf Tryz.prog 55 = some (1, false) := by kernel_rfl
theorem zero55 : zeroOf Tryz.prog 55 = some [Value.nilFunc] := by kernel_rfl
theorem row56 : rowOf Tryz.prog 56 = some (1, false) := by kernel_rfl
theorem zero56 : zeroOf Tryz.prog 56 = some [Value.nilFunc] := by kernel_rfl
theorem row57 : rowOf Tryz.prog 57 = some (1, false) := by kernel_rfl
theorem zero57 : zeroOf Tryz.prog 57 = some [Value.nilFunc] := by kernel_rfl
theorem row58 : rowOf Tryz.prog 58 = some (1, false) := by kernel_rfl
theorem zero58 : zeroOf Tryz.prog 58 = some [Value.nilFunc] := by kernel_rfl
theorem row60 : rowOf Tryz.prog 60 = some (1, false) := by kernel_rfl
theorem zero60 : zeroOf Tryz.prog 60 = some [Value.nilFunc] := by kernel_rfl
theorem row62 : rowOf Tryz.prog 62 = some (1, false) := by kernel_rfl
theorem zero62 : zeroOf Tryz.prog 62 = some [Value.nilFunc] := by kernel_rfl
theorem row64 : rowOf Tryz.prog 64 = some (1, false) := by kernel_rfl
theorem zero64 : zeroOf Tryz.prog 64 = some [Value.nilFunc] := by kernel_rfl
theorem row65 : rowOf Tryz.prog 65 = some (1, false) := by kernel_rfl
theorem zero65 : zeroOf Tryz.prog 65 = some [Value.nilFunc] := by kernel_rfl
theorem row66 : rowOf Tryz.prog 66 = some (1, false) := by kernel_rfl
theorem zero66 : zeroOf Tryz.prog 66 = some [Value.nilFunc] := by kernel_rfl
theorem row67 : rowOf Tryz.prog 67 = some (1, false) := by kernel_rfl
theorem zero67 : zeroOf Tryz.prog 67 = some [Value.nilFunc] := by kernel_rfl
theorem row68 : rowOf Tryz.prog 68 = some (1, false) := by kernel_rfl
theorem zero68 : zeroOf Tryz.prog 68 = some [Value.nilFunc] := by kernel_rfl
theorem row69 : rowOf Tryz.prog 69 = some (1, false) := by kernel_rfl
theorem zero69 : zeroOf Tryz.prog 69 = some [Value.nilFunc] := by kernel_rfl
theorem row70 : rowOf Tryz.prog 70 = some (4, true) := by kernel_rfl
theorem zero70 : zeroOf Tryz.prog 70 = some [(Value.int IntKind.i64 0), (Value.int IntKind.i64 0), (Value.int IntKind.i64 0), (Value.slice none 0 0)] := by kernel_rfl
theorem fld70_0 : fldOf Tryz.prog 70 0 = some (0, 1, false) := by kernel_rfl
theorem fld70_1 : fldOf Tryz.prog 70 1 = some (1, 1, false) := by kernel_rfl
theorem fld70_2 : fldOf Tryz.prog 70 2 = some (2, 1, false) := by kernel_rfl
theorem fld70_3 : fldOf Tryz.prog 70 3 = some (3, 1, false) := by kernel_rfl
theorem plc70 : placesOf Tryz.prog 70 = some [(0, 1), (1, 1), (2, 1), (3, 1)] := by kernel_rfl
theorem row71 : rowOf Tryz.prog 71 = some (4, true) := by kernel_rfl
theorem zero71 : zeroOf Tryz.prog 71 = some [(Value.int IntKind.i64 0), (Value.int IntKind.i64 0), (Value.int IntKind.i64 0), (Value.slice none 0 0)] := by kernel_rfl
theorem fld71_0 : fldOf Tryz.prog 71 0 = some (0, 1, false) := by kernel_rfl
theorem fld71_1 : fldOf Tryz.prog 71 1 = some (1, 1, false) := by kernel_rfl
theorem fld71_2 : fldOf Tryz.prog 71 2 = some (2, 1, false) := by kernel_rfl
theorem fld71_3 : fldOf Tryz.prog 71 3 = some (3, 1, false) := by kernel_rfl
theorem plc71 : placesOf Tryz.prog 71 = some [(0, 1), (1, 1), (2, 1), (3, 1)] := by kernel_rfl
theorem row73 : rowOf Tryz.prog 73 = some (1, false) := by kernel_rfl
theorem zero73 : zeroOf Tryz.prog 73 = some [Value.nilFunc] := by kernel_rfl
theorem row74 : rowOf Tryz.prog 74 = some (1, false) := by kernel_rfl
theorem zero74 : zeroOf Tryz.prog 74 = some [Value.nilFunc] := by kernel_rfl
theorem row76 : rowOf Tryz.prog 76 = some (1, false) := by kernel_rfl
theorem zero76 : zeroOf Tryz.prog 76 = some [Value.nilFunc] := by kernel_rfl
theorem row77 : rowOf Tryz.prog 77 = some (2, true) := by kernel_rfl
theorem zero77 : zeroOf Tryz.prog 77 = some [(Value.pointer none), (Value.int IntKind.i64 0)] := by kernel_rfl
theorem fld77_0 : fldOf Tryz.prog 77 0 = some (0, 1, false) := by kernel_rfl
theorem fld77_1 : fldOf Tryz.prog 77 1 = some (1, 1, false) := by kernel_rfl
theorem plc77 : placesOf Tryz.prog 77 = some [(0, 1), (1, 1)] := by kernel_rfl
theorem row78 : rowOf Tryz.prog 78 = some (2, true) := by kernel_rfl
theorem zero78 : zeroOf Tryz.prog 78 = some [(Value.pointer none), (Value.int IntKind.i64 0)] := by kernel_rfl
theorem fld78_0 : fldOf Tryz.prog 78 0 = some (0, 1, false) := by kernel_rfl
theorem fld78_1 : fldOf Tryz.prog 78 1 = some (1, 1, false) := by kernel_rfl
theorem plc78 : placesOf Tryz.prog 78 = some [(0, 1), (1, 1)] := by kernel_rfl
theorem row79 : rowOf Tryz.prog 79 = some (1, false) := by kernel_rfl
theorem zero79 : zeroOf Tryz.prog 79 = some [Value.nilFunc] := by kernel_rfl
theorem row80 : rowOf Tryz.prog 80 = some (1, false) := by kernel_rfl
theorem zero80 : zeroOf Tryz.prog 80 = some [Value.nilFunc] := by kernel_rfl
theorem row81 : rowOf Tryz.prog 81 = some (1, false) := by kernel_rfl
theorem zero81 : zeroOf Tryz.prog 81 = some [Value.nilFunc] := by kernel_rfl
theorem row82 : rowOf Tryz.prog 82 = some (3, true) := by kernel_rfl
theorem zero82 : zeroOf Tryz.prog 82 = some [(Value.string { data := #[] }), (Value.slice none 0 0), (Value.bool false)] := by kernel_rfl
theorem fld82_0 : fldOf Tryz.prog 82 0 = some (0, 1, false) := by kernel_rfl
theorem fld82_1 : fldOf Tryz.prog 82 1 = some (1, 1, false) := by kernel_rfl
theorem fld82_2 : fldOf Tryz.prog 82 2 = some (2, 1, false) := by kernel_rfl
theorem plc82 : placesOf Tryz.prog 82 = some [(0, 1), (1, 1), (2, 1)] := by kernel_rfl
theorem row83 : rowOf Tryz.prog 83 = some (3, true) := by kernel_rfl
theorem zero83 : zeroOf Tryz.prog 83 = some [(Value.string { data := #[] }), (Value.slice none 0 0), (Value.bool false)] := by kernel_rfl
theorem fld83_0 : fldOf Tryz.prog 83 0 = some (0, 1, false) := by kernel_rfl
theorem fld83_1 : fldOf Tryz.prog 83 1 = some (1, 1, false) := by kernel_rfl
theorem fld83_2 : fldOf Tryz.prog 83 2 = some (2, 1, false) := by kernel_rfl
theorem plc83 : placesOf Tryz.prog 83 = some [(0, 1), (1, 1), (2, 1)] := by kernel_rfl
theorem row84 : rowOf Tryz.prog 84 = some (1, false) := by kernel_rfl
theorem zero84 : zeroOf Tryz.prog 84 = some [Value.nilFunc] := by kernel_rfl
theorem row85 : rowOf Tryz.prog 85 = some (1, false) := by kernel_rfl
theorem zero85 : zeroOf Tryz.prog 85 = some [(Value.slice none 0 0)] := by kernel_rfl
theorem ei89 : EI Tryz.prog 89 (.agg #[(Value.string { data := #[] }), (Value.slice none 0 0), (Value.int IntKind.i64 0)]) 3 48 := ei_of (by kernel_rfl) rfl (by decide)
theorem row87 : rowOf Tryz.prog 87 = some (1, false) := by kernel_rfl
theorem zero87 : zeroOf Tryz.prog 87 = some [Value.nilFunc] := by kernel_rfl
theorem row88 : rowOf Tryz.prog 88 = some (3, true) := by kernel_rfl
theorem zero88 : zeroOf Tryz.prog 88 = some [(Value.string { data := #[] }), (Value.slice none 0 0), (Value.int IntKind.i64 0)] := by kernel_rfl
theorem fld88_0 : fldOf Tryz.prog 88 0 = some (0, 1, false) := by kernel_rfl
theorem fld88_1 : fldOf Tryz.prog 88 1 = some (1, 1, false) := by kernel_rfl
theorem fld88_2 : fldOf Tryz.prog 88 2 = some (2, 1, false) := by kernel_rfl
theorem plc88 : placesOf Tryz.prog 88 = some [(0, 1), (1, 1), (2, 1)] := by kernel_rfl
theorem row89 : rowOf Tryz.prog 89 = some (3, true) := by kernel_rfl
theorem zero89 : zeroOf Tryz.prog 89 = some [(Value.string { data := #[] }), (Value.slice none 0 0), (Value.int IntKind.i64 0)] := by kernel_rfl
theorem fld89_0 : fldOf Tryz.prog 89 0 = some (0, 1, false) := by kernel_rfl
theorem fld89_1 : fldOf Tryz.prog 89 1 = some (1, 1, false) := by kernel_rfl
theorem fld89_2 : fldOf Tryz.prog 89 2 = some (2, 1, false) := by kernel_rfl
theorem plc89 : placesOf Tryz.prog 89 = some [(0, 1), (1, 1), (2, 1)] := by kernel_rfl
theorem row90 : rowOf Tryz.prog 90 = some (1, false) := by kernel_rfl
theorem zero90 : zeroOf Tryz.prog 90 = some [Value.nilFunc] := by kernel_rfl
theorem row91 : rowOf Tryz.prog 91 = some (1, false) := by kernel_rfl
theorem zero91 : zeroOf Tryz.prog 91 = some [Value.nilFunc] := by kernel_rfl
theorem row92 : rowOf Tryz.prog 92 = some (1, false) := by kernel_rfl
theorem zero92 : zeroOf Tryz.prog 92 = some [Value.nilFunc] := by kernel_rfl
theorem row93 : rowOf Tryz.prog 93 = some (1, false) := by kernel_rfl
theorem zero93 : zeroOf Tryz.prog 93 = some [Value.nilFunc] := by kernel_rfl
theorem row94 : rowOf Tryz.prog 94 = some (1, false) := by kernel_rfl
theorem zero94 : zeroOf Tryz.prog 94 = some [Value.nilFunc] := by kernel_rfl
theorem row95 : rowOf Tryz.prog 95 = some (1, false) := by kernel_rfl
theorem zero95 : zeroOf Tryz.prog 95 = some [Value.nilFunc] := by kernel_rfl
theorem row96 : rowOf Tryz.prog 96 = some (1, false) := by kernel_rfl
theorem zero96 : zeroOf Tryz.prog 96 = some [Value.nilFunc] := by kernel_rfl
theorem row98 : rowOf Tryz.prog 98 = some (1, false) := by kernel_rfl
theorem zero98 : zeroOf Tryz.prog 98 = some [Value.nilFunc] := by kernel_rfl
theorem row99 : rowOf Tryz.prog 99 = some (1, false) := by kernel_rfl
theorem zero99 : zeroOf Tryz.prog 99 = some [(Value.slice none 0 0)] := by kernel_rfl
theorem ei106 : EI Tryz.prog 106 (.agg #[(Value.bool false), (Value.slice none 0 0)]) 2 32 := ei_of (by kernel_rfl) rfl (by decide)
theorem row100 : rowOf Tryz.prog 100 = some (1, false) := by kernel_rfl
theorem zero100 : zeroOf Tryz.prog 100 = some [Value.nilFunc] := by kernel_rfl
theorem row101 : rowOf Tryz.prog 101 = some (1, false) := by kernel_rfl
theorem zero101 : zeroOf Tryz.prog 101 = some [Value.nilFunc] := by kernel_rfl
theorem row103 : rowOf Tryz.prog 103 = some (1, false) := by kernel_rfl
theorem zero103 : zeroOf Tryz.prog 103 = some [Value.nilFunc] := by kernel_rfl
theorem row104 : rowOf Tryz.prog 104 = some (1, false) := by kernel_rfl
theorem zero104 : zeroOf Tryz.prog 104 = some [Value.nilFunc] := by kernel_rfl
theorem row105 : rowOf Tryz.prog 105 = some (2, true) := by kernel_rfl
theorem zero105 : zeroOf Tryz.prog 105 = some [(Value.bool false), (Value.slice none 0 0)] := by kernel_rfl
theorem fld105_0 : fldOf Tryz.prog 105 0 = some (0, 1, false) := by kernel_rfl
theorem fld105_1 : fldOf Tryz.prog 105 1 = some (1, 1, false) := by kernel_rfl
theorem plc105 : placesOf Tryz.prog 105 = some [(0, 1), (1, 1)] := by kernel_rfl
theorem row106 : rowOf Tryz.prog 106 = some (2, true) := by kernel_rfl
theorem zero106 : zeroOf Tryz.prog 106 = some [(Value.bool false), (Value.slice none 0 0)] := by kernel_rfl
theorem fld106_0 : fldOf Tryz.prog 106 0 = some (0, 1, false) := by kernel_rfl
theorem fld106_1 : fldOf Tryz.prog 106 1 = some (1, 1, false) := by kernel_rfl
theorem plc106 : placesOf Tryz.prog 106 = some [(0, 1), (1, 1)] := by kernel_rfl
theorem row108 : rowOf Tryz.prog 108 = some (1, false) := by kernel_rfl
theorem zero108 : zeroOf Tryz.prog 108 = some [Value.nilFunc] := by kernel_rfl
theorem row109 : rowOf Tryz.prog 109 = some (1, false) := by kernel_rfl
theorem zero109 : zeroOf Tryz.prog 109 = some [Value.nilFunc] := by kernel_rfl
theorem row110 : rowOf Tryz.prog 110 = some (3, true) := by kernel_rfl
theorem zero110 : zeroOf Tryz.prog 110 = some [(Value.int IntKind.i64 0), (Value.int IntKind.i64 0), (Value.slice none 0 0)] := by kernel_rfl
theorem fld110_0 : fldOf Tryz.prog 110 0 = some (0, 1, false) := by kernel_rfl
theorem fld110_1 : fldOf Tryz.prog 110 1 = some (1, 1, false) := by kernel_rfl
theorem fld110_2 : fldOf Tryz.prog 110 2 = some (2, 1, false) := by kernel_rfl
theorem plc110 : placesOf Tryz.prog 110 = some [(0, 1), (1, 1), (2, 1)] := by kernel_rfl
theorem row111 : rowOf Tryz.prog 111 = some (3, true) := by kernel_rfl
theorem zero111 : zeroOf Tryz.prog 111 = some [(Value.int IntKind.i64 0), (Value.int IntKind.i64 0), (Value.slice none 0 0)] := by kernel_rfl
theorem fld111_0 : fldOf Tryz.prog 111 0 = some (0, 1, false) := by kernel_rfl
theorem fld111_1 : fldOf Tryz.prog 111 1 = some (1, 1, false) := by kernel_rfl
theorem fld111_2 : fldOf Tryz.prog 111 2 = some (2, 1, false) := by kernel_rfl
theorem plc111 : placesOf Tryz.prog 111 = some [(0, 1), (1, 1), (2, 1)] := by kernel_rfl
theorem row113 : rowOf Tryz.prog 113 = some (1, false) := by kernel_rfl
theorem zero113 : zeroOf Tryz.prog 113 = some [Value.nilFunc] := by kernel_rfl
theorem row114 : rowOf Tryz.prog 114 = some (1, false) := by kernel_rfl
theorem zero114 : zeroOf Tryz.prog 114 = some [Value.nilFunc] := by kernel_rfl
theorem row115 : rowOf Tryz.prog 115 = some (4096, true) := by kernel_rfl
theorem zero115 : zeroOf Tryz.prog 115 = some (List.replicate 4096 (Value.int IntKind.u8 0)) := by kernel_rfl
theorem row116 : rowOf Tryz.prog 116 = some (4104, true) := by kernel_rfl
theorem zero116 : zeroOf Tryz.prog 116 = some ([(Value.pointer none), (Value.int IntKind.i64 0), (Value.int IntKind.i64 0)] ++ List.replicate 4096 (Value.int IntKind.u8 0) ++ [(Value.int IntKind.i64 0), (Value.int IntKind.i64 0), (Value.int IntKind.i64 0), (Value.slice none 0 0), (Value.bool false)]) := by kernel_rfl
theorem fld116_0 : fldOf Tryz.prog 116 0 = some (0, 1, false) := by kernel_rfl
theorem fld116_1 : fldOf Tryz.prog 116 1 = some (1, 1, false) := by kernel_rfl
theorem fld116_2 : fldOf Tryz.prog 116 2 = some (2, 1, false) := by kernel_rfl
theorem fld116_3 : fldOf Tryz.prog 116 3 = some (3, 4096, true) := by kernel_rfl
theorem fld116_4 : fldOf Tryz.prog 116 4 = some (4099, 4, true) := by kernel_rfl
theorem fld116_5 : fldOf Tryz.prog 116 5 = some (4103, 1, false) := by kernel_rfl
theorem plc116 : placesOf Tryz.prog 116 = some [(0, 1), (1, 1), (2, 1), (3, 4096), (4099, 4), (4103, 1)] := by kernel_rfl
theorem row117 : rowOf Tryz.prog 117 = some (4104, true) := by kernel_rfl
theorem zero117 : zeroOf Tryz.prog 117 = some ([(Value.pointer none), (Value.int IntKind.i64 0), (Value.int IntKind.i64 0)] ++ List.replicate 4096 (Value.int IntKind.u8 0) ++ [(Value.int IntKind.i64 0), (Value.int IntKind.i64 0), (Value.int IntKind.i64 0), (Value.slice none 0 0), (Value.bool false)]) := by kernel_rfl
theorem fld117_0 : fldOf Tryz.prog 117 0 = some (0, 1, false) := by kernel_rfl
theorem fld117_1 : fldOf Tryz.prog 117 1 = some (1, 1, false) := by kernel_rfl
theorem fld117_2 : fldOf Tryz.prog 117 2 = some (2, 1, false) := by kernel_rfl
theorem fld117_3 : fldOf Tryz.prog 117 3 = some (3, 4096, true) := by kernel_rfl
theorem fld117_4 : fldOf Tryz.prog 117 4 = some (4099, 4, true) := by kernel_rfl
theorem fld117_5 : fldOf Tryz.prog 117 5 = some (4103, 1, false) := by kernel_rfl
theorem plc117 : placesOf Tryz.prog 117 = some [(0, 1), (1, 1), (2, 1), (3, 4096), (4099, 4), (4103, 1)] := by kernel_rfl
theorem row118 : rowOf Tryz.prog 118 = some (1, false) := by kernel_rfl
theorem zero118 : zeroOf Tryz.prog 118 = some [Value.nilFunc] := by kernel_rfl
theorem row119 : rowOf Tryz.prog 119 = some (1, false) := by kernel_rfl
theorem zero119 : zeroOf Tryz.prog 119 = some [Value.nilFunc] := by kernel_rfl
theorem row120 : rowOf Tryz.prog 120 = some (1, false) := by kernel_rfl
theorem zero120 : zeroOf Tryz.prog 120 = some [Value.nilFunc] := by kernel_rfl
theorem row121 : rowOf Tryz.prog 121 = some (1, false) := by kernel_rfl
theorem zero121 : zeroOf Tryz.prog 121 = some [Value.nilFunc] := by kernel_rfl
theorem row122 : rowOf Tryz.prog 122 = some (1, false) := by kernel_rfl
theorem zero122 : zeroOf Tryz.prog 122 = some [(Value.slice none 0 0)] := by kernel_rfl
theorem ei127 : EI Tryz.prog 127 (.agg (([(Value.int IntKind.i64 0)] ++ List.replicate 256 (Value.int IntKind.u8 0))).toArray) 257 264 := ei_of (by kernel_rfl) (by kernel_rfl) (by decide)
theorem row123 : rowOf Tryz.prog 123 = some (6, true) := by kernel_rfl
theorem zero123 : zeroOf Tryz.prog 123 = some [(Value.slice none 0 0), (Value.slice none 0 0), (Value.slice none 0 0), (Value.bool false), (Value.bool false), (Value.bool false)] := by kernel_rfl
theorem fld123_0 : fldOf Tryz.prog 123 0 = some (0, 1, false) := by kernel_rfl
theorem fld123_1 : fldOf Tryz.prog 123 1 = some (1, 1, false) := by kernel_rfl
theorem fld123_2 : fldOf Tryz.prog 123 2 = some (2, 1, false) := by kernel_rfl
theorem fld123_3 : fldOf Tryz.prog 123 3 = some (3, 1, false) := by kernel_rfl
theorem fld123_4 : fldOf Tryz.prog 123 4 = some (4, 1, false) := by kernel_rfl
theorem fld123_5 : fldOf Tryz.prog 123 5 = some (5, 1, false) := by kernel_rfl
theorem plc123 : placesOf Tryz.prog 123 = some [(0, 1), (1, 1), (2, 1), (3, 1), (4, 1), (5, 1)] := by kernel_rfl
theorem row124 : rowOf Tryz.prog 124 = some (6, true) := by kernel_rfl
theorem zero124 : zeroOf Tryz.prog 124 = some [(Value.slice none 0 0), (Value.slice none 0 0), (Value.slice none 0 0), (Value.bool false), (Value.bool false), (Value.bool false)] := by kernel_rfl
theorem fld124_0 : fldOf Tryz.prog 124 0 = some (0, 1, false) := by kernel_rfl
theorem fld124_1 : fldOf Tryz.prog 124 1 = some (1, 1, false) := by kernel_rfl
theorem fld124_2 : fldOf Tryz.prog 124 2 = some (2, 1, false) := by kernel_rfl
theorem fld124_3 : fldOf Tryz.prog 124 3 = some (3, 1, false) := by kernel_rfl
theorem fld124_4 : fldOf Tryz.prog 124 4 = some (4, 1, false) := by kernel_rfl
theorem fld124_5 : fldOf Tryz.prog 124 5 = some (5, 1, false) := by kernel_rfl
theorem plc124 : placesOf Tryz.prog 124 = some [(0, 1), (1, 1), (2, 1), (3, 1), (4, 1), (5, 1)] := by kernel_rfl
theorem row125 : rowOf Tryz.prog 125 = some (256, true) := by kernel_rfl
theorem zero125 : zeroOf Tryz.prog 125 = some (List.replicate 256 (Value.int IntKind.u8 0)) := by kernel_rfl
theorem row126 : rowOf Tryz.prog 126 = some (257, true) := by kernel_rfl
theorem zero126 : zeroOf Tryz.prog 126 = some ([(Value.int IntKind.i64 0)] ++ List.replicate 256 (Value.int IntKind.u8 0)) := by kernel_rfl
theorem fld126_0 : fldOf Tryz.prog 126 0 = some (0, 1, false) := by kernel_rfl
theorem fld126_1 : fldOf Tryz.prog 126 1 = some (1, 256, true) := by kernel_rfl
theorem plc126 : placesOf Tryz.prog 126 = some [(0, 1), (1, 256)] := by kernel_rfl
theorem row127 : rowOf Tryz.prog 127 = some (257, true) := by kernel_rfl
theorem zero127 : zeroOf Tryz.prog 127 = some ([(Value.int IntKind.i64 0)] ++ List.replicate 256 (Value.int IntKind.u8 0)) := by kernel_rfl
theorem fld127_0 : fldOf Tryz.prog 127 0 = some (0, 1, false) := by kernel_rfl
theorem fld127_1 : fldOf Tryz.prog 127 1 = some (1, 256, true) := by kernel_rfl
theorem plc127 : placesOf Tryz.prog 127 = some [(0, 1), (1, 256)] := by kernel_rfl
theorem row128 : rowOf Tryz.prog 128 = some (1, false) := by kernel_rfl
theorem zero128 : zeroOf Tryz.prog 128 = some [Value.nilFunc] := by kernel_rfl
theorem row130 : rowOf Tryz.prog 130 = some (1, false) := by kernel_rfl
theorem zero130 : zeroOf Tryz.prog 130 = some [Value.nilFunc] := by kernel_rfl
theorem row131 : rowOf Tryz.prog 131 = some (1, false) := by kernel_rfl
theorem zero131 : zeroOf Tryz.prog 131 = some [Value.nilFunc] := by kernel_rfl
theorem row132 : rowOf Tryz.prog 132 = some (1, false) := by kernel_rfl
theorem zero132 : zeroOf Tryz.prog 132 = some [Value.nilFunc] := by kernel_rfl
theorem row133 : rowOf Tryz.prog 133 = some (1, false) := by kernel_rfl
theorem zero133 : zeroOf Tryz.prog 133 = some [Value.nilFunc] := by kernel_rfl
theorem row134 : rowOf Tryz.prog 134 = some (1, false) := by kernel_rfl
theorem zero134 : zeroOf Tryz.prog 134 = some [Value.nilFunc] := by kernel_rfl
theorem row135 : rowOf Tryz.prog 135 = some (1, false) := by kernel_rfl
theorem zero135 : zeroOf Tryz.prog 135 = some [Value.nilFunc] := by kernel_rfl
theorem row136 : rowOf Tryz.prog 136 = some (1, false) := by kernel_rfl
theorem zero136 : zeroOf Tryz.prog 136 = some [Value.nilFunc] := by kernel_rfl
theorem row137 : rowOf Tryz.prog 137 = some (1, false) := by kernel_rfl
theorem zero137 : zeroOf Tryz.prog 137 = some [Value.nilFunc] := by kernel_rfl
theorem row138 : rowOf Tryz.prog 138 = some (1, false) := by kernel_rfl
theorem zero138 : zeroOf Tryz.prog 138 = some [Value.nilFunc] := by kernel_rfl
theorem row139 : rowOf Tryz.prog 139 = some (1, false) := by kernel_rfl
theorem zero139 : zeroOf Tryz.prog 139 = some [Value.nilFunc] := by kernel_rfl
theorem row140 : rowOf Tryz.prog 140 = some (1, false) := by kernel_rfl
theorem zero140 : zeroOf Tryz.prog 140 = some [Value.nilFunc] := by kernel_rfl
theorem row141 : rowOf Tryz.prog 141 = some (1, false) := by kernel_rfl
theorem zero141 : zeroOf Tryz.prog 141 = some [(Value.pointer none)] := by kernel_rfl
theorem row143 : rowOf Tryz.prog 143 = some (1, false) := by kernel_rfl
theorem zero143 : zeroOf Tryz.prog 143 = some [Value.nilFunc] := by kernel_rfl
theorem row144 : rowOf Tryz.prog 144 = some (1, false) := by kernel_rfl
theorem zero144 : zeroOf Tryz.prog 144 = some [(Value.pointer none)] := by kernel_rfl
theorem row145 : rowOf Tryz.prog 145 = some (1, false) := by kernel_rfl
theorem zero145 : zeroOf Tryz.prog 145 = some [Value.nilFunc] := by kernel_rfl
theorem row146 : rowOf Tryz.prog 146 = some (1, false) := by kernel_rfl
theorem zero146 : zeroOf Tryz.prog 146 = some [(Value.int IntKind.u64 0)] := by kernel_rfl
theorem row147 : rowOf Tryz.prog 147 = some (1, false) := by kernel_rfl
theorem zero147 : zeroOf Tryz.prog 147 = some [Value.nilFunc] := by kernel_rfl
theorem row148 : rowOf Tryz.prog 148 = some (1, false) := by kernel_rfl
theorem zero148 : zeroOf Tryz.prog 148 = some [Value.nilFunc] := by kernel_rfl
theorem row149 : rowOf Tryz.prog 149 = some (1, false) := by kernel_rfl
theorem zero149 : zeroOf Tryz.prog 149 = some [Value.nilFunc] := by kernel_rfl
theorem row150 : rowOf Tryz.prog 150 = some (1, false) := by kernel_rfl
theorem zero150 : zeroOf Tryz.prog 150 = some [Value.nilFunc] := by kernel_rfl
theorem row151 : rowOf Tryz.prog 151 = some (1, false) := by kernel_rfl
theorem zero151 : zeroOf Tryz.prog 151 = some [Value.nilFunc] := by kernel_rfl
theorem row152 : rowOf Tryz.prog 152 = some (1, false) := by kernel_rfl
theorem zero152 : zeroOf Tryz.prog 152 = some [Value.nilFunc] := by kernel_rfl
theorem row153 : rowOf Tryz.prog 153 = some (1, false) := by kernel_rfl
theorem zero153 : zeroOf Tryz.prog 153 = some [(Value.int IntKind.u64 0)] := by kernel_rfl
theorem row154 : rowOf Tryz.prog 154 = some (1, false) := by kernel_rfl
theorem zero154 : zeroOf Tryz.prog 154 = some [Value.nilFunc] := by kernel_rfl
theorem row155 : rowOf Tryz.prog 155 = some (1, false) := by kernel_rfl
theorem zero155 : zeroOf Tryz.prog 155 = some [Value.nilFunc] := by kernel_rfl
theorem row156 : rowOf Tryz.prog 156 = some (1, false) := by kernel_rfl
theorem zero156 : zeroOf Tryz.prog 156 = some [Value.nilFunc] := by kernel_rfl
theorem row157 : rowOf Tryz.prog 157 = some (1, false) := by kernel_rfl
theorem zero157 : zeroOf Tryz.prog 157 = some [(Value.int IntKind.u32 0)] := by kernel_rfl
theorem row158 : rowOf Tryz.prog 158 = some (1, false) := by kernel_rfl
theorem zero158 : zeroOf Tryz.prog 158 = some [Value.nilFunc] := by kernel_rfl
theorem row159 : rowOf Tryz.prog 159 = some (1, false) := by kernel_rfl
theorem zero159 : zeroOf Tryz.prog 159 = some [Value.nilFunc] := by kernel_rfl
theorem row160 : rowOf Tryz.prog 160 = some (1, false) := by kernel_rfl
theorem zero160 : zeroOf Tryz.prog 160 = some [Value.nilFunc] := by kernel_rfl
theorem row161 : rowOf Tryz.prog 161 = some (1, false) := by kernel_rfl
theorem zero161 : zeroOf Tryz.prog 161 = some [Value.nilFunc] := by kernel_rfl
theorem row162 : rowOf Tryz.prog 162 = some (1, false) := by kernel_rfl
theorem zero162 : zeroOf Tryz.prog 162 = some [Value.nilFunc] := by kernel_rfl
theorem row163 : rowOf Tryz.prog 163 = some (1, false) := by kernel_rfl
theorem zero163 : zeroOf Tryz.prog 163 = some [Value.nilFunc] := by kernel_rfl
theorem row164 : rowOf Tryz.prog 164 = some (1, false) := by kernel_rfl
theorem zero164 : zeroOf Tryz.prog 164 = some [Value.nilFunc] := by kernel_rfl
theorem row165 : rowOf Tryz.prog 165 = some (3, true) := by kernel_rfl
theorem zero165 : zeroOf Tryz.prog 165 = some [(Value.slice none 0 0), (Value.int IntKind.i64 0), (Value.int IntKind.i64 0)] := by kernel_rfl
theorem fld165_0 : fldOf Tryz.prog 165 0 = some (0, 1, false) := by kernel_rfl
theorem fld165_1 : fldOf Tryz.prog 165 1 = some (1, 1, false) := by kernel_rfl
theorem fld165_2 : fldOf Tryz.prog 165 2 = some (2, 1, false) := by kernel_rfl
theorem plc165 : placesOf Tryz.prog 165 = some [(0, 1), (1, 1), (2, 1)] := by kernel_rfl
theorem row166 : rowOf Tryz.prog 166 = some (3, true) := by kernel_rfl
theorem zero166 : zeroOf Tryz.prog 166 = some [(Value.slice none 0 0), (Value.int IntKind.i64 0), (Value.int IntKind.i64 0)] := by kernel_rfl
theorem fld166_0 : fldOf Tryz.prog 166 0 = some (0, 1, false) := by kernel_rfl
theorem fld166_1 : fldOf Tryz.prog 166 1 = some (1, 1, false) := by kernel_rfl
theorem fld166_2 : fldOf Tryz.prog 166 2 = some (2, 1, false) := by kernel_rfl
theorem plc166 : placesOf Tryz.prog 166 = some [(0, 1), (1, 1), (2, 1)] := by kernel_rfl
theorem row168 : rowOf Tryz.prog 168 = some (1, false) := by kernel_rfl
theorem zero168 : zeroOf Tryz.prog 168 = some [Value.nilFunc] := by kernel_rfl
theorem row169 : rowOf Tryz.prog 169 = some (1, false) := by kernel_rfl
theorem zero169 : zeroOf Tryz.prog 169 = some [Value.nilFunc] := by kernel_rfl
theorem row170 : rowOf Tryz.prog 170 = some (1, false) := by kernel_rfl
theorem zero170 : zeroOf Tryz.prog 170 = some [(Value.int IntKind.i64 0)] := by kernel_rfl
theorem row172 : rowOf Tryz.prog 172 = some (1, false) := by kernel_rfl
theorem zero172 : zeroOf Tryz.prog 172 = some [Value.nilFunc] := by kernel_rfl
theorem row173 : rowOf Tryz.prog 173 = some (1, false) := by kernel_rfl
theorem zero173 : zeroOf Tryz.prog 173 = some [Value.nilFunc] := by kernel_rfl
theorem row174 : rowOf Tryz.prog 174 = some (1, false) := by kernel_rfl
theorem zero174 : zeroOf Tryz.prog 174 = some [Value.nilFunc] := by kernel_rfl
theorem row175 : rowOf Tryz.prog 175 = some (1, false) := by kernel_rfl
theorem zero175 : zeroOf Tryz.prog 175 = some [Value.nilFunc] := by kernel_rfl
theorem row176 : rowOf Tryz.prog 176 = some (1, false) := by kernel_rfl
theorem zero176 : zeroOf Tryz.prog 176 = some [Value.nilFunc] := by kernel_rfl
theorem row177 : rowOf Tryz.prog 177 = some (1, false) := by kernel_rfl
theorem zero177 : zeroOf Tryz.prog 177 = some [Value.nilFunc] := by kernel_rfl
theorem row178 : rowOf Tryz.prog 178 = some (1, false) := by kernel_rfl
theorem zero178 : zeroOf Tryz.prog 178 = some [Value.nilFunc] := by kernel_rfl
theorem row179 : rowOf Tryz.prog 179 = some (1, false) := by kernel_rfl
theorem zero179 : zeroOf Tryz.prog 179 = some [Value.nilFunc] := by kernel_rfl
theorem row180 : rowOf Tryz.prog 180 = some (1, false) := by kernel_rfl
theorem zero180 : zeroOf Tryz.prog 180 = some [Value.nilFunc] := by kernel_rfl
theorem row181 : rowOf Tryz.prog 181 = some (1, false) := by kernel_rfl
theorem zero181 : zeroOf Tryz.prog 181 = some [Value.nilFunc] := by kernel_rfl
theorem row182 : rowOf Tryz.prog 182 = some (1, false) := by kernel_rfl
theorem zero182 : zeroOf Tryz.prog 182 = some [Value.nilFunc] := by kernel_rfl
theorem row183 : rowOf Tryz.prog 183 = some (1, false) := by kernel_rfl
theorem zero183 : zeroOf Tryz.prog 183 = some [(Value.slice none 0 0)] := by kernel_rfl
theorem ei85 : EI Tryz.prog 85 (Value.slice none 0 0) 1 24 := ei_of (by kernel_rfl) rfl (by decide)
theorem row184 : rowOf Tryz.prog 184 = some (1, false) := by kernel_rfl
theorem zero184 : zeroOf Tryz.prog 184 = some [Value.nilFunc] := by kernel_rfl
theorem row185 : rowOf Tryz.prog 185 = some (1, false) := by kernel_rfl
theorem zero185 : zeroOf Tryz.prog 185 = some [Value.nilFunc] := by kernel_rfl
theorem row186 : rowOf Tryz.prog 186 = some (1, false) := by kernel_rfl
theorem zero186 : zeroOf Tryz.prog 186 = some [(Value.int IntKind.u64 0)] := by kernel_rfl
theorem row187 : rowOf Tryz.prog 187 = some (1, false) := by kernel_rfl
theorem zero187 : zeroOf Tryz.prog 187 = some [Value.nilFunc] := by kernel_rfl
theorem row188 : rowOf Tryz.prog 188 = some (1, false) := by kernel_rfl
theorem zero188 : zeroOf Tryz.prog 188 = some [Value.nilFunc] := by kernel_rfl
theorem row189 : rowOf Tryz.prog 189 = some (1, false) := by kernel_rfl
theorem zero189 : zeroOf Tryz.prog 189 = some [(Value.pointer none)] := by kernel_rfl
theorem row190 : rowOf Tryz.prog 190 = some (1, false) := by kernel_rfl
theorem zero190 : zeroOf Tryz.prog 190 = some [Value.nilFunc] := by kernel_rfl
theorem row191 : rowOf Tryz.prog 191 = some (1, false) := by kernel_rfl
theorem zero191 : zeroOf Tryz.prog 191 = some [Value.nilFunc] := by kernel_rfl
theorem row192 : rowOf Tryz.prog 192 = some (1, false) := by kernel_rfl
theorem zero192 : zeroOf Tryz.prog 192 = some [Value.nilFunc] := by kernel_rfl
theorem row193 : rowOf Tryz.prog 193 = some (1, false) := by kernel_rfl
theorem zero193 : zeroOf Tryz.prog 193 = some [(Value.pointer none)] := by kernel_rfl
theorem row195 : rowOf Tryz.prog 195 = some (1, false) := by kernel_rfl
theorem zero195 : zeroOf Tryz.prog 195 = some [Value.nilFunc] := by kernel_rfl
theorem row196 : rowOf Tryz.prog 196 = some (4, true) := by kernel_rfl
theorem zero196 : zeroOf Tryz.prog 196 = some [(Value.pointer none), (Value.pointer none), (Value.pointer none), (Value.string { data := #[] })] := by kernel_rfl
theorem fld196_0 : fldOf Tryz.prog 196 0 = some (0, 1, false) := by kernel_rfl
theorem fld196_1 : fldOf Tryz.prog 196 1 = some (1, 1, false) := by kernel_rfl
theorem fld196_2 : fldOf Tryz.prog 196 2 = some (2, 1, false) := by kernel_rfl
theorem fld196_3 : fldOf Tryz.prog 196 3 = some (3, 1, false) := by kernel_rfl
theorem plc196 : placesOf Tryz.prog 196 = some [(0, 1), (1, 1), (2, 1), (3, 1)] := by kernel_rfl
theorem row197 : rowOf Tryz.prog 197 = some (4, true) := by kernel_rfl
theorem zero197 : zeroOf Tryz.prog 197 = some [(Value.pointer none), (Value.pointer none), (Value.pointer none), (Value.string { data := #[] })] := by kernel_rfl
theorem fld197_0 : fldOf Tryz.prog 197 0 = some (0, 1, false) := by kernel_rfl
theorem fld197_1 : fldOf Tryz.prog 197 1 = some (1, 1, false) := by kernel_rfl
theorem fld197_2 : fldOf Tryz.prog 197 2 = some (2, 1, false) := by kernel_rfl
theorem fld197_3 : fldOf Tryz.prog 197 3 = some (3, 1, false) := by kernel_rfl
theorem plc197 : placesOf Tryz.prog 197 = some [(0, 1), (1, 1), (2, 1), (3, 1)] := by kernel_rfl
theorem row198 : rowOf Tryz.prog 198 = some (0, true) := by kernel_rfl
theorem zero198 : zeroOf Tryz.prog 198 = some [] := by kernel_rfl
theorem row199 : rowOf Tryz.prog 199 = some (0, true) := by kernel_rfl
theorem zero199 : zeroOf Tryz.prog 199 = some [] := by kernel_rfl
theorem fld199_0 : fldOf Tryz.prog 199 0 = some (0, 0, true) := by kernel_rfl
theorem plc199 : placesOf Tryz.prog 199 = some [(0, 0)] := by kernel_rfl
theorem row200 : rowOf Tryz.prog 200 = some (0, true) := by kernel_rfl
theorem zero200 : zeroOf Tryz.prog 200 = some [] := by kernel_rfl
theorem fld200_0 : fldOf Tryz.prog 200 0 = some (0, 0, true) := by kernel_rfl
theorem plc200 : placesOf Tryz.prog 200 = some [(0, 0)] := by kernel_rfl
theorem row201 : rowOf Tryz.prog 201 = some (1, false) := by kernel_rfl
theorem zero201 : zeroOf Tryz.prog 201 = some [(Value.int IntKind.u8 0)] := by kernel_rfl
theorem row202 : rowOf Tryz.prog 202 = some (1, false) := by kernel_rfl
theorem zero202 : zeroOf Tryz.prog 202 = some [(Value.int IntKind.u8 0)] := by kernel_rfl
theorem row203 : rowOf Tryz.prog 203 = some (1, false) := by kernel_rfl
theorem zero203 : zeroOf Tryz.prog 203 = some [Value.nilFunc] := by kernel_rfl
theorem row204 : rowOf Tryz.prog 204 = some (1, false) := by kernel_rfl
theorem zero204 : zeroOf Tryz.prog 204 = some [(Value.pointer none)] := by kernel_rfl
theorem row205 : rowOf Tryz.prog 205 = some (1, false) := by kernel_rfl
theorem zero205 : zeroOf Tryz.prog 205 = some [(Value.int IntKind.i32 0)] := by kernel_rfl
theorem row206 : rowOf Tryz.prog 206 = some (1, false) := by kernel_rfl
theorem zero206 : zeroOf Tryz.prog 206 = some [(Value.int IntKind.i32 0)] := by kernel_rfl
theorem row207 : rowOf Tryz.prog 207 = some (11, true) := by kernel_rfl
theorem zero207 : zeroOf Tryz.prog 207 = some [(Value.int IntKind.u64 0), (Value.int IntKind.u64 0), (Value.int IntKind.u32 0), (Value.int IntKind.u8 0), (Value.int IntKind.u8 0), (Value.int IntKind.u8 0), (Value.int IntKind.u8 0), Value.nilFunc, (Value.pointer none), (Value.int IntKind.i32 0), (Value.int IntKind.i32 0)] := by kernel_rfl
theorem fld207_0 : fldOf Tryz.prog 207 0 = some (0, 1, false) := by kernel_rfl
theorem fld207_1 : fldOf Tryz.prog 207 1 = some (1, 1, false) := by kernel_rfl
theorem fld207_2 : fldOf Tryz.prog 207 2 = some (2, 1, false) := by kernel_rfl
theorem fld207_3 : fldOf Tryz.prog 207 3 = some (3, 1, false) := by kernel_rfl
theorem fld207_4 : fldOf Tryz.prog 207 4 = some (4, 1, false) := by kernel_rfl
theorem fld207_5 : fldOf Tryz.prog 207 5 = some (5, 1, false) := by kernel_rfl
theorem fld207_6 : fldOf Tryz.prog 207 6 = some (6, 1, false) := by kernel_rfl
theorem fld207_7 : fldOf Tryz.prog 207 7 = some (7, 1, false) := by kernel_rfl
theorem fld207_8 : fldOf Tryz.prog 207 8 = some (8, 1, false) := by kernel_rfl
theorem fld207_9 : fldOf Tryz.prog 207 9 = some (9, 1, false) := by kernel_rfl
theorem fld207_10 : fldOf Tryz.prog 207 10 = some (10, 1, false) := by kernel_rfl
theorem plc207 : placesOf Tryz.prog 207 = some [(0, 1), (1, 1), (2, 1), (3, 1), (4, 1), (5, 1), (6, 1), (7, 1), (8, 1), (9, 1), (10, 1)] := by kernel_rfl
theorem row208 : rowOf Tryz.prog 208 = some (11, true) := by kernel_rfl
theorem zero208 : zeroOf Tryz.prog 208 = some [(Value.int IntKind.u64 0), (Value.int IntKind.u64 0), (Value.int IntKind.u32 0), (Value.int IntKind.u8 0), (Value.int IntKind.u8 0), (Value.int IntKind.u8 0), (Value.int IntKind.u8 0), Value.nilFunc, (Value.pointer none), (Value.int IntKind.i32 0), (Value.int IntKind.i32 0)] := by kernel_rfl
theorem fld208_0 : fldOf Tryz.prog 208 0 = some (0, 1, false) := by kernel_rfl
theorem fld208_1 : fldOf Tryz.prog 208 1 = some (1, 1, false) := by kernel_rfl
theorem fld208_2 : fldOf Tryz.prog 208 2 = some (2, 1, false) := by kernel_rfl
theorem fld208_3 : fldOf Tryz.prog 208 3 = some (3, 1, false) := by kernel_rfl
theorem fld208_4 : fldOf Tryz.prog 208 4 = some (4, 1, false) := by kernel_rfl
theorem fld208_5 : fldOf Tryz.prog 208 5 = some (5, 1, false) := by kernel_rfl
theorem fld208_6 : fldOf Tryz.prog 208 6 = some (6, 1, false) := by kernel_rfl
theorem fld208_7 : fldOf Tryz.prog 208 7 = some (7, 1, false) := by kernel_rfl
theorem fld208_8 : fldOf Tryz.prog 208 8 = some (8, 1, false) := by kernel_rfl
theorem fld208_9 : fldOf Tryz.prog 208 9 = some (9, 1, false) := by kernel_rfl
theorem fld208_10 : fldOf Tryz.prog 208 10 = some (10, 1, false) := by kernel_rfl
theorem plc208 : placesOf Tryz.prog 208 = some [(0, 1), (1, 1), (2, 1), (3, 1), (4, 1), (5, 1), (6, 1), (7, 1), (8, 1), (9, 1), (10, 1)] := by kernel_rfl
theorem row209 : rowOf Tryz.prog 209 = some (1, false) := by kernel_rfl
theorem zero209 : zeroOf Tryz.prog 209 = some [(Value.pointer none)] := by kernel_rfl
end Go.Proofs.YtgeldfgcicjidaaGreat
