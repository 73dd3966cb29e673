/- Facts of the program's types: how many cells, their zeros, their fields. -/
import Derived.Test.YtgeldfgcicjidaaS4
namespace Go.Proofs.Ytgeldfgcicjidaa
open Go.RowKit

theorem row1 : rowOf Try.prog 1 = some (1, false) := by kernel_rfl
theorem zero1 : zeroOf Try.prog 1 = some [Value.nilFunc] := by kernel_rfl
theorem row2 : rowOf Try.prog 2 = some (1, false) := by kernel_rfl
theorem zero2 : zeroOf Try.prog 2 = some [(Value.int IntKind.i64 0)] := by kernel_rfl
theorem row3 : rowOf Try.prog 3 = some (1, false) := by kernel_rfl
theorem zero3 : zeroOf Try.prog 3 = some [(Value.int IntKind.i64 0)] := by kernel_rfl
theorem row4 : rowOf Try.prog 4 = some (1, false) := by kernel_rfl
theorem zero4 : zeroOf Try.prog 4 = some [(Value.bool false)] := by kernel_rfl
theorem row5 : rowOf Try.prog 5 = some (1, false) := by kernel_rfl
theorem zero5 : zeroOf Try.prog 5 = some [(Value.int IntKind.u8 0)] := by kernel_rfl
theorem row6 : rowOf Try.prog 6 = some (1, false) := by kernel_rfl
theorem zero6 : zeroOf Try.prog 6 = some [(Value.int IntKind.u8 0)] := by kernel_rfl
theorem row7 : rowOf Try.prog 7 = some (4, true) := by kernel_rfl
theorem zero7 : zeroOf Try.prog 7 = some [(Value.int IntKind.i64 0), (Value.int IntKind.i64 0), (Value.bool false), (Value.int IntKind.u8 0)] := by kernel_rfl
theorem fld7_0 : fldOf Try.prog 7 0 = some (0, 1, false) := by kernel_rfl
theorem fld7_1 : fldOf Try.prog 7 1 = some (1, 1, false) := by kernel_rfl
theorem fld7_2 : fldOf Try.prog 7 2 = some (2, 1, false) := by kernel_rfl
theorem fld7_3 : fldOf Try.prog 7 3 = some (3, 1, false) := by kernel_rfl
theorem plc7 : placesOf Try.prog 7 = some [(0, 1), (1, 1), (2, 1), (3, 1)] := by kernel_rfl
theorem row8 : rowOf Try.prog 8 = some (4, true) := by kernel_rfl
theorem zero8 : zeroOf Try.prog 8 = some [(Value.int IntKind.i64 0), (Value.int IntKind.i64 0), (Value.bool false), (Value.int IntKind.u8 0)] := by kernel_rfl
theorem fld8_0 : fldOf Try.prog 8 0 = some (0, 1, false) := by kernel_rfl
theorem fld8_1 : fldOf Try.prog 8 1 = some (1, 1, false) := by kernel_rfl
theorem fld8_2 : fldOf Try.prog 8 2 = some (2, 1, false) := by kernel_rfl
theorem fld8_3 : fldOf Try.prog 8 3 = some (3, 1, false) := by kernel_rfl
theorem plc8 : placesOf Try.prog 8 = some [(0, 1), (1, 1), (2, 1), (3, 1)] := by kernel_rfl
theorem row9 : rowOf Try.prog 9 = some (1, false) := by kernel_rfl
theorem zero9 : zeroOf Try.prog 9 = some [(Value.string { data := #[] })] := by kernel_rfl
theorem row10 : rowOf Try.prog 10 = some (1, false) := by kernel_rfl
theorem zero10 : zeroOf Try.prog 10 = some [(Value.string { data := #[] })] := by kernel_rfl
theorem row11 : rowOf Try.prog 11 = some (1, false) := by kernel_rfl
theorem zero11 : zeroOf Try.prog 11 = some [(Value.string { data := #[] })] := by kernel_rfl
theorem row12 : rowOf Try.prog 12 = some (1, false) := by kernel_rfl
theorem zero12 : zeroOf Try.prog 12 = some [(Value.int IntKind.u64 0)] := by kernel_rfl
theorem row13 : rowOf Try.prog 13 = some (2, true) := by kernel_rfl
theorem zero13 : zeroOf Try.prog 13 = some [(Value.string { data := #[] }), (Value.int IntKind.u64 0)] := by kernel_rfl
theorem fld13_0 : fldOf Try.prog 13 0 = some (0, 1, false) := by kernel_rfl
theorem fld13_1 : fldOf Try.prog 13 1 = some (1, 1, false) := by kernel_rfl
theorem plc13 : placesOf Try.prog 13 = some [(0, 1), (1, 1)] := by kernel_rfl
theorem row14 : rowOf Try.prog 14 = some (2, true) := by kernel_rfl
theorem zero14 : zeroOf Try.prog 14 = some [(Value.string { data := #[] }), (Value.int IntKind.u64 0)] := by kernel_rfl
theorem fld14_0 : fldOf Try.prog 14 0 = some (0, 1, false) := by kernel_rfl
theorem fld14_1 : fldOf Try.prog 14 1 = some (1, 1, false) := by kernel_rfl
theorem plc14 : placesOf Try.prog 14 = some [(0, 1), (1, 1)] := by kernel_rfl
theorem row15 : rowOf Try.prog 15 = some (1, false) := by kernel_rfl
theorem zero15 : zeroOf Try.prog 15 = some [(Value.pointer none)] := by kernel_rfl
theorem row16 : rowOf Try.prog 16 = some (1, false) := by kernel_rfl
theorem zero16 : zeroOf Try.prog 16 = some [(Value.pointer none)] := by kernel_rfl
theorem row17 : rowOf Try.prog 17 = some (1, false) := by kernel_rfl
theorem zero17 : zeroOf Try.prog 17 = some [(Value.pointer none)] := by kernel_rfl
theorem row18 : rowOf Try.prog 18 = some (1, true) := by kernel_rfl
theorem zero18 : zeroOf Try.prog 18 = some [(Value.pointer none)] := by kernel_rfl
theorem fld18_0 : fldOf Try.prog 18 0 = some (0, 1, false) := by kernel_rfl
theorem plc18 : placesOf Try.prog 18 = some [(0, 1)] := by kernel_rfl
theorem row19 : rowOf Try.prog 19 = some (1, true) := by kernel_rfl
theorem zero19 : zeroOf Try.prog 19 = some [(Value.pointer none)] := by kernel_rfl
theorem fld19_0 : fldOf Try.prog 19 0 = some (0, 1, false) := by kernel_rfl
theorem plc19 : placesOf Try.prog 19 = some [(0, 1)] := by kernel_rfl
theorem row20 : rowOf Try.prog 20 = some (1, false) := by kernel_rfl
theorem zero20 : zeroOf Try.prog 20 = some [Value.nilIface] := by kernel_rfl
theorem row21 : rowOf Try.prog 21 = some (1, false) := by kernel_rfl
theorem zero21 : zeroOf Try.prog 21 = some [(Value.int IntKind.i32 0)] := by kernel_rfl
theorem row22 : rowOf Try.prog 22 = some (1, false) := by kernel_rfl
theorem zero22 : zeroOf Try.prog 22 = some [(Value.slice none 0 0)] := by kernel_rfl
theorem ei55 : EI Try.prog 55 (.agg #[(Value.string { data := #[] }), (Value.slice none 0 0), (Value.bool false)]) 3 48 := ei_of (by kernel_rfl) rfl (by decide)
theorem row23 : rowOf Try.prog 23 = some (1, false) := by kernel_rfl
theorem zero23 : zeroOf Try.prog 23 = some [Value.nilFunc] := by kernel_rfl
theorem row24 : rowOf Try.prog 24 = some (1, false) := by kernel_rfl
theorem zero24 : zeroOf Try.prog 24 = some [Value.nilFunc] := by kernel_rfl
theorem row25 : rowOf Try.prog 25 = some (1, false) := by kernel_rfl
theorem zero25 : zeroOf Try.prog 25 = some [(Value.pointer none)] := by kernel_rfl
theorem row26 : rowOf Try.prog 26 = some (1, false) := by kernel_rfl
theorem zero26 : zeroOf Try.prog 26 = some [(Value.pointer none)] := by kernel_rfl
theorem row28 : rowOf Try.prog 28 = some (1, false) := by kernel_rfl
theorem zero28 : zeroOf Try.prog 28 = some [Value.nilFunc] := by kernel_rfl
theorem row29 : rowOf Try.prog 29 = some (1, false) := by kernel_rfl
theorem zero29 : zeroOf Try.prog 29 = some [(Value.pointer none)] := by kernel_rfl
theorem row30 : rowOf Try.prog 30 = some (1, false) := by kernel_rfl
theorem zero30 : zeroOf Try.prog 30 = some [(Value.int IntKind.i64 0)] := by kernel_rfl
theorem row32 : rowOf Try.prog 32 = some (1, false) := by kernel_rfl
theorem zero32 : zeroOf Try.prog 32 = some [Value.nilFunc] := by kernel_rfl
theorem row33 : rowOf Try.prog 33 = some (1, false) := by kernel_rfl
theorem zero33 : zeroOf Try.prog 33 = some [(Value.pointer none)] := by kernel_rfl
theorem row34 : rowOf Try.prog 34 = some (1, true) := by kernel_rfl
theorem zero34 : zeroOf Try.prog 34 = some [(Value.slice none 0 0)] := by kernel_rfl
theorem fld34_0 : fldOf Try.prog 34 0 = some (0, 1, false) := by kernel_rfl
theorem plc34 : placesOf Try.prog 34 = some [(0, 1)] := by kernel_rfl
theorem row35 : rowOf Try.prog 35 = some (1, true) := by kernel_rfl
theorem zero35 : zeroOf Try.prog 35 = some [(Value.slice none 0 0)] := by kernel_rfl
theorem fld35_0 : fldOf Try.prog 35 0 = some (0, 1, false) := by kernel_rfl
theorem plc35 : placesOf Try.prog 35 = some [(0, 1)] := by kernel_rfl
theorem row36 : rowOf Try.prog 36 = some (1, false) := by kernel_rfl
theorem zero36 : zeroOf Try.prog 36 = some [Value.nilFunc] := by kernel_rfl
theorem row37 : rowOf Try.prog 37 = some (1, false) := by kernel_rfl
theorem zero37 : zeroOf Try.prog 37 = some [Value.nilFunc] := by kernel_rfl
theorem row38 : rowOf Try.prog 38 = some (1, false) := by kernel_rfl
theorem zero38 : zeroOf Try.prog 38 = some [Value.nilFunc] := by kernel_rfl
theorem row39 : rowOf Try.prog 39 = some (1, false) := by kernel_rfl
theorem zero39 : zeroOf Try.prog 39 = some [Value.nilFunc] := by kernel_rfl
theorem row40 : rowOf Try.prog 40 = some (1, false) := by kernel_rfl
theorem zero40 : zeroOf Try.prog 40 = some [(Value.slice none 0 0)] := by kernel_rfl
theorem ei47 : EI Try.prog 47 (.agg #[(Value.int IntKind.i64 0), (Value.string { data := #[] }), (Value.slice none 0 0), (Value.int IntKind.i64 0), (Value.slice none 0 0)]) 5 80 := ei_of (by kernel_rfl) rfl (by decide)
theorem row41 : rowOf Try.prog 41 = some (1, false) := by kernel_rfl
theorem zero41 : zeroOf Try.prog 41 = some [Value.nilFunc] := by kernel_rfl
theorem row43 : rowOf Try.prog 43 = some (1, false) := by kernel_rfl
theorem zero43 : zeroOf Try.prog 43 = some [Value.nilFunc] := by kernel_rfl
theorem row44 : rowOf Try.prog 44 = some (1, false) := by kernel_rfl
theorem zero44 : zeroOf Try.prog 44 = some [(Value.slice none 0 0)] := by kernel_rfl
theorem ei5 : EI Try.prog 5 (Value.int IntKind.u8 0) 1 1 := ei_of (by kernel_rfl) rfl (by decide)
theorem row45 : rowOf Try.prog 45 = some (1, false) := by kernel_rfl
theorem zero45 : zeroOf Try.prog 45 = some [Value.nilFunc] := by kernel_rfl
theorem row46 : rowOf Try.prog 46 = some (5, true) := by kernel_rfl
theorem zero46 : zeroOf Try.prog 46 = some [(Value.int IntKind.i64 0), (Value.string { data := #[] }), (Value.slice none 0 0), (Value.int IntKind.i64 0), (Value.slice none 0 0)] := by kernel_rfl
theorem fld46_0 : fldOf Try.prog 46 0 = some (0, 1, false) := by kernel_rfl
theorem fld46_1 : fldOf Try.prog 46 1 = some (1, 1, false) := by kernel_rfl
theorem fld46_2 : fldOf Try.prog 46 2 = some (2, 1, false) := by kernel_rfl
theorem fld46_3 : fldOf Try.prog 46 3 = some (3, 1, false) := by kernel_rfl
theorem fld46_4 : fldOf Try.prog 46 4 = some (4, 1, false) := by kernel_rfl
theorem plc46 : placesOf Try.prog 46 = some [(0, 1), (1, 1), (2, 1), (3, 1), (4, 1)] := by kernel_rfl
theorem row47 : rowOf Try.prog 47 = some (5, true) := by kernel_rfl
theorem zero47 : zeroOf Try.prog 47 = some [(Value.int IntKind.i64 0), (Value.string { data := #[] }), (Value.slice none 0 0), (Value.int IntKind.i64 0), (Value.slice none 0 0)] := by kernel_rfl
theorem fld47_0 : fldOf Try.prog 47 0 = some (0, 1, false) := by kernel_rfl
theorem fld47_1 : fldOf Try.prog 47 1 = some (1, 1, false) := by kernel_rfl
theorem fld47_2 : fldOf Try.prog 47 2 = some (2, 1, false) := by kernel_rfl
theorem fld47_3 : fldOf Try.prog 47 3 = some (3, 1, false) := by kernel_rfl
theorem fld47_4 : fldOf Try.prog 47 4 = some (4, 1, false) := by kernel_rfl
theorem plc47 : placesOf Try.prog 47 = some [(0, 1), (1, 1), (2, 1), (3, 1), (4, 1)] := by kernel_rfl
theorem row48 : rowOf Try.prog 48 = some (1, false) := by kernel_rfl
theorem zero48 : zeroOf Try.prog 48 = some [Value.nilFunc] := by kernel_rfl
theorem row49 : rowOf Try.prog 49 = some (1, false) := by kernel_rfl
theorem zero49 : zeroOf Try.prog 49 = some [Value.nilFunc] := by kernel_rfl
theorem row50 : rowOf Try.prog 50 = some (1, false) := by kernel_rfl
theorem zero50 : zeroOf Try.prog 50 = some [(Value.slice none 0 0)] := by kernel_rfl
theorem ei3 : EI Try.prog 3 (Value.int IntKind.i64 0) 1 8 := ei_of (by kernel_rfl) rfl (by decide)
theorem row51 : rowOf Try.prog 51 = some (1, false) := by kernel_rfl
theorem zero51 : zeroOf Try.prog 51 = some [Value.nilFunc] := by kernel_rfl
theorem row52 : rowOf Try.prog 52 = some (1, false) := by kernel_rfl
theorem zero52 : zeroOf Try.prog 52 = some [Value.nilFunc] := by kernel_rfl
theorem row53 : rowOf Try.prog 53 = some (1, false) := by kernel_rfl
theorem zero53 : zeroOf Try.prog 53 = some [Value.nilFunc] := by kernel_rfl
theorem row54 : rowOf Try.prog 54 = some (3, true) := by kernel_rfl
theorem zero54 : zeroOf Try.prog 54 = some [(Value.string { data := #[] }), (Value.slice none 0 0), (Value.bool false)] := by kernel_rfl
theorem fld54_0 : fldOf Try.prog 54 0 = some (0, 1, false) := by kernel_rfl
theorem fld54_1 : fldOf Try.prog 54 1 = some (1, 1, false) := by kernel_rfl
theorem fld54_2 : fldOf Try.prog 54 2 = some (2, 1, false) := by kernel_rfl
theorem plc54 : placesOf Try.prog 54 = some [(0, 1), (1, 1), (2, 1)] := by kernel_rfl
theorem row55 : rowOf Try.prog 55 = some (3, true) := by kernel_rfl
theorem zero55 : zeroOf Try.prog 55 = some [(Value.string { data := #[] }), (Value.slice none 0 0), (Value.bool false)] := by kernel_rfl
theorem fld55_0 : fldOf Try.prog 55 0 = some (0, 1, false) := by kernel_rfl
theorem fld55_1 : fldOf Try.prog 55 1 = some (1, 1, false) := by kernel_rfl
theorem fld55_2 : fldOf Try.prog 55 2 = some (2, 1, false) := by kernel_rfl
theorem plc55 : placesOf Try.prog 55 = some [(0, 1), (1, 1), (2, 1)] := by kernel_rfl
theorem row56 : rowOf Try.prog 56 = some (1, false) := by kernel_rfl
theorem zero56 : zeroOf Try.prog 56 = some [Value.nilFunc] := by kernel_rfl
theorem row57 : rowOf Try.prog 57 = some (1, false) := by kernel_rfl
theorem zero57 : zeroOf Try.prog 57 = some [Value.nilFunc] := by kernel_rfl
theorem row58 : rowOf Try.prog 58 = some (1, false) := by kernel_rfl
theorem zero58 : zeroOf Try.prog 58 = some [Value.nilFunc] := by kernel_rfl
theorem row60 : rowOf Try.prog 60 = some (1, false) := by kernel_rfl
theorem zero60 : zeroOf Try.prog 60 = some [Value.nilFunc] := by kernel_rfl
theorem row62 : rowOf Try.prog 62 = some (1, false) := by kernel_rfl
theorem zero62 : zeroOf Try.prog 62 = some [Value.nilFunc] := by kernel_rfl
theorem row63 : rowOf Try.prog 63 = some (4, true) := by kernel_rfl
theorem zero63 : zeroOf Try.prog 63 = some [(Value.int IntKind.i64 0), (Value.int IntKind.i64 0), (Value.int IntKind.i64 0), (Value.slice none 0 0)] := by kernel_rfl
theorem fld63_0 : fldOf Try.prog 63 0 = some (0, 1, false) := by kernel_rfl
theorem fld63_1 : fldOf Try.prog 63 1 = some (1, 1, false) := by kernel_rfl
theorem fld63_2 : fldOf Try.prog 63 2 = some (2, 1, false) := by kernel_rfl
theorem fld63_3 : fldOf Try.prog 63 3 = some (3, 1, false) := by kernel_rfl
theorem plc63 : placesOf Try.prog 63 = some [(0, 1), (1, 1), (2, 1), (3, 1)] := by kernel_rfl
theorem row64 : rowOf Try.prog 64 = some (4, true) := by kernel_rfl
theorem zero64 : zeroOf Try.prog 64 = some [(Value.int IntKind.i64 0), (Value.int IntKind.i64 0), (Value.int IntKind.i64 0), (Value.slice none 0 0)] := by kernel_rfl
theorem fld64_0 : fldOf Try.prog 64 0 = some (0, 1, false) := by kernel_rfl
theorem fld64_1 : fldOf Try.prog 64 1 = some (1, 1, false) := by kernel_rfl
theorem fld64_2 : fldOf Try.prog 64 2 = some (2, 1, false) := by kernel_rfl
theorem fld64_3 : fldOf Try.prog 64 3 = some (3, 1, false) := by kernel_rfl
theorem plc64 : placesOf Try.prog 64 = some [(0, 1), (1, 1), (2, 1), (3, 1)] := by kernel_rfl
theorem row66 : rowOf Try.prog 66 = some (1, false) := by kernel_rfl
theorem zero66 : zeroOf Try.prog 66 = some [Value.nilFunc] := by kernel_rfl
theorem row67 : rowOf Try.prog 67 = some (1, false) := by kernel_rfl
theorem zero67 : zeroOf Try.prog 67 = some [(Value.slice none 0 0)] := by kernel_rfl
theorem ei69 : EI Try.prog 69 (.agg #[(Value.string { data := #[] }), (Value.slice none 0 0), (Value.int IntKind.i64 0)]) 3 48 := ei_of (by kernel_rfl) rfl (by decide)
theorem row68 : rowOf Try.prog 68 = some (3, true) := by kernel_rfl
theorem zero68 : zeroOf Try.prog 68 = some [(Value.string { data := #[] }), (Value.slice none 0 0), (Value.int IntKind.i64 0)] := by kernel_rfl
theorem fld68_0 : fldOf Try.prog 68 0 = some (0, 1, false) := by kernel_rfl
theorem fld68_1 : fldOf Try.prog 68 1 = some (1, 1, false) := by kernel_rfl
theorem fld68_2 : fldOf Try.prog 68 2 = some (2, 1, false) := by kernel_rfl
theorem plc68 : placesOf Try.prog 68 = some [(0, 1), (1, 1), (2, 1)] := by kernel_rfl
theorem row69 : rowOf Try.prog 69 = some (3, true) := by kernel_rfl
theorem zero69 : zeroOf Try.prog 69 = some [(Value.string { data := #[] }), (Value.slice none 0 0), (Value.int IntKind.i64 0)] := by kernel_rfl
theorem fld69_0 : fldOf Try.prog 69 0 = some (0, 1, false) := by kernel_rfl
theorem fld69_1 : fldOf Try.prog 69 1 = some (1, 1, false) := by kernel_rfl
theorem fld69_2 : fldOf Try.prog 69 2 = some (2, 1, false) := by kernel_rfl
theorem plc69 : placesOf Try.prog 69 = some [(0, 1), (1, 1), (2, 1)] := by kernel_rfl
theorem row70 : rowOf Try.prog 70 = some (2, true) := by kernel_rfl
theorem zero70 : zeroOf Try.prog 70 = some [(Value.pointer none), (Value.int IntKind.i64 0)] := by kernel_rfl
theorem fld70_0 : fldOf Try.prog 70 0 = some (0, 1, false) := by kernel_rfl
theorem fld70_1 : fldOf Try.prog 70 1 = some (1, 1, false) := by kernel_rfl
theorem plc70 : placesOf Try.prog 70 = some [(0, 1), (1, 1)] := by kernel_rfl
theorem row71 : rowOf Try.prog 71 = some (2, true) := by kernel_rfl
theorem zero71 : zeroOf Try.prog 71 = some [(Value.pointer none), (Value.int IntKind.i64 0)] := by kernel_rfl
theorem fld71_0 : fldOf Try.prog 71 0 = some (0, 1, false) := by kernel_rfl
theorem fld71_1 : fldOf Try.prog 71 1 = some (1, 1, false) := by kernel_rfl
theorem plc71 : placesOf Try.prog 71 = some [(0, 1), (1, 1)] := by kernel_rfl
theorem row73 : rowOf Try.prog 73 = some (1, false) := by kernel_rfl
theorem zero73 : zeroOf Try.prog 73 = some [Value.nilFunc] := by kernel_rfl
theorem row74 : rowOf Try.prog 74 = some (1, false) := by kernel_rfl
theorem zero74 : zeroOf Try.prog 74 = some [(Value.slice none 0 0)] := by kernel_rfl
theorem ei105 : EI Try.prog 105 (.agg #[(Value.bool false), (Value.slice none 0 0)]) 2 32 := ei_of (by kernel_rfl) rfl (by decide)
theorem row75 : rowOf Try.prog 75 = some (1, false) := by kernel_rfl
theorem zero75 : zeroOf Try.prog 75 = some [Value.nilFunc] := by kernel_rfl
theorem row76 : rowOf Try.prog 76 = some (1, false) := by kernel_rfl
theorem zero76 : zeroOf Try.prog 76 = some [Value.nilFunc] := by kernel_rfl
theorem row77 : rowOf Try.prog 77 = some (1, false) := by kernel_rfl
theorem zero77 : zeroOf Try.prog 77 = some [Value.nilFunc] := by kernel_rfl
theorem row78 : rowOf Try.prog 78 = some (1, false) := by kernel_rfl
theorem zero78 : zeroOf Try.prog 78 = some [Value.nilFunc] := by kernel_rfl
theorem row79 : rowOf Try.prog 79 = some (1, false) := by kernel_rfl
theorem zero79 : zeroOf Try.prog 79 = some [Value.nilFunc] := by kernel_rfl
theorem row80 : rowOf Try.prog 80 = some (1, false) := by kernel_rfl
theorem zero80 : zeroOf Try.prog 80 = some [Value.nilFunc] := by kernel_rfl
theorem row81 : rowOf Try.prog 81 = some (1, false) := by kernel_rfl
theorem zero81 : zeroOf Try.prog 81 = some [Value.nilFunc] := by kernel_rfl
theorem row82 : rowOf Try.prog 82 = some (1, false) := by kernel_rfl
theorem zero82 : zeroOf Try.prog 82 = some [Value.nilFunc] := by kernel_rfl
theorem row83 : rowOf Try.prog 83 = some (4096, true) := by kernel_rfl
theorem zero83 : zeroOf Try.prog 83 = some (List.replicate 4096 (Value.int IntKind.u8 0)) := by kernel_rfl
theorem row84 : rowOf Try.prog 84 = some (4104, true) := by kernel_rfl
theorem zero84 : zeroOf Try.prog 84 = some ([(Value.pointer none), (Value.int IntKind.i64 0), (Value.int IntKind.i64 0)] ++ List.replicate 4096 (Value.int IntKind.u8 0) ++ [(Value.int IntKind.i64 0), (Value.int IntKind.i64 0), (Value.int IntKind.i64 0), (Value.slice none 0 0), (Value.bool false)]) := by kernel_rfl
theorem fld84_0 : fldOf Try.prog 84 0 = some (0, 1, false) := by kernel_rfl
theorem fld84_1 : fldOf Try.prog 84 1 = some (1, 1, false) := by kernel_rfl
theorem fld84_2 : fldOf Try.prog 84 2 = some (2, 1, false) := by kernel_rfl
theorem fld84_3 : fldOf Try.prog 84 3 = some (3, 4096, true) := by kernel_rfl
theorem fld84_4 : fldOf Try.prog 84 4 = some (4099, 4, true) := by kernel_rfl
theorem fld84_5 : fldOf Try.prog 84 5 = some (4103, 1, false) := by kernel_rfl
theorem plc84 : placesOf Try.prog 84 = some [(0, 1), (1, 1), (2, 1), (3, 4096), (4099, 4), (4103, 1)] := by kernel_rfl
theorem row85 : rowOf Try.prog 85 = some (4104, true) := by kernel_rfl
theorem zero85 : zeroOf Try.prog 85 = some ([(Value.pointer none), (Value.int IntKind.i64 0), (Value.int IntKind.i64 0)] ++ List.replicate 4096 (Value.int IntKind.u8 0) ++ [(Value.int IntKind.i64 0), (Value.int IntKind.i64 0), (Value.int IntKind.i64 0), (Value.slice none 0 0), (Value.bool false)]) := by kernel_rfl
theorem fld85_0 : fldOf Try.prog 85 0 = some (0, 1, false) := by kernel_rfl
theorem fld85_1 : fldOf Try.prog 85 1 = some (1, 1, false) := by kernel_rfl
theorem fld85_2 : fldOf Try.prog 85 2 = some (2, 1, false) := by kernel_rfl
theorem fld85_3 : fldOf Try.prog 85 3 = some (3, 4096, true) := by kernel_rfl
theorem fld85_4 : fldOf Try.prog 85 4 = some (4099, 4, true) := by kernel_rfl
theorem fld85_5 : fldOf Try.prog 85 5 = some (4103, 1, false) := by kernel_rfl
theorem plc85 : placesOf Try.prog 85 = some [(0, 1), (1, 1), (2, 1), (3, 4096), (4099, 4), (4103, 1)] := by kernel_rfl
theorem row86 : rowOf Try.prog 86 = some (1, false) := by kernel_rfl
theorem zero86 : zeroOf Try.prog 86 = some [Value.nilFunc] := by kernel_rfl
theorem row87 : rowOf Try.prog 87 = some (1, false) := by kernel_rfl
theorem zero87 : zeroOf Try.prog 87 = some [Value.nilFunc] := by kernel_rfl
theorem row88 : rowOf Try.prog 88 = some (1, false) := by kernel_rfl
theorem zero88 : zeroOf Try.prog 88 = some [Value.nilFunc] := by kernel_rfl
theorem row90 : rowOf Try.prog 90 = some (1, false) := by kernel_rfl
theorem zero90 : zeroOf Try.prog 90 = some [Value.nilFunc] := by kernel_rfl
theorem row91 : rowOf Try.prog 91 = some (1, false) := by kernel_rfl
theorem zero91 : zeroOf Try.prog 91 = some [Value.nilFunc] := by kernel_rfl
theorem row92 : rowOf Try.prog 92 = some (1, false) := by kernel_rfl
theorem zero92 : zeroOf Try.prog 92 = some [Value.nilFunc] := by kernel_rfl
theorem row93 : rowOf Try.prog 93 = some (3, true) := by kernel_rfl
theorem zero93 : zeroOf Try.prog 93 = some [(Value.int IntKind.i64 0), (Value.int IntKind.i64 0), (Value.slice none 0 0)] := by kernel_rfl
theorem fld93_0 : fldOf Try.prog 93 0 = some (0, 1, false) := by kernel_rfl
theorem fld93_1 : fldOf Try.prog 93 1 = some (1, 1, false) := by kernel_rfl
theorem fld93_2 : fldOf Try.prog 93 2 = some (2, 1, false) := by kernel_rfl
theorem plc93 : placesOf Try.prog 93 = some [(0, 1), (1, 1), (2, 1)] := by kernel_rfl
theorem row94 : rowOf Try.prog 94 = some (3, true) := by kernel_rfl
theorem zero94 : zeroOf Try.prog 94 = some [(Value.int IntKind.i64 0), (Value.int IntKind.i64 0), (Value.slice none 0 0)] := by kernel_rfl
theorem fld94_0 : fldOf Try.prog 94 0 = some (0, 1, false) := by kernel_rfl
theorem fld94_1 : fldOf Try.prog 94 1 = some (1, 1, false) := by kernel_rfl
theorem fld94_2 : fldOf Try.prog 94 2 = some (2, 1, false) := by kernel_rfl
theorem plc94 : placesOf Try.prog 94 = some [(0, 1), (1, 1), (2, 1)] := by kernel_rfl
theorem row96 : rowOf Try.prog 96 = some (1, false) := by kernel_rfl
theorem zero96 : zeroOf Try.prog 96 = some [Value.nilFunc] := by kernel_rfl
theorem row98 : rowOf Try.prog 98 = some (1, false) := by kernel_rfl
theorem zero98 : zeroOf Try.prog 98 = some [Value.nilFunc] := by kernel_rfl
theorem row99 : rowOf Try.prog 99 = some (1, false) := by kernel_rfl
theorem zero99 : zeroOf Try.prog 99 = some [Value.nilFunc] := by kernel_rfl
theorem row100 : rowOf Try.prog 100 = some (1, false) := by kernel_rfl
theorem zero100 : zeroOf Try.prog 100 = some [Value.nilFunc] := by kernel_rfl
theorem row102 : rowOf Try.prog 102 = some (1, false) := by kernel_rfl
theorem zero102 : zeroOf Try.prog 102 = some [Value.nilFunc] := by kernel_rfl
theorem row103 : rowOf Try.prog 103 = some (1, false) := by kernel_rfl
theorem zero103 : zeroOf Try.prog 103 = some [Value.nilFunc] := by kernel_rfl
theorem row104 : rowOf Try.prog 104 = some (2, true) := by kernel_rfl
theorem zero104 : zeroOf Try.prog 104 = some [(Value.bool false), (Value.slice none 0 0)] := by kernel_rfl
theorem fld104_0 : fldOf Try.prog 104 0 = some (0, 1, false) := by kernel_rfl
theorem fld104_1 : fldOf Try.prog 104 1 = some (1, 1, false) := by kernel_rfl
theorem plc104 : placesOf Try.prog 104 = some [(0, 1), (1, 1)] := by kernel_rfl
theorem row105 : rowOf Try.prog 105 = some (2, true) := by kernel_rfl
theorem zero105 : zeroOf Try.prog 105 = some [(Value.bool false), (Value.slice none 0 0)] := by kernel_rfl
theorem fld105_0 : fldOf Try.prog 105 0 = some (0, 1, false) := by kernel_rfl
theorem fld105_1 : fldOf Try.prog 105 1 = some (1, 1, false) := by kernel_rfl
theorem plc105 : placesOf Try.prog 105 = some [(0, 1), (1, 1)] := by kernel_rfl
theorem row106 : rowOf Try.prog 106 = some (1, false) := by kernel_rfl
theorem zero106 : zeroOf Try.prog 106 = some [Value.nilFunc] := by kernel_rfl
theorem row107 : rowOf Try.prog 107 = some (1, false) := by kernel_rfl
theorem zero107 : zeroOf Try.prog 107 = some [Value.nilFunc] := by kernel_rfl
theorem row108 : rowOf Try.prog 108 = some (1, false) := by kernel_rfl
theorem zero108 : zeroOf Try.prog 108 = some [(Value.pointer none)] := by kernel_rfl
theorem row109 : rowOf Try.prog 109 = some (1, false) := by kernel_rfl
theorem zero109 : zeroOf Try.prog 109 = some [Value.nilFunc] := by kernel_rfl
theorem row110 : rowOf Try.prog 110 = some (1, false) := by kernel_rfl
theorem zero110 : zeroOf Try.prog 110 = some [Value.nilFunc] := by kernel_rfl
theorem row111 : rowOf Try.prog 111 = some (1, false) := by kernel_rfl
theorem zero111 : zeroOf Try.prog 111 = some [(Value.slice none 0 0)] := by kernel_rfl
theorem ei117 : EI Try.prog 117 (.agg (([(Value.int IntKind.i64 0)] ++ List.replicate 256 (Value.int IntKind.u8 0))).toArray) 257 264 := ei_of (by kernel_rfl) (by kernel_rfl) (by decide)
theorem row112 : rowOf Try.prog 112 = some (6, true) := by kernel_rfl
theorem zero112 : zeroOf Try.prog 112 = some [(Value.slice none 0 0), (Value.slice none 0 0), (Value.slice none 0 0), (Value.bool false), (Value.bool false), (Value.bool false)] := by kernel_rfl
theorem fld112_0 : fldOf Try.prog 112 0 = some (0, 1, false) := by kernel_rfl
theorem fld112_1 : fldOf Try.prog 112 1 = some (1, 1, false) := by kernel_rfl
theorem fld112_2 : fldOf Try.prog 112 2 = some (2, 1, false) := by kernel_rfl
theorem fld112_3 : fldOf Try.prog 112 3 = some (3, 1, false) := by kernel_rfl
theorem fld112_4 : fldOf Try.prog 112 4 = some (4, 1, false) := by kernel_rfl
theorem fld112_5 : fldOf Try.prog 112 5 = some (5, 1, false) := by kernel_rfl
theorem plc112 : placesOf Try.prog 112 = some [(0, 1), (1, 1), (2, 1), (3, 1), (4, 1), (5, 1)] := by kernel_rfl
theorem row113 : rowOf Try.prog 113 = some (6, true) := by kernel_rfl
theorem zero113 : zeroOf Try.prog 113 = some [(Value.slice none 0 0), (Value.slice none 0 0), (Value.slice none 0 0), (Value.bool false), (Value.bool false), (Value.bool false)] := by kernel_rfl
theorem fld113_0 : fldOf Try.prog 113 0 = some (0, 1, false) := by kernel_rfl
theorem fld113_1 : fldOf Try.prog 113 1 = some (1, 1, false) := by kernel_rfl
theorem fld113_2 : fldOf Try.prog 113 2 = some (2, 1, false) := by kernel_rfl
theorem fld113_3 : fldOf Try.prog 113 3 = some (3, 1, false) := by kernel_rfl
theorem fld113_4 : fldOf Try.prog 113 4 = some (4, 1, false) := by kernel_rfl
theorem fld113_5 : fldOf Try.prog 113 5 = some (5, 1, false) := by kernel_rfl
theorem plc113 : placesOf Try.prog 113 = some [(0, 1), (1, 1), (2, 1), (3, 1), (4, 1), (5, 1)] := by kernel_rfl
theorem row114 : rowOf Try.prog 114 = some (1, false) := by kernel_rfl
theorem zero114 : zeroOf Try.prog 114 = some [Value.nilFunc] := by kernel_rfl
theorem row115 : rowOf Try.prog 115 = some (256, true) := by kernel_rfl
theorem zero115 : zeroOf Try.prog 115 = some (List.replicate 256 (Value.int IntKind.u8 0)) := by kernel_rfl
theorem row116 : rowOf Try.prog 116 = some (257, true) := by kernel_rfl
theorem zero116 : zeroOf Try.prog 116 = some ([(Value.int IntKind.i64 0)] ++ List.replicate 256 (Value.int IntKind.u8 0)) := by kernel_rfl
theorem fld116_0 : fldOf Try.prog 116 0 = some (0, 1, false) := by kernel_rfl
theorem fld116_1 : fldOf Try.prog 116 1 = some (1, 256, true) := by kernel_rfl
theorem plc116 : placesOf Try.prog 116 = some [(0, 1), (1, 256)] := by kernel_rfl
theorem row117 : rowOf Try.prog 117 = some (257, true) := by kernel_rfl
theorem zero117 : zeroOf Try.prog 117 = some ([(Value.int IntKind.i64 0)] ++ List.replicate 256 (Value.int IntKind.u8 0)) := by kernel_rfl
theorem fld117_0 : fldOf Try.prog 117 0 = some (0, 1, false) := by kernel_rfl
theorem fld117_1 : fldOf Try.prog 117 1 = some (1, 256, true) := by kernel_rfl
theorem plc117 : placesOf Try.prog 117 = some [(0, 1), (1, 256)] := by kernel_rfl
theorem row118 : rowOf Try.prog 118 = some (1, false) := by kernel_rfl
theorem zero118 : zeroOf Try.prog 118 = some [Value.nilFunc] := by kernel_rfl
theorem row119 : rowOf Try.prog 119 = some (1, false) := by kernel_rfl
theorem zero119 : zeroOf Try.prog 119 = some [Value.nilFunc] := by kernel_rfl
theorem row120 : rowOf Try.prog 120 = some (1, false) := by kernel_rfl
theorem zero120 : zeroOf Try.prog 120 = some [(Value.int IntKind.u64 0)] := by kernel_rfl
theorem row121 : rowOf Try.prog 121 = some (1, false) := by kernel_rfl
theorem zero121 : zeroOf Try.prog 121 = some [(Value.int IntKind.u32 0)] := by kernel_rfl
theorem row122 : rowOf Try.prog 122 = some (1, false) := by kernel_rfl
theorem zero122 : zeroOf Try.prog 122 = some [Value.nilFunc] := by kernel_rfl
theorem row123 : rowOf Try.prog 123 = some (1, false) := by kernel_rfl
theorem zero123 : zeroOf Try.prog 123 = some [Value.nilFunc] := by kernel_rfl
theorem row125 : rowOf Try.prog 125 = some (1, false) := by kernel_rfl
theorem zero125 : zeroOf Try.prog 125 = some [Value.nilFunc] := by kernel_rfl
theorem row126 : rowOf Try.prog 126 = some (1, false) := by kernel_rfl
theorem zero126 : zeroOf Try.prog 126 = some [Value.nilFunc] := by kernel_rfl
theorem row127 : rowOf Try.prog 127 = some (1, false) := by kernel_rfl
theorem zero127 : zeroOf Try.prog 127 = some [Value.nilFunc] := by kernel_rfl
theorem row128 : rowOf Try.prog 128 = some (1, false) := by kernel_rfl
theorem zero128 : zeroOf Try.prog 128 = some [Value.nilFunc] := by kernel_rfl
theorem row129 : rowOf Try.prog 129 = some (1, false) := by kernel_rfl
theorem zero129 : zeroOf Try.prog 129 = some [Value.nilFunc] := by kernel_rfl
theorem row130 : rowOf Try.prog 130 = some (1, false) := by kernel_rfl
theorem zero130 : zeroOf Try.prog 130 = some [Value.nilFunc] := by kernel_rfl
theorem row131 : rowOf Try.prog 131 = some (1, false) := by kernel_rfl
theorem zero131 : zeroOf Try.prog 131 = some [Value.nilFunc] := by kernel_rfl
theorem row132 : rowOf Try.prog 132 = some (1, false) := by kernel_rfl
theorem zero132 : zeroOf Try.prog 132 = some [Value.nilFunc] := by kernel_rfl
theorem row134 : rowOf Try.prog 134 = some (1, false) := by kernel_rfl
theorem zero134 : zeroOf Try.prog 134 = some [Value.nilFunc] := by kernel_rfl
theorem row136 : rowOf Try.prog 136 = some (1, false) := by kernel_rfl
theorem zero136 : zeroOf Try.prog 136 = some [Value.nilFunc] := by kernel_rfl
theorem row137 : rowOf Try.prog 137 = some (1, false) := by kernel_rfl
theorem zero137 : zeroOf Try.prog 137 = some [Value.nilFunc] := by kernel_rfl
theorem row138 : rowOf Try.prog 138 = some (1, false) := by kernel_rfl
theorem zero138 : zeroOf Try.prog 138 = some [Value.nilFunc] := by kernel_rfl
theorem row139 : rowOf Try.prog 139 = some (1, false) := by kernel_rfl
theorem zero139 : zeroOf Try.prog 139 = some [Value.nilFunc] := by kernel_rfl
theorem row140 : rowOf Try.prog 140 = some (1, false) := by kernel_rfl
theorem zero140 : zeroOf Try.prog 140 = some [Value.nilFunc] := by kernel_rfl
theorem row141 : rowOf Try.prog 141 = some (1, false) := by kernel_rfl
theorem zero141 : zeroOf Try.prog 141 = some [(Value.int IntKind.u64 0)] := by kernel_rfl
theorem row142 : rowOf Try.prog 142 = some (1, false) := by kernel_rfl
theorem zero142 : zeroOf Try.prog 142 = some [Value.nilFunc] := by kernel_rfl
theorem row143 : rowOf Try.prog 143 = some (1, false) := by kernel_rfl
theorem zero143 : zeroOf Try.prog 143 = some [Value.nilFunc] := by kernel_rfl
theorem row144 : rowOf Try.prog 144 = some (1, false) := by kernel_rfl
theorem zero144 : zeroOf Try.prog 144 = some [(Value.pointer none)] := by kernel_rfl
theorem row145 : rowOf Try.prog 145 = some (1, false) := by kernel_rfl
theorem zero145 : zeroOf Try.prog 145 = some [Value.nilFunc] := by kernel_rfl
theorem row146 : rowOf Try.prog 146 = some (1, false) := by kernel_rfl
theorem zero146 : zeroOf Try.prog 146 = some [Value.nilFunc] := by kernel_rfl
theorem row147 : rowOf Try.prog 147 = some (1, false) := by kernel_rfl
theorem zero147 : zeroOf Try.prog 147 = some [Value.nilFunc] := by kernel_rfl
theorem row148 : rowOf Try.prog 148 = some (1, false) := by kernel_rfl
theorem zero148 : zeroOf Try.prog 148 = some [Value.nilFunc] := by kernel_rfl
theorem row149 : rowOf Try.prog 149 = some (1, false) := by kernel_rfl
theorem zero149 : zeroOf Try.prog 149 = some [Value.nilFunc] := by kernel_rfl
theorem row150 : rowOf Try.prog 150 = some (1, false) := by kernel_rfl
theorem zero150 : zeroOf Try.prog 150 = some [Value.nilFunc] := by kernel_rfl
theorem row151 : rowOf Try.prog 151 = some (1, false) := by kernel_rfl
theorem zero151 : zeroOf Try.prog 151 = some [Value.nilFunc] := by kernel_rfl
theorem row152 : rowOf Try.prog 152 = some (1, false) := by kernel_rfl
theorem zero152 : zeroOf Try.prog 152 = some [Value.nilFunc] := by kernel_rfl
theorem row153 : rowOf Try.prog 153 = some (1, false) := by kernel_rfl
theorem zero153 : zeroOf Try.prog 153 = some [Value.nilFunc] := by kernel_rfl
theorem row154 : rowOf Try.prog 154 = some (1, false) := by kernel_rfl
theorem zero154 : zeroOf Try.prog 154 = some [(Value.slice none 0 0)] := by kernel_rfl
theorem ei67 : EI Try.prog 67 (Value.slice none 0 0) 1 24 := ei_of (by kernel_rfl) rfl (by decide)
theorem row155 : rowOf Try.prog 155 = some (1, false) := by kernel_rfl
theorem zero155 : zeroOf Try.prog 155 = some [Value.nilFunc] := by kernel_rfl
theorem row156 : rowOf Try.prog 156 = some (3, true) := by kernel_rfl
theorem zero156 : zeroOf Try.prog 156 = some [(Value.slice none 0 0), (Value.int IntKind.i64 0), (Value.int IntKind.i64 0)] := by kernel_rfl
theorem fld156_0 : fldOf Try.prog 156 0 = some (0, 1, false) := by kernel_rfl
theorem fld156_1 : fldOf Try.prog 156 1 = some (1, 1, false) := by kernel_rfl
theorem fld156_2 : fldOf Try.prog 156 2 = some (2, 1, false) := by kernel_rfl
theorem plc156 : placesOf Try.prog 156 = some [(0, 1), (1, 1), (2, 1)] := by kernel_rfl
theorem row157 : rowOf Try.prog 157 = some (3, true) := by kernel_rfl
theorem zero157 : zeroOf Try.prog 157 = some [(Value.slice none 0 0), (Value.int IntKind.i64 0), (Value.int IntKind.i64 0)] := by kernel_rfl
theorem fld157_0 : fldOf Try.prog 157 0 = some (0, 1, false) := by kernel_rfl
theorem fld157_1 : fldOf Try.prog 157 1 = some (1, 1, false) := by kernel_rfl
theorem fld157_2 : fldOf Try.prog 157 2 = some (2, 1, false) := by kernel_rfl
theorem plc157 : placesOf Try.prog 157 = some [(0, 1), (1, 1), (2, 1)] := by kernel_rfl
theorem row159 : rowOf Try.prog 159 = some (1, false) := by kernel_rfl
theorem zero159 : zeroOf Try.prog 159 = some [Value.nilFunc] := by kernel_rfl
theorem row160 : rowOf Try.prog 160 = some (1, false) := by kernel_rfl
theorem zero160 : zeroOf Try.prog 160 = some [Value.nilFunc] := by kernel_rfl
theorem row161 : rowOf Try.prog 161 = some (1, false) := by kernel_rfl
theorem zero161 : zeroOf Try.prog 161 = some [Value.nilFunc] := by kernel_rfl
theorem row162 : rowOf Try.prog 162 = some (4, true) := by kernel_rfl
theorem zero162 : zeroOf Try.prog 162 = some [(Value.pointer none), (Value.pointer none), (Value.pointer none), (Value.string { data := #[] })] := by kernel_rfl
theorem fld162_0 : fldOf Try.prog 162 0 = some (0, 1, false) := by kernel_rfl
theorem fld162_1 : fldOf Try.prog 162 1 = some (1, 1, false) := by kernel_rfl
theorem fld162_2 : fldOf Try.prog 162 2 = some (2, 1, false) := by kernel_rfl
theorem fld162_3 : fldOf Try.prog 162 3 = some (3, 1, false) := by kernel_rfl
theorem plc162 : placesOf Try.prog 162 = some [(0, 1), (1, 1), (2, 1), (3, 1)] := by kernel_rfl
theorem row163 : rowOf Try.prog 163 = some (4, true) := by kernel_rfl
theorem zero163 : zeroOf Try.prog 163 = some [(Value.pointer none), (Value.pointer none), (Value.pointer none), (Value.string { data := #[] })] := by kernel_rfl
theorem fld163_0 : fldOf Try.prog 163 0 = some (0, 1, false) := by kernel_rfl
theorem fld163_1 : fldOf Try.prog 163 1 = some (1, 1, false) := by kernel_rfl
theorem fld163_2 : fldOf Try.prog 163 2 = some (2, 1, false) := by kernel_rfl
theorem fld163_3 : fldOf Try.prog 163 3 = some (3, 1, false) := by kernel_rfl
theorem plc163 : placesOf Try.prog 163 = some [(0, 1), (1, 1), (2, 1), (3, 1)] := by kernel_rfl
theorem row164 : rowOf Try.prog 164 = some (0, true) := by kernel_rfl
theorem zero164 : zeroOf Try.prog 164 = some [] := by kernel_rfl
theorem row165 : rowOf Try.prog 165 = some (0, true) := by kernel_rfl
theorem zero165 : zeroOf Try.prog 165 = some [] := by kernel_rfl
theorem fld165_0 : fldOf Try.prog 165 0 = some (0, 0, true) := by kernel_rfl
theorem plc165 : placesOf Try.prog 165 = some [(0, 0)] := by kernel_rfl
theorem row166 : rowOf Try.prog 166 = some (0, true) := by kernel_rfl
theorem zero166 : zeroOf Try.prog 166 = some [] := by kernel_rfl
theorem fld166_0 : fldOf Try.prog 166 0 = some (0, 0, true) := by kernel_rfl
theorem plc166 : placesOf Try.prog 166 = some [(0, 0)] := by kernel_rfl
theorem row167 : rowOf Try.prog 167 = some (1, false) := by kernel_rfl
theorem zero167 : zeroOf Try.prog 167 = some [(Value.int IntKind.u8 0)] := by kernel_rfl
theorem row168 : rowOf Try.prog 168 = some (1, false) := by kernel_rfl
theorem zero168 : zeroOf Try.prog 168 = some [(Value.int IntKind.u8 0)] := by kernel_rfl
theorem row169 : rowOf Try.prog 169 = some (1, false) := by kernel_rfl
theorem zero169 : zeroOf Try.prog 169 = some [Value.nilFunc] := by kernel_rfl
theorem row170 : rowOf Try.prog 170 = some (1, false) := by kernel_rfl
theorem zero170 : zeroOf Try.prog 170 = some [(Value.pointer none)] := by kernel_rfl
theorem row171 : rowOf Try.prog 171 = some (1, false) := by kernel_rfl
theorem zero171 : zeroOf Try.prog 171 = some [(Value.int IntKind.i32 0)] := by kernel_rfl
theorem row172 : rowOf Try.prog 172 = some (1, false) := by kernel_rfl
theorem zero172 : zeroOf Try.prog 172 = some [(Value.int IntKind.i32 0)] := by kernel_rfl
theorem row173 : rowOf Try.prog 173 = some (11, true) := by kernel_rfl
theorem zero173 : zeroOf Try.prog 173 = some [(Value.int IntKind.u64 0), (Value.int IntKind.u64 0), (Value.int IntKind.u32 0), (Value.int IntKind.u8 0), (Value.int IntKind.u8 0), (Value.int IntKind.u8 0), (Value.int IntKind.u8 0), Value.nilFunc, (Value.pointer none), (Value.int IntKind.i32 0), (Value.int IntKind.i32 0)] := by kernel_rfl
theorem fld173_0 : fldOf Try.prog 173 0 = some (0, 1, false) := by kernel_rfl
theorem fld173_1 : fldOf Try.prog 173 1 = some (1, 1, false) := by kernel_rfl
theorem fld173_2 : fldOf Try.prog 173 2 = some (2, 1, false) := by kernel_rfl
theorem fld173_3 : fldOf Try.prog 173 3 = some (3, 1, false) := by kernel_rfl
theorem fld173_4 : fldOf Try.prog 173 4 = some (4, 1, false) := by kernel_rfl
theorem fld173_5 : fldOf Try.prog 173 5 = some (5, 1, false) := by kernel_rfl
theorem fld173_6 : fldOf Try.prog 173 6 = some (6, 1, false) := by kernel_rfl
theorem fld173_7 : fldOf Try.prog 173 7 = some (7, 1, false) := by kernel_rfl
theorem fld173_8 : fldOf Try.prog 173 8 = some (8, 1, false) := by kernel_rfl
theorem fld173_9 : fldOf Try.prog 173 9 = some (9, 1, false) := by kernel_rfl
theorem fld173_10 : fldOf Try.prog 173 10 = some (10, 1, false) := by kernel_rfl
theorem plc173 : placesOf Try.prog 173 = some [(0, 1), (1, 1), (2, 1), (3, 1), (4, 1), (5, 1), (6, 1), (7, 1), (8, 1), (9, 1), (10, 1)] := by kernel_rfl
theorem row174 : rowOf Try.prog 174 = some (11, true) := by kernel_rfl
theorem zero174 : zeroOf Try.prog 174 = some [(Value.int IntKind.u64 0), (Value.int IntKind.u64 0), (Value.int IntKind.u32 0), (Value.int IntKind.u8 0), (Value.int IntKind.u8 0), (Value.int IntKind.u8 0), (Value.int IntKind.u8 0), Value.nilFunc, (Value.pointer none), (Value.int IntKind.i32 0), (Value.int IntKind.i32 0)] := by kernel_rfl
theorem fld174_0 : fldOf Try.prog 174 0 = some (0, 1, false) := by kernel_rfl
theorem fld174_1 : fldOf Try.prog 174 1 = some (1, 1, false) := by kernel_rfl
theorem fld174_2 : fldOf Try.prog 174 2 = some (2, 1, false) := by kernel_rfl
theorem fld174_3 : fldOf Try.prog 174 3 = some (3, 1, false) := by kernel_rfl
theorem fld174_4 : fldOf Try.prog 174 4 = some (4, 1, false) := by kernel_rfl
theorem fld174_5 : fldOf Try.prog 174 5 = some (5, 1, false) := by kernel_rfl
theorem fld174_6 : fldOf Try.prog 174 6 = some (6, 1, false) := by kernel_rfl
theorem fld174_7 : fldOf Try.prog 174 7 = some (7, 1, false) := by kernel_rfl
theorem fld174_8 : fldOf Try.prog 174 8 = some (8, 1, false) := by kernel_rfl
theorem fld174_9 : fldOf Try.prog 174 9 = some (9, 1, false) := by kernel_rfl
theorem fld174_10 : fldOf Try.prog 174 10 = some (10, 1, false) := by kernel_rfl
theorem plc174 : placesOf Try.prog 174 = some [(0, 1), (1, 1), (2, 1), (3, 1), (4, 1), (5, 1), (6, 1), (7, 1), (8, 1), (9, 1), (10, 1)] := by kernel_rfl
theorem row175 : rowOf Try.prog 175 = some (1, false) := by kernel_rfl
theorem zero175 : zeroOf Try.prog 175 = some [(Value.pointer none)] := by kernel_rfl
end Go.Proofs.Ytgeldfgcicjidaa
