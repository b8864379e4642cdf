/- The structures of the loaded program, as Lean's, and the functions' numbers, by program (gen.py); no condition. -/
import Derived.Test.YtealcoghiaeiiaaProg
import Derived.Test.YtealcoghiaeiiaaVBase
set_option linter.unusedVariables false
set_option linter.unusedSimpArgs false
namespace Go.Proofs.Ytealcoghiaeiiaa.VG
open Go.VB Go.Proofs

structure T_api_Versions where
  List : Sl
  Low : Int
abbrev T_api_Versions.cells (x : T_api_Versions) : _root_.List Value := [(Sl.v x.List), (.int .u64 x.Low)]
abbrev T_api_Versions.v (x : T_api_Versions) : Value := .agg (T_api_Versions.cells x).toArray
structure T_api_Version where
  Key : ByteArray
  At : Int
  Val : ByteArray
  Gone : Bool
abbrev T_api_Version.cells (x : T_api_Version) : _root_.List Value := [(.string x.Key), (.int .u64 x.At), (.string x.Val), (.bool x.Gone)]
abbrev T_api_Version.v (x : T_api_Version) : Value := .agg (T_api_Version.cells x).toArray
structure T_api_Pair where
  Key : ByteArray
  Val : ByteArray
abbrev T_api_Pair.cells (x : T_api_Pair) : _root_.List Value := [(.string x.Key), (.string x.Val)]
abbrev T_api_Pair.v (x : T_api_Pair) : Value := .agg (T_api_Pair.cells x).toArray
structure T_api_Write where
  Key : ByteArray
  Val : ByteArray
  Gone : Bool
abbrev T_api_Write.cells (x : T_api_Write) : _root_.List Value := [(.string x.Key), (.string x.Val), (.bool x.Gone)]
abbrev T_api_Write.v (x : T_api_Write) : Value := .agg (T_api_Write.cells x).toArray
structure T_s75 where

abbrev T_s75.cells (x : T_s75) : _root_.List Value := []
abbrev T_s75.v (x : T_s75) : Value := .agg (T_s75.cells x).toArray
structure T_runtime_boundsError where
  x : Int
  y : Int
  signed : Bool
  code : Int
abbrev T_runtime_boundsError.cells (x : T_runtime_boundsError) : _root_.List Value := [(.int .i64 x.x), (.int .i64 x.y), (.bool x.signed), (.int .u8 x.code)]
abbrev T_runtime_boundsError.v (x : T_runtime_boundsError) : Value := .agg (T_runtime_boundsError.cells x).toArray
structure T_runtime_errorAddressString where
  msg : ByteArray
  addr : Int
abbrev T_runtime_errorAddressString.cells (x : T_runtime_errorAddressString) : _root_.List Value := [(.string x.msg), (.int .u64 x.addr)]
abbrev T_runtime_errorAddressString.v (x : T_runtime_errorAddressString) : Value := .agg (T_runtime_errorAddressString.cells x).toArray
structure T_maps_unhashableTypeError where
  typ : Option Addr
abbrev T_maps_unhashableTypeError.cells (x : T_maps_unhashableTypeError) : _root_.List Value := [(.pointer x.typ)]
abbrev T_maps_unhashableTypeError.v (x : T_maps_unhashableTypeError) : Value := .agg (T_maps_unhashableTypeError.cells x).toArray
abbrev fn_ladinglaw09_MvccPuts : FuncId := 3
abbrev fn_ladinglaw09_MvccSwept : FuncId := 4
abbrev fn_ladinglaw09_MvccScans : FuncId := 5
abbrev fn_ladinglaw09_MvccSteps : FuncId := 6
abbrev fn_ladinglaw09_MvccAsks : FuncId := 7
abbrev fn_ladinglaw09_MvccPast : FuncId := 8
abbrev fn_ladinglaw09_MvccLast : FuncId := 9
abbrev fn_ladingref09_Copy : FuncId := 10
abbrev fn_mvcc_Put : FuncId := 11
abbrev fn_ladingref09_Put : FuncId := 12
abbrev fn_mvcc_Sweep : FuncId := 13
abbrev fn_ladingref09_Sweep : FuncId := 14
abbrev fn_ladinglaw09_lives : FuncId := 15
abbrev fn_ladingref09_Same : FuncId := 16
abbrev fn_mvcc_Check : FuncId := 17
abbrev fn_mvcc_Get : FuncId := 18
abbrev fn_mvcc_Scan : FuncId := 19
abbrev fn_ladingref09_Get : FuncId := 20
abbrev fn_ladingref09_Scan : FuncId := 21
abbrev fn_mvcc_Last : FuncId := 22
abbrev fn_ladingref09_Last : FuncId := 23
abbrev fn_ladingref09_Check : FuncId := 24
abbrev fn_ladingref08_Same : FuncId := 25
abbrev fn_ladinglaw09_written : FuncId := 26
abbrev fn_mvcc_wrong : FuncId := 27
abbrev fn_slices_ContainsFunc_api_Version_api_Version : FuncId := 28
abbrev fn_mvcc_Put_1 : FuncId := 29
abbrev fn_slices_Clone_api_Version_api_Version : FuncId := 30
abbrev fn_slices_SortFunc_api_Version_api_Version : FuncId := 31
abbrev fn_mvcc_order : FuncId := 32
abbrev fn_ladingref08_Wrong : FuncId := 33
abbrev fn_ladingref09_with : FuncId := 34
abbrev fn_mvcc_keys : FuncId := 35
abbrev fn_mvcc_last : FuncId := 36
abbrev fn_mvcc_asked : FuncId := 37
abbrev fn_ladingref09_asked : FuncId := 38
abbrev fn_ladingref09_seen : FuncId := 39
abbrev fn_slices_ContainsFunc_api_Write_api_Write : FuncId := 40
abbrev fn_mvcc_wrong_1 : FuncId := 41
abbrev fn_slices_IndexFunc_api_Version_api_Version : FuncId := 42
abbrev fn_slices_pdqsortCmpFunc_api_Version : FuncId := 43
abbrev fn_bits_Len : FuncId := 44
abbrev fn_cmp_Or_int : FuncId := 45
abbrev fn_cmp_Compare_string : FuncId := 46
abbrev fn_cmp_Compare_uint64 : FuncId := 47
abbrev fn_mvcc_keys_1 : FuncId := 48
abbrev fn_slices_BinarySearchFunc_api_Version_api_Version_api_Version : FuncId := 49
abbrev fn_slices_IndexFunc_api_Write_api_Write : FuncId := 50
abbrev fn_slices_insertionSortCmpFunc_api_Version : FuncId := 51
abbrev fn_slices_heapSortCmpFunc_api_Version : FuncId := 52
abbrev fn_slices_breakPatternsCmpFunc_api_Version : FuncId := 53
abbrev fn_slices_choosePivotCmpFunc_api_Version : FuncId := 54
abbrev fn_slices_reverseRangeCmpFunc_api_Version : FuncId := 55
abbrev fn_slices_partialInsertionSortCmpFunc_api_Version : FuncId := 56
abbrev fn_slices_partitionEqualCmpFunc_api_Version : FuncId := 57
abbrev fn_slices_partitionCmpFunc_api_Version : FuncId := 58
abbrev fn_bits_Len32 : FuncId := 59
abbrev fn_bits_Len64 : FuncId := 60
abbrev fn_cmp_isNaN_string : FuncId := 61
abbrev fn_cmp_isNaN_uint64 : FuncId := 62
abbrev fn_slices_siftDownCmpFunc_api_Version : FuncId := 63
abbrev fn_slices_nextPowerOfTwo : FuncId := 64
abbrev fn_slices_xorshift_Next : FuncId := 65
abbrev fn_slices_medianAdjacentCmpFunc_api_Version : FuncId := 66
abbrev fn_slices_medianCmpFunc_api_Version : FuncId := 67
abbrev fn_slices_order2CmpFunc_api_Version : FuncId := 68
abbrev fn_runtime_boundsError_Error : FuncId := 69
abbrev fn_runtime_boundsError_RuntimeError : FuncId := 70
abbrev fn_runtime_errorString_Error : FuncId := 71
abbrev fn_runtime_errorString_RuntimeError : FuncId := 72
abbrev fn_runtime_plainError_Error : FuncId := 73
abbrev fn_runtime_plainError_RuntimeError : FuncId := 74
abbrev fn_runtime_errorAddressString_Error : FuncId := 75
abbrev fn_runtime_errorAddressString_RuntimeError : FuncId := 76
abbrev fn_runtime_TypeAssertionError_Error : FuncId := 77
abbrev fn_runtime_TypeAssertionError_RuntimeError : FuncId := 78
abbrev fn_runtime_PanicNilError_Error : FuncId := 79
abbrev fn_runtime_PanicNilError_RuntimeError : FuncId := 80
abbrev fn_abi_Type_Align : FuncId := 81
abbrev fn_maps_unhashableTypeError_Error : FuncId := 82
abbrev fn_maps_unhashableTypeError_RuntimeError : FuncId := 83
abbrev fn_abi_Kind_String : FuncId := 84
theorem ent3 : Ent Try.prog 3 := Ent.of Try.func3 (by rfl) (by rfl)
theorem ent4 : Ent Try.prog 4 := Ent.of Try.func4 (by rfl) (by rfl)
theorem ent5 : Ent Try.prog 5 := Ent.of Try.func5 (by rfl) (by rfl)
theorem ent6 : Ent Try.prog 6 := Ent.of Try.func6 (by rfl) (by rfl)
theorem ent7 : Ent Try.prog 7 := Ent.of Try.func7 (by rfl) (by rfl)
theorem ent8 : Ent Try.prog 8 := Ent.of Try.func8 (by rfl) (by rfl)
theorem ent9 : Ent Try.prog 9 := Ent.of Try.func9 (by rfl) (by rfl)
theorem ent10 : Ent Try.prog 10 := Ent.of Try.func10 (by rfl) (by rfl)
theorem ent11 : Ent Try.prog 11 := Ent.of Try.func11 (by rfl) (by rfl)
theorem ent12 : Ent Try.prog 12 := Ent.of Try.func12 (by rfl) (by rfl)
theorem ent13 : Ent Try.prog 13 := Ent.of Try.func13 (by rfl) (by rfl)
theorem ent14 : Ent Try.prog 14 := Ent.of Try.func14 (by rfl) (by rfl)
theorem ent15 : Ent Try.prog 15 := Ent.of Try.func15 (by rfl) (by rfl)
theorem ent16 : Ent Try.prog 16 := Ent.of Try.func16 (by rfl) (by rfl)
theorem ent17 : Ent Try.prog 17 := Ent.of Try.func17 (by rfl) (by rfl)
theorem ent18 : Ent Try.prog 18 := Ent.of Try.func18 (by rfl) (by rfl)
theorem ent19 : Ent Try.prog 19 := Ent.of Try.func19 (by rfl) (by rfl)
theorem ent20 : Ent Try.prog 20 := Ent.of Try.func20 (by rfl) (by rfl)
theorem ent21 : Ent Try.prog 21 := Ent.of Try.func21 (by rfl) (by rfl)
theorem ent22 : Ent Try.prog 22 := Ent.of Try.func22 (by rfl) (by rfl)
theorem ent23 : Ent Try.prog 23 := Ent.of Try.func23 (by rfl) (by rfl)
theorem ent24 : Ent Try.prog 24 := Ent.of Try.func24 (by rfl) (by rfl)
theorem ent25 : Ent Try.prog 25 := Ent.of Try.func25 (by rfl) (by rfl)
theorem ent26 : Ent Try.prog 26 := Ent.of Try.func26 (by rfl) (by rfl)
theorem ent27 : Ent Try.prog 27 := Ent.of Try.func27 (by rfl) (by rfl)
theorem ent28 : Ent Try.prog 28 := Ent.of Try.func28 (by rfl) (by rfl)
theorem ent29 : Ent Try.prog 29 := Ent.of Try.func29 (by rfl) (by rfl)
theorem ent30 : Ent Try.prog 30 := Ent.of Try.func30 (by rfl) (by rfl)
theorem ent31 : Ent Try.prog 31 := Ent.of Try.func31 (by rfl) (by rfl)
theorem ent32 : Ent Try.prog 32 := Ent.of Try.func32 (by rfl) (by rfl)
theorem ent33 : Ent Try.prog 33 := Ent.of Try.func33 (by rfl) (by rfl)
theorem ent34 : Ent Try.prog 34 := Ent.of Try.func34 (by rfl) (by rfl)
theorem ent35 : Ent Try.prog 35 := Ent.of Try.func35 (by rfl) (by rfl)
theorem ent36 : Ent Try.prog 36 := Ent.of Try.func36 (by rfl) (by rfl)
theorem ent37 : Ent Try.prog 37 := Ent.of Try.func37 (by rfl) (by rfl)
theorem ent38 : Ent Try.prog 38 := Ent.of Try.func38 (by rfl) (by rfl)
theorem ent39 : Ent Try.prog 39 := Ent.of Try.func39 (by rfl) (by rfl)
theorem ent40 : Ent Try.prog 40 := Ent.of Try.func40 (by rfl) (by rfl)
theorem ent41 : Ent Try.prog 41 := Ent.of Try.func41 (by rfl) (by rfl)
theorem ent42 : Ent Try.prog 42 := Ent.of Try.func42 (by rfl) (by rfl)
theorem ent43 : Ent Try.prog 43 := Ent.of Try.func43 (by rfl) (by rfl)
theorem ent44 : Ent Try.prog 44 := Ent.of Try.func44 (by rfl) (by rfl)
theorem ent45 : Ent Try.prog 45 := Ent.of Try.func45 (by rfl) (by rfl)
theorem ent46 : Ent Try.prog 46 := Ent.of Try.func46 (by rfl) (by rfl)
theorem ent47 : Ent Try.prog 47 := Ent.of Try.func47 (by rfl) (by rfl)
theorem ent48 : Ent Try.prog 48 := Ent.of Try.func48 (by rfl) (by rfl)
theorem ent49 : Ent Try.prog 49 := Ent.of Try.func49 (by rfl) (by rfl)
theorem ent50 : Ent Try.prog 50 := Ent.of Try.func50 (by rfl) (by rfl)
theorem ent51 : Ent Try.prog 51 := Ent.of Try.func51 (by rfl) (by rfl)
theorem ent52 : Ent Try.prog 52 := Ent.of Try.func52 (by rfl) (by rfl)
theorem ent53 : Ent Try.prog 53 := Ent.of Try.func53 (by rfl) (by rfl)
theorem ent54 : Ent Try.prog 54 := Ent.of Try.func54 (by rfl) (by rfl)
theorem ent55 : Ent Try.prog 55 := Ent.of Try.func55 (by rfl) (by rfl)
theorem ent56 : Ent Try.prog 56 := Ent.of Try.func56 (by rfl) (by rfl)
theorem ent57 : Ent Try.prog 57 := Ent.of Try.func57 (by rfl) (by rfl)
theorem ent58 : Ent Try.prog 58 := Ent.of Try.func58 (by rfl) (by rfl)
theorem ent59 : Ent Try.prog 59 := Ent.of Try.func59 (by rfl) (by rfl)
theorem ent60 : Ent Try.prog 60 := Ent.of Try.func60 (by rfl) (by rfl)
theorem ent61 : Ent Try.prog 61 := Ent.of Try.func61 (by rfl) (by rfl)
theorem ent62 : Ent Try.prog 62 := Ent.of Try.func62 (by rfl) (by rfl)
theorem ent63 : Ent Try.prog 63 := Ent.of Try.func63 (by rfl) (by rfl)
theorem ent64 : Ent Try.prog 64 := Ent.of Try.func64 (by rfl) (by rfl)
theorem ent65 : Ent Try.prog 65 := Ent.of Try.func65 (by rfl) (by rfl)
theorem ent66 : Ent Try.prog 66 := Ent.of Try.func66 (by rfl) (by rfl)
theorem ent67 : Ent Try.prog 67 := Ent.of Try.func67 (by rfl) (by rfl)
theorem ent68 : Ent Try.prog 68 := Ent.of Try.func68 (by rfl) (by rfl)
end Go.Proofs.Ytealcoghiaeiiaa.VG
