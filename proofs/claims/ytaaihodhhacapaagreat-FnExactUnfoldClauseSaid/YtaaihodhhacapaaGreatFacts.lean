/- Made by program: names for the numbers of functions and types, and closed facts on them. -/
import Derived.Test.YtaaihodhhacapaaGreatRules2
import Derived.Test.YtaaihodhhacapaaGreatProg
import Derived.KernelRfl
namespace Go.Proofs.YtaaihodhhacapaaGreat
open Go
abbrev t_func : Nat := 1
theorem co_func : Tryz.prog.cellsOf 1 = 1 := by kernel_rfl
theorem sc_func : isSc Tryz.prog 1 = true := by kernel_rfl
abbrev t_int64 : Nat := 2
theorem co_int64 : Tryz.prog.cellsOf 2 = 1 := by kernel_rfl
theorem sc_int64 : isSc Tryz.prog 2 = true := by kernel_rfl
theorem zo_int64 : zeroOf Tryz.prog 2 = some (.int .i64 0) := by kernel_rfl
theorem un_int64 : Tryz.prog.underlying 2 = some (.int .i64) := by kernel_rfl
abbrev t_int : Nat := 3
theorem co_int : Tryz.prog.cellsOf 3 = 1 := by kernel_rfl
theorem sc_int : isSc Tryz.prog 3 = true := by kernel_rfl
theorem zo_int : zeroOf Tryz.prog 3 = some (.int .i64 0) := by kernel_rfl
theorem un_int : Tryz.prog.underlying 3 = some (.int .i64) := by kernel_rfl
abbrev t_bool : Nat := 4
theorem co_bool : Tryz.prog.cellsOf 4 = 1 := by kernel_rfl
theorem sc_bool : isSc Tryz.prog 4 = true := by kernel_rfl
theorem zo_bool : zeroOf Tryz.prog 4 = some (.bool false) := by kernel_rfl
theorem un_bool : Tryz.prog.underlying 4 = some .bool := by kernel_rfl
abbrev t_uint8 : Nat := 5
theorem co_uint8 : Tryz.prog.cellsOf 5 = 1 := by kernel_rfl
theorem sc_uint8 : isSc Tryz.prog 5 = true := by kernel_rfl
theorem zo_uint8 : zeroOf Tryz.prog 5 = some (.int .u8 0) := by kernel_rfl
theorem un_uint8 : Tryz.prog.underlying 5 = some (.int .u8) := by kernel_rfl
abbrev t_string : Nat := 9
theorem co_string : Tryz.prog.cellsOf 9 = 1 := by kernel_rfl
theorem sc_string : isSc Tryz.prog 9 = true := by kernel_rfl
theorem zo_string : zeroOf Tryz.prog 9 = some (.string ⟨#[]⟩) := by kernel_rfl
theorem un_string : Tryz.prog.underlying 9 = some .string := by kernel_rfl
abbrev t_uintptr : Nat := 12
theorem co_uintptr : Tryz.prog.cellsOf 12 = 1 := by kernel_rfl
theorem sc_uintptr : isSc Tryz.prog 12 = true := by kernel_rfl
theorem zo_uintptr : zeroOf Tryz.prog 12 = some (.int .u64 0) := by kernel_rfl
theorem un_uintptr : Tryz.prog.underlying 12 = some (.int .u64) := by kernel_rfl
abbrev t_int32 : Nat := 21
theorem co_int32 : Tryz.prog.cellsOf 21 = 1 := by kernel_rfl
theorem sc_int32 : isSc Tryz.prog 21 = true := by kernel_rfl
theorem zo_int32 : zeroOf Tryz.prog 21 = some (.int .i32 0) := by kernel_rfl
theorem un_int32 : Tryz.prog.underlying 21 = some (.int .i32) := by kernel_rfl
abbrev t_SlClause : Nat := 22
theorem co_SlClause : Tryz.prog.cellsOf 22 = 1 := by kernel_rfl
theorem sc_SlClause : isSc Tryz.prog 22 = true := by kernel_rfl
theorem zo_SlClause : zeroOf Tryz.prog 22 = some (.slice none 0 0) := by kernel_rfl
theorem mk_SlClause : mkOf Tryz.prog 22 = some (36, 5, 80, (.agg #[(.int .i64 0), (.int .i64 0), (.string ⟨#[]⟩), (.slice none 0 0), (.slice none 0 0)])) := by kernel_rfl
theorem sl_SlClause : sliceOf Tryz.prog 22 = some (36, 5) := by kernel_rfl
abbrev t_func_lClause_int_int : Nat := 23
theorem co_func_lClause_int_int : Tryz.prog.cellsOf 23 = 1 := by kernel_rfl
theorem sc_func_lClause_int_int : isSc Tryz.prog 23 = true := by kernel_rfl
abbrev t_SiClause : Nat := 24
theorem co_SiClause : Tryz.prog.cellsOf 24 = 1 := by kernel_rfl
theorem sc_SiClause : isSc Tryz.prog 24 = true := by kernel_rfl
theorem zo_SiClause : zeroOf Tryz.prog 24 = some (.slice none 0 0) := by kernel_rfl
theorem mk_SiClause : mkOf Tryz.prog 24 = some (44, 5, 80, (.agg #[(.int .i64 0), (.int .i64 0), (.string ⟨#[]⟩), (.slice none 0 0), (.slice none 0 0)])) := by kernel_rfl
theorem sl_SiClause : sliceOf Tryz.prog 24 = some (44, 5) := by kernel_rfl
abbrev t_iClause_bool : Nat := 25
abbrev t_func_iClause_int_iClause_bool : Nat := 26
theorem co_func_iClause_int_iClause_bool : Tryz.prog.cellsOf 26 = 1 := by kernel_rfl
theorem sc_func_iClause_int_iClause_bool : isSc Tryz.prog 26 = true := by kernel_rfl
abbrev t_func_lClause_iClause : Nat := 27
theorem co_func_lClause_iClause : Tryz.prog.cellsOf 27 = 1 := by kernel_rfl
theorem sc_func_lClause_iClause : isSc Tryz.prog 27 = true := by kernel_rfl
abbrev t_func_iClause_iClause_bool : Nat := 28
theorem co_func_iClause_iClause_bool : Tryz.prog.cellsOf 28 = 1 := by kernel_rfl
theorem sc_func_iClause_iClause_bool : isSc Tryz.prog 28 = true := by kernel_rfl
abbrev t_func_iClause_int_int : Nat := 29
theorem co_func_iClause_int_int : Tryz.prog.cellsOf 29 = 1 := by kernel_rfl
theorem sc_func_iClause_int_int : isSc Tryz.prog 29 = true := by kernel_rfl
abbrev t_func_lClause_int_bool : Nat := 30
theorem co_func_lClause_int_bool : Tryz.prog.cellsOf 30 = 1 := by kernel_rfl
theorem sc_func_lClause_int_bool : isSc Tryz.prog 30 = true := by kernel_rfl
abbrev t_func_lClause_int_int_31 : Nat := 31
theorem co_func_lClause_int_int_31 : Tryz.prog.cellsOf 31 = 1 := by kernel_rfl
theorem sc_func_lClause_int_int_31 : isSc Tryz.prog 31 = true := by kernel_rfl
abbrev t_SlTerm : Nat := 32
theorem co_SlTerm : Tryz.prog.cellsOf 32 = 1 := by kernel_rfl
theorem sc_SlTerm : isSc Tryz.prog 32 = true := by kernel_rfl
theorem zo_SlTerm : zeroOf Tryz.prog 32 = some (.slice none 0 0) := by kernel_rfl
theorem mk_SlTerm : mkOf Tryz.prog 32 = some (34, 4, 56, (.agg #[(.int .i64 0), (.int .i64 0), (.string ⟨#[]⟩), (.slice none 0 0)])) := by kernel_rfl
theorem sl_SlTerm : sliceOf Tryz.prog 32 = some (34, 4) := by kernel_rfl
abbrev t_lTerm : Nat := 34
theorem co_lTerm : Tryz.prog.cellsOf 34 = 4 := by kernel_rfl
theorem fl_lTerm : flds Tryz.prog 34 = some [(0, 3), (1, 3), (2, 9), (3, 32)] := by kernel_rfl
theorem ag_lTerm : aggN Tryz.prog 34 = some 4 := by kernel_rfl
theorem zo_lTerm : zeroOf Tryz.prog 34 = some (.agg #[(.int .i64 0), (.int .i64 0), (.string ⟨#[]⟩), (.slice none 0 0)]) := by kernel_rfl
theorem fo_lTerm_0 : fieldOff Tryz.prog 34 0 = some 0 := by kernel_rfl
theorem fo_lTerm_1 : fieldOff Tryz.prog 34 1 = some 1 := by kernel_rfl
theorem fo_lTerm_2 : fieldOff Tryz.prog 34 2 = some 2 := by kernel_rfl
theorem fo_lTerm_3 : fieldOff Tryz.prog 34 3 = some 3 := by kernel_rfl
abbrev t_lClause : Nat := 36
theorem co_lClause : Tryz.prog.cellsOf 36 = 5 := by kernel_rfl
theorem fl_lClause : flds Tryz.prog 36 = some [(0, 34), (4, 32)] := by kernel_rfl
theorem ag_lClause : aggN Tryz.prog 36 = some 5 := by kernel_rfl
theorem zo_lClause : zeroOf Tryz.prog 36 = some (.agg #[(.int .i64 0), (.int .i64 0), (.string ⟨#[]⟩), (.slice none 0 0), (.slice none 0 0)]) := by kernel_rfl
theorem fo_lClause_0 : fieldOff Tryz.prog 36 0 = some 0 := by kernel_rfl
theorem fo_lClause_1 : fieldOff Tryz.prog 36 1 = some 4 := by kernel_rfl
abbrev t_func_iClause_int_bool : Nat := 37
theorem co_func_iClause_int_bool : Tryz.prog.cellsOf 37 = 1 := by kernel_rfl
theorem sc_func_iClause_int_bool : isSc Tryz.prog 37 = true := by kernel_rfl
abbrev t_Sint : Nat := 38
theorem co_Sint : Tryz.prog.cellsOf 38 = 1 := by kernel_rfl
theorem sc_Sint : isSc Tryz.prog 38 = true := by kernel_rfl
theorem zo_Sint : zeroOf Tryz.prog 38 = some (.slice none 0 0) := by kernel_rfl
theorem mk_Sint : mkOf Tryz.prog 38 = some (3, 1, 8, (.int .i64 0)) := by kernel_rfl
theorem sl_Sint : sliceOf Tryz.prog 38 = some (3, 1) := by kernel_rfl
abbrev t_func_iClause_iTerm_int : Nat := 39
theorem co_func_iClause_iTerm_int : Tryz.prog.cellsOf 39 = 1 := by kernel_rfl
theorem sc_func_iClause_iTerm_int : isSc Tryz.prog 39 = true := by kernel_rfl
abbrev t_SiTerm : Nat := 40
theorem co_SiTerm : Tryz.prog.cellsOf 40 = 1 := by kernel_rfl
theorem sc_SiTerm : isSc Tryz.prog 40 = true := by kernel_rfl
theorem zo_SiTerm : zeroOf Tryz.prog 40 = some (.slice none 0 0) := by kernel_rfl
theorem mk_SiTerm : mkOf Tryz.prog 40 = some (42, 4, 56, (.agg #[(.int .i64 0), (.int .i64 0), (.string ⟨#[]⟩), (.slice none 0 0)])) := by kernel_rfl
theorem sl_SiTerm : sliceOf Tryz.prog 40 = some (42, 4) := by kernel_rfl
abbrev t_iTerm : Nat := 42
theorem co_iTerm : Tryz.prog.cellsOf 42 = 4 := by kernel_rfl
theorem fl_iTerm : flds Tryz.prog 42 = some [(0, 3), (1, 3), (2, 9), (3, 40)] := by kernel_rfl
theorem ag_iTerm : aggN Tryz.prog 42 = some 4 := by kernel_rfl
theorem zo_iTerm : zeroOf Tryz.prog 42 = some (.agg #[(.int .i64 0), (.int .i64 0), (.string ⟨#[]⟩), (.slice none 0 0)]) := by kernel_rfl
theorem fo_iTerm_0 : fieldOff Tryz.prog 42 0 = some 0 := by kernel_rfl
theorem fo_iTerm_1 : fieldOff Tryz.prog 42 1 = some 1 := by kernel_rfl
theorem fo_iTerm_2 : fieldOff Tryz.prog 42 2 = some 2 := by kernel_rfl
theorem fo_iTerm_3 : fieldOff Tryz.prog 42 3 = some 3 := by kernel_rfl
abbrev t_iClause : Nat := 44
theorem co_iClause : Tryz.prog.cellsOf 44 = 5 := by kernel_rfl
theorem fl_iClause : flds Tryz.prog 44 = some [(0, 42), (4, 40)] := by kernel_rfl
theorem ag_iClause : aggN Tryz.prog 44 = some 5 := by kernel_rfl
theorem zo_iClause : zeroOf Tryz.prog 44 = some (.agg #[(.int .i64 0), (.int .i64 0), (.string ⟨#[]⟩), (.slice none 0 0), (.slice none 0 0)]) := by kernel_rfl
theorem fo_iClause_0 : fieldOff Tryz.prog 44 0 = some 0 := by kernel_rfl
theorem fo_iClause_1 : fieldOff Tryz.prog 44 1 = some 4 := by kernel_rfl
abbrev t_iClause_bool_bool : Nat := 45
abbrev t_func_iClause_iClause_iClause_bool_bool : Nat := 46
theorem co_func_iClause_iClause_iClause_bool_bool : Tryz.prog.cellsOf 46 = 1 := by kernel_rfl
theorem sc_func_iClause_iClause_iClause_bool_bool : isSc Tryz.prog 46 = true := by kernel_rfl
abbrev t_func_iClause_bool : Nat := 47
theorem co_func_iClause_bool : Tryz.prog.cellsOf 47 = 1 := by kernel_rfl
theorem sc_func_iClause_bool : isSc Tryz.prog 47 = true := by kernel_rfl
abbrev t_func_iClause_iClause : Nat := 48
theorem co_func_iClause_iClause : Tryz.prog.cellsOf 48 = 1 := by kernel_rfl
theorem sc_func_iClause_iClause : isSc Tryz.prog 48 = true := by kernel_rfl
abbrev t_func_lClause_iClause_49 : Nat := 49
theorem co_func_lClause_iClause_49 : Tryz.prog.cellsOf 49 = 1 := by kernel_rfl
theorem sc_func_lClause_iClause_49 : isSc Tryz.prog 49 = true := by kernel_rfl
abbrev t_func_iClause_iPred_int : Nat := 50
theorem co_func_iClause_iPred_int : Tryz.prog.cellsOf 50 = 1 := by kernel_rfl
theorem sc_func_iClause_iPred_int : isSc Tryz.prog 50 = true := by kernel_rfl
abbrev t_iPred : Nat := 52
theorem co_iPred : Tryz.prog.cellsOf 52 = 2 := by kernel_rfl
theorem fl_iPred : flds Tryz.prog 52 = some [(0, 9), (1, 3)] := by kernel_rfl
theorem ag_iPred : aggN Tryz.prog 52 = some 2 := by kernel_rfl
theorem zo_iPred : zeroOf Tryz.prog 52 = some (.agg #[(.string ⟨#[]⟩), (.int .i64 0)]) := by kernel_rfl
theorem fo_iPred_0 : fieldOff Tryz.prog 52 0 = some 0 := by kernel_rfl
theorem fo_iPred_1 : fieldOff Tryz.prog 52 1 = some 1 := by kernel_rfl
abbrev t_func_iTerm_iPred : Nat := 53
theorem co_func_iTerm_iPred : Tryz.prog.cellsOf 53 = 1 := by kernel_rfl
theorem sc_func_iTerm_iPred : isSc Tryz.prog 53 = true := by kernel_rfl
abbrev t_func_iClause_iClause_bool_54 : Nat := 54
theorem co_func_iClause_iClause_bool_54 : Tryz.prog.cellsOf 54 = 1 := by kernel_rfl
theorem sc_func_iClause_iClause_bool_54 : isSc Tryz.prog 54 = true := by kernel_rfl
abbrev t_func_int_string : Nat := 55
theorem co_func_int_string : Tryz.prog.cellsOf 55 = 1 := by kernel_rfl
theorem sc_func_int_string : isSc Tryz.prog 55 = true := by kernel_rfl
abbrev t_func_iTerm_int_int : Nat := 56
theorem co_func_iTerm_int_int : Tryz.prog.cellsOf 56 = 1 := by kernel_rfl
theorem sc_func_iTerm_int_int : isSc Tryz.prog 56 = true := by kernel_rfl
abbrev t_func_lTerm_int_int : Nat := 57
theorem co_func_lTerm_int_int : Tryz.prog.cellsOf 57 = 1 := by kernel_rfl
theorem sc_func_lTerm_int_int : isSc Tryz.prog 57 = true := by kernel_rfl
abbrev t_func_lTerm_int_int_58 : Nat := 58
theorem co_func_lTerm_int_int_58 : Tryz.prog.cellsOf 58 = 1 := by kernel_rfl
theorem sc_func_lTerm_int_int_58 : isSc Tryz.prog 58 = true := by kernel_rfl
abbrev t_func_iClause_bool_59 : Nat := 59
theorem co_func_iClause_bool_59 : Tryz.prog.cellsOf 59 = 1 := by kernel_rfl
theorem sc_func_iClause_bool_59 : isSc Tryz.prog 59 = true := by kernel_rfl
abbrev t_func_iClause_int_iClause : Nat := 60
theorem co_func_iClause_int_iClause : Tryz.prog.cellsOf 60 = 1 := by kernel_rfl
theorem sc_func_iClause_int_iClause : isSc Tryz.prog 60 = true := by kernel_rfl
abbrev t_func_iTerm_iTerm_iTerm_bool : Nat := 61
theorem co_func_iTerm_iTerm_iTerm_bool : Tryz.prog.cellsOf 61 = 1 := by kernel_rfl
theorem sc_func_iTerm_iTerm_iTerm_bool : isSc Tryz.prog 61 = true := by kernel_rfl
abbrev t_iTerm_bool : Nat := 62
abbrev t_func_iTerm_iTerm_iTerm_bool_63 : Nat := 63
theorem co_func_iTerm_iTerm_iTerm_bool_63 : Tryz.prog.cellsOf 63 = 1 := by kernel_rfl
theorem sc_func_iTerm_iTerm_iTerm_bool_63 : isSc Tryz.prog 63 = true := by kernel_rfl
abbrev t_func_iTerm_iTerm : Nat := 64
theorem co_func_iTerm_iTerm : Tryz.prog.cellsOf 64 = 1 := by kernel_rfl
theorem sc_func_iTerm_iTerm : isSc Tryz.prog 64 = true := by kernel_rfl
abbrev t_func_iClause_iClause_65 : Nat := 65
theorem co_func_iClause_iClause_65 : Tryz.prog.cellsOf 65 = 1 := by kernel_rfl
theorem sc_func_iClause_iClause_65 : isSc Tryz.prog 65 = true := by kernel_rfl
abbrev t_func_lTerm_iTerm : Nat := 66
theorem co_func_lTerm_iTerm : Tryz.prog.cellsOf 66 = 1 := by kernel_rfl
theorem sc_func_lTerm_iTerm : isSc Tryz.prog 66 = true := by kernel_rfl
abbrev t_func_lTerm_iTerm_67 : Nat := 67
theorem co_func_lTerm_iTerm_67 : Tryz.prog.cellsOf 67 = 1 := by kernel_rfl
theorem sc_func_lTerm_iTerm_67 : isSc Tryz.prog 67 = true := by kernel_rfl
abbrev t_func_int_int_int_bool : Nat := 68
theorem co_func_int_int_int_bool : Tryz.prog.cellsOf 68 = 1 := by kernel_rfl
theorem sc_func_int_int_int_bool : isSc Tryz.prog 68 = true := by kernel_rfl
abbrev t_func_int_int_bool : Nat := 69
theorem co_func_int_int_bool : Tryz.prog.cellsOf 69 = 1 := by kernel_rfl
theorem sc_func_int_int_bool : isSc Tryz.prog 69 = true := by kernel_rfl
abbrev t_func_int_func_int_bool_bool : Nat := 70
theorem co_func_int_func_int_bool_bool : Tryz.prog.cellsOf 70 = 1 := by kernel_rfl
theorem sc_func_int_func_int_bool_bool : isSc Tryz.prog 70 = true := by kernel_rfl
abbrev t_func_int_bool : Nat := 71
theorem co_func_int_bool : Tryz.prog.cellsOf 71 = 1 := by kernel_rfl
theorem sc_func_int_bool : isSc Tryz.prog 71 = true := by kernel_rfl
abbrev t_Pistore : Nat := 72
theorem co_Pistore : Tryz.prog.cellsOf 72 = 1 := by kernel_rfl
theorem sc_Pistore : isSc Tryz.prog 72 = true := by kernel_rfl
theorem zo_Pistore : zeroOf Tryz.prog 72 = some (.pointer none) := by kernel_rfl
abbrev t_func_istore : Nat := 73
theorem co_func_istore : Tryz.prog.cellsOf 73 = 1 := by kernel_rfl
theorem sc_func_istore : isSc Tryz.prog 73 = true := by kernel_rfl
abbrev t_func_int_iTerm : Nat := 74
theorem co_func_int_iTerm : Tryz.prog.cellsOf 74 = 1 := by kernel_rfl
theorem sc_func_int_iTerm : isSc Tryz.prog 74 = true := by kernel_rfl
abbrev t_func_iTerm_iTerm_bool : Nat := 75
theorem co_func_iTerm_iTerm_bool : Tryz.prog.cellsOf 75 = 1 := by kernel_rfl
theorem sc_func_iTerm_iTerm_bool : isSc Tryz.prog 75 = true := by kernel_rfl
abbrev t_func_iTerm_func_int_iTerm_iTerm : Nat := 76
theorem co_func_iTerm_func_int_iTerm_iTerm : Tryz.prog.cellsOf 76 = 1 := by kernel_rfl
theorem sc_func_iTerm_func_int_iTerm_iTerm : isSc Tryz.prog 76 = true := by kernel_rfl
abbrev t_func_iTerm_iTerm_bool_77 : Nat := 77
theorem co_func_iTerm_iTerm_bool_77 : Tryz.prog.cellsOf 77 = 1 := by kernel_rfl
theorem sc_func_iTerm_iTerm_bool_77 : isSc Tryz.prog 77 = true := by kernel_rfl
abbrev t_func_iClause_func_iClause_bool_bool : Nat := 78
theorem co_func_iClause_func_iClause_bool_bool : Tryz.prog.cellsOf 78 = 1 := by kernel_rfl
theorem sc_func_iClause_func_iClause_bool_bool : isSc Tryz.prog 78 = true := by kernel_rfl
abbrev t_func_iTerm_iTerm_bool_79 : Nat := 79
theorem co_func_iTerm_iTerm_bool_79 : Tryz.prog.cellsOf 79 = 1 := by kernel_rfl
theorem sc_func_iTerm_iTerm_bool_79 : isSc Tryz.prog 79 = true := by kernel_rfl
abbrev t_Suint8 : Nat := 80
theorem co_Suint8 : Tryz.prog.cellsOf 80 = 1 := by kernel_rfl
theorem sc_Suint8 : isSc Tryz.prog 80 = true := by kernel_rfl
theorem zo_Suint8 : zeroOf Tryz.prog 80 = some (.slice none 0 0) := by kernel_rfl
theorem mk_Suint8 : mkOf Tryz.prog 80 = some (5, 1, 1, (.int .u8 0)) := by kernel_rfl
theorem sl_Suint8 : sliceOf Tryz.prog 80 = some (5, 1) := by kernel_rfl
abbrev t_func_iTerm_bool : Nat := 81
theorem co_func_iTerm_bool : Tryz.prog.cellsOf 81 = 1 := by kernel_rfl
theorem sc_func_iTerm_bool : isSc Tryz.prog 81 = true := by kernel_rfl
abbrev t_func_iTerm_int_iTerm : Nat := 82
theorem co_func_iTerm_int_iTerm : Tryz.prog.cellsOf 82 = 1 := by kernel_rfl
theorem sc_func_iTerm_int_iTerm : isSc Tryz.prog 82 = true := by kernel_rfl
abbrev t_func_iTerm_iTerm_iTerm : Nat := 83
theorem co_func_iTerm_iTerm_iTerm : Tryz.prog.cellsOf 83 = 1 := by kernel_rfl
theorem sc_func_iTerm_iTerm_iTerm : isSc Tryz.prog 83 = true := by kernel_rfl
abbrev t_func_int_iTerm_iTerm_bool : Nat := 84
theorem co_func_int_iTerm_iTerm_bool : Tryz.prog.cellsOf 84 = 1 := by kernel_rfl
theorem sc_func_int_iTerm_iTerm_bool : isSc Tryz.prog 84 = true := by kernel_rfl
abbrev t_iTerm_int : Nat := 85
abbrev t_func_iTerm_iTerm_int_iTerm_int : Nat := 86
theorem co_func_iTerm_iTerm_int_iTerm_int : Tryz.prog.cellsOf 86 = 1 := by kernel_rfl
theorem sc_func_iTerm_iTerm_int_iTerm_int : isSc Tryz.prog 86 = true := by kernel_rfl
abbrev t_func_iTerm_int_bool : Nat := 87
theorem co_func_iTerm_int_bool : Tryz.prog.cellsOf 87 = 1 := by kernel_rfl
theorem sc_func_iTerm_int_bool : isSc Tryz.prog 87 = true := by kernel_rfl
abbrev t_func_int_iTerm_int : Nat := 88
theorem co_func_int_iTerm_int : Tryz.prog.cellsOf 88 = 1 := by kernel_rfl
theorem sc_func_int_iTerm_int : isSc Tryz.prog 88 = true := by kernel_rfl
abbrev t_func_iTerm_int_iTerm_89 : Nat := 89
theorem co_func_iTerm_int_iTerm_89 : Tryz.prog.cellsOf 89 = 1 := by kernel_rfl
theorem sc_func_iTerm_int_iTerm_89 : isSc Tryz.prog 89 = true := by kernel_rfl
abbrev t_func_iTerm_iTerm_90 : Nat := 90
theorem co_func_iTerm_iTerm_90 : Tryz.prog.cellsOf 90 = 1 := by kernel_rfl
theorem sc_func_iTerm_iTerm_90 : isSc Tryz.prog 90 = true := by kernel_rfl
abbrev t_func_iTerm_func_iTerm_bool_bool : Nat := 91
theorem co_func_iTerm_func_iTerm_bool_bool : Tryz.prog.cellsOf 91 = 1 := by kernel_rfl
theorem sc_func_iTerm_func_iTerm_bool_bool : isSc Tryz.prog 91 = true := by kernel_rfl
abbrev t_func_int_int_int : Nat := 92
theorem co_func_int_int_int : Tryz.prog.cellsOf 92 = 1 := by kernel_rfl
theorem sc_func_int_int_int : isSc Tryz.prog 92 = true := by kernel_rfl
abbrev t_func_int_func_int_bool_int : Nat := 93
theorem co_func_int_func_int_bool_int : Tryz.prog.cellsOf 93 = 1 := by kernel_rfl
theorem sc_func_int_func_int_bool_int : isSc Tryz.prog 93 = true := by kernel_rfl
abbrev t_Mint_iTerm : Nat := 94
theorem co_Mint_iTerm : Tryz.prog.cellsOf 94 = 1 := by kernel_rfl
theorem sc_Mint_iTerm : isSc Tryz.prog 94 = true := by kernel_rfl
theorem zo_Mint_iTerm : zeroOf Tryz.prog 94 = some (.map none) := by kernel_rfl
theorem un_Mint_iTerm : Tryz.prog.underlying 94 = some (.map 3 42) := by kernel_rfl
abbrev t_istore : Nat := 96
theorem co_istore : Tryz.prog.cellsOf 96 = 2 := by kernel_rfl
theorem fl_istore : flds Tryz.prog 96 = some [(0, 94), (1, 38)] := by kernel_rfl
theorem ag_istore : aggN Tryz.prog 96 = some 2 := by kernel_rfl
theorem zo_istore : zeroOf Tryz.prog 96 = some (.agg #[(.map none), (.slice none 0 0)]) := by kernel_rfl
theorem fo_istore_0 : fieldOff Tryz.prog 96 0 = some 0 := by kernel_rfl
theorem fo_istore_1 : fieldOff Tryz.prog 96 1 = some 1 := by kernel_rfl
abbrev t_func_int_iTerm_bool : Nat := 97
theorem co_func_int_iTerm_bool : Tryz.prog.cellsOf 97 = 1 := by kernel_rfl
theorem sc_func_int_iTerm_bool : isSc Tryz.prog 97 = true := by kernel_rfl
abbrev t_func_iTerm_int_int_iTerm_bool : Nat := 98
theorem co_func_iTerm_int_int_iTerm_bool : Tryz.prog.cellsOf 98 = 1 := by kernel_rfl
theorem sc_func_iTerm_int_int_iTerm_bool : isSc Tryz.prog 98 = true := by kernel_rfl
abbrev t_Pint : Nat := 99
theorem co_Pint : Tryz.prog.cellsOf 99 = 1 := by kernel_rfl
theorem sc_Pint : isSc Tryz.prog 99 = true := by kernel_rfl
theorem zo_Pint : zeroOf Tryz.prog 99 = some (.pointer none) := by kernel_rfl
abbrev t_func_iTerm_bool_100 : Nat := 100
theorem co_func_iTerm_bool_100 : Tryz.prog.cellsOf 100 = 1 := by kernel_rfl
theorem sc_func_iTerm_bool_100 : isSc Tryz.prog 100 = true := by kernel_rfl
abbrev t_func_iClause_func_iClause_bool_int : Nat := 101
theorem co_func_iClause_func_iClause_bool_int : Tryz.prog.cellsOf 101 = 1 := by kernel_rfl
theorem sc_func_iClause_func_iClause_bool_int : isSc Tryz.prog 101 = true := by kernel_rfl
abbrev t_func_string_bool : Nat := 102
theorem co_func_string_bool : Tryz.prog.cellsOf 102 = 1 := by kernel_rfl
theorem sc_func_string_bool : isSc Tryz.prog 102 = true := by kernel_rfl
abbrev t_func_string_int_bool : Nat := 103
theorem co_func_string_int_bool : Tryz.prog.cellsOf 103 = 1 := by kernel_rfl
theorem sc_func_string_int_bool : isSc Tryz.prog 103 = true := by kernel_rfl
abbrev t_func_string_int : Nat := 104
theorem co_func_string_int : Tryz.prog.cellsOf 104 = 1 := by kernel_rfl
theorem sc_func_string_int : isSc Tryz.prog 104 = true := by kernel_rfl
abbrev t_func_iTerm_int_int_105 : Nat := 105
theorem co_func_iTerm_int_int_105 : Tryz.prog.cellsOf 105 = 1 := by kernel_rfl
theorem sc_func_iTerm_int_int_105 : isSc Tryz.prog 105 = true := by kernel_rfl
abbrev t_func_iTerm_func_iTerm_bool_int : Nat := 106
theorem co_func_iTerm_func_iTerm_bool_int : Tryz.prog.cellsOf 106 = 1 := by kernel_rfl
theorem sc_func_iTerm_func_iTerm_bool_int : isSc Tryz.prog 106 = true := by kernel_rfl
abbrev t_func_int_iTerm_map_int_bool_bool : Nat := 107
theorem co_func_int_iTerm_map_int_bool_bool : Tryz.prog.cellsOf 107 = 1 := by kernel_rfl
theorem sc_func_int_iTerm_map_int_bool_bool : isSc Tryz.prog 107 = true := by kernel_rfl
abbrev t_Mint_bool : Nat := 108
theorem co_Mint_bool : Tryz.prog.cellsOf 108 = 1 := by kernel_rfl
theorem sc_Mint_bool : isSc Tryz.prog 108 = true := by kernel_rfl
theorem zo_Mint_bool : zeroOf Tryz.prog 108 = some (.map none) := by kernel_rfl
theorem un_Mint_bool : Tryz.prog.underlying 108 = some (.map 3 4) := by kernel_rfl
abbrev t_func_iTerm_int : Nat := 109
theorem co_func_iTerm_int : Tryz.prog.cellsOf 109 = 1 := by kernel_rfl
theorem sc_func_iTerm_int : isSc Tryz.prog 109 = true := by kernel_rfl
abbrev t_func_iTerm_int_int_bool : Nat := 110
theorem co_func_iTerm_int_int_bool : Tryz.prog.cellsOf 110 = 1 := by kernel_rfl
theorem sc_func_iTerm_int_int_bool : isSc Tryz.prog 110 = true := by kernel_rfl
abbrev t_int_bool : Nat := 111
abbrev t_func_string_int_bool_112 : Nat := 112
theorem co_func_string_int_bool_112 : Tryz.prog.cellsOf 112 = 1 := by kernel_rfl
theorem sc_func_string_int_bool_112 : isSc Tryz.prog 112 = true := by kernel_rfl
abbrev t_func_iTerm_int_int_113 : Nat := 113
theorem co_func_iTerm_int_int_113 : Tryz.prog.cellsOf 113 = 1 := by kernel_rfl
theorem sc_func_iTerm_int_int_113 : isSc Tryz.prog 113 = true := by kernel_rfl
abbrev t_func_string_string_bool : Nat := 114
theorem co_func_string_string_bool : Tryz.prog.cellsOf 114 = 1 := by kernel_rfl
theorem sc_func_string_string_bool : isSc Tryz.prog 114 = true := by kernel_rfl
abbrev t_Sstring : Nat := 115
theorem co_Sstring : Tryz.prog.cellsOf 115 = 1 := by kernel_rfl
theorem sc_Sstring : isSc Tryz.prog 115 = true := by kernel_rfl
theorem zo_Sstring : zeroOf Tryz.prog 115 = some (.slice none 0 0) := by kernel_rfl
theorem mk_Sstring : mkOf Tryz.prog 115 = some (9, 1, 16, (.string ⟨#[]⟩)) := by kernel_rfl
theorem sl_Sstring : sliceOf Tryz.prog 115 = some (9, 1) := by kernel_rfl
abbrev t_func_string : Nat := 116
theorem co_func_string : Tryz.prog.cellsOf 116 = 1 := by kernel_rfl
theorem sc_func_string : isSc Tryz.prog 116 = true := by kernel_rfl
abbrev t_func_string_string_int : Nat := 117
theorem co_func_string_string_int : Tryz.prog.cellsOf 117 = 1 := by kernel_rfl
theorem sc_func_string_string_int : isSc Tryz.prog 117 = true := by kernel_rfl
abbrev t_func_string_118 : Nat := 118
theorem co_func_string_118 : Tryz.prog.cellsOf 118 = 1 := by kernel_rfl
theorem sc_func_string_118 : isSc Tryz.prog 118 = true := by kernel_rfl
abbrev t_func_int : Nat := 124
theorem co_func_int : Tryz.prog.cellsOf 124 = 1 := by kernel_rfl
theorem sc_func_int : isSc Tryz.prog 124 = true := by kernel_rfl
abbrev t_uint32 : Nat := 125
theorem co_uint32 : Tryz.prog.cellsOf 125 = 1 := by kernel_rfl
theorem sc_uint32 : isSc Tryz.prog 125 = true := by kernel_rfl
theorem zo_uint32 : zeroOf Tryz.prog 125 = some (.int .u32 0) := by kernel_rfl
theorem un_uint32 : Tryz.prog.underlying 125 = some (.int .u32) := by kernel_rfl
abbrev t_func_unsafe_Pointer_unsafe_Pointer_bool : Nat := 128
theorem co_func_unsafe_Pointer_unsafe_Pointer_bool : Tryz.prog.cellsOf 128 = 1 := by kernel_rfl
theorem sc_func_unsafe_Pointer_unsafe_Pointer_bool : isSc Tryz.prog 128 = true := by kernel_rfl
abbrev t_Puint8 : Nat := 129
theorem co_Puint8 : Tryz.prog.cellsOf 129 = 1 := by kernel_rfl
theorem sc_Puint8 : isSc Tryz.prog 129 = true := by kernel_rfl
theorem zo_Puint8 : zeroOf Tryz.prog 129 = some (.pointer none) := by kernel_rfl
abbrev t_func_int_134 : Nat := 134
theorem co_func_int_134 : Tryz.prog.cellsOf 134 = 1 := by kernel_rfl
theorem sc_func_int_134 : isSc Tryz.prog 134 = true := by kernel_rfl
abbrev n_l_FnExactUnfoldClause : Nat := 3
theorem fn_l_FnExactUnfoldClause : Tryz.prog.funcs[3]? = some Tryz.f3 := Tryz.func3
theorem nm_l_FnExactUnfoldClause : (Tryz.f3.name == "runtime.NumGoroutine" || Tryz.f3.body.isNone) = false := by kernel_rfl
abbrev n_l_szClauseS : Nat := 4
theorem fn_l_szClauseS : Tryz.prog.funcs[4]? = some Tryz.f4 := Tryz.func4
theorem nm_l_szClauseS : (Tryz.f4.name == "runtime.NumGoroutine" || Tryz.f4.body.isNone) = false := by kernel_rfl
abbrev n_s_UnfoldClause : Nat := 5
theorem fn_s_UnfoldClause : Tryz.prog.funcs[5]? = some Tryz.f5 := Tryz.func5
theorem nm_s_UnfoldClause : (Tryz.f5.name == "runtime.NumGoroutine" || Tryz.f5.body.isNone) = false := by kernel_rfl
abbrev n_l_toClauseS : Nat := 6
theorem fn_l_toClauseS : Tryz.prog.funcs[6]? = some Tryz.f6 := Tryz.func6
theorem nm_l_toClauseS : (Tryz.f6.name == "runtime.NumGoroutine" || Tryz.f6.body.isNone) = false := by kernel_rfl
abbrev n_i_UnfoldClause : Nat := 7
theorem fn_i_UnfoldClause : Tryz.prog.funcs[7]? = some Tryz.f7 := Tryz.func7
theorem nm_i_UnfoldClause : (Tryz.f7.name == "runtime.NumGoroutine" || Tryz.f7.body.isNone) = false := by kernel_rfl
abbrev n_l_eqClauseS : Nat := 8
theorem fn_l_eqClauseS : Tryz.prog.funcs[8]? = some Tryz.f8 := Tryz.func8
theorem nm_l_eqClauseS : (Tryz.f8.name == "runtime.NumGoroutine" || Tryz.f8.body.isNone) = false := by kernel_rfl
abbrev n_l_markClauseS : Nat := 9
theorem fn_l_markClauseS : Tryz.prog.funcs[9]? = some Tryz.f9 := Tryz.func9
theorem nm_l_markClauseS : (Tryz.f9.name == "runtime.NumGoroutine" || Tryz.f9.body.isNone) = false := by kernel_rfl
abbrev n_l_heldClauseS : Nat := 10
theorem fn_l_heldClauseS : Tryz.prog.funcs[10]? = some Tryz.f10 := Tryz.func10
theorem nm_l_heldClauseS : (Tryz.f10.name == "runtime.NumGoroutine" || Tryz.f10.body.isNone) = false := by kernel_rfl
abbrev n_l_szClause : Nat := 11
theorem fn_l_szClause : Tryz.prog.funcs[11]? = some Tryz.f11 := Tryz.func11
theorem nm_l_szClause : (Tryz.f11.name == "runtime.NumGoroutine" || Tryz.f11.body.isNone) = false := by kernel_rfl
abbrev n_s_CanUnfold : Nat := 12
theorem fn_s_CanUnfold : Tryz.prog.funcs[12]? = some Tryz.f12 := Tryz.func12
theorem nm_s_CanUnfold : (Tryz.f12.name == "runtime.NumGoroutine" || Tryz.f12.body.isNone) = false := by kernel_rfl
abbrev n_s_l4For : Nat := 13
theorem fn_s_l4For : Tryz.prog.funcs[13]? = some Tryz.f13 := Tryz.func13
theorem nm_s_l4For : (Tryz.f13.name == "runtime.NumGoroutine" || Tryz.f13.body.isNone) = false := by kernel_rfl
abbrev n_s_l15Resolvent : Nat := 14
theorem fn_s_l15Resolvent : Tryz.prog.funcs[14]? = some Tryz.f14 := Tryz.func14
theorem nm_s_l15Resolvent : (Tryz.f14.name == "runtime.NumGoroutine" || Tryz.f14.body.isNone) = false := by kernel_rfl
abbrev n_s_ProgramValid : Nat := 15
theorem fn_s_ProgramValid : Tryz.prog.funcs[15]? = some Tryz.f15 := Tryz.func15
theorem nm_s_ProgramValid : (Tryz.f15.name == "runtime.NumGoroutine" || Tryz.f15.body.isNone) = false := by kernel_rfl
abbrev n_s_l14Copy : Nat := 16
theorem fn_s_l14Copy : Tryz.prog.funcs[16]? = some Tryz.f16 := Tryz.func16
theorem nm_s_l14Copy : (Tryz.f16.name == "runtime.NumGoroutine" || Tryz.f16.body.isNone) = false := by kernel_rfl
abbrev n_l_toClause : Nat := 17
theorem fn_l_toClause : Tryz.prog.funcs[17]? = some Tryz.f17 := Tryz.func17
theorem nm_l_toClause : (Tryz.f17.name == "runtime.NumGoroutine" || Tryz.f17.body.isNone) = false := by kernel_rfl
abbrev n_i_CanUnfold : Nat := 18
theorem fn_i_CanUnfold : Tryz.prog.funcs[18]? = some Tryz.f18 := Tryz.func18
theorem nm_i_CanUnfold : (Tryz.f18.name == "runtime.NumGoroutine" || Tryz.f18.body.isNone) = false := by kernel_rfl
abbrev n_i_ownProgram : Nat := 19
theorem fn_i_ownProgram : Tryz.prog.funcs[19]? = some Tryz.f19 := Tryz.func19
theorem nm_i_ownProgram : (Tryz.f19.name == "runtime.NumGoroutine" || Tryz.f19.body.isNone) = false := by kernel_rfl
abbrev n_i_clausesFor : Nat := 20
theorem fn_i_clausesFor : Tryz.prog.funcs[20]? = some Tryz.f20 := Tryz.func20
theorem nm_i_clausesFor : (Tryz.f20.name == "runtime.NumGoroutine" || Tryz.f20.body.isNone) = false := by kernel_rfl
abbrev n_i_pred : Nat := 21
theorem fn_i_pred : Tryz.prog.funcs[21]? = some Tryz.f21 := Tryz.func21
theorem nm_i_pred : (Tryz.f21.name == "runtime.NumGoroutine" || Tryz.f21.body.isNone) = false := by kernel_rfl
abbrev n_i_resolvent : Nat := 22
theorem fn_i_resolvent : Tryz.prog.funcs[22]? = some Tryz.f22 := Tryz.func22
theorem nm_i_resolvent : (Tryz.f22.name == "runtime.NumGoroutine" || Tryz.f22.body.isNone) = false := by kernel_rfl
abbrev n_i_ProgramValid : Nat := 23
theorem fn_i_ProgramValid : Tryz.prog.funcs[23]? = some Tryz.f23 := Tryz.func23
theorem nm_i_ProgramValid : (Tryz.f23.name == "runtime.NumGoroutine" || Tryz.f23.body.isNone) = false := by kernel_rfl
abbrev n_l_eqClause : Nat := 24
theorem fn_l_eqClause : Tryz.prog.funcs[24]? = some Tryz.f24 := Tryz.func24
theorem nm_l_eqClause : (Tryz.f24.name == "runtime.NumGoroutine" || Tryz.f24.body.isNone) = false := by kernel_rfl
abbrev n_l_markText : Nat := 25
theorem fn_l_markText : Tryz.prog.funcs[25]? = some Tryz.f25 := Tryz.func25
theorem nm_l_markText : (Tryz.f25.name == "runtime.NumGoroutine" || Tryz.f25.body.isNone) = false := by kernel_rfl
abbrev n_l_markTermS : Nat := 26
theorem fn_l_markTermS : Tryz.prog.funcs[26]? = some Tryz.f26 := Tryz.func26
theorem nm_l_markTermS : (Tryz.f26.name == "runtime.NumGoroutine" || Tryz.f26.body.isNone) = false := by kernel_rfl
abbrev n_l_heldTermS : Nat := 27
theorem fn_l_heldTermS : Tryz.prog.funcs[27]? = some Tryz.f27 := Tryz.func27
theorem nm_l_heldTermS : (Tryz.f27.name == "runtime.NumGoroutine" || Tryz.f27.body.isNone) = false := by kernel_rfl
abbrev n_l_szTerm : Nat := 28
theorem fn_l_szTerm : Tryz.prog.funcs[28]? = some Tryz.f28 := Tryz.func28
theorem nm_l_szTerm : (Tryz.f28.name == "runtime.NumGoroutine" || Tryz.f28.body.isNone) = false := by kernel_rfl
abbrev n_l_szTermS : Nat := 29
theorem fn_l_szTermS : Tryz.prog.funcs[29]? = some Tryz.f29 := Tryz.func29
theorem nm_l_szTermS : (Tryz.f29.name == "runtime.NumGoroutine" || Tryz.f29.body.isNone) = false := by kernel_rfl
abbrev n_s_l15First : Nat := 30
theorem fn_s_l15First : Tryz.prog.funcs[30]? = some Tryz.f30 := Tryz.func30
theorem nm_s_l15First : (Tryz.f30.name == "runtime.NumGoroutine" || Tryz.f30.body.isNone) = false := by kernel_rfl
abbrev n_s_l15Cuts : Nat := 31
theorem fn_s_l15Cuts : Tryz.prog.funcs[31]? = some Tryz.f31 := Tryz.func31
theorem nm_s_l15Cuts : (Tryz.f31.name == "runtime.NumGoroutine" || Tryz.f31.body.isNone) = false := by kernel_rfl
abbrev n_s_l15Fresh : Nat := 32
theorem fn_s_l15Fresh : Tryz.prog.funcs[32]? = some Tryz.f32 := Tryz.func32
theorem nm_s_l15Fresh : (Tryz.f32.name == "runtime.NumGoroutine" || Tryz.f32.body.isNone) = false := by kernel_rfl
abbrev n_s_l3Unify : Nat := 33
theorem fn_s_l3Unify : Tryz.prog.funcs[33]? = some Tryz.f33 := Tryz.func33
theorem nm_s_l3Unify : (Tryz.f33.name == "runtime.NumGoroutine" || Tryz.f33.body.isNone) = false := by kernel_rfl
abbrev n_s_l6Small : Nat := 34
theorem fn_s_l6Small : Tryz.prog.funcs[34]? = some Tryz.f34 := Tryz.func34
theorem nm_s_l6Small : (Tryz.f34.name == "runtime.NumGoroutine" || Tryz.f34.body.isNone) = false := by kernel_rfl
abbrev n_s_l1Renumber : Nat := 35
theorem fn_s_l1Renumber : Tryz.prog.funcs[35]? = some Tryz.f35 := Tryz.func35
theorem nm_s_l1Renumber : (Tryz.f35.name == "runtime.NumGoroutine" || Tryz.f35.body.isNone) = false := by kernel_rfl
abbrev n_s_ClauseValid : Nat := 36
theorem fn_s_ClauseValid : Tryz.prog.funcs[36]? = some Tryz.f36 := Tryz.func36
theorem nm_s_ClauseValid : (Tryz.f36.name == "runtime.NumGoroutine" || Tryz.f36.body.isNone) = false := by kernel_rfl
abbrev n_s_l4Copy : Nat := 37
theorem fn_s_l4Copy : Tryz.prog.funcs[37]? = some Tryz.f37 := Tryz.func37
theorem nm_s_l4Copy : (Tryz.f37.name == "runtime.NumGoroutine" || Tryz.f37.body.isNone) = false := by kernel_rfl
abbrev n_l_toTerm : Nat := 38
theorem fn_l_toTerm : Tryz.prog.funcs[38]? = some Tryz.f38 := Tryz.func38
theorem nm_l_toTerm : (Tryz.f38.name == "runtime.NumGoroutine" || Tryz.f38.body.isNone) = false := by kernel_rfl
abbrev n_l_toTermS : Nat := 39
theorem fn_l_toTermS : Tryz.prog.funcs[39]? = some Tryz.f39 := Tryz.func39
theorem nm_l_toTermS : (Tryz.f39.name == "runtime.NumGoroutine" || Tryz.f39.body.isNone) = false := by kernel_rfl
abbrev n_i_within : Nat := 40
theorem fn_i_within : Tryz.prog.funcs[40]? = some Tryz.f40 := Tryz.func40
theorem nm_i_within : (Tryz.f40.name == "runtime.NumGoroutine" || Tryz.f40.body.isNone) = false := by kernel_rfl
abbrev n_i_firstPlain : Nat := 41
theorem fn_i_firstPlain : Tryz.prog.funcs[41]? = some Tryz.f41 := Tryz.func41
theorem nm_i_firstPlain : (Tryz.f41.name == "runtime.NumGoroutine" || Tryz.f41.body.isNone) = false := by kernel_rfl
abbrev n_i_hasCut : Nat := 42
theorem fn_i_hasCut : Tryz.prog.funcs[42]? = some Tryz.f42 := Tryz.func42
theorem nm_i_hasCut : (Tryz.f42.name == "runtime.NumGoroutine" || Tryz.f42.body.isNone) = false := by kernel_rfl
abbrev n_x_Contains_int : Nat := 43
theorem fn_x_Contains_int : Tryz.prog.funcs[43]? = some Tryz.f43 := Tryz.func43
theorem nm_x_Contains_int : (Tryz.f43.name == "runtime.NumGoroutine" || Tryz.f43.body.isNone) = false := by kernel_rfl
abbrev n_x_ContainsFunc_int : Nat := 44
theorem fn_x_ContainsFunc_int : Tryz.prog.funcs[44]? = some Tryz.f44 := Tryz.func44
theorem nm_x_ContainsFunc_int : (Tryz.f44.name == "runtime.NumGoroutine" || Tryz.f44.body.isNone) = false := by kernel_rfl
abbrev n_i_CanUnfold_1 : Nat := 45
theorem fn_i_CanUnfold_1 : Tryz.prog.funcs[45]? = some Tryz.f45 := Tryz.func45
theorem nm_i_CanUnfold_1 : (Tryz.f45.name == "runtime.NumGoroutine" || Tryz.f45.body.isNone) = false := by kernel_rfl
abbrev n_i_ownClause : Nat := 46
theorem fn_i_ownClause : Tryz.prog.funcs[46]? = some Tryz.f46 := Tryz.func46
theorem nm_i_ownClause : (Tryz.f46.name == "runtime.NumGoroutine" || Tryz.f46.body.isNone) = false := by kernel_rfl
abbrev n_i_newStore : Nat := 47
theorem fn_i_newStore : Tryz.prog.funcs[47]? = some Tryz.f47 := Tryz.func47
theorem nm_i_newStore : (Tryz.f47.name == "runtime.NumGoroutine" || Tryz.f47.body.isNone) = false := by kernel_rfl
abbrev n_i_resolvent_1 : Nat := 48
theorem fn_i_resolvent_1 : Tryz.prog.funcs[48]? = some Tryz.f48 := Tryz.func48
theorem nm_i_resolvent_1 : (Tryz.f48.name == "runtime.NumGoroutine" || Tryz.f48.body.isNone) = false := by kernel_rfl
abbrev n_i_variable : Nat := 49
theorem fn_i_variable : Tryz.prog.funcs[49]? = some Tryz.f49 := Tryz.func49
theorem nm_i_variable : (Tryz.f49.name == "runtime.NumGoroutine" || Tryz.f49.body.isNone) = false := by kernel_rfl
abbrev n_i_store_unify : Nat := 50
theorem fn_i_store_unify : Tryz.prog.funcs[50]? = some Tryz.f50 := Tryz.func50
theorem nm_i_store_unify : (Tryz.f50.name == "runtime.NumGoroutine" || Tryz.f50.body.isNone) = false := by kernel_rfl
abbrev n_i_mapVars : Nat := 51
theorem fn_i_mapVars : Tryz.prog.funcs[51]? = some Tryz.f51 := Tryz.func51
theorem nm_i_mapVars : (Tryz.f51.name == "runtime.NumGoroutine" || Tryz.f51.body.isNone) = false := by kernel_rfl
abbrev n_i_store_resolve : Nat := 52
theorem fn_i_store_resolve : Tryz.prog.funcs[52]? = some Tryz.f52 := Tryz.func52
theorem nm_i_store_resolve : (Tryz.f52.name == "runtime.NumGoroutine" || Tryz.f52.body.isNone) = false := by kernel_rfl
abbrev n_i_numbered : Nat := 53
theorem fn_i_numbered : Tryz.prog.funcs[53]? = some Tryz.f53 := Tryz.func53
theorem nm_i_numbered : (Tryz.f53.name == "runtime.NumGoroutine" || Tryz.f53.body.isNone) = false := by kernel_rfl
abbrev n_i_ClauseValid : Nat := 54
theorem fn_i_ClauseValid : Tryz.prog.funcs[54]? = some Tryz.f54 := Tryz.func54
theorem nm_i_ClauseValid : (Tryz.f54.name == "runtime.NumGoroutine" || Tryz.f54.body.isNone) = false := by kernel_rfl
abbrev n_x_ContainsFunc_Clause : Nat := 55
theorem fn_x_ContainsFunc_Clause : Tryz.prog.funcs[55]? = some Tryz.f55 := Tryz.func55
theorem nm_x_ContainsFunc_Clause : (Tryz.f55.name == "runtime.NumGoroutine" || Tryz.f55.body.isNone) = false := by kernel_rfl
abbrev n_i_ProgramValid_1 : Nat := 56
theorem fn_i_ProgramValid_1 : Tryz.prog.funcs[56]? = some Tryz.f56 := Tryz.func56
theorem nm_i_ProgramValid_1 : (Tryz.f56.name == "runtime.NumGoroutine" || Tryz.f56.body.isNone) = false := by kernel_rfl
abbrev n_l_eqTerm : Nat := 57
theorem fn_l_eqTerm : Tryz.prog.funcs[57]? = some Tryz.f57 := Tryz.func57
theorem nm_l_eqTerm : (Tryz.f57.name == "runtime.NumGoroutine" || Tryz.f57.body.isNone) = false := by kernel_rfl
abbrev n_l_eqTermS : Nat := 58
theorem fn_l_eqTermS : Tryz.prog.funcs[58]? = some Tryz.f58 := Tryz.func58
theorem nm_l_eqTermS : (Tryz.f58.name == "runtime.NumGoroutine" || Tryz.f58.body.isNone) = false := by kernel_rfl
abbrev n_s_l4Plain : Nat := 59
theorem fn_s_l4Plain : Tryz.prog.funcs[59]? = some Tryz.f59 := Tryz.func59
theorem nm_s_l4Plain : (Tryz.f59.name == "runtime.NumGoroutine" || Tryz.f59.body.isNone) = false := by kernel_rfl
abbrev n_s_l4Cut : Nat := 60
theorem fn_s_l4Cut : Tryz.prog.funcs[60]? = some Tryz.f60 := Tryz.func60
theorem nm_s_l4Cut : (Tryz.f60.name == "runtime.NumGoroutine" || Tryz.f60.body.isNone) = false := by kernel_rfl
abbrev n_s_l3Shift : Nat := 61
theorem fn_s_l3Shift : Tryz.prog.funcs[61]? = some Tryz.f61 := Tryz.func61
theorem nm_s_l3Shift : (Tryz.f61.name == "runtime.NumGoroutine" || Tryz.f61.body.isNone) = false := by kernel_rfl
abbrev n_s_l3Walk : Nat := 62
theorem fn_s_l3Walk : Tryz.prog.funcs[62]? = some Tryz.f62 := Tryz.func62
theorem nm_s_l3Walk : (Tryz.f62.name == "runtime.NumGoroutine" || Tryz.f62.body.isNone) = false := by kernel_rfl
abbrev n_s_l3Within : Nat := 63
theorem fn_s_l3Within : Tryz.prog.funcs[63]? = some Tryz.f63 := Tryz.func63
theorem nm_s_l3Within : (Tryz.f63.name == "runtime.NumGoroutine" || Tryz.f63.body.isNone) = false := by kernel_rfl
abbrev n_s_l3Full : Nat := 64
theorem fn_s_l3Full : Tryz.prog.funcs[64]? = some Tryz.f64 := Tryz.func64
theorem nm_s_l3Full : (Tryz.f64.name == "runtime.NumGoroutine" || Tryz.f64.body.isNone) = false := by kernel_rfl
abbrev n_s_l6Flat : Nat := 65
theorem fn_s_l6Flat : Tryz.prog.funcs[65]? = some Tryz.f65 := Tryz.func65
theorem nm_s_l6Flat : (Tryz.f65.name == "runtime.NumGoroutine" || Tryz.f65.body.isNone) = false := by kernel_rfl
abbrev n_s_l1Vars : Nat := 66
theorem fn_s_l1Vars : Tryz.prog.funcs[66]? = some Tryz.f66 := Tryz.func66
theorem nm_s_l1Vars : (Tryz.f66.name == "runtime.NumGoroutine" || Tryz.f66.body.isNone) = false := by kernel_rfl
abbrev n_s_l1Rename : Nat := 67
theorem fn_s_l1Rename : Tryz.prog.funcs[67]? = some Tryz.f67 := Tryz.func67
theorem nm_s_l1Rename : (Tryz.f67.name == "runtime.NumGoroutine" || Tryz.f67.body.isNone) = false := by kernel_rfl
abbrev n_s_GoalValid : Nat := 68
theorem fn_s_GoalValid : Tryz.prog.funcs[68]? = some Tryz.f68 := Tryz.func68
theorem nm_s_GoalValid : (Tryz.f68.name == "runtime.NumGoroutine" || Tryz.f68.body.isNone) = false := by kernel_rfl
abbrev n_s_TermValid : Nat := 69
theorem fn_s_TermValid : Tryz.prog.funcs[69]? = some Tryz.f69 := Tryz.func69
theorem nm_s_TermValid : (Tryz.f69.name == "runtime.NumGoroutine" || Tryz.f69.body.isNone) = false := by kernel_rfl
abbrev n_s_l1Copy : Nat := 70
theorem fn_s_l1Copy : Tryz.prog.funcs[70]? = some Tryz.f70 := Tryz.func70
theorem nm_s_l1Copy : (Tryz.f70.name == "runtime.NumGoroutine" || Tryz.f70.body.isNone) = false := by kernel_rfl
abbrev n_i_isPlain : Nat := 71
theorem fn_i_isPlain : Tryz.prog.funcs[71]? = some Tryz.f71 := Tryz.func71
theorem nm_i_isPlain : (Tryz.f71.name == "runtime.NumGoroutine" || Tryz.f71.body.isNone) = false := by kernel_rfl
abbrev n_x_ContainsFunc_Term : Nat := 72
theorem fn_x_ContainsFunc_Term : Tryz.prog.funcs[72]? = some Tryz.f72 := Tryz.func72
theorem nm_x_ContainsFunc_Term : (Tryz.f72.name == "runtime.NumGoroutine" || Tryz.f72.body.isNone) = false := by kernel_rfl
abbrev n_i_isCut : Nat := 73
theorem fn_i_isCut : Tryz.prog.funcs[73]? = some Tryz.f73 := Tryz.func73
theorem nm_i_isCut : (Tryz.f73.name == "runtime.NumGoroutine" || Tryz.f73.body.isNone) = false := by kernel_rfl
abbrev n_x_Index_int : Nat := 74
theorem fn_x_Index_int : Tryz.prog.funcs[74]? = some Tryz.f74 := Tryz.func74
theorem nm_x_Index_int : (Tryz.f74.name == "runtime.NumGoroutine" || Tryz.f74.body.isNone) = false := by kernel_rfl
abbrev n_x_IndexFunc_int : Nat := 75
theorem fn_x_IndexFunc_int : Tryz.prog.funcs[75]? = some Tryz.f75 := Tryz.func75
theorem nm_x_IndexFunc_int : (Tryz.f75.name == "runtime.NumGoroutine" || Tryz.f75.body.isNone) = false := by kernel_rfl
abbrev n_i_own : Nat := 76
theorem fn_i_own : Tryz.prog.funcs[76]? = some Tryz.f76 := Tryz.func76
theorem nm_i_own : (Tryz.f76.name == "runtime.NumGoroutine" || Tryz.f76.body.isNone) = false := by kernel_rfl
abbrev n_i_ownList : Nat := 77
theorem fn_i_ownList : Tryz.prog.funcs[77]? = some Tryz.f77 := Tryz.func77
theorem nm_i_ownList : (Tryz.f77.name == "runtime.NumGoroutine" || Tryz.f77.body.isNone) = false := by kernel_rfl
abbrev n_i_store_walk : Nat := 78
theorem fn_i_store_walk : Tryz.prog.funcs[78]? = some Tryz.f78 := Tryz.func78
theorem nm_i_store_walk : (Tryz.f78.name == "runtime.NumGoroutine" || Tryz.f78.body.isNone) = false := by kernel_rfl
abbrev n_i_store_bind : Nat := 79
theorem fn_i_store_bind : Tryz.prog.funcs[79]? = some Tryz.f79 := Tryz.func79
theorem nm_i_store_bind : (Tryz.f79.name == "runtime.NumGoroutine" || Tryz.f79.body.isNone) = false := by kernel_rfl
abbrev n_i_store_resolving : Nat := 80
theorem fn_i_store_resolving : Tryz.prog.funcs[80]? = some Tryz.f80 := Tryz.func80
theorem nm_i_store_resolving : (Tryz.f80.name == "runtime.NumGoroutine" || Tryz.f80.body.isNone) = false := by kernel_rfl
abbrev n_i_renumbered : Nat := 81
theorem fn_i_renumbered : Tryz.prog.funcs[81]? = some Tryz.f81 := Tryz.func81
theorem nm_i_renumbered : (Tryz.f81.name == "runtime.NumGoroutine" || Tryz.f81.body.isNone) = false := by kernel_rfl
abbrev n_x_Clip_Term : Nat := 82
theorem fn_x_Clip_Term : Tryz.prog.funcs[82]? = some Tryz.f82 := Tryz.func82
theorem nm_x_Clip_Term : (Tryz.f82.name == "runtime.NumGoroutine" || Tryz.f82.body.isNone) = false := by kernel_rfl
abbrev n_i_TermValid : Nat := 83
theorem fn_i_TermValid : Tryz.prog.funcs[83]? = some Tryz.f83 := Tryz.func83
theorem nm_i_TermValid : (Tryz.f83.name == "runtime.NumGoroutine" || Tryz.f83.body.isNone) = false := by kernel_rfl
abbrev n_i_goalsValid : Nat := 84
theorem fn_i_goalsValid : Tryz.prog.funcs[84]? = some Tryz.f84 := Tryz.func84
theorem nm_i_goalsValid : (Tryz.f84.name == "runtime.NumGoroutine" || Tryz.f84.body.isNone) = false := by kernel_rfl
abbrev n_x_IndexFunc_Clause : Nat := 85
theorem fn_x_IndexFunc_Clause : Tryz.prog.funcs[85]? = some Tryz.f85 := Tryz.func85
theorem nm_x_IndexFunc_Clause : (Tryz.f85.name == "runtime.NumGoroutine" || Tryz.f85.body.isNone) = false := by kernel_rfl
abbrev n_s_l1Word : Nat := 86
theorem fn_s_l1Word : Tryz.prog.funcs[86]? = some Tryz.f86 := Tryz.func86
theorem nm_s_l1Word : (Tryz.f86.name == "runtime.NumGoroutine" || Tryz.f86.body.isNone) = false := by kernel_rfl
abbrev n_s_IsBuiltin : Nat := 87
theorem fn_s_IsBuiltin : Tryz.prog.funcs[87]? = some Tryz.f87 := Tryz.func87
theorem nm_s_IsBuiltin : (Tryz.f87.name == "runtime.NumGoroutine" || Tryz.f87.body.isNone) = false := by kernel_rfl
abbrev n_s_l2Level : Nat := 88
theorem fn_s_l2Level : Tryz.prog.funcs[88]? = some Tryz.f88 := Tryz.func88
theorem nm_s_l2Level : (Tryz.f88.name == "runtime.NumGoroutine" || Tryz.f88.body.isNone) = false := by kernel_rfl
abbrev n_s_l4Goal : Nat := 89
theorem fn_s_l4Goal : Tryz.prog.funcs[89]? = some Tryz.f89 := Tryz.func89
theorem nm_s_l4Goal : (Tryz.f89.name == "runtime.NumGoroutine" || Tryz.f89.body.isNone) = false := by kernel_rfl
abbrev n_s_l1Shape : Nat := 90
theorem fn_s_l1Shape : Tryz.prog.funcs[90]? = some Tryz.f90 := Tryz.func90
theorem nm_s_l1Shape : (Tryz.f90.name == "runtime.NumGoroutine" || Tryz.f90.body.isNone) = false := by kernel_rfl
abbrev n_s_l1Count : Nat := 91
theorem fn_s_l1Count : Tryz.prog.funcs[91]? = some Tryz.f91 := Tryz.func91
theorem nm_s_l1Count : (Tryz.f91.name == "runtime.NumGoroutine" || Tryz.f91.body.isNone) = false := by kernel_rfl
abbrev n_i_isLetters : Nat := 92
theorem fn_i_isLetters : Tryz.prog.funcs[92]? = some Tryz.f92 := Tryz.func92
theorem nm_i_isLetters : (Tryz.f92.name == "runtime.NumGoroutine" || Tryz.f92.body.isNone) = false := by kernel_rfl
abbrev n_i_isOp : Nat := 93
theorem fn_i_isOp : Tryz.prog.funcs[93]? = some Tryz.f93 := Tryz.func93
theorem nm_i_isOp : (Tryz.f93.name == "runtime.NumGoroutine" || Tryz.f93.body.isNone) = false := by kernel_rfl
abbrev n_i_isBuilt : Nat := 94
theorem fn_i_isBuilt : Tryz.prog.funcs[94]? = some Tryz.f94 := Tryz.func94
theorem nm_i_isBuilt : (Tryz.f94.name == "runtime.NumGoroutine" || Tryz.f94.body.isNone) = false := by kernel_rfl
abbrev n_x_IndexFunc_Term : Nat := 95
theorem fn_x_IndexFunc_Term : Tryz.prog.funcs[95]? = some Tryz.f95 := Tryz.func95
theorem nm_x_IndexFunc_Term : (Tryz.f95.name == "runtime.NumGoroutine" || Tryz.f95.body.isNone) = false := by kernel_rfl
abbrev n_i_isAtom : Nat := 96
theorem fn_i_isAtom : Tryz.prog.funcs[96]? = some Tryz.f96 := Tryz.func96
theorem nm_i_isAtom : (Tryz.f96.name == "runtime.NumGoroutine" || Tryz.f96.body.isNone) = false := by kernel_rfl
abbrev n_i_store_occurs : Nat := 97
theorem fn_i_store_occurs : Tryz.prog.funcs[97]? = some Tryz.f97 := Tryz.func97
theorem nm_i_store_occurs : (Tryz.f97.name == "runtime.NumGoroutine" || Tryz.f97.body.isNone) = false := by kernel_rfl
abbrev n_i_varsOf : Nat := 98
theorem fn_i_varsOf : Tryz.prog.funcs[98]? = some Tryz.f98 := Tryz.func98
theorem nm_i_varsOf : (Tryz.f98.name == "runtime.NumGoroutine" || Tryz.f98.body.isNone) = false := by kernel_rfl
abbrev n_i_renumbered_1 : Nat := 99
theorem fn_i_renumbered_1 : Tryz.prog.funcs[99]? = some Tryz.f99 := Tryz.func99
theorem nm_i_renumbered_1 : (Tryz.f99.name == "runtime.NumGoroutine" || Tryz.f99.body.isNone) = false := by kernel_rfl
abbrev n_i_scan : Nat := 100
theorem fn_i_scan : Tryz.prog.funcs[100]? = some Tryz.f100 := Tryz.func100
theorem nm_i_scan : (Tryz.f100.name == "runtime.NumGoroutine" || Tryz.f100.body.isNone) = false := by kernel_rfl
abbrev n_i_goalsValid_1 : Nat := 101
theorem fn_i_goalsValid_1 : Tryz.prog.funcs[101]? = some Tryz.f101 := Tryz.func101
theorem nm_i_goalsValid_1 : (Tryz.f101.name == "runtime.NumGoroutine" || Tryz.f101.body.isNone) = false := by kernel_rfl
abbrev n_i_GoalValid : Nat := 102
theorem fn_i_GoalValid : Tryz.prog.funcs[102]? = some Tryz.f102 := Tryz.func102
theorem nm_i_GoalValid : (Tryz.f102.name == "runtime.NumGoroutine" || Tryz.f102.body.isNone) = false := by kernel_rfl
abbrev n_s_l1Own : Nat := 103
theorem fn_s_l1Own : Tryz.prog.funcs[103]? = some Tryz.f103 := Tryz.func103
theorem nm_s_l1Own : (Tryz.f103.name == "runtime.NumGoroutine" || Tryz.f103.body.isNone) = false := by kernel_rfl
abbrev n_i_OpLevel : Nat := 104
theorem fn_i_OpLevel : Tryz.prog.funcs[104]? = some Tryz.f104 := Tryz.func104
theorem nm_i_OpLevel : (Tryz.f104.name == "runtime.NumGoroutine" || Tryz.f104.body.isNone) = false := by kernel_rfl
abbrev n_i_IsBuiltin : Nat := 105
theorem fn_i_IsBuiltin : Tryz.prog.funcs[105]? = some Tryz.f105 := Tryz.func105
theorem nm_i_IsBuiltin : (Tryz.f105.name == "runtime.NumGoroutine" || Tryz.f105.body.isNone) = false := by kernel_rfl
abbrev n_i_store_occurs_1 : Nat := 106
theorem fn_i_store_occurs_1 : Tryz.prog.funcs[106]? = some Tryz.f106 := Tryz.func106
theorem nm_i_store_occurs_1 : (Tryz.f106.name == "runtime.NumGoroutine" || Tryz.f106.body.isNone) = false := by kernel_rfl
abbrev n_i_addVars : Nat := 107
theorem fn_i_addVars : Tryz.prog.funcs[107]? = some Tryz.f107 := Tryz.func107
theorem nm_i_addVars : (Tryz.f107.name == "runtime.NumGoroutine" || Tryz.f107.body.isNone) = false := by kernel_rfl
abbrev n_i_NameValid : Nat := 108
theorem fn_i_NameValid : Tryz.prog.funcs[108]? = some Tryz.f108 := Tryz.func108
theorem nm_i_NameValid : (Tryz.f108.name == "runtime.NumGoroutine" || Tryz.f108.body.isNone) = false := by kernel_rfl
abbrev n_i_scan_1 : Nat := 109
theorem fn_i_scan_1 : Tryz.prog.funcs[109]? = some Tryz.f109 := Tryz.func109
theorem nm_i_scan_1 : (Tryz.f109.name == "runtime.NumGoroutine" || Tryz.f109.body.isNone) = false := by kernel_rfl
abbrev n_s_NameValid : Nat := 110
theorem fn_s_NameValid : Tryz.prog.funcs[110]? = some Tryz.f110 := Tryz.func110
theorem nm_s_NameValid : (Tryz.f110.name == "runtime.NumGoroutine" || Tryz.f110.body.isNone) = false := by kernel_rfl
abbrev n_x_Contains_string : Nat := 111
theorem fn_x_Contains_string : Tryz.prog.funcs[111]? = some Tryz.f111 := Tryz.func111
theorem nm_x_Contains_string : (Tryz.f111.name == "runtime.NumGoroutine" || Tryz.f111.body.isNone) = false := by kernel_rfl
abbrev n_i_symbols : Nat := 112
theorem fn_i_symbols : Tryz.prog.funcs[112]? = some Tryz.f112 := Tryz.func112
theorem nm_i_symbols : (Tryz.f112.name == "runtime.NumGoroutine" || Tryz.f112.body.isNone) = false := by kernel_rfl
abbrev n_s_l1Has : Nat := 113
theorem fn_s_l1Has : Tryz.prog.funcs[113]? = some Tryz.f113 := Tryz.func113
theorem nm_s_l1Has : (Tryz.f113.name == "runtime.NumGoroutine" || Tryz.f113.body.isNone) = false := by kernel_rfl
abbrev n_s_l1Signs : Nat := 114
theorem fn_s_l1Signs : Tryz.prog.funcs[114]? = some Tryz.f114 := Tryz.func114
theorem nm_s_l1Signs : (Tryz.f114.name == "runtime.NumGoroutine" || Tryz.f114.body.isNone) = false := by kernel_rfl
abbrev n_x_Index_string : Nat := 115
theorem fn_x_Index_string : Tryz.prog.funcs[115]? = some Tryz.f115 := Tryz.func115
theorem nm_x_Index_string : (Tryz.f115.name == "runtime.NumGoroutine" || Tryz.f115.body.isNone) = false := by kernel_rfl
end Go.Proofs.YtaaihodhhacapaaGreat
