/- Made by program: names for the numbers of functions and types, and closed facts on them. -/
import Derived.Test.YtnoieadimkgjcaaRules2
import Derived.Test.YtnoieadimkgjcaaProg
import Derived.KernelRfl
namespace Go.Proofs.Ytnoieadimkgjcaa
open Go
abbrev t_func : Nat := 1
theorem co_func : Try.prog.cellsOf 1 = 1 := by kernel_rfl
theorem sc_func : isSc Try.prog 1 = true := by kernel_rfl
abbrev t_int64 : Nat := 2
theorem co_int64 : Try.prog.cellsOf 2 = 1 := by kernel_rfl
theorem sc_int64 : isSc Try.prog 2 = true := by kernel_rfl
theorem zo_int64 : zeroOf Try.prog 2 = some (.int .i64 0) := by kernel_rfl
theorem un_int64 : Try.prog.underlying 2 = some (.int .i64) := by kernel_rfl
abbrev t_int : Nat := 3
theorem co_int : Try.prog.cellsOf 3 = 1 := by kernel_rfl
theorem sc_int : isSc Try.prog 3 = true := by kernel_rfl
theorem zo_int : zeroOf Try.prog 3 = some (.int .i64 0) := by kernel_rfl
theorem un_int : Try.prog.underlying 3 = some (.int .i64) := by kernel_rfl
abbrev t_bool : Nat := 4
theorem co_bool : Try.prog.cellsOf 4 = 1 := by kernel_rfl
theorem sc_bool : isSc Try.prog 4 = true := by kernel_rfl
theorem zo_bool : zeroOf Try.prog 4 = some (.bool false) := by kernel_rfl
theorem un_bool : Try.prog.underlying 4 = some .bool := by kernel_rfl
abbrev t_uint8 : Nat := 5
theorem co_uint8 : Try.prog.cellsOf 5 = 1 := by kernel_rfl
theorem sc_uint8 : isSc Try.prog 5 = true := by kernel_rfl
theorem zo_uint8 : zeroOf Try.prog 5 = some (.int .u8 0) := by kernel_rfl
theorem un_uint8 : Try.prog.underlying 5 = some (.int .u8) := by kernel_rfl
abbrev t_string : Nat := 9
theorem co_string : Try.prog.cellsOf 9 = 1 := by kernel_rfl
theorem sc_string : isSc Try.prog 9 = true := by kernel_rfl
theorem zo_string : zeroOf Try.prog 9 = some (.string ⟨#[]⟩) := by kernel_rfl
theorem un_string : Try.prog.underlying 9 = some .string := by kernel_rfl
abbrev t_uintptr : Nat := 12
theorem co_uintptr : Try.prog.cellsOf 12 = 1 := by kernel_rfl
theorem sc_uintptr : isSc Try.prog 12 = true := by kernel_rfl
theorem zo_uintptr : zeroOf Try.prog 12 = some (.int .u64 0) := by kernel_rfl
theorem un_uintptr : Try.prog.underlying 12 = some (.int .u64) := by kernel_rfl
abbrev t_int32 : Nat := 21
theorem co_int32 : Try.prog.cellsOf 21 = 1 := by kernel_rfl
theorem sc_int32 : isSc Try.prog 21 = true := by kernel_rfl
theorem zo_int32 : zeroOf Try.prog 21 = some (.int .i32 0) := by kernel_rfl
theorem un_int32 : Try.prog.underlying 21 = some (.int .i32) := by kernel_rfl
abbrev t_SlTerm : Nat := 22
theorem co_SlTerm : Try.prog.cellsOf 22 = 1 := by kernel_rfl
theorem sc_SlTerm : isSc Try.prog 22 = true := by kernel_rfl
theorem zo_SlTerm : zeroOf Try.prog 22 = some (.slice none 0 0) := by kernel_rfl
theorem mk_SlTerm : mkOf Try.prog 22 = some (24, 4, 56, (.agg #[(.int .i64 0), (.int .i64 0), (.string ⟨#[]⟩), (.slice none 0 0)])) := by kernel_rfl
theorem sl_SlTerm : sliceOf Try.prog 22 = some (24, 4) := by kernel_rfl
abbrev t_lTerm : Nat := 24
theorem co_lTerm : Try.prog.cellsOf 24 = 4 := by kernel_rfl
theorem fl_lTerm : flds Try.prog 24 = some [(0, 3), (1, 3), (2, 9), (3, 22)] := by kernel_rfl
theorem ag_lTerm : aggN Try.prog 24 = some 4 := by kernel_rfl
theorem zo_lTerm : zeroOf Try.prog 24 = some (.agg #[(.int .i64 0), (.int .i64 0), (.string ⟨#[]⟩), (.slice none 0 0)]) := by kernel_rfl
theorem fo_lTerm_0 : fieldOff Try.prog 24 0 = some 0 := by kernel_rfl
theorem fo_lTerm_1 : fieldOff Try.prog 24 1 = some 1 := by kernel_rfl
theorem fo_lTerm_2 : fieldOff Try.prog 24 2 = some 2 := by kernel_rfl
theorem fo_lTerm_3 : fieldOff Try.prog 24 3 = some 3 := by kernel_rfl
abbrev t_func_lTerm_int_int : Nat := 25
theorem co_func_lTerm_int_int : Try.prog.cellsOf 25 = 1 := by kernel_rfl
theorem sc_func_lTerm_int_int : isSc Try.prog 25 = true := by kernel_rfl
abbrev t_func_lTerm_int_int_26 : Nat := 26
theorem co_func_lTerm_int_int_26 : Try.prog.cellsOf 26 = 1 := by kernel_rfl
theorem sc_func_lTerm_int_int_26 : isSc Try.prog 26 = true := by kernel_rfl
abbrev t_SiTerm : Nat := 27
theorem co_SiTerm : Try.prog.cellsOf 27 = 1 := by kernel_rfl
theorem sc_SiTerm : isSc Try.prog 27 = true := by kernel_rfl
theorem zo_SiTerm : zeroOf Try.prog 27 = some (.slice none 0 0) := by kernel_rfl
theorem mk_SiTerm : mkOf Try.prog 27 = some (31, 4, 56, (.agg #[(.int .i64 0), (.int .i64 0), (.string ⟨#[]⟩), (.slice none 0 0)])) := by kernel_rfl
theorem sl_SiTerm : sliceOf Try.prog 27 = some (31, 4) := by kernel_rfl
abbrev t_func_iTerm_iTerm_iTerm : Nat := 28
theorem co_func_iTerm_iTerm_iTerm : Try.prog.cellsOf 28 = 1 := by kernel_rfl
theorem sc_func_iTerm_iTerm_iTerm : isSc Try.prog 28 = true := by kernel_rfl
abbrev t_func_lTerm_iTerm : Nat := 29
theorem co_func_lTerm_iTerm : Try.prog.cellsOf 29 = 1 := by kernel_rfl
theorem sc_func_lTerm_iTerm : isSc Try.prog 29 = true := by kernel_rfl
abbrev t_iTerm : Nat := 31
theorem co_iTerm : Try.prog.cellsOf 31 = 4 := by kernel_rfl
theorem fl_iTerm : flds Try.prog 31 = some [(0, 3), (1, 3), (2, 9), (3, 27)] := by kernel_rfl
theorem ag_iTerm : aggN Try.prog 31 = some 4 := by kernel_rfl
theorem zo_iTerm : zeroOf Try.prog 31 = some (.agg #[(.int .i64 0), (.int .i64 0), (.string ⟨#[]⟩), (.slice none 0 0)]) := by kernel_rfl
theorem fo_iTerm_0 : fieldOff Try.prog 31 0 = some 0 := by kernel_rfl
theorem fo_iTerm_1 : fieldOff Try.prog 31 1 = some 1 := by kernel_rfl
theorem fo_iTerm_2 : fieldOff Try.prog 31 2 = some 2 := by kernel_rfl
theorem fo_iTerm_3 : fieldOff Try.prog 31 3 = some 3 := by kernel_rfl
abbrev t_func_lTerm_iTerm_32 : Nat := 32
theorem co_func_lTerm_iTerm_32 : Try.prog.cellsOf 32 = 1 := by kernel_rfl
theorem sc_func_lTerm_iTerm_32 : isSc Try.prog 32 = true := by kernel_rfl
abbrev t_func_iTerm_iTerm_bool : Nat := 33
theorem co_func_iTerm_iTerm_bool : Try.prog.cellsOf 33 = 1 := by kernel_rfl
theorem sc_func_iTerm_iTerm_bool : isSc Try.prog 33 = true := by kernel_rfl
abbrev t_func_iTerm_iTerm_bool_34 : Nat := 34
theorem co_func_iTerm_iTerm_bool_34 : Try.prog.cellsOf 34 = 1 := by kernel_rfl
theorem sc_func_iTerm_iTerm_bool_34 : isSc Try.prog 34 = true := by kernel_rfl
abbrev t_func_iTerm_int_int : Nat := 35
theorem co_func_iTerm_int_int : Try.prog.cellsOf 35 = 1 := by kernel_rfl
theorem sc_func_iTerm_int_int : isSc Try.prog 35 = true := by kernel_rfl
abbrev t_func_iTerm_int_int_36 : Nat := 36
theorem co_func_iTerm_int_int_36 : Try.prog.cellsOf 36 = 1 := by kernel_rfl
theorem sc_func_iTerm_int_int_36 : isSc Try.prog 36 = true := by kernel_rfl
abbrev t_func_lTerm_lTerm_bool : Nat := 37
theorem co_func_lTerm_lTerm_bool : Try.prog.cellsOf 37 = 1 := by kernel_rfl
theorem sc_func_lTerm_lTerm_bool : isSc Try.prog 37 = true := by kernel_rfl
abbrev t_SlClause : Nat := 38
theorem co_SlClause : Try.prog.cellsOf 38 = 1 := by kernel_rfl
theorem sc_SlClause : isSc Try.prog 38 = true := by kernel_rfl
theorem zo_SlClause : zeroOf Try.prog 38 = some (.slice none 0 0) := by kernel_rfl
theorem mk_SlClause : mkOf Try.prog 38 = some (46, 5, 80, (.agg #[(.int .i64 0), (.int .i64 0), (.string ⟨#[]⟩), (.slice none 0 0), (.slice none 0 0)])) := by kernel_rfl
theorem sl_SlClause : sliceOf Try.prog 38 = some (46, 5) := by kernel_rfl
abbrev t_func_lClause_int_int : Nat := 39
theorem co_func_lClause_int_int : Try.prog.cellsOf 39 = 1 := by kernel_rfl
theorem sc_func_lClause_int_int : isSc Try.prog 39 = true := by kernel_rfl
abbrev t_func_iClause_int_bool : Nat := 40
theorem co_func_iClause_int_bool : Try.prog.cellsOf 40 = 1 := by kernel_rfl
theorem sc_func_iClause_int_bool : isSc Try.prog 40 = true := by kernel_rfl
abbrev t_SiClause : Nat := 41
theorem co_SiClause : Try.prog.cellsOf 41 = 1 := by kernel_rfl
theorem sc_SiClause : isSc Try.prog 41 = true := by kernel_rfl
theorem zo_SiClause : zeroOf Try.prog 41 = some (.slice none 0 0) := by kernel_rfl
theorem mk_SiClause : mkOf Try.prog 41 = some (50, 5, 80, (.agg #[(.int .i64 0), (.int .i64 0), (.string ⟨#[]⟩), (.slice none 0 0), (.slice none 0 0)])) := by kernel_rfl
theorem sl_SiClause : sliceOf Try.prog 41 = some (50, 5) := by kernel_rfl
abbrev t_func_lClause_iClause : Nat := 42
theorem co_func_lClause_iClause : Try.prog.cellsOf 42 = 1 := by kernel_rfl
theorem sc_func_lClause_iClause : isSc Try.prog 42 = true := by kernel_rfl
abbrev t_func_iClause_iClause_bool : Nat := 43
theorem co_func_iClause_iClause_bool : Try.prog.cellsOf 43 = 1 := by kernel_rfl
theorem sc_func_iClause_iClause_bool : isSc Try.prog 43 = true := by kernel_rfl
abbrev t_func_lClause_int_bool : Nat := 44
theorem co_func_lClause_int_bool : Try.prog.cellsOf 44 = 1 := by kernel_rfl
theorem sc_func_lClause_int_bool : isSc Try.prog 44 = true := by kernel_rfl
abbrev t_lClause : Nat := 46
theorem co_lClause : Try.prog.cellsOf 46 = 5 := by kernel_rfl
theorem fl_lClause : flds Try.prog 46 = some [(0, 24), (4, 22)] := by kernel_rfl
theorem ag_lClause : aggN Try.prog 46 = some 5 := by kernel_rfl
theorem zo_lClause : zeroOf Try.prog 46 = some (.agg #[(.int .i64 0), (.int .i64 0), (.string ⟨#[]⟩), (.slice none 0 0), (.slice none 0 0)]) := by kernel_rfl
theorem fo_lClause_0 : fieldOff Try.prog 46 0 = some 0 := by kernel_rfl
theorem fo_lClause_1 : fieldOff Try.prog 46 1 = some 4 := by kernel_rfl
abbrev t_func_lClause_int_int_47 : Nat := 47
theorem co_func_lClause_int_int_47 : Try.prog.cellsOf 47 = 1 := by kernel_rfl
theorem sc_func_lClause_int_int_47 : isSc Try.prog 47 = true := by kernel_rfl
abbrev t_func_iClause_iClause_bool_48 : Nat := 48
theorem co_func_iClause_iClause_bool_48 : Try.prog.cellsOf 48 = 1 := by kernel_rfl
theorem sc_func_iClause_iClause_bool_48 : isSc Try.prog 48 = true := by kernel_rfl
abbrev t_iClause : Nat := 50
theorem co_iClause : Try.prog.cellsOf 50 = 5 := by kernel_rfl
theorem fl_iClause : flds Try.prog 50 = some [(0, 31), (4, 27)] := by kernel_rfl
theorem ag_iClause : aggN Try.prog 50 = some 5 := by kernel_rfl
theorem zo_iClause : zeroOf Try.prog 50 = some (.agg #[(.int .i64 0), (.int .i64 0), (.string ⟨#[]⟩), (.slice none 0 0), (.slice none 0 0)]) := by kernel_rfl
theorem fo_iClause_0 : fieldOff Try.prog 50 0 = some 0 := by kernel_rfl
theorem fo_iClause_1 : fieldOff Try.prog 50 1 = some 4 := by kernel_rfl
abbrev t_func_lClause_iClause_51 : Nat := 51
theorem co_func_lClause_iClause_51 : Try.prog.cellsOf 51 = 1 := by kernel_rfl
theorem sc_func_lClause_iClause_51 : isSc Try.prog 51 = true := by kernel_rfl
abbrev t_func_lClause_lClause_bool : Nat := 52
theorem co_func_lClause_lClause_bool : Try.prog.cellsOf 52 = 1 := by kernel_rfl
theorem sc_func_lClause_lClause_bool : isSc Try.prog 52 = true := by kernel_rfl
abbrev t_func_iClause_bool : Nat := 53
theorem co_func_iClause_bool : Try.prog.cellsOf 53 = 1 := by kernel_rfl
theorem sc_func_iClause_bool : isSc Try.prog 53 = true := by kernel_rfl
abbrev t_func_lClause_bool : Nat := 54
theorem co_func_lClause_bool : Try.prog.cellsOf 54 = 1 := by kernel_rfl
theorem sc_func_lClause_bool : isSc Try.prog 54 = true := by kernel_rfl
abbrev t_lPred : Nat := 56
theorem co_lPred : Try.prog.cellsOf 56 = 2 := by kernel_rfl
theorem fl_lPred : flds Try.prog 56 = some [(0, 9), (1, 3)] := by kernel_rfl
theorem ag_lPred : aggN Try.prog 56 = some 2 := by kernel_rfl
theorem zo_lPred : zeroOf Try.prog 56 = some (.agg #[(.string ⟨#[]⟩), (.int .i64 0)]) := by kernel_rfl
theorem fo_lPred_0 : fieldOff Try.prog 56 0 = some 0 := by kernel_rfl
theorem fo_lPred_1 : fieldOff Try.prog 56 1 = some 1 := by kernel_rfl
abbrev t_func_lPred_int_int : Nat := 57
theorem co_func_lPred_int_int : Try.prog.cellsOf 57 = 1 := by kernel_rfl
theorem sc_func_lPred_int_int : isSc Try.prog 57 = true := by kernel_rfl
abbrev t_func_iClause_iPred_bool : Nat := 58
theorem co_func_iClause_iPred_bool : Try.prog.cellsOf 58 = 1 := by kernel_rfl
theorem sc_func_iClause_iPred_bool : isSc Try.prog 58 = true := by kernel_rfl
abbrev t_iPred : Nat := 59
theorem co_iPred : Try.prog.cellsOf 59 = 2 := by kernel_rfl
theorem fl_iPred : flds Try.prog 59 = some [(0, 9), (1, 3)] := by kernel_rfl
theorem ag_iPred : aggN Try.prog 59 = some 2 := by kernel_rfl
theorem zo_iPred : zeroOf Try.prog 59 = some (.agg #[(.string ⟨#[]⟩), (.int .i64 0)]) := by kernel_rfl
theorem fo_iPred_0 : fieldOff Try.prog 59 0 = some 0 := by kernel_rfl
theorem fo_iPred_1 : fieldOff Try.prog 59 1 = some 1 := by kernel_rfl
abbrev t_func_lPred_iPred : Nat := 60
theorem co_func_lPred_iPred : Try.prog.cellsOf 60 = 1 := by kernel_rfl
theorem sc_func_lPred_iPred : isSc Try.prog 60 = true := by kernel_rfl
abbrev t_func_lClause_lPred_bool : Nat := 61
theorem co_func_lClause_lPred_bool : Try.prog.cellsOf 61 = 1 := by kernel_rfl
theorem sc_func_lClause_lPred_bool : isSc Try.prog 61 = true := by kernel_rfl
abbrev t_SiPred : Nat := 62
theorem co_SiPred : Try.prog.cellsOf 62 = 1 := by kernel_rfl
theorem sc_SiPred : isSc Try.prog 62 = true := by kernel_rfl
theorem zo_SiPred : zeroOf Try.prog 62 = some (.slice none 0 0) := by kernel_rfl
theorem mk_SiPred : mkOf Try.prog 62 = some (59, 2, 24, (.agg #[(.string ⟨#[]⟩), (.int .i64 0)])) := by kernel_rfl
theorem sl_SiPred : sliceOf Try.prog 62 = some (59, 2) := by kernel_rfl
abbrev t_func_iClause_iPred : Nat := 63
theorem co_func_iClause_iPred : Try.prog.cellsOf 63 = 1 := by kernel_rfl
theorem sc_func_iClause_iPred : isSc Try.prog 63 = true := by kernel_rfl
abbrev t_func_iPred_iPred_bool : Nat := 64
theorem co_func_iPred_iPred_bool : Try.prog.cellsOf 64 = 1 := by kernel_rfl
theorem sc_func_iPred_iPred_bool : isSc Try.prog 64 = true := by kernel_rfl
abbrev t_func_iClause_int_int : Nat := 65
theorem co_func_iClause_int_int : Try.prog.cellsOf 65 = 1 := by kernel_rfl
theorem sc_func_iClause_int_int : isSc Try.prog 65 = true := by kernel_rfl
abbrev t_func_iPred_int_int : Nat := 66
theorem co_func_iPred_int_int : Try.prog.cellsOf 66 = 1 := by kernel_rfl
theorem sc_func_iPred_int_int : isSc Try.prog 66 = true := by kernel_rfl
abbrev t_iClause_bool : Nat := 67
abbrev t_func_iClause_iClause_bool_68 : Nat := 68
theorem co_func_iClause_iClause_bool_68 : Try.prog.cellsOf 68 = 1 := by kernel_rfl
theorem sc_func_iClause_iClause_bool_68 : isSc Try.prog 68 = true := by kernel_rfl
abbrev t_func_iClause_int_int_69 : Nat := 69
theorem co_func_iClause_int_int_69 : Try.prog.cellsOf 69 = 1 := by kernel_rfl
theorem sc_func_iClause_int_int_69 : isSc Try.prog 69 = true := by kernel_rfl
abbrev t_func_lClause_bool_70 : Nat := 70
theorem co_func_lClause_bool_70 : Try.prog.cellsOf 70 = 1 := by kernel_rfl
theorem sc_func_lClause_bool_70 : isSc Try.prog 70 = true := by kernel_rfl
abbrev t_iClause_bool_71 : Nat := 71
abbrev t_func_iClause_int_iClause_bool : Nat := 72
theorem co_func_iClause_int_iClause_bool : Try.prog.cellsOf 72 = 1 := by kernel_rfl
theorem sc_func_iClause_int_iClause_bool : isSc Try.prog 72 = true := by kernel_rfl
abbrev t_func_iClause_iPred_iClause_bool : Nat := 73
theorem co_func_iClause_iPred_iClause_bool : Try.prog.cellsOf 73 = 1 := by kernel_rfl
theorem sc_func_iClause_iPred_iClause_bool : isSc Try.prog 73 = true := by kernel_rfl
abbrev t_func_iClause_iPred_iPred : Nat := 74
theorem co_func_iClause_iPred_iPred : Try.prog.cellsOf 74 = 1 := by kernel_rfl
theorem sc_func_iClause_iPred_iPred : isSc Try.prog 74 = true := by kernel_rfl
abbrev t_func_iClause_iTerm_iPred : Nat := 75
theorem co_func_iClause_iTerm_iPred : Try.prog.cellsOf 75 = 1 := by kernel_rfl
theorem sc_func_iClause_iTerm_iPred : isSc Try.prog 75 = true := by kernel_rfl
abbrev t_func_lClause_lTerm_bool : Nat := 76
theorem co_func_lClause_lTerm_bool : Try.prog.cellsOf 76 = 1 := by kernel_rfl
theorem sc_func_lClause_lTerm_bool : isSc Try.prog 76 = true := by kernel_rfl
abbrev t_func_iClause_iTerm_iClause_bool : Nat := 77
theorem co_func_iClause_iTerm_iClause_bool : Try.prog.cellsOf 77 = 1 := by kernel_rfl
theorem sc_func_iClause_iTerm_iClause_bool : isSc Try.prog 77 = true := by kernel_rfl
abbrev t_func_iTerm_iTerm : Nat := 78
theorem co_func_iTerm_iTerm : Try.prog.cellsOf 78 = 1 := by kernel_rfl
theorem sc_func_iTerm_iTerm : isSc Try.prog 78 = true := by kernel_rfl
abbrev t_func_iTerm_iTerm_79 : Nat := 79
theorem co_func_iTerm_iTerm_79 : Try.prog.cellsOf 79 = 1 := by kernel_rfl
theorem sc_func_iTerm_iTerm_79 : isSc Try.prog 79 = true := by kernel_rfl
abbrev t_func_iTerm_func_iTerm_bool_iTerm : Nat := 80
theorem co_func_iTerm_func_iTerm_bool_iTerm : Try.prog.cellsOf 80 = 1 := by kernel_rfl
theorem sc_func_iTerm_func_iTerm_bool_iTerm : isSc Try.prog 80 = true := by kernel_rfl
abbrev t_func_iTerm_bool : Nat := 81
theorem co_func_iTerm_bool : Try.prog.cellsOf 81 = 1 := by kernel_rfl
theorem sc_func_iTerm_bool : isSc Try.prog 81 = true := by kernel_rfl
abbrev t_func_int_string : Nat := 82
theorem co_func_int_string : Try.prog.cellsOf 82 = 1 := by kernel_rfl
theorem sc_func_int_string : isSc Try.prog 82 = true := by kernel_rfl
abbrev t_func_iClause_bool_83 : Nat := 83
theorem co_func_iClause_bool_83 : Try.prog.cellsOf 83 = 1 := by kernel_rfl
theorem sc_func_iClause_bool_83 : isSc Try.prog 83 = true := by kernel_rfl
abbrev t_Sint : Nat := 84
theorem co_Sint : Try.prog.cellsOf 84 = 1 := by kernel_rfl
theorem sc_Sint : isSc Try.prog 84 = true := by kernel_rfl
theorem zo_Sint : zeroOf Try.prog 84 = some (.slice none 0 0) := by kernel_rfl
theorem mk_Sint : mkOf Try.prog 84 = some (3, 1, 8, (.int .i64 0)) := by kernel_rfl
theorem sl_Sint : sliceOf Try.prog 84 = some (3, 1) := by kernel_rfl
abbrev t_func_iClause_iTerm_int : Nat := 85
theorem co_func_iClause_iTerm_int : Try.prog.cellsOf 85 = 1 := by kernel_rfl
theorem sc_func_iClause_iTerm_int : isSc Try.prog 85 = true := by kernel_rfl
abbrev t_func_int_int_int_bool : Nat := 86
theorem co_func_int_int_int_bool : Try.prog.cellsOf 86 = 1 := by kernel_rfl
theorem sc_func_int_int_int_bool : isSc Try.prog 86 = true := by kernel_rfl
abbrev t_func_iClause_iPred_int : Nat := 87
theorem co_func_iClause_iPred_int : Try.prog.cellsOf 87 = 1 := by kernel_rfl
theorem sc_func_iClause_iPred_int : isSc Try.prog 87 = true := by kernel_rfl
abbrev t_func_iTerm_iPred : Nat := 88
theorem co_func_iTerm_iPred : Try.prog.cellsOf 88 = 1 := by kernel_rfl
theorem sc_func_iTerm_iPred : isSc Try.prog 88 = true := by kernel_rfl
abbrev t_func_int_int_bool : Nat := 89
theorem co_func_int_int_bool : Try.prog.cellsOf 89 = 1 := by kernel_rfl
theorem sc_func_int_int_bool : isSc Try.prog 89 = true := by kernel_rfl
abbrev t_func_int_func_int_bool_bool : Nat := 90
theorem co_func_int_func_int_bool_bool : Try.prog.cellsOf 90 = 1 := by kernel_rfl
theorem sc_func_int_func_int_bool_bool : isSc Try.prog 90 = true := by kernel_rfl
abbrev t_func_int_bool : Nat := 91
theorem co_func_int_bool : Try.prog.cellsOf 91 = 1 := by kernel_rfl
theorem sc_func_int_bool : isSc Try.prog 91 = true := by kernel_rfl
abbrev t_func_iTerm_iTerm_iTerm_bool : Nat := 92
theorem co_func_iTerm_iTerm_iTerm_bool : Try.prog.cellsOf 92 = 1 := by kernel_rfl
theorem sc_func_iTerm_iTerm_iTerm_bool : isSc Try.prog 92 = true := by kernel_rfl
abbrev t_Mint_iTerm : Nat := 93
theorem co_Mint_iTerm : Try.prog.cellsOf 93 = 1 := by kernel_rfl
theorem sc_Mint_iTerm : isSc Try.prog 93 = true := by kernel_rfl
theorem zo_Mint_iTerm : zeroOf Try.prog 93 = some (.map none) := by kernel_rfl
theorem un_Mint_iTerm : Try.prog.underlying 93 = some (.map 3 31) := by kernel_rfl
abbrev t_func_iTerm_iTerm_map_int_iTerm_bool : Nat := 94
theorem co_func_iTerm_iTerm_map_int_iTerm_bool : Try.prog.cellsOf 94 = 1 := by kernel_rfl
theorem sc_func_iTerm_iTerm_map_int_iTerm_bool : isSc Try.prog 94 = true := by kernel_rfl
abbrev t_func_iClause_func_iClause_bool_bool : Nat := 95
theorem co_func_iClause_func_iClause_bool_bool : Try.prog.cellsOf 95 = 1 := by kernel_rfl
theorem sc_func_iClause_func_iClause_bool_bool : isSc Try.prog 95 = true := by kernel_rfl
abbrev t_func_iPred_iPred_bool_96 : Nat := 96
theorem co_func_iPred_iPred_bool_96 : Try.prog.cellsOf 96 = 1 := by kernel_rfl
theorem sc_func_iPred_iPred_bool_96 : isSc Try.prog 96 = true := by kernel_rfl
abbrev t_func_iClause_iPred_iPred_97 : Nat := 97
theorem co_func_iClause_iPred_iPred_97 : Try.prog.cellsOf 97 = 1 := by kernel_rfl
theorem sc_func_iClause_iPred_iPred_97 : isSc Try.prog 97 = true := by kernel_rfl
abbrev t_func_iPred_iPred_iPred : Nat := 98
theorem co_func_iPred_iPred_iPred : Try.prog.cellsOf 98 = 1 := by kernel_rfl
theorem sc_func_iPred_iPred_iPred : isSc Try.prog 98 = true := by kernel_rfl
abbrev t_func_iPred_iPred_bool_99 : Nat := 99
theorem co_func_iPred_iPred_bool_99 : Try.prog.cellsOf 99 = 1 := by kernel_rfl
theorem sc_func_iPred_iPred_bool_99 : isSc Try.prog 99 = true := by kernel_rfl
abbrev t_func_iClause_iClause : Nat := 100
theorem co_func_iClause_iClause : Try.prog.cellsOf 100 = 1 := by kernel_rfl
theorem sc_func_iClause_iClause : isSc Try.prog 100 = true := by kernel_rfl
abbrev t_func_iClause_iClause_101 : Nat := 101
theorem co_func_iClause_iClause_101 : Try.prog.cellsOf 101 = 1 := by kernel_rfl
theorem sc_func_iClause_iClause_101 : isSc Try.prog 101 = true := by kernel_rfl
abbrev t_func_iClause_int_int_iClause : Nat := 102
theorem co_func_iClause_int_int_iClause : Try.prog.cellsOf 102 = 1 := by kernel_rfl
theorem sc_func_iClause_int_int_iClause : isSc Try.prog 102 = true := by kernel_rfl
abbrev t_func_iTerm_bool_103 : Nat := 103
theorem co_func_iTerm_bool_103 : Try.prog.cellsOf 103 = 1 := by kernel_rfl
theorem sc_func_iTerm_bool_103 : isSc Try.prog 103 = true := by kernel_rfl
abbrev t_func_iPred_iTerm_iPred : Nat := 104
theorem co_func_iPred_iTerm_iPred : Try.prog.cellsOf 104 = 1 := by kernel_rfl
theorem sc_func_iPred_iTerm_iPred : isSc Try.prog 104 = true := by kernel_rfl
abbrev t_func_iTerm_iPred_iPred : Nat := 105
theorem co_func_iTerm_iPred_iPred : Try.prog.cellsOf 105 = 1 := by kernel_rfl
theorem sc_func_iTerm_iPred_iPred : isSc Try.prog 105 = true := by kernel_rfl
abbrev t_func_iTerm_func_iTerm_bool_int : Nat := 106
theorem co_func_iTerm_func_iTerm_bool_int : Try.prog.cellsOf 106 = 1 := by kernel_rfl
theorem sc_func_iTerm_func_iTerm_bool_int : isSc Try.prog 106 = true := by kernel_rfl
abbrev t_Suint8 : Nat := 107
theorem co_Suint8 : Try.prog.cellsOf 107 = 1 := by kernel_rfl
theorem sc_Suint8 : isSc Try.prog 107 = true := by kernel_rfl
theorem zo_Suint8 : zeroOf Try.prog 107 = some (.slice none 0 0) := by kernel_rfl
theorem mk_Suint8 : mkOf Try.prog 107 = some (5, 1, 1, (.int .u8 0)) := by kernel_rfl
theorem sl_Suint8 : sliceOf Try.prog 107 = some (5, 1) := by kernel_rfl
abbrev t_func_iTerm_func_iTerm_bool_bool : Nat := 108
theorem co_func_iTerm_func_iTerm_bool_bool : Try.prog.cellsOf 108 = 1 := by kernel_rfl
theorem sc_func_iTerm_func_iTerm_bool_bool : isSc Try.prog 108 = true := by kernel_rfl
abbrev t_func_int_int_int : Nat := 109
theorem co_func_int_int_int : Try.prog.cellsOf 109 = 1 := by kernel_rfl
theorem sc_func_int_int_int : isSc Try.prog 109 = true := by kernel_rfl
abbrev t_func_int_func_int_bool_int : Nat := 110
theorem co_func_int_func_int_bool_int : Try.prog.cellsOf 110 = 1 := by kernel_rfl
theorem sc_func_int_func_int_bool_int : isSc Try.prog 110 = true := by kernel_rfl
abbrev t_iTerm_bool : Nat := 111
abbrev t_func_int_iTerm_int : Nat := 112
theorem co_func_int_iTerm_int : Try.prog.cellsOf 112 = 1 := by kernel_rfl
theorem sc_func_int_iTerm_int : isSc Try.prog 112 = true := by kernel_rfl
abbrev t_func_iClause_func_iClause_bool_int : Nat := 113
theorem co_func_iClause_func_iClause_bool_int : Try.prog.cellsOf 113 = 1 := by kernel_rfl
theorem sc_func_iClause_func_iClause_bool_int : isSc Try.prog 113 = true := by kernel_rfl
abbrev t_func_iTerm_int : Nat := 114
theorem co_func_iTerm_int : Try.prog.cellsOf 114 = 1 := by kernel_rfl
theorem sc_func_iTerm_int : isSc Try.prog 114 = true := by kernel_rfl
abbrev t_func_iTerm_int_int_115 : Nat := 115
theorem co_func_iTerm_int_int_115 : Try.prog.cellsOf 115 = 1 := by kernel_rfl
theorem sc_func_iTerm_int_int_115 : isSc Try.prog 115 = true := by kernel_rfl
abbrev t_func_iPred_iPred_int : Nat := 116
theorem co_func_iPred_iPred_int : Try.prog.cellsOf 116 = 1 := by kernel_rfl
theorem sc_func_iPred_iPred_int : isSc Try.prog 116 = true := by kernel_rfl
abbrev t_func_iTerm_int_bool : Nat := 117
theorem co_func_iTerm_int_bool : Try.prog.cellsOf 117 = 1 := by kernel_rfl
theorem sc_func_iTerm_int_bool : isSc Try.prog 117 = true := by kernel_rfl
abbrev t_func_iTerm_int_int_bool : Nat := 118
theorem co_func_iTerm_int_int_bool : Try.prog.cellsOf 118 = 1 := by kernel_rfl
theorem sc_func_iTerm_int_int_bool : isSc Try.prog 118 = true := by kernel_rfl
abbrev t_Pint : Nat := 119
theorem co_Pint : Try.prog.cellsOf 119 = 1 := by kernel_rfl
theorem sc_Pint : isSc Try.prog 119 = true := by kernel_rfl
theorem zo_Pint : zeroOf Try.prog 119 = some (.pointer none) := by kernel_rfl
abbrev t_func_string_bool : Nat := 120
theorem co_func_string_bool : Try.prog.cellsOf 120 = 1 := by kernel_rfl
theorem sc_func_string_bool : isSc Try.prog 120 = true := by kernel_rfl
abbrev t_func_string_int_bool : Nat := 121
theorem co_func_string_int_bool : Try.prog.cellsOf 121 = 1 := by kernel_rfl
theorem sc_func_string_int_bool : isSc Try.prog 121 = true := by kernel_rfl
abbrev t_func_string_int : Nat := 122
theorem co_func_string_int : Try.prog.cellsOf 122 = 1 := by kernel_rfl
theorem sc_func_string_int : isSc Try.prog 122 = true := by kernel_rfl
abbrev t_func_iTerm_iTerm_func_iTerm_iTerm_bool_bool : Nat := 123
theorem co_func_iTerm_iTerm_func_iTerm_iTerm_bool_bool : Try.prog.cellsOf 123 = 1 := by kernel_rfl
theorem sc_func_iTerm_iTerm_func_iTerm_iTerm_bool_bool : isSc Try.prog 123 = true := by kernel_rfl
abbrev t_func_iTerm_int_iTerm : Nat := 124
theorem co_func_iTerm_int_iTerm : Try.prog.cellsOf 124 = 1 := by kernel_rfl
theorem sc_func_iTerm_int_iTerm : isSc Try.prog 124 = true := by kernel_rfl
abbrev t_func_iTerm_func_int_iTerm_iTerm : Nat := 125
theorem co_func_iTerm_func_int_iTerm_iTerm : Try.prog.cellsOf 125 = 1 := by kernel_rfl
theorem sc_func_iTerm_func_int_iTerm_iTerm : isSc Try.prog 125 = true := by kernel_rfl
abbrev t_func_int_iTerm : Nat := 126
theorem co_func_int_iTerm : Try.prog.cellsOf 126 = 1 := by kernel_rfl
theorem sc_func_int_iTerm : isSc Try.prog 126 = true := by kernel_rfl
abbrev t_int_bool : Nat := 127
abbrev t_func_string_int_bool_128 : Nat := 128
theorem co_func_string_int_bool_128 : Try.prog.cellsOf 128 = 1 := by kernel_rfl
theorem sc_func_string_int_bool_128 : isSc Try.prog 128 = true := by kernel_rfl
abbrev t_func_string_string_bool : Nat := 129
theorem co_func_string_string_bool : Try.prog.cellsOf 129 = 1 := by kernel_rfl
theorem sc_func_string_string_bool : isSc Try.prog 129 = true := by kernel_rfl
abbrev t_Sstring : Nat := 130
theorem co_Sstring : Try.prog.cellsOf 130 = 1 := by kernel_rfl
theorem sc_Sstring : isSc Try.prog 130 = true := by kernel_rfl
theorem zo_Sstring : zeroOf Try.prog 130 = some (.slice none 0 0) := by kernel_rfl
theorem mk_Sstring : mkOf Try.prog 130 = some (9, 1, 16, (.string ⟨#[]⟩)) := by kernel_rfl
theorem sl_Sstring : sliceOf Try.prog 130 = some (9, 1) := by kernel_rfl
abbrev t_func_string : Nat := 131
theorem co_func_string : Try.prog.cellsOf 131 = 1 := by kernel_rfl
theorem sc_func_string : isSc Try.prog 131 = true := by kernel_rfl
abbrev t_func_string_string_int : Nat := 132
theorem co_func_string_string_int : Try.prog.cellsOf 132 = 1 := by kernel_rfl
theorem sc_func_string_string_int : isSc Try.prog 132 = true := by kernel_rfl
abbrev t_func_string_133 : Nat := 133
theorem co_func_string_133 : Try.prog.cellsOf 133 = 1 := by kernel_rfl
theorem sc_func_string_133 : isSc Try.prog 133 = true := by kernel_rfl
abbrev t_func_int : Nat := 139
theorem co_func_int : Try.prog.cellsOf 139 = 1 := by kernel_rfl
theorem sc_func_int : isSc Try.prog 139 = true := by kernel_rfl
abbrev t_uint32 : Nat := 140
theorem co_uint32 : Try.prog.cellsOf 140 = 1 := by kernel_rfl
theorem sc_uint32 : isSc Try.prog 140 = true := by kernel_rfl
theorem zo_uint32 : zeroOf Try.prog 140 = some (.int .u32 0) := by kernel_rfl
theorem un_uint32 : Try.prog.underlying 140 = some (.int .u32) := by kernel_rfl
abbrev t_func_unsafe_Pointer_unsafe_Pointer_bool : Nat := 143
theorem co_func_unsafe_Pointer_unsafe_Pointer_bool : Try.prog.cellsOf 143 = 1 := by kernel_rfl
theorem sc_func_unsafe_Pointer_unsafe_Pointer_bool : isSc Try.prog 143 = true := by kernel_rfl
abbrev t_Puint8 : Nat := 144
theorem co_Puint8 : Try.prog.cellsOf 144 = 1 := by kernel_rfl
theorem sc_Puint8 : isSc Try.prog 144 = true := by kernel_rfl
theorem zo_Puint8 : zeroOf Try.prog 144 = some (.pointer none) := by kernel_rfl
abbrev n_l_FnExactFactsFor : Nat := 3
theorem fn_l_FnExactFactsFor : Try.prog.funcs[3]? = some Try.f3 := Try.func3
theorem nm_l_FnExactFactsFor : (Try.f3.name == "runtime.NumGoroutine" || Try.f3.body.isNone) = false := by kernel_rfl
abbrev n_l_FnExactCanUnfold : Nat := 4
theorem fn_l_FnExactCanUnfold : Try.prog.funcs[4]? = some Try.f4 := Try.func4
theorem nm_l_FnExactCanUnfold : (Try.f4.name == "runtime.NumGoroutine" || Try.f4.body.isNone) = false := by kernel_rfl
abbrev n_l_FnExactSubsumedClause : Nat := 5
theorem fn_l_FnExactSubsumedClause : Try.prog.funcs[5]? = some Try.f5 := Try.func5
theorem nm_l_FnExactSubsumedClause : (Try.f5.name == "runtime.NumGoroutine" || Try.f5.body.isNone) = false := by kernel_rfl
abbrev n_l_FnExactFlatProgram : Nat := 6
theorem fn_l_FnExactFlatProgram : Try.prog.funcs[6]? = some Try.f6 := Try.func6
theorem nm_l_FnExactFlatProgram : (Try.f6.name == "runtime.NumGoroutine" || Try.f6.body.isNone) = false := by kernel_rfl
abbrev n_l_FnExactRecursivePred : Nat := 7
theorem fn_l_FnExactRecursivePred : Try.prog.funcs[7]? = some Try.f7 := Try.func7
theorem nm_l_FnExactRecursivePred : (Try.f7.name == "runtime.NumGoroutine" || Try.f7.body.isNone) = false := by kernel_rfl
abbrev n_l_FnExactPredsOf : Nat := 8
theorem fn_l_FnExactPredsOf : Try.prog.funcs[8]? = some Try.f8 := Try.func8
theorem nm_l_FnExactPredsOf : (Try.f8.name == "runtime.NumGoroutine" || Try.f8.body.isNone) = false := by kernel_rfl
abbrev n_l_FnExactRenumberClause : Nat := 9
theorem fn_l_FnExactRenumberClause : Try.prog.funcs[9]? = some Try.f9 := Try.func9
theorem nm_l_FnExactRenumberClause : (Try.f9.name == "runtime.NumGoroutine" || Try.f9.body.isNone) = false := by kernel_rfl
abbrev n_l_FnExactDropClause : Nat := 10
theorem fn_l_FnExactDropClause : Try.prog.funcs[10]? = some Try.f10 := Try.func10
theorem nm_l_FnExactDropClause : (Try.f10.name == "runtime.NumGoroutine" || Try.f10.body.isNone) = false := by kernel_rfl
abbrev n_l_FnExactMovePred : Nat := 11
theorem fn_l_FnExactMovePred : Try.prog.funcs[11]? = some Try.f11 := Try.func11
theorem nm_l_FnExactMovePred : (Try.f11.name == "runtime.NumGoroutine" || Try.f11.body.isNone) = false := by kernel_rfl
abbrev n_l_FnExactCallsOf : Nat := 12
theorem fn_l_FnExactCallsOf : Try.prog.funcs[12]? = some Try.f12 := Try.func12
theorem nm_l_FnExactCallsOf : (Try.f12.name == "runtime.NumGoroutine" || Try.f12.body.isNone) = false := by kernel_rfl
abbrev n_l_FnExactReachOf : Nat := 13
theorem fn_l_FnExactReachOf : Try.prog.funcs[13]? = some Try.f13 := Try.func13
theorem nm_l_FnExactReachOf : (Try.f13.name == "runtime.NumGoroutine" || Try.f13.body.isNone) = false := by kernel_rfl
abbrev n_l_FnExactSliceProgram : Nat := 14
theorem fn_l_FnExactSliceProgram : Try.prog.funcs[14]? = some Try.f14 := Try.func14
theorem nm_l_FnExactSliceProgram : (Try.f14.name == "runtime.NumGoroutine" || Try.f14.body.isNone) = false := by kernel_rfl
abbrev n_l_szTermS : Nat := 15
theorem fn_l_szTermS : Try.prog.funcs[15]? = some Try.f15 := Try.func15
theorem nm_l_szTermS : (Try.f15.name == "runtime.NumGoroutine" || Try.f15.body.isNone) = false := by kernel_rfl
abbrev n_l_szTerm : Nat := 16
theorem fn_l_szTerm : Try.prog.funcs[16]? = some Try.f16 := Try.func16
theorem nm_l_szTerm : (Try.f16.name == "runtime.NumGoroutine" || Try.f16.body.isNone) = false := by kernel_rfl
abbrev n_s_FactsFor : Nat := 17
theorem fn_s_FactsFor : Try.prog.funcs[17]? = some Try.f17 := Try.func17
theorem nm_s_FactsFor : (Try.f17.name == "runtime.NumGoroutine" || Try.f17.body.isNone) = false := by kernel_rfl
abbrev n_l_toTermS : Nat := 18
theorem fn_l_toTermS : Try.prog.funcs[18]? = some Try.f18 := Try.func18
theorem nm_l_toTermS : (Try.f18.name == "runtime.NumGoroutine" || Try.f18.body.isNone) = false := by kernel_rfl
abbrev n_l_toTerm : Nat := 19
theorem fn_l_toTerm : Try.prog.funcs[19]? = some Try.f19 := Try.func19
theorem nm_l_toTerm : (Try.f19.name == "runtime.NumGoroutine" || Try.f19.body.isNone) = false := by kernel_rfl
abbrev n_i_FactsFor : Nat := 20
theorem fn_i_FactsFor : Try.prog.funcs[20]? = some Try.f20 := Try.func20
theorem nm_i_FactsFor : (Try.f20.name == "runtime.NumGoroutine" || Try.f20.body.isNone) = false := by kernel_rfl
abbrev n_l_eqTermS : Nat := 21
theorem fn_l_eqTermS : Try.prog.funcs[21]? = some Try.f21 := Try.func21
theorem nm_l_eqTermS : (Try.f21.name == "runtime.NumGoroutine" || Try.f21.body.isNone) = false := by kernel_rfl
abbrev n_l_eqTerm : Nat := 22
theorem fn_l_eqTerm : Try.prog.funcs[22]? = some Try.f22 := Try.func22
theorem nm_l_eqTerm : (Try.f22.name == "runtime.NumGoroutine" || Try.f22.body.isNone) = false := by kernel_rfl
abbrev n_l_markTermS : Nat := 23
theorem fn_l_markTermS : Try.prog.funcs[23]? = some Try.f23 := Try.func23
theorem nm_l_markTermS : (Try.f23.name == "runtime.NumGoroutine" || Try.f23.body.isNone) = false := by kernel_rfl
abbrev n_l_markTerm : Nat := 24
theorem fn_l_markTerm : Try.prog.funcs[24]? = some Try.f24 := Try.func24
theorem nm_l_markTerm : (Try.f24.name == "runtime.NumGoroutine" || Try.f24.body.isNone) = false := by kernel_rfl
abbrev n_l_heldTermS : Nat := 25
theorem fn_l_heldTermS : Try.prog.funcs[25]? = some Try.f25 := Try.func25
theorem nm_l_heldTermS : (Try.f25.name == "runtime.NumGoroutine" || Try.f25.body.isNone) = false := by kernel_rfl
abbrev n_l_szClauseS : Nat := 26
theorem fn_l_szClauseS : Try.prog.funcs[26]? = some Try.f26 := Try.func26
theorem nm_l_szClauseS : (Try.f26.name == "runtime.NumGoroutine" || Try.f26.body.isNone) = false := by kernel_rfl
abbrev n_s_CanUnfold : Nat := 27
theorem fn_s_CanUnfold : Try.prog.funcs[27]? = some Try.f27 := Try.func27
theorem nm_s_CanUnfold : (Try.f27.name == "runtime.NumGoroutine" || Try.f27.body.isNone) = false := by kernel_rfl
abbrev n_l_toClauseS : Nat := 28
theorem fn_l_toClauseS : Try.prog.funcs[28]? = some Try.f28 := Try.func28
theorem nm_l_toClauseS : (Try.f28.name == "runtime.NumGoroutine" || Try.f28.body.isNone) = false := by kernel_rfl
abbrev n_i_CanUnfold : Nat := 29
theorem fn_i_CanUnfold : Try.prog.funcs[29]? = some Try.f29 := Try.func29
theorem nm_i_CanUnfold : (Try.f29.name == "runtime.NumGoroutine" || Try.f29.body.isNone) = false := by kernel_rfl
abbrev n_l_eqClauseS : Nat := 30
theorem fn_l_eqClauseS : Try.prog.funcs[30]? = some Try.f30 := Try.func30
theorem nm_l_eqClauseS : (Try.f30.name == "runtime.NumGoroutine" || Try.f30.body.isNone) = false := by kernel_rfl
abbrev n_l_szClause : Nat := 31
theorem fn_l_szClause : Try.prog.funcs[31]? = some Try.f31 := Try.func31
theorem nm_l_szClause : (Try.f31.name == "runtime.NumGoroutine" || Try.f31.body.isNone) = false := by kernel_rfl
abbrev n_s_SubsumedClause : Nat := 32
theorem fn_s_SubsumedClause : Try.prog.funcs[32]? = some Try.f32 := Try.func32
theorem nm_s_SubsumedClause : (Try.f32.name == "runtime.NumGoroutine" || Try.f32.body.isNone) = false := by kernel_rfl
abbrev n_l_toClause : Nat := 33
theorem fn_l_toClause : Try.prog.funcs[33]? = some Try.f33 := Try.func33
theorem nm_l_toClause : (Try.f33.name == "runtime.NumGoroutine" || Try.f33.body.isNone) = false := by kernel_rfl
abbrev n_i_SubsumedClause : Nat := 34
theorem fn_i_SubsumedClause : Try.prog.funcs[34]? = some Try.f34 := Try.func34
theorem nm_i_SubsumedClause : (Try.f34.name == "runtime.NumGoroutine" || Try.f34.body.isNone) = false := by kernel_rfl
abbrev n_l_eqClause : Nat := 35
theorem fn_l_eqClause : Try.prog.funcs[35]? = some Try.f35 := Try.func35
theorem nm_l_eqClause : (Try.f35.name == "runtime.NumGoroutine" || Try.f35.body.isNone) = false := by kernel_rfl
abbrev n_s_FlatProgram : Nat := 36
theorem fn_s_FlatProgram : Try.prog.funcs[36]? = some Try.f36 := Try.func36
theorem nm_s_FlatProgram : (Try.f36.name == "runtime.NumGoroutine" || Try.f36.body.isNone) = false := by kernel_rfl
abbrev n_i_FlatProgram : Nat := 37
theorem fn_i_FlatProgram : Try.prog.funcs[37]? = some Try.f37 := Try.func37
theorem nm_i_FlatProgram : (Try.f37.name == "runtime.NumGoroutine" || Try.f37.body.isNone) = false := by kernel_rfl
abbrev n_l_szPred : Nat := 38
theorem fn_l_szPred : Try.prog.funcs[38]? = some Try.f38 := Try.func38
theorem nm_l_szPred : (Try.f38.name == "runtime.NumGoroutine" || Try.f38.body.isNone) = false := by kernel_rfl
abbrev n_s_RecursivePred : Nat := 39
theorem fn_s_RecursivePred : Try.prog.funcs[39]? = some Try.f39 := Try.func39
theorem nm_s_RecursivePred : (Try.f39.name == "runtime.NumGoroutine" || Try.f39.body.isNone) = false := by kernel_rfl
abbrev n_l_toPred : Nat := 40
theorem fn_l_toPred : Try.prog.funcs[40]? = some Try.f40 := Try.func40
theorem nm_l_toPred : (Try.f40.name == "runtime.NumGoroutine" || Try.f40.body.isNone) = false := by kernel_rfl
abbrev n_i_RecursivePred : Nat := 41
theorem fn_i_RecursivePred : Try.prog.funcs[41]? = some Try.f41 := Try.func41
theorem nm_i_RecursivePred : (Try.f41.name == "runtime.NumGoroutine" || Try.f41.body.isNone) = false := by kernel_rfl
abbrev n_s_PredsOf : Nat := 42
theorem fn_s_PredsOf : Try.prog.funcs[42]? = some Try.f42 := Try.func42
theorem nm_s_PredsOf : (Try.f42.name == "runtime.NumGoroutine" || Try.f42.body.isNone) = false := by kernel_rfl
abbrev n_i_PredsOf : Nat := 43
theorem fn_i_PredsOf : Try.prog.funcs[43]? = some Try.f43 := Try.func43
theorem nm_i_PredsOf : (Try.f43.name == "runtime.NumGoroutine" || Try.f43.body.isNone) = false := by kernel_rfl
abbrev n_l_eqPredS : Nat := 44
theorem fn_l_eqPredS : Try.prog.funcs[44]? = some Try.f44 := Try.func44
theorem nm_l_eqPredS : (Try.f44.name == "runtime.NumGoroutine" || Try.f44.body.isNone) = false := by kernel_rfl
abbrev n_l_markClauseS : Nat := 45
theorem fn_l_markClauseS : Try.prog.funcs[45]? = some Try.f45 := Try.func45
theorem nm_l_markClauseS : (Try.f45.name == "runtime.NumGoroutine" || Try.f45.body.isNone) = false := by kernel_rfl
abbrev n_l_markPredS : Nat := 46
theorem fn_l_markPredS : Try.prog.funcs[46]? = some Try.f46 := Try.func46
theorem nm_l_markPredS : (Try.f46.name == "runtime.NumGoroutine" || Try.f46.body.isNone) = false := by kernel_rfl
abbrev n_l_heldPredS : Nat := 47
theorem fn_l_heldPredS : Try.prog.funcs[47]? = some Try.f47 := Try.func47
theorem nm_l_heldPredS : (Try.f47.name == "runtime.NumGoroutine" || Try.f47.body.isNone) = false := by kernel_rfl
abbrev n_s_RenumberClause : Nat := 48
theorem fn_s_RenumberClause : Try.prog.funcs[48]? = some Try.f48 := Try.func48
theorem nm_s_RenumberClause : (Try.f48.name == "runtime.NumGoroutine" || Try.f48.body.isNone) = false := by kernel_rfl
abbrev n_i_RenumberClause : Nat := 49
theorem fn_i_RenumberClause : Try.prog.funcs[49]? = some Try.f49 := Try.func49
theorem nm_i_RenumberClause : (Try.f49.name == "runtime.NumGoroutine" || Try.f49.body.isNone) = false := by kernel_rfl
abbrev n_l_markClause : Nat := 50
theorem fn_l_markClause : Try.prog.funcs[50]? = some Try.f50 := Try.func50
theorem nm_l_markClause : (Try.f50.name == "runtime.NumGoroutine" || Try.f50.body.isNone) = false := by kernel_rfl
abbrev n_l_heldClause : Nat := 51
theorem fn_l_heldClause : Try.prog.funcs[51]? = some Try.f51 := Try.func51
theorem nm_l_heldClause : (Try.f51.name == "runtime.NumGoroutine" || Try.f51.body.isNone) = false := by kernel_rfl
abbrev n_s_DropClause : Nat := 52
theorem fn_s_DropClause : Try.prog.funcs[52]? = some Try.f52 := Try.func52
theorem nm_s_DropClause : (Try.f52.name == "runtime.NumGoroutine" || Try.f52.body.isNone) = false := by kernel_rfl
abbrev n_i_DropClause : Nat := 53
theorem fn_i_DropClause : Try.prog.funcs[53]? = some Try.f53 := Try.func53
theorem nm_i_DropClause : (Try.f53.name == "runtime.NumGoroutine" || Try.f53.body.isNone) = false := by kernel_rfl
abbrev n_l_heldClauseS : Nat := 54
theorem fn_l_heldClauseS : Try.prog.funcs[54]? = some Try.f54 := Try.func54
theorem nm_l_heldClauseS : (Try.f54.name == "runtime.NumGoroutine" || Try.f54.body.isNone) = false := by kernel_rfl
abbrev n_s_MovePred : Nat := 55
theorem fn_s_MovePred : Try.prog.funcs[55]? = some Try.f55 := Try.func55
theorem nm_s_MovePred : (Try.f55.name == "runtime.NumGoroutine" || Try.f55.body.isNone) = false := by kernel_rfl
abbrev n_i_MovePred : Nat := 56
theorem fn_i_MovePred : Try.prog.funcs[56]? = some Try.f56 := Try.func56
theorem nm_i_MovePred : (Try.f56.name == "runtime.NumGoroutine" || Try.f56.body.isNone) = false := by kernel_rfl
abbrev n_s_CallsOf : Nat := 57
theorem fn_s_CallsOf : Try.prog.funcs[57]? = some Try.f57 := Try.func57
theorem nm_s_CallsOf : (Try.f57.name == "runtime.NumGoroutine" || Try.f57.body.isNone) = false := by kernel_rfl
abbrev n_i_CallsOf : Nat := 58
theorem fn_i_CallsOf : Try.prog.funcs[58]? = some Try.f58 := Try.func58
theorem nm_i_CallsOf : (Try.f58.name == "runtime.NumGoroutine" || Try.f58.body.isNone) = false := by kernel_rfl
abbrev n_s_ReachOf : Nat := 59
theorem fn_s_ReachOf : Try.prog.funcs[59]? = some Try.f59 := Try.func59
theorem nm_s_ReachOf : (Try.f59.name == "runtime.NumGoroutine" || Try.f59.body.isNone) = false := by kernel_rfl
abbrev n_i_ReachOf : Nat := 60
theorem fn_i_ReachOf : Try.prog.funcs[60]? = some Try.f60 := Try.func60
theorem nm_i_ReachOf : (Try.f60.name == "runtime.NumGoroutine" || Try.f60.body.isNone) = false := by kernel_rfl
abbrev n_s_SliceProgram : Nat := 61
theorem fn_s_SliceProgram : Try.prog.funcs[61]? = some Try.f61 := Try.func61
theorem nm_s_SliceProgram : (Try.f61.name == "runtime.NumGoroutine" || Try.f61.body.isNone) = false := by kernel_rfl
abbrev n_i_SliceProgram : Nat := 62
theorem fn_i_SliceProgram : Try.prog.funcs[62]? = some Try.f62 := Try.func62
theorem nm_i_SliceProgram : (Try.f62.name == "runtime.NumGoroutine" || Try.f62.body.isNone) = false := by kernel_rfl
abbrev n_s_InstanceOf : Nat := 63
theorem fn_s_InstanceOf : Try.prog.funcs[63]? = some Try.f63 := Try.func63
theorem nm_s_InstanceOf : (Try.f63.name == "runtime.NumGoroutine" || Try.f63.body.isNone) = false := by kernel_rfl
abbrev n_s_l1Copy : Nat := 64
theorem fn_s_l1Copy : Try.prog.funcs[64]? = some Try.f64 := Try.func64
theorem nm_s_l1Copy : (Try.f64.name == "runtime.NumGoroutine" || Try.f64.body.isNone) = false := by kernel_rfl
abbrev n_i_ownList : Nat := 65
theorem fn_i_ownList : Try.prog.funcs[65]? = some Try.f65 := Try.func65
theorem nm_i_ownList : (Try.f65.name == "runtime.NumGoroutine" || Try.f65.body.isNone) = false := by kernel_rfl
abbrev n_x_DeleteFunc_Term : Nat := 66
theorem fn_x_DeleteFunc_Term : Try.prog.funcs[66]? = some Try.f66 := Try.func66
theorem nm_x_DeleteFunc_Term : (Try.f66.name == "runtime.NumGoroutine" || Try.f66.body.isNone) = false := by kernel_rfl
abbrev n_x_Clone_Term : Nat := 67
theorem fn_x_Clone_Term : Try.prog.funcs[67]? = some Try.f67 := Try.func67
theorem nm_x_Clone_Term : (Try.f67.name == "runtime.NumGoroutine" || Try.f67.body.isNone) = false := by kernel_rfl
abbrev n_i_FactsFor_1 : Nat := 68
theorem fn_i_FactsFor_1 : Try.prog.funcs[68]? = some Try.f68 := Try.func68
theorem nm_i_FactsFor_1 : (Try.f68.name == "runtime.NumGoroutine" || Try.f68.body.isNone) = false := by kernel_rfl
abbrev n_i_InstanceOf : Nat := 69
theorem fn_i_InstanceOf : Try.prog.funcs[69]? = some Try.f69 := Try.func69
theorem nm_i_InstanceOf : (Try.f69.name == "runtime.NumGoroutine" || Try.f69.body.isNone) = false := by kernel_rfl
abbrev n_l_markText : Nat := 70
theorem fn_l_markText : Try.prog.funcs[70]? = some Try.f70 := Try.func70
theorem nm_l_markText : (Try.f70.name == "runtime.NumGoroutine" || Try.f70.body.isNone) = false := by kernel_rfl
abbrev n_s_ProgramValid : Nat := 71
theorem fn_s_ProgramValid : Try.prog.funcs[71]? = some Try.f71 := Try.func71
theorem nm_s_ProgramValid : (Try.f71.name == "runtime.NumGoroutine" || Try.f71.body.isNone) = false := by kernel_rfl
abbrev n_s_l15First : Nat := 72
theorem fn_s_l15First : Try.prog.funcs[72]? = some Try.f72 := Try.func72
theorem nm_s_l15First : (Try.f72.name == "runtime.NumGoroutine" || Try.f72.body.isNone) = false := by kernel_rfl
abbrev n_s_l4For : Nat := 73
theorem fn_s_l4For : Try.prog.funcs[73]? = some Try.f73 := Try.func73
theorem nm_s_l4For : (Try.f73.name == "runtime.NumGoroutine" || Try.f73.body.isNone) = false := by kernel_rfl
abbrev n_s_l15Cuts : Nat := 74
theorem fn_s_l15Cuts : Try.prog.funcs[74]? = some Try.f74 := Try.func74
theorem nm_s_l15Cuts : (Try.f74.name == "runtime.NumGoroutine" || Try.f74.body.isNone) = false := by kernel_rfl
abbrev n_i_ProgramValid : Nat := 75
theorem fn_i_ProgramValid : Try.prog.funcs[75]? = some Try.f75 := Try.func75
theorem nm_i_ProgramValid : (Try.f75.name == "runtime.NumGoroutine" || Try.f75.body.isNone) = false := by kernel_rfl
abbrev n_i_within : Nat := 76
theorem fn_i_within : Try.prog.funcs[76]? = some Try.f76 := Try.func76
theorem nm_i_within : (Try.f76.name == "runtime.NumGoroutine" || Try.f76.body.isNone) = false := by kernel_rfl
abbrev n_i_firstPlain : Nat := 77
theorem fn_i_firstPlain : Try.prog.funcs[77]? = some Try.f77 := Try.func77
theorem nm_i_firstPlain : (Try.f77.name == "runtime.NumGoroutine" || Try.f77.body.isNone) = false := by kernel_rfl
abbrev n_i_hasCut : Nat := 78
theorem fn_i_hasCut : Try.prog.funcs[78]? = some Try.f78 := Try.func78
theorem nm_i_hasCut : (Try.f78.name == "runtime.NumGoroutine" || Try.f78.body.isNone) = false := by kernel_rfl
abbrev n_i_clausesFor : Nat := 79
theorem fn_i_clausesFor : Try.prog.funcs[79]? = some Try.f79 := Try.func79
theorem nm_i_clausesFor : (Try.f79.name == "runtime.NumGoroutine" || Try.f79.body.isNone) = false := by kernel_rfl
abbrev n_i_pred : Nat := 80
theorem fn_i_pred : Try.prog.funcs[80]? = some Try.f80 := Try.func80
theorem nm_i_pred : (Try.f80.name == "runtime.NumGoroutine" || Try.f80.body.isNone) = false := by kernel_rfl
abbrev n_x_Contains_int : Nat := 81
theorem fn_x_Contains_int : Try.prog.funcs[81]? = some Try.f81 := Try.func81
theorem nm_x_Contains_int : (Try.f81.name == "runtime.NumGoroutine" || Try.f81.body.isNone) = false := by kernel_rfl
abbrev n_x_ContainsFunc_int : Nat := 82
theorem fn_x_ContainsFunc_int : Try.prog.funcs[82]? = some Try.f82 := Try.func82
theorem nm_x_ContainsFunc_int : (Try.f82.name == "runtime.NumGoroutine" || Try.f82.body.isNone) = false := by kernel_rfl
abbrev n_i_CanUnfold_1 : Nat := 83
theorem fn_i_CanUnfold_1 : Try.prog.funcs[83]? = some Try.f83 := Try.func83
theorem nm_i_CanUnfold_1 : (Try.f83.name == "runtime.NumGoroutine" || Try.f83.body.isNone) = false := by kernel_rfl
abbrev n_s_ClauseValid : Nat := 84
theorem fn_s_ClauseValid : Try.prog.funcs[84]? = some Try.f84 := Try.func84
theorem nm_s_ClauseValid : (Try.f84.name == "runtime.NumGoroutine" || Try.f84.body.isNone) = false := by kernel_rfl
abbrev n_s_l3Match : Nat := 85
theorem fn_s_l3Match : Try.prog.funcs[85]? = some Try.f85 := Try.func85
theorem nm_s_l3Match : (Try.f85.name == "runtime.NumGoroutine" || Try.f85.body.isNone) = false := by kernel_rfl
abbrev n_i_ClauseValid : Nat := 86
theorem fn_i_ClauseValid : Try.prog.funcs[86]? = some Try.f86 := Try.func86
theorem nm_i_ClauseValid : (Try.f86.name == "runtime.NumGoroutine" || Try.f86.body.isNone) = false := by kernel_rfl
abbrev n_i_instance : Nat := 87
theorem fn_i_instance : Try.prog.funcs[87]? = some Try.f87 := Try.func87
theorem nm_i_instance : (Try.f87.name == "runtime.NumGoroutine" || Try.f87.body.isNone) = false := by kernel_rfl
abbrev n_s_l16Clause : Nat := 88
theorem fn_s_l16Clause : Try.prog.funcs[88]? = some Try.f88 := Try.func88
theorem nm_s_l16Clause : (Try.f88.name == "runtime.NumGoroutine" || Try.f88.body.isNone) = false := by kernel_rfl
abbrev n_x_ContainsFunc_Clause : Nat := 89
theorem fn_x_ContainsFunc_Clause : Try.prog.funcs[89]? = some Try.f89 := Try.func89
theorem nm_x_ContainsFunc_Clause : (Try.f89.name == "runtime.NumGoroutine" || Try.f89.body.isNone) = false := by kernel_rfl
abbrev n_i_FlatProgram_1 : Nat := 90
theorem fn_i_FlatProgram_1 : Try.prog.funcs[90]? = some Try.f90 := Try.func90
theorem nm_i_FlatProgram_1 : (Try.f90.name == "runtime.NumGoroutine" || Try.f90.body.isNone) = false := by kernel_rfl
abbrev n_i_flatClause : Nat := 91
theorem fn_i_flatClause : Try.prog.funcs[91]? = some Try.f91 := Try.func91
theorem nm_i_flatClause : (Try.f91.name == "runtime.NumGoroutine" || Try.f91.body.isNone) = false := by kernel_rfl
abbrev n_s_l14Has : Nat := 92
theorem fn_s_l14Has : Try.prog.funcs[92]? = some Try.f92 := Try.func92
theorem nm_s_l14Has : (Try.f92.name == "runtime.NumGoroutine" || Try.f92.body.isNone) = false := by kernel_rfl
abbrev n_s_l14Reach : Nat := 93
theorem fn_s_l14Reach : Try.prog.funcs[93]? = some Try.f93 := Try.func93
theorem nm_s_l14Reach : (Try.f93.name == "runtime.NumGoroutine" || Try.f93.body.isNone) = false := by kernel_rfl
abbrev n_s_l14Calls : Nat := 94
theorem fn_s_l14Calls : Try.prog.funcs[94]? = some Try.f94 := Try.func94
theorem nm_s_l14Calls : (Try.f94.name == "runtime.NumGoroutine" || Try.f94.body.isNone) = false := by kernel_rfl
abbrev n_x_Contains_Pred : Nat := 95
theorem fn_x_Contains_Pred : Try.prog.funcs[95]? = some Try.f95 := Try.func95
theorem nm_x_Contains_Pred : (Try.f95.name == "runtime.NumGoroutine" || Try.f95.body.isNone) = false := by kernel_rfl
abbrev n_i_reach : Nat := 96
theorem fn_i_reach : Try.prog.funcs[96]? = some Try.f96 := Try.func96
theorem nm_i_reach : (Try.f96.name == "runtime.NumGoroutine" || Try.f96.body.isNone) = false := by kernel_rfl
abbrev n_i_callsOf : Nat := 97
theorem fn_i_callsOf : Try.prog.funcs[97]? = some Try.f97 := Try.func97
theorem nm_i_callsOf : (Try.f97.name == "runtime.NumGoroutine" || Try.f97.body.isNone) = false := by kernel_rfl
abbrev n_s_l14Preds : Nat := 98
theorem fn_s_l14Preds : Try.prog.funcs[98]? = some Try.f98 := Try.func98
theorem nm_s_l14Preds : (Try.f98.name == "runtime.NumGoroutine" || Try.f98.body.isNone) = false := by kernel_rfl
abbrev n_i_addPred : Nat := 99
theorem fn_i_addPred : Try.prog.funcs[99]? = some Try.f99 := Try.func99
theorem nm_i_addPred : (Try.f99.name == "runtime.NumGoroutine" || Try.f99.body.isNone) = false := by kernel_rfl
abbrev n_l_eqPred : Nat := 100
theorem fn_l_eqPred : Try.prog.funcs[100]? = some Try.f100 := Try.func100
theorem nm_l_eqPred : (Try.f100.name == "runtime.NumGoroutine" || Try.f100.body.isNone) = false := by kernel_rfl
abbrev n_s_l4Renumber : Nat := 101
theorem fn_s_l4Renumber : Try.prog.funcs[101]? = some Try.f101 := Try.func101
theorem nm_s_l4Renumber : (Try.f101.name == "runtime.NumGoroutine" || Try.f101.body.isNone) = false := by kernel_rfl
abbrev n_i_ownClause : Nat := 102
theorem fn_i_ownClause : Try.prog.funcs[102]? = some Try.f102 := Try.func102
theorem nm_i_ownClause : (Try.f102.name == "runtime.NumGoroutine" || Try.f102.body.isNone) = false := by kernel_rfl
abbrev n_i_numbered : Nat := 103
theorem fn_i_numbered : Try.prog.funcs[103]? = some Try.f103 := Try.func103
theorem nm_i_numbered : (Try.f103.name == "runtime.NumGoroutine" || Try.f103.body.isNone) = false := by kernel_rfl
abbrev n_l_heldTerm : Nat := 104
theorem fn_l_heldTerm : Try.prog.funcs[104]? = some Try.f104 := Try.func104
theorem nm_l_heldTerm : (Try.f104.name == "runtime.NumGoroutine" || Try.f104.body.isNone) = false := by kernel_rfl
abbrev n_s_l14Copy : Nat := 105
theorem fn_s_l14Copy : Try.prog.funcs[105]? = some Try.f105 := Try.func105
theorem nm_s_l14Copy : (Try.f105.name == "runtime.NumGoroutine" || Try.f105.body.isNone) = false := by kernel_rfl
abbrev n_x_Delete_Clause : Nat := 106
theorem fn_x_Delete_Clause : Try.prog.funcs[106]? = some Try.f106 := Try.func106
theorem nm_x_Delete_Clause : (Try.f106.name == "runtime.NumGoroutine" || Try.f106.body.isNone) = false := by kernel_rfl
abbrev n_i_ownProgram : Nat := 107
theorem fn_i_ownProgram : Try.prog.funcs[107]? = some Try.f107 := Try.func107
theorem nm_i_ownProgram : (Try.f107.name == "runtime.NumGoroutine" || Try.f107.body.isNone) = false := by kernel_rfl
abbrev n_s_l14Of : Nat := 108
theorem fn_s_l14Of : Try.prog.funcs[108]? = some Try.f108 := Try.func108
theorem nm_s_l14Of : (Try.f108.name == "runtime.NumGoroutine" || Try.f108.body.isNone) = false := by kernel_rfl
abbrev n_s_QueryValid : Nat := 109
theorem fn_s_QueryValid : Try.prog.funcs[109]? = some Try.f109 := Try.func109
theorem nm_s_QueryValid : (Try.f109.name == "runtime.NumGoroutine" || Try.f109.body.isNone) = false := by kernel_rfl
abbrev n_s_l14Goals : Nat := 110
theorem fn_s_l14Goals : Try.prog.funcs[110]? = some Try.f110 := Try.func110
theorem nm_s_l14Goals : (Try.f110.name == "runtime.NumGoroutine" || Try.f110.body.isNone) = false := by kernel_rfl
abbrev n_i_QueryValid : Nat := 111
theorem fn_i_QueryValid : Try.prog.funcs[111]? = some Try.f111 := Try.func111
theorem nm_i_QueryValid : (Try.f111.name == "runtime.NumGoroutine" || Try.f111.body.isNone) = false := by kernel_rfl
abbrev n_i_called : Nat := 112
theorem fn_i_called : Try.prog.funcs[112]? = some Try.f112 := Try.func112
theorem nm_i_called : (Try.f112.name == "runtime.NumGoroutine" || Try.f112.body.isNone) = false := by kernel_rfl
abbrev n_s_TermValid : Nat := 113
theorem fn_s_TermValid : Try.prog.funcs[113]? = some Try.f113 := Try.func113
theorem nm_s_TermValid : (Try.f113.name == "runtime.NumGoroutine" || Try.f113.body.isNone) = false := by kernel_rfl
abbrev n_i_own : Nat := 114
theorem fn_i_own : Try.prog.funcs[114]? = some Try.f114 := Try.func114
theorem nm_i_own : (Try.f114.name == "runtime.NumGoroutine" || Try.f114.body.isNone) = false := by kernel_rfl
abbrev n_x_IndexFunc_Term : Nat := 115
theorem fn_x_IndexFunc_Term : Try.prog.funcs[115]? = some Try.f115 := Try.func115
theorem nm_x_IndexFunc_Term : (Try.f115.name == "runtime.NumGoroutine" || Try.f115.body.isNone) = false := by kernel_rfl
abbrev n_i_TermValid : Nat := 116
theorem fn_i_TermValid : Try.prog.funcs[116]? = some Try.f116 := Try.func116
theorem nm_i_TermValid : (Try.f116.name == "runtime.NumGoroutine" || Try.f116.body.isNone) = false := by kernel_rfl
abbrev n_s_l4Plain : Nat := 117
theorem fn_s_l4Plain : Try.prog.funcs[117]? = some Try.f117 := Try.func117
theorem nm_s_l4Plain : (Try.f117.name == "runtime.NumGoroutine" || Try.f117.body.isNone) = false := by kernel_rfl
abbrev n_s_l4Cut : Nat := 118
theorem fn_s_l4Cut : Try.prog.funcs[118]? = some Try.f118 := Try.func118
theorem nm_s_l4Cut : (Try.f118.name == "runtime.NumGoroutine" || Try.f118.body.isNone) = false := by kernel_rfl
abbrev n_i_ProgramValid_1 : Nat := 119
theorem fn_i_ProgramValid_1 : Try.prog.funcs[119]? = some Try.f119 := Try.func119
theorem nm_i_ProgramValid_1 : (Try.f119.name == "runtime.NumGoroutine" || Try.f119.body.isNone) = false := by kernel_rfl
abbrev n_i_isPlain : Nat := 120
theorem fn_i_isPlain : Try.prog.funcs[120]? = some Try.f120 := Try.func120
theorem nm_i_isPlain : (Try.f120.name == "runtime.NumGoroutine" || Try.f120.body.isNone) = false := by kernel_rfl
abbrev n_x_ContainsFunc_Term : Nat := 121
theorem fn_x_ContainsFunc_Term : Try.prog.funcs[121]? = some Try.f121 := Try.func121
theorem nm_x_ContainsFunc_Term : (Try.f121.name == "runtime.NumGoroutine" || Try.f121.body.isNone) = false := by kernel_rfl
abbrev n_i_isCut : Nat := 122
theorem fn_i_isCut : Try.prog.funcs[122]? = some Try.f122 := Try.func122
theorem nm_i_isCut : (Try.f122.name == "runtime.NumGoroutine" || Try.f122.body.isNone) = false := by kernel_rfl
abbrev n_x_Index_int : Nat := 123
theorem fn_x_Index_int : Try.prog.funcs[123]? = some Try.f123 := Try.func123
theorem nm_x_Index_int : (Try.f123.name == "runtime.NumGoroutine" || Try.f123.body.isNone) = false := by kernel_rfl
abbrev n_x_IndexFunc_int : Nat := 124
theorem fn_x_IndexFunc_int : Try.prog.funcs[124]? = some Try.f124 := Try.func124
theorem nm_x_IndexFunc_int : (Try.f124.name == "runtime.NumGoroutine" || Try.f124.body.isNone) = false := by kernel_rfl
abbrev n_s_GoalValid : Nat := 125
theorem fn_s_GoalValid : Try.prog.funcs[125]? = some Try.f125 := Try.func125
theorem nm_s_GoalValid : (Try.f125.name == "runtime.NumGoroutine" || Try.f125.body.isNone) = false := by kernel_rfl
abbrev n_s_TermSame : Nat := 126
theorem fn_s_TermSame : Try.prog.funcs[126]? = some Try.f126 := Try.func126
theorem nm_s_TermSame : (Try.f126.name == "runtime.NumGoroutine" || Try.f126.body.isNone) = false := by kernel_rfl
abbrev n_i_goalsValid : Nat := 127
theorem fn_i_goalsValid : Try.prog.funcs[127]? = some Try.f127 := Try.func127
theorem nm_i_goalsValid : (Try.f127.name == "runtime.NumGoroutine" || Try.f127.body.isNone) = false := by kernel_rfl
abbrev n_i_TermSame : Nat := 128
theorem fn_i_TermSame : Try.prog.funcs[128]? = some Try.f128 := Try.func128
theorem nm_i_TermSame : (Try.f128.name == "runtime.NumGoroutine" || Try.f128.body.isNone) = false := by kernel_rfl
abbrev n_s_l16Flat : Nat := 129
theorem fn_s_l16Flat : Try.prog.funcs[129]? = some Try.f129 := Try.func129
theorem nm_s_l16Flat : (Try.f129.name == "runtime.NumGoroutine" || Try.f129.body.isNone) = false := by kernel_rfl
abbrev n_s_l1Vars : Nat := 130
theorem fn_s_l1Vars : Try.prog.funcs[130]? = some Try.f130 := Try.func130
theorem nm_s_l1Vars : (Try.f130.name == "runtime.NumGoroutine" || Try.f130.body.isNone) = false := by kernel_rfl
abbrev n_s_l16In : Nat := 131
theorem fn_s_l16In : Try.prog.funcs[131]? = some Try.f131 := Try.func131
theorem nm_s_l16In : (Try.f131.name == "runtime.NumGoroutine" || Try.f131.body.isNone) = false := by kernel_rfl
abbrev n_x_IndexFunc_Clause : Nat := 132
theorem fn_x_IndexFunc_Clause : Try.prog.funcs[132]? = some Try.f132 := Try.func132
theorem nm_x_IndexFunc_Clause : (Try.f132.name == "runtime.NumGoroutine" || Try.f132.body.isNone) = false := by kernel_rfl
abbrev n_i_isFlat : Nat := 133
theorem fn_i_isFlat : Try.prog.funcs[133]? = some Try.f133 := Try.func133
theorem nm_i_isFlat : (Try.f133.name == "runtime.NumGoroutine" || Try.f133.body.isNone) = false := by kernel_rfl
abbrev n_i_flatClause_1 : Nat := 134
theorem fn_i_flatClause_1 : Try.prog.funcs[134]? = some Try.f134 := Try.func134
theorem nm_i_flatClause_1 : (Try.f134.name == "runtime.NumGoroutine" || Try.f134.body.isNone) = false := by kernel_rfl
abbrev n_i_varsOf : Nat := 135
theorem fn_i_varsOf : Try.prog.funcs[135]? = some Try.f135 := Try.func135
theorem nm_i_varsOf : (Try.f135.name == "runtime.NumGoroutine" || Try.f135.body.isNone) = false := by kernel_rfl
abbrev n_i_addVars : Nat := 136
theorem fn_i_addVars : Try.prog.funcs[136]? = some Try.f136 := Try.func136
theorem nm_i_addVars : (Try.f136.name == "runtime.NumGoroutine" || Try.f136.body.isNone) = false := by kernel_rfl
abbrev n_i_flatClause_2 : Nat := 137
theorem fn_i_flatClause_2 : Try.prog.funcs[137]? = some Try.f137 := Try.func137
theorem nm_i_flatClause_2 : (Try.f137.name == "runtime.NumGoroutine" || Try.f137.body.isNone) = false := by kernel_rfl
abbrev n_s_l14Add : Nat := 138
theorem fn_s_l14Add : Try.prog.funcs[138]? = some Try.f138 := Try.func138
theorem nm_s_l14Add : (Try.f138.name == "runtime.NumGoroutine" || Try.f138.body.isNone) = false := by kernel_rfl
abbrev n_x_Index_Pred : Nat := 139
theorem fn_x_Index_Pred : Try.prog.funcs[139]? = some Try.f139 := Try.func139
theorem nm_x_Index_Pred : (Try.f139.name == "runtime.NumGoroutine" || Try.f139.body.isNone) = false := by kernel_rfl
abbrev n_s_l1Renumber : Nat := 140
theorem fn_s_l1Renumber : Try.prog.funcs[140]? = some Try.f140 := Try.func140
theorem nm_s_l1Renumber : (Try.f140.name == "runtime.NumGoroutine" || Try.f140.body.isNone) = false := by kernel_rfl
abbrev n_i_renumbered : Nat := 141
theorem fn_i_renumbered : Try.prog.funcs[141]? = some Try.f141 := Try.func141
theorem nm_i_renumbered : (Try.f141.name == "runtime.NumGoroutine" || Try.f141.body.isNone) = false := by kernel_rfl
abbrev n_x_Clip_Term : Nat := 142
theorem fn_x_Clip_Term : Try.prog.funcs[142]? = some Try.f142 := Try.func142
theorem nm_x_Clip_Term : (Try.f142.name == "runtime.NumGoroutine" || Try.f142.body.isNone) = false := by kernel_rfl
abbrev n_s_l4Copy : Nat := 143
theorem fn_s_l4Copy : Try.prog.funcs[143]? = some Try.f143 := Try.func143
theorem nm_s_l4Copy : (Try.f143.name == "runtime.NumGoroutine" || Try.f143.body.isNone) = false := by kernel_rfl
abbrev n_s_l1Shape : Nat := 144
theorem fn_s_l1Shape : Try.prog.funcs[144]? = some Try.f144 := Try.func144
theorem nm_s_l1Shape : (Try.f144.name == "runtime.NumGoroutine" || Try.f144.body.isNone) = false := by kernel_rfl
abbrev n_s_l1Count : Nat := 145
theorem fn_s_l1Count : Try.prog.funcs[145]? = some Try.f145 := Try.func145
theorem nm_s_l1Count : (Try.f145.name == "runtime.NumGoroutine" || Try.f145.body.isNone) = false := by kernel_rfl
abbrev n_i_scan : Nat := 146
theorem fn_i_scan : Try.prog.funcs[146]? = some Try.f146 := Try.func146
theorem nm_i_scan : (Try.f146.name == "runtime.NumGoroutine" || Try.f146.body.isNone) = false := by kernel_rfl
abbrev n_s_l1Word : Nat := 147
theorem fn_s_l1Word : Try.prog.funcs[147]? = some Try.f147 := Try.func147
theorem nm_s_l1Word : (Try.f147.name == "runtime.NumGoroutine" || Try.f147.body.isNone) = false := by kernel_rfl
abbrev n_s_IsBuiltin : Nat := 148
theorem fn_s_IsBuiltin : Try.prog.funcs[148]? = some Try.f148 := Try.func148
theorem nm_s_IsBuiltin : (Try.f148.name == "runtime.NumGoroutine" || Try.f148.body.isNone) = false := by kernel_rfl
abbrev n_s_l2Level : Nat := 149
theorem fn_s_l2Level : Try.prog.funcs[149]? = some Try.f149 := Try.func149
theorem nm_s_l2Level : (Try.f149.name == "runtime.NumGoroutine" || Try.f149.body.isNone) = false := by kernel_rfl
abbrev n_i_isLetters : Nat := 150
theorem fn_i_isLetters : Try.prog.funcs[150]? = some Try.f150 := Try.func150
theorem nm_i_isLetters : (Try.f150.name == "runtime.NumGoroutine" || Try.f150.body.isNone) = false := by kernel_rfl
abbrev n_i_isOp : Nat := 151
theorem fn_i_isOp : Try.prog.funcs[151]? = some Try.f151 := Try.func151
theorem nm_i_isOp : (Try.f151.name == "runtime.NumGoroutine" || Try.f151.body.isNone) = false := by kernel_rfl
abbrev n_i_isBuilt : Nat := 152
theorem fn_i_isBuilt : Try.prog.funcs[152]? = some Try.f152 := Try.func152
theorem nm_i_isBuilt : (Try.f152.name == "runtime.NumGoroutine" || Try.f152.body.isNone) = false := by kernel_rfl
abbrev n_i_isAtom : Nat := 153
theorem fn_i_isAtom : Try.prog.funcs[153]? = some Try.f153 := Try.func153
theorem nm_i_isAtom : (Try.f153.name == "runtime.NumGoroutine" || Try.f153.body.isNone) = false := by kernel_rfl
abbrev n_s_l4Goal : Nat := 154
theorem fn_s_l4Goal : Try.prog.funcs[154]? = some Try.f154 := Try.func154
theorem nm_s_l4Goal : (Try.f154.name == "runtime.NumGoroutine" || Try.f154.body.isNone) = false := by kernel_rfl
abbrev n_i_goalsValid_1 : Nat := 155
theorem fn_i_goalsValid_1 : Try.prog.funcs[155]? = some Try.f155 := Try.func155
theorem nm_i_goalsValid_1 : (Try.f155.name == "runtime.NumGoroutine" || Try.f155.body.isNone) = false := by kernel_rfl
abbrev n_i_GoalValid : Nat := 156
theorem fn_i_GoalValid : Try.prog.funcs[156]? = some Try.f156 := Try.func156
theorem nm_i_GoalValid : (Try.f156.name == "runtime.NumGoroutine" || Try.f156.body.isNone) = false := by kernel_rfl
abbrev n_x_EqualFunc_Term : Nat := 157
theorem fn_x_EqualFunc_Term : Try.prog.funcs[157]? = some Try.f157 := Try.func157
theorem nm_x_EqualFunc_Term : (Try.f157.name == "runtime.NumGoroutine" || Try.f157.body.isNone) = false := by kernel_rfl
abbrev n_i_isFlat_1 : Nat := 158
theorem fn_i_isFlat_1 : Try.prog.funcs[158]? = some Try.f158 := Try.func158
theorem nm_i_isFlat_1 : (Try.f158.name == "runtime.NumGoroutine" || Try.f158.body.isNone) = false := by kernel_rfl
abbrev n_s_l1Rename : Nat := 159
theorem fn_s_l1Rename : Try.prog.funcs[159]? = some Try.f159 := Try.func159
theorem nm_s_l1Rename : (Try.f159.name == "runtime.NumGoroutine" || Try.f159.body.isNone) = false := by kernel_rfl
abbrev n_i_mapVars : Nat := 160
theorem fn_i_mapVars : Try.prog.funcs[160]? = some Try.f160 := Try.func160
theorem nm_i_mapVars : (Try.f160.name == "runtime.NumGoroutine" || Try.f160.body.isNone) = false := by kernel_rfl
abbrev n_i_renumbered_1 : Nat := 161
theorem fn_i_renumbered_1 : Try.prog.funcs[161]? = some Try.f161 := Try.func161
theorem nm_i_renumbered_1 : (Try.f161.name == "runtime.NumGoroutine" || Try.f161.body.isNone) = false := by kernel_rfl
abbrev n_i_variable : Nat := 162
theorem fn_i_variable : Try.prog.funcs[162]? = some Try.f162 := Try.func162
theorem nm_i_variable : (Try.f162.name == "runtime.NumGoroutine" || Try.f162.body.isNone) = false := by kernel_rfl
abbrev n_s_l1Own : Nat := 163
theorem fn_s_l1Own : Try.prog.funcs[163]? = some Try.f163 := Try.func163
theorem nm_s_l1Own : (Try.f163.name == "runtime.NumGoroutine" || Try.f163.body.isNone) = false := by kernel_rfl
abbrev n_i_NameValid : Nat := 164
theorem fn_i_NameValid : Try.prog.funcs[164]? = some Try.f164 := Try.func164
theorem nm_i_NameValid : (Try.f164.name == "runtime.NumGoroutine" || Try.f164.body.isNone) = false := by kernel_rfl
abbrev n_i_scan_1 : Nat := 165
theorem fn_i_scan_1 : Try.prog.funcs[165]? = some Try.f165 := Try.func165
theorem nm_i_scan_1 : (Try.f165.name == "runtime.NumGoroutine" || Try.f165.body.isNone) = false := by kernel_rfl
abbrev n_i_OpLevel : Nat := 166
theorem fn_i_OpLevel : Try.prog.funcs[166]? = some Try.f166 := Try.func166
theorem nm_i_OpLevel : (Try.f166.name == "runtime.NumGoroutine" || Try.f166.body.isNone) = false := by kernel_rfl
abbrev n_i_IsBuiltin : Nat := 167
theorem fn_i_IsBuiltin : Try.prog.funcs[167]? = some Try.f167 := Try.func167
theorem nm_i_IsBuiltin : (Try.f167.name == "runtime.NumGoroutine" || Try.f167.body.isNone) = false := by kernel_rfl
abbrev n_s_NameValid : Nat := 168
theorem fn_s_NameValid : Try.prog.funcs[168]? = some Try.f168 := Try.func168
theorem nm_s_NameValid : (Try.f168.name == "runtime.NumGoroutine" || Try.f168.body.isNone) = false := by kernel_rfl
abbrev n_x_Contains_string : Nat := 169
theorem fn_x_Contains_string : Try.prog.funcs[169]? = some Try.f169 := Try.func169
theorem nm_x_Contains_string : (Try.f169.name == "runtime.NumGoroutine" || Try.f169.body.isNone) = false := by kernel_rfl
abbrev n_i_symbols : Nat := 170
theorem fn_i_symbols : Try.prog.funcs[170]? = some Try.f170 := Try.func170
theorem nm_i_symbols : (Try.f170.name == "runtime.NumGoroutine" || Try.f170.body.isNone) = false := by kernel_rfl
abbrev n_s_l1Has : Nat := 171
theorem fn_s_l1Has : Try.prog.funcs[171]? = some Try.f171 := Try.func171
theorem nm_s_l1Has : (Try.f171.name == "runtime.NumGoroutine" || Try.f171.body.isNone) = false := by kernel_rfl
abbrev n_s_l1Signs : Nat := 172
theorem fn_s_l1Signs : Try.prog.funcs[172]? = some Try.f172 := Try.func172
theorem nm_s_l1Signs : (Try.f172.name == "runtime.NumGoroutine" || Try.f172.body.isNone) = false := by kernel_rfl
abbrev n_x_Index_string : Nat := 173
theorem fn_x_Index_string : Try.prog.funcs[173]? = some Try.f173 := Try.func173
theorem nm_x_Index_string : (Try.f173.name == "runtime.NumGoroutine" || Try.f173.body.isNone) = false := by kernel_rfl
end Go.Proofs.Ytnoieadimkgjcaa
