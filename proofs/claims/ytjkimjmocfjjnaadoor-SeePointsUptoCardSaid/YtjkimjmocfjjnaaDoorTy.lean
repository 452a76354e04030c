/- The types of this seat's translation, as the abstract machine asks them. -/
import Derived.Test.YtjkimjmocfjjnaaDoorAb3
import Derived.Test.YtjkimjmocfjjnaaDoorProg
import Derived.KernelRfl
namespace Go.Proofs.YtjkimjmocfjjnaaDoor.Ab
open Go.RowKit
set_option maxRecDepth 100000
theorem ty0 : tyOf Tryd.prog 0 = some (Ty.mk TD.other 1 0 [Value.tuple (#[])] false 1) := by kernel_rfl
theorem ty1 : tyOf Tryd.prog 1 = some (Ty.mk TD.other 1 8 [Value.nilFunc] false 1) := by kernel_rfl
theorem ty2 : tyOf Tryd.prog 2 = some (Ty.mk (TD.int IntKind.i64) 1 8 [Value.int IntKind.i64 (0)] false 1) := by kernel_rfl
theorem ty3 : tyOf Tryd.prog 3 = some (Ty.mk (TD.int IntKind.i64) 1 8 [Value.int IntKind.i64 (0)] false 1) := by kernel_rfl
theorem ty4 : tyOf Tryd.prog 4 = some (Ty.mk TD.bool 1 1 [Value.bool false] false 1) := by kernel_rfl
theorem ty5 : tyOf Tryd.prog 5 = some (Ty.mk (TD.int IntKind.u8) 1 1 [Value.int IntKind.u8 (0)] false 1) := by kernel_rfl
theorem ty6 : tyOf Tryd.prog 6 = some (Ty.mk (TD.int IntKind.u8) 1 1 [Value.int IntKind.u8 (0)] false 1) := by kernel_rfl
theorem ty7 : tyOf Tryd.prog 7 = some (Ty.mk (TD.st [(0, 1, 2), (1, 1, 3), (2, 1, 4), (3, 1, 6)]) 4 24 [Value.int IntKind.i64 (0), Value.int IntKind.i64 (0), Value.bool false, Value.int IntKind.u8 (0)] true 4) := by kernel_rfl
theorem ty8 : tyOf Tryd.prog 8 = some (Ty.mk (TD.st [(0, 1, 2), (1, 1, 3), (2, 1, 4), (3, 1, 6)]) 4 24 [Value.int IntKind.i64 (0), Value.int IntKind.i64 (0), Value.bool false, Value.int IntKind.u8 (0)] true 4) := by kernel_rfl
theorem ty9 : tyOf Tryd.prog 9 = some (Ty.mk TD.str 1 16 [Value.string (ByteArray.mk (#[]))] false 1) := by kernel_rfl
theorem ty10 : tyOf Tryd.prog 10 = some (Ty.mk TD.str 1 16 [Value.string (ByteArray.mk (#[]))] false 1) := by kernel_rfl
theorem ty11 : tyOf Tryd.prog 11 = some (Ty.mk TD.str 1 16 [Value.string (ByteArray.mk (#[]))] false 1) := by kernel_rfl
theorem ty12 : tyOf Tryd.prog 12 = some (Ty.mk (TD.int IntKind.u64) 1 8 [Value.int IntKind.u64 (0)] false 1) := by kernel_rfl
theorem ty13 : tyOf Tryd.prog 13 = some (Ty.mk (TD.st [(0, 1, 9), (1, 1, 12)]) 2 24 [Value.string (ByteArray.mk (#[])), Value.int IntKind.u64 (0)] true 2) := by kernel_rfl
theorem ty14 : tyOf Tryd.prog 14 = some (Ty.mk (TD.st [(0, 1, 9), (1, 1, 12)]) 2 24 [Value.string (ByteArray.mk (#[])), Value.int IntKind.u64 (0)] true 2) := by kernel_rfl
theorem ty15 : tyOf Tryd.prog 15 = some (Ty.mk (TD.ptr 167) 1 8 [Value.pointer none] false 1) := by kernel_rfl
theorem ty16 : tyOf Tryd.prog 16 = some (Ty.mk (TD.ptr 170) 1 8 [Value.pointer none] false 1) := by kernel_rfl
theorem ty17 : tyOf Tryd.prog 17 = some (Ty.mk (TD.ptr 179) 1 8 [Value.pointer none] false 1) := by kernel_rfl
theorem ty18 : tyOf Tryd.prog 18 = some (Ty.mk (TD.st [(0, 1, 17)]) 1 8 [Value.pointer none] true 1) := by kernel_rfl
theorem ty19 : tyOf Tryd.prog 19 = some (Ty.mk (TD.st [(0, 1, 17)]) 1 8 [Value.pointer none] true 1) := by kernel_rfl
theorem ty20 : tyOf Tryd.prog 20 = some (Ty.mk TD.other 1 16 [Value.nilIface] false 1) := by kernel_rfl
theorem ty21 : tyOf Tryd.prog 21 = some (Ty.mk (TD.int IntKind.i32) 1 4 [Value.int IntKind.i32 (0)] false 1) := by kernel_rfl
theorem ty22 : tyOf Tryd.prog 22 = some (Ty.mk (TD.st [(0, 1, 4), (1, 1, 9), (2, 1, 9)]) 3 40 [Value.bool false, Value.string (ByteArray.mk (#[])), Value.string (ByteArray.mk (#[]))] true 3) := by kernel_rfl
theorem ty23 : tyOf Tryd.prog 23 = some (Ty.mk (TD.st [(0, 1, 4), (1, 1, 9), (2, 1, 9)]) 3 40 [Value.bool false, Value.string (ByteArray.mk (#[])), Value.string (ByteArray.mk (#[]))] true 3) := by kernel_rfl
theorem ty24 : tyOf Tryd.prog 24 = some (Ty.mk (TD.st [(0, 3, 23), (3, 3, 23)]) 6 80 [Value.bool false, Value.string (ByteArray.mk (#[])), Value.string (ByteArray.mk (#[])), Value.bool false, Value.string (ByteArray.mk (#[])), Value.string (ByteArray.mk (#[]))] true 6) := by kernel_rfl
theorem ty25 : tyOf Tryd.prog 25 = some (Ty.mk (TD.st [(0, 3, 23), (3, 3, 23)]) 6 80 [Value.bool false, Value.string (ByteArray.mk (#[])), Value.string (ByteArray.mk (#[])), Value.bool false, Value.string (ByteArray.mk (#[])), Value.string (ByteArray.mk (#[]))] true 6) := by kernel_rfl
theorem ty26 : tyOf Tryd.prog 26 = some (Ty.mk (TD.st [(0, 6, 25), (6, 6, 25), (12, 6, 25)]) 18 240 [Value.bool false, Value.string (ByteArray.mk (#[])), Value.string (ByteArray.mk (#[])), Value.bool false, Value.string (ByteArray.mk (#[])), Value.string (ByteArray.mk (#[])), Value.bool false, Value.string (ByteArray.mk (#[])), Value.string (ByteArray.mk (#[])), Value.bool false, Value.string (ByteArray.mk (#[])), Value.string (ByteArray.mk (#[])), Value.bool false, Value.string (ByteArray.mk (#[])), Value.string (ByteArray.mk (#[])), Value.bool false, Value.string (ByteArray.mk (#[])), Value.string (ByteArray.mk (#[]))] true 18) := by kernel_rfl
theorem ty27 : tyOf Tryd.prog 27 = some (Ty.mk (TD.st [(0, 6, 25), (6, 6, 25), (12, 6, 25)]) 18 240 [Value.bool false, Value.string (ByteArray.mk (#[])), Value.string (ByteArray.mk (#[])), Value.bool false, Value.string (ByteArray.mk (#[])), Value.string (ByteArray.mk (#[])), Value.bool false, Value.string (ByteArray.mk (#[])), Value.string (ByteArray.mk (#[])), Value.bool false, Value.string (ByteArray.mk (#[])), Value.string (ByteArray.mk (#[])), Value.bool false, Value.string (ByteArray.mk (#[])), Value.string (ByteArray.mk (#[])), Value.bool false, Value.string (ByteArray.mk (#[])), Value.string (ByteArray.mk (#[]))] true 18) := by kernel_rfl
theorem ty28 : tyOf Tryd.prog 28 = some (Ty.mk (TD.st [(0, 3, 23), (3, 3, 23)]) 6 80 [Value.bool false, Value.string (ByteArray.mk (#[])), Value.string (ByteArray.mk (#[])), Value.bool false, Value.string (ByteArray.mk (#[])), Value.string (ByteArray.mk (#[]))] true 6) := by kernel_rfl
theorem ty29 : tyOf Tryd.prog 29 = some (Ty.mk (TD.st [(0, 3, 23), (3, 3, 23)]) 6 80 [Value.bool false, Value.string (ByteArray.mk (#[])), Value.string (ByteArray.mk (#[])), Value.bool false, Value.string (ByteArray.mk (#[])), Value.string (ByteArray.mk (#[]))] true 6) := by kernel_rfl
theorem ty30 : tyOf Tryd.prog 30 = some (Ty.mk (TD.st [(0, 1, 4), (1, 3, 23)]) 4 48 [Value.bool false, Value.bool false, Value.string (ByteArray.mk (#[])), Value.string (ByteArray.mk (#[]))] true 4) := by kernel_rfl
theorem ty31 : tyOf Tryd.prog 31 = some (Ty.mk (TD.st [(0, 1, 4), (1, 3, 23)]) 4 48 [Value.bool false, Value.bool false, Value.string (ByteArray.mk (#[])), Value.string (ByteArray.mk (#[]))] true 4) := by kernel_rfl
theorem ty32 : tyOf Tryd.prog 32 = some (Ty.mk (TD.st [(0, 6, 29), (6, 4, 31)]) 10 128 [Value.bool false, Value.string (ByteArray.mk (#[])), Value.string (ByteArray.mk (#[])), Value.bool false, Value.string (ByteArray.mk (#[])), Value.string (ByteArray.mk (#[])), Value.bool false, Value.bool false, Value.string (ByteArray.mk (#[])), Value.string (ByteArray.mk (#[]))] true 10) := by kernel_rfl
theorem ty33 : tyOf Tryd.prog 33 = some (Ty.mk (TD.st [(0, 6, 29), (6, 4, 31)]) 10 128 [Value.bool false, Value.string (ByteArray.mk (#[])), Value.string (ByteArray.mk (#[])), Value.bool false, Value.string (ByteArray.mk (#[])), Value.string (ByteArray.mk (#[])), Value.bool false, Value.bool false, Value.string (ByteArray.mk (#[])), Value.string (ByteArray.mk (#[]))] true 10) := by kernel_rfl
theorem ty34 : tyOf Tryd.prog 34 = some (Ty.mk (TD.arr 2 23) 6 80 [Value.bool false, Value.string (ByteArray.mk (#[])), Value.string (ByteArray.mk (#[])), Value.bool false, Value.string (ByteArray.mk (#[])), Value.string (ByteArray.mk (#[]))] true 3) := by kernel_rfl
theorem ty35 : tyOf Tryd.prog 35 = some (Ty.mk (TD.arr 3 34) 18 240 [Value.bool false, Value.string (ByteArray.mk (#[])), Value.string (ByteArray.mk (#[])), Value.bool false, Value.string (ByteArray.mk (#[])), Value.string (ByteArray.mk (#[])), Value.bool false, Value.string (ByteArray.mk (#[])), Value.string (ByteArray.mk (#[])), Value.bool false, Value.string (ByteArray.mk (#[])), Value.string (ByteArray.mk (#[])), Value.bool false, Value.string (ByteArray.mk (#[])), Value.string (ByteArray.mk (#[])), Value.bool false, Value.string (ByteArray.mk (#[])), Value.string (ByteArray.mk (#[]))] true 6) := by kernel_rfl
theorem ty36 : tyOf Tryd.prog 36 = some (Ty.mk (TD.arr 3 34) 18 240 [Value.bool false, Value.string (ByteArray.mk (#[])), Value.string (ByteArray.mk (#[])), Value.bool false, Value.string (ByteArray.mk (#[])), Value.string (ByteArray.mk (#[])), Value.bool false, Value.string (ByteArray.mk (#[])), Value.string (ByteArray.mk (#[])), Value.bool false, Value.string (ByteArray.mk (#[])), Value.string (ByteArray.mk (#[])), Value.bool false, Value.string (ByteArray.mk (#[])), Value.string (ByteArray.mk (#[])), Value.bool false, Value.string (ByteArray.mk (#[])), Value.string (ByteArray.mk (#[]))] true 6) := by kernel_rfl
theorem ty37 : tyOf Tryd.prog 37 = some (Ty.mk TD.other 1 8 [Value.nilFunc] false 1) := by kernel_rfl
theorem ty38 : tyOf Tryd.prog 38 = some (Ty.mk TD.other 1 8 [Value.nilFunc] false 1) := by kernel_rfl
theorem ty39 : tyOf Tryd.prog 39 = some (Ty.mk TD.other 1 8 [Value.nilFunc] false 1) := by kernel_rfl
theorem ty40 : tyOf Tryd.prog 40 = some (Ty.mk TD.other 1 8 [Value.nilFunc] false 1) := by kernel_rfl
theorem ty41 : tyOf Tryd.prog 41 = some (Ty.mk TD.other 1 8 [Value.nilFunc] false 1) := by kernel_rfl
theorem ty42 : tyOf Tryd.prog 42 = some (Ty.mk TD.other 1 8 [Value.nilFunc] false 1) := by kernel_rfl
theorem ty43 : tyOf Tryd.prog 43 = some (Ty.mk TD.other 1 8 [Value.nilFunc] false 1) := by kernel_rfl
theorem ty44 : tyOf Tryd.prog 44 = some (Ty.mk TD.other 1 0 [Value.tuple (Array.mk [Value.agg (Array.mk [Value.bool false, Value.string (ByteArray.mk (#[])), Value.string (ByteArray.mk (#[])), Value.bool false, Value.string (ByteArray.mk (#[])), Value.string (ByteArray.mk (#[])), Value.bool false, Value.string (ByteArray.mk (#[])), Value.string (ByteArray.mk (#[])), Value.bool false, Value.string (ByteArray.mk (#[])), Value.string (ByteArray.mk (#[])), Value.bool false, Value.string (ByteArray.mk (#[])), Value.string (ByteArray.mk (#[])), Value.bool false, Value.string (ByteArray.mk (#[])), Value.string (ByteArray.mk (#[]))]), Value.bool false])] false 1) := by kernel_rfl
theorem ty45 : tyOf Tryd.prog 45 = some (Ty.mk TD.other 1 8 [Value.nilFunc] false 1) := by kernel_rfl
theorem ty46 : tyOf Tryd.prog 46 = some (Ty.mk (TD.int IntKind.i64) 1 8 [Value.int IntKind.i64 (0)] false 1) := by kernel_rfl
theorem ty47 : tyOf Tryd.prog 47 = some (Ty.mk TD.other 1 0 [Value.tuple (Array.mk [Value.agg (Array.mk [Value.bool false, Value.string (ByteArray.mk (#[])), Value.string (ByteArray.mk (#[])), Value.bool false, Value.string (ByteArray.mk (#[])), Value.string (ByteArray.mk (#[])), Value.bool false, Value.string (ByteArray.mk (#[])), Value.string (ByteArray.mk (#[])), Value.bool false, Value.string (ByteArray.mk (#[])), Value.string (ByteArray.mk (#[])), Value.bool false, Value.string (ByteArray.mk (#[])), Value.string (ByteArray.mk (#[])), Value.bool false, Value.string (ByteArray.mk (#[])), Value.string (ByteArray.mk (#[]))]), Value.int IntKind.i64 (0)])] false 1) := by kernel_rfl
theorem ty48 : tyOf Tryd.prog 48 = some (Ty.mk TD.other 1 8 [Value.nilFunc] false 1) := by kernel_rfl
theorem ty49 : tyOf Tryd.prog 49 = some (Ty.mk TD.other 1 8 [Value.nilFunc] false 1) := by kernel_rfl
theorem ty50 : tyOf Tryd.prog 50 = some (Ty.mk TD.other 1 8 [Value.nilFunc] false 1) := by kernel_rfl
theorem ty51 : tyOf Tryd.prog 51 = some (Ty.mk TD.other 1 8 [Value.nilFunc] false 1) := by kernel_rfl
theorem ty52 : tyOf Tryd.prog 52 = some (Ty.mk TD.other 1 8 [Value.nilFunc] false 1) := by kernel_rfl
theorem ty53 : tyOf Tryd.prog 53 = some (Ty.mk (TD.arr 3 23) 9 120 [Value.bool false, Value.string (ByteArray.mk (#[])), Value.string (ByteArray.mk (#[])), Value.bool false, Value.string (ByteArray.mk (#[])), Value.string (ByteArray.mk (#[])), Value.bool false, Value.string (ByteArray.mk (#[])), Value.string (ByteArray.mk (#[]))] true 3) := by kernel_rfl
theorem ty54 : tyOf Tryd.prog 54 = some (Ty.mk TD.other 1 8 [Value.nilFunc] false 1) := by kernel_rfl
theorem ty55 : tyOf Tryd.prog 55 = some (Ty.mk TD.other 1 8 [Value.nilFunc] false 1) := by kernel_rfl
theorem ty56 : tyOf Tryd.prog 56 = some (Ty.mk TD.other 1 0 [Value.tuple (Array.mk [Value.agg (Array.mk [Value.bool false, Value.string (ByteArray.mk (#[])), Value.string (ByteArray.mk (#[]))]), Value.agg (Array.mk [Value.bool false, Value.string (ByteArray.mk (#[])), Value.string (ByteArray.mk (#[]))])])] false 1) := by kernel_rfl
theorem ty57 : tyOf Tryd.prog 57 = some (Ty.mk TD.other 1 8 [Value.nilFunc] false 1) := by kernel_rfl
theorem ty58 : tyOf Tryd.prog 58 = some (Ty.mk TD.other 1 8 [Value.nilFunc] false 1) := by kernel_rfl
theorem ty59 : tyOf Tryd.prog 59 = some (Ty.mk TD.other 1 8 [Value.nilFunc] false 1) := by kernel_rfl
theorem ty60 : tyOf Tryd.prog 60 = some (Ty.mk TD.other 1 8 [Value.nilFunc] false 1) := by kernel_rfl
theorem ty61 : tyOf Tryd.prog 61 = some (Ty.mk TD.other 1 8 [Value.nilFunc] false 1) := by kernel_rfl
theorem ty62 : tyOf Tryd.prog 62 = some (Ty.mk (TD.sl 29) 1 24 [Value.slice none 0 0] false 1) := by kernel_rfl
theorem ty63 : tyOf Tryd.prog 63 = some (Ty.mk (TD.st [(0, 6, 29), (6, 6, 29)]) 12 160 [Value.bool false, Value.string (ByteArray.mk (#[])), Value.string (ByteArray.mk (#[])), Value.bool false, Value.string (ByteArray.mk (#[])), Value.string (ByteArray.mk (#[])), Value.bool false, Value.string (ByteArray.mk (#[])), Value.string (ByteArray.mk (#[])), Value.bool false, Value.string (ByteArray.mk (#[])), Value.string (ByteArray.mk (#[]))] true 12) := by kernel_rfl
theorem ty64 : tyOf Tryd.prog 64 = some (Ty.mk (TD.st [(0, 6, 29), (6, 6, 29)]) 12 160 [Value.bool false, Value.string (ByteArray.mk (#[])), Value.string (ByteArray.mk (#[])), Value.bool false, Value.string (ByteArray.mk (#[])), Value.string (ByteArray.mk (#[])), Value.bool false, Value.string (ByteArray.mk (#[])), Value.string (ByteArray.mk (#[])), Value.bool false, Value.string (ByteArray.mk (#[])), Value.string (ByteArray.mk (#[]))] true 12) := by kernel_rfl
theorem ty65 : tyOf Tryd.prog 65 = some (Ty.mk (TD.arr 2 34) 12 160 [Value.bool false, Value.string (ByteArray.mk (#[])), Value.string (ByteArray.mk (#[])), Value.bool false, Value.string (ByteArray.mk (#[])), Value.string (ByteArray.mk (#[])), Value.bool false, Value.string (ByteArray.mk (#[])), Value.string (ByteArray.mk (#[])), Value.bool false, Value.string (ByteArray.mk (#[])), Value.string (ByteArray.mk (#[]))] true 6) := by kernel_rfl
theorem ty66 : tyOf Tryd.prog 66 = some (Ty.mk TD.other 1 8 [Value.nilFunc] false 1) := by kernel_rfl
theorem ty67 : tyOf Tryd.prog 67 = some (Ty.mk TD.other 1 8 [Value.nilFunc] false 1) := by kernel_rfl
theorem ty68 : tyOf Tryd.prog 68 = some (Ty.mk TD.other 1 8 [Value.nilFunc] false 1) := by kernel_rfl
theorem ty69 : tyOf Tryd.prog 69 = some (Ty.mk TD.other 1 8 [Value.nilFunc] false 1) := by kernel_rfl
theorem ty70 : tyOf Tryd.prog 70 = some (Ty.mk TD.other 1 8 [Value.nilFunc] false 1) := by kernel_rfl
theorem ty71 : tyOf Tryd.prog 71 = some (Ty.mk TD.other 1 8 [Value.nilFunc] false 1) := by kernel_rfl
theorem ty72 : tyOf Tryd.prog 72 = some (Ty.mk TD.other 1 0 [Value.tuple (Array.mk [Value.agg (Array.mk [Value.bool false, Value.string (ByteArray.mk (#[])), Value.string (ByteArray.mk (#[])), Value.bool false, Value.string (ByteArray.mk (#[])), Value.string (ByteArray.mk (#[])), Value.bool false, Value.string (ByteArray.mk (#[])), Value.string (ByteArray.mk (#[])), Value.bool false, Value.string (ByteArray.mk (#[])), Value.string (ByteArray.mk (#[])), Value.bool false, Value.string (ByteArray.mk (#[])), Value.string (ByteArray.mk (#[])), Value.bool false, Value.string (ByteArray.mk (#[])), Value.string (ByteArray.mk (#[]))]), Value.int IntKind.i64 (0)])] false 1) := by kernel_rfl
theorem ty73 : tyOf Tryd.prog 73 = some (Ty.mk TD.other 1 8 [Value.nilFunc] false 1) := by kernel_rfl
theorem ty74 : tyOf Tryd.prog 74 = some (Ty.mk TD.other 1 8 [Value.nilFunc] false 1) := by kernel_rfl
theorem ty75 : tyOf Tryd.prog 75 = some (Ty.mk TD.other 1 8 [Value.nilFunc] false 1) := by kernel_rfl
theorem ty76 : tyOf Tryd.prog 76 = some (Ty.mk TD.other 1 8 [Value.nilFunc] false 1) := by kernel_rfl
theorem ty77 : tyOf Tryd.prog 77 = some (Ty.mk (TD.st [(0, 1, 9), (1, 10, 33), (11, 3, 23)]) 14 184 [Value.string (ByteArray.mk (#[])), Value.bool false, Value.string (ByteArray.mk (#[])), Value.string (ByteArray.mk (#[])), Value.bool false, Value.string (ByteArray.mk (#[])), Value.string (ByteArray.mk (#[])), Value.bool false, Value.bool false, Value.string (ByteArray.mk (#[])), Value.string (ByteArray.mk (#[])), Value.bool false, Value.string (ByteArray.mk (#[])), Value.string (ByteArray.mk (#[]))] true 14) := by kernel_rfl
theorem ty78 : tyOf Tryd.prog 78 = some (Ty.mk (TD.st [(0, 1, 9), (1, 10, 33), (11, 3, 23)]) 14 184 [Value.string (ByteArray.mk (#[])), Value.bool false, Value.string (ByteArray.mk (#[])), Value.string (ByteArray.mk (#[])), Value.bool false, Value.string (ByteArray.mk (#[])), Value.string (ByteArray.mk (#[])), Value.bool false, Value.bool false, Value.string (ByteArray.mk (#[])), Value.string (ByteArray.mk (#[])), Value.bool false, Value.string (ByteArray.mk (#[])), Value.string (ByteArray.mk (#[]))] true 14) := by kernel_rfl
theorem ty79 : tyOf Tryd.prog 79 = some (Ty.mk (TD.sl 84) 1 24 [Value.slice none 0 0] false 1) := by kernel_rfl
theorem ty80 : tyOf Tryd.prog 80 = some (Ty.mk TD.other 1 8 [Value.nilFunc] false 1) := by kernel_rfl
theorem ty81 : tyOf Tryd.prog 81 = some (Ty.mk TD.other 1 8 [Value.nilFunc] false 1) := by kernel_rfl
theorem ty82 : tyOf Tryd.prog 82 = some (Ty.mk TD.other 1 8 [Value.nilFunc] false 1) := by kernel_rfl
theorem ty83 : tyOf Tryd.prog 83 = some (Ty.mk TD.other 1 8 [Value.nilFunc] false 1) := by kernel_rfl
theorem ty84 : tyOf Tryd.prog 84 = some (Ty.mk (TD.arr 2 33) 20 256 [Value.bool false, Value.string (ByteArray.mk (#[])), Value.string (ByteArray.mk (#[])), Value.bool false, Value.string (ByteArray.mk (#[])), Value.string (ByteArray.mk (#[])), Value.bool false, Value.bool false, Value.string (ByteArray.mk (#[])), Value.string (ByteArray.mk (#[])), Value.bool false, Value.string (ByteArray.mk (#[])), Value.string (ByteArray.mk (#[])), Value.bool false, Value.string (ByteArray.mk (#[])), Value.string (ByteArray.mk (#[])), Value.bool false, Value.bool false, Value.string (ByteArray.mk (#[])), Value.string (ByteArray.mk (#[]))] true 10) := by kernel_rfl
theorem ty85 : tyOf Tryd.prog 85 = some (Ty.mk TD.other 1 8 [Value.nilFunc] false 1) := by kernel_rfl
theorem ty86 : tyOf Tryd.prog 86 = some (Ty.mk TD.other 1 8 [Value.nilFunc] false 1) := by kernel_rfl
theorem ty87 : tyOf Tryd.prog 87 = some (Ty.mk TD.other 1 8 [Value.nilFunc] false 1) := by kernel_rfl
theorem ty88 : tyOf Tryd.prog 88 = some (Ty.mk TD.other 1 8 [Value.nilFunc] false 1) := by kernel_rfl
theorem ty89 : tyOf Tryd.prog 89 = some (Ty.mk TD.other 1 8 [Value.nilFunc] false 1) := by kernel_rfl
theorem ty90 : tyOf Tryd.prog 90 = some (Ty.mk TD.other 1 8 [Value.nilFunc] false 1) := by kernel_rfl
theorem ty91 : tyOf Tryd.prog 91 = some (Ty.mk TD.other 1 0 [Value.tuple (Array.mk [Value.agg (Array.mk [Value.bool false, Value.string (ByteArray.mk (#[])), Value.string (ByteArray.mk (#[])), Value.bool false, Value.string (ByteArray.mk (#[])), Value.string (ByteArray.mk (#[]))]), Value.bool false])] false 1) := by kernel_rfl
theorem ty92 : tyOf Tryd.prog 92 = some (Ty.mk TD.other 1 8 [Value.nilFunc] false 1) := by kernel_rfl
theorem ty93 : tyOf Tryd.prog 93 = some (Ty.mk TD.other 1 8 [Value.nilFunc] false 1) := by kernel_rfl
theorem ty94 : tyOf Tryd.prog 94 = some (Ty.mk TD.other 1 8 [Value.nilFunc] false 1) := by kernel_rfl
theorem ty95 : tyOf Tryd.prog 95 = some (Ty.mk TD.other 1 8 [Value.nilFunc] false 1) := by kernel_rfl
theorem ty96 : tyOf Tryd.prog 96 = some (Ty.mk TD.other 1 8 [Value.nilFunc] false 1) := by kernel_rfl
theorem ty97 : tyOf Tryd.prog 97 = some (Ty.mk TD.other 1 8 [Value.nilFunc] false 1) := by kernel_rfl
theorem ty98 : tyOf Tryd.prog 98 = some (Ty.mk TD.other 1 0 [Value.tuple (Array.mk [Value.agg (Array.mk [Value.bool false, Value.string (ByteArray.mk (#[])), Value.string (ByteArray.mk (#[]))]), Value.int IntKind.i64 (0)])] false 1) := by kernel_rfl
theorem ty99 : tyOf Tryd.prog 99 = some (Ty.mk TD.other 1 8 [Value.nilFunc] false 1) := by kernel_rfl
theorem ty100 : tyOf Tryd.prog 100 = some (Ty.mk TD.other 1 8 [Value.nilFunc] false 1) := by kernel_rfl
theorem ty101 : tyOf Tryd.prog 101 = some (Ty.mk TD.other 1 8 [Value.nilFunc] false 1) := by kernel_rfl
theorem ty102 : tyOf Tryd.prog 102 = some (Ty.mk TD.other 1 8 [Value.nilFunc] false 1) := by kernel_rfl
theorem ty103 : tyOf Tryd.prog 103 = some (Ty.mk TD.other 1 8 [Value.nilFunc] false 1) := by kernel_rfl
theorem ty104 : tyOf Tryd.prog 104 = some (Ty.mk TD.other 1 0 [Value.tuple (Array.mk [Value.bool false, Value.string (ByteArray.mk (#[]))])] false 1) := by kernel_rfl
theorem ty105 : tyOf Tryd.prog 105 = some (Ty.mk TD.other 1 8 [Value.nilFunc] false 1) := by kernel_rfl
theorem ty106 : tyOf Tryd.prog 106 = some (Ty.mk TD.other 1 8 [Value.nilFunc] false 1) := by kernel_rfl
theorem ty107 : tyOf Tryd.prog 107 = some (Ty.mk TD.other 1 0 [Value.tuple (Array.mk [Value.agg (Array.mk [Value.bool false, Value.string (ByteArray.mk (#[])), Value.string (ByteArray.mk (#[])), Value.bool false, Value.string (ByteArray.mk (#[])), Value.string (ByteArray.mk (#[]))]), Value.agg (Array.mk [Value.bool false, Value.string (ByteArray.mk (#[])), Value.string (ByteArray.mk (#[])), Value.bool false, Value.string (ByteArray.mk (#[])), Value.string (ByteArray.mk (#[]))])])] false 1) := by kernel_rfl
theorem ty108 : tyOf Tryd.prog 108 = some (Ty.mk TD.other 1 8 [Value.nilFunc] false 1) := by kernel_rfl
theorem ty109 : tyOf Tryd.prog 109 = some (Ty.mk TD.other 1 8 [Value.nilFunc] false 1) := by kernel_rfl
theorem ty110 : tyOf Tryd.prog 110 = some (Ty.mk TD.other 1 8 [Value.nilFunc] false 1) := by kernel_rfl
theorem ty111 : tyOf Tryd.prog 111 = some (Ty.mk TD.other 1 0 [Value.tuple (Array.mk [Value.agg (Array.mk [Value.bool false, Value.string (ByteArray.mk (#[])), Value.string (ByteArray.mk (#[])), Value.bool false, Value.string (ByteArray.mk (#[])), Value.string (ByteArray.mk (#[]))]), Value.bool false])] false 1) := by kernel_rfl
theorem ty112 : tyOf Tryd.prog 112 = some (Ty.mk TD.other 1 8 [Value.nilFunc] false 1) := by kernel_rfl
theorem ty113 : tyOf Tryd.prog 113 = some (Ty.mk TD.other 1 8 [Value.nilFunc] false 1) := by kernel_rfl
theorem ty114 : tyOf Tryd.prog 114 = some (Ty.mk TD.other 1 8 [Value.nilFunc] false 1) := by kernel_rfl
theorem ty115 : tyOf Tryd.prog 115 = some (Ty.mk TD.other 1 0 [Value.tuple (Array.mk [Value.agg (Array.mk [Value.bool false, Value.string (ByteArray.mk (#[])), Value.string (ByteArray.mk (#[])), Value.bool false, Value.string (ByteArray.mk (#[])), Value.string (ByteArray.mk (#[]))]), Value.int IntKind.i64 (0)])] false 1) := by kernel_rfl
theorem ty116 : tyOf Tryd.prog 116 = some (Ty.mk TD.other 1 8 [Value.nilFunc] false 1) := by kernel_rfl
theorem ty117 : tyOf Tryd.prog 117 = some (Ty.mk TD.other 1 0 [Value.tuple (Array.mk [Value.agg (Array.mk [Value.bool false, Value.string (ByteArray.mk (#[])), Value.string (ByteArray.mk (#[])), Value.bool false, Value.string (ByteArray.mk (#[])), Value.string (ByteArray.mk (#[]))]), Value.agg (Array.mk [Value.bool false, Value.string (ByteArray.mk (#[])), Value.string (ByteArray.mk (#[])), Value.bool false, Value.string (ByteArray.mk (#[])), Value.string (ByteArray.mk (#[]))])])] false 1) := by kernel_rfl
theorem ty118 : tyOf Tryd.prog 118 = some (Ty.mk TD.other 1 8 [Value.nilFunc] false 1) := by kernel_rfl
theorem ty119 : tyOf Tryd.prog 119 = some (Ty.mk TD.other 1 8 [Value.nilFunc] false 1) := by kernel_rfl
theorem ty120 : tyOf Tryd.prog 120 = some (Ty.mk TD.other 1 8 [Value.nilFunc] false 1) := by kernel_rfl
theorem ty121 : tyOf Tryd.prog 121 = some (Ty.mk (TD.sl 23) 1 24 [Value.slice none 0 0] false 1) := by kernel_rfl
theorem ty122 : tyOf Tryd.prog 122 = some (Ty.mk TD.other 1 8 [Value.nilFunc] false 1) := by kernel_rfl
theorem ty123 : tyOf Tryd.prog 123 = some (Ty.mk TD.other 1 8 [Value.nilFunc] false 1) := by kernel_rfl
theorem ty124 : tyOf Tryd.prog 124 = some (Ty.mk TD.other 1 8 [Value.nilFunc] false 1) := by kernel_rfl
theorem ty125 : tyOf Tryd.prog 125 = some (Ty.mk TD.other 1 8 [Value.nilFunc] false 1) := by kernel_rfl
theorem ty126 : tyOf Tryd.prog 126 = some (Ty.mk TD.other 1 8 [Value.nilFunc] false 1) := by kernel_rfl
theorem ty127 : tyOf Tryd.prog 127 = some (Ty.mk (TD.int IntKind.u64) 1 8 [Value.int IntKind.u64 (0)] false 1) := by kernel_rfl
theorem ty128 : tyOf Tryd.prog 128 = some (Ty.mk TD.other 1 8 [Value.nilFunc] false 1) := by kernel_rfl
theorem ty129 : tyOf Tryd.prog 129 = some (Ty.mk (TD.sl 131) 1 24 [Value.slice none 0 0] false 1) := by kernel_rfl
theorem ty130 : tyOf Tryd.prog 130 = some (Ty.mk TD.other 1 8 [Value.nilFunc] false 1) := by kernel_rfl
theorem ty131 : tyOf Tryd.prog 131 = some (Ty.mk (TD.int IntKind.u32) 1 4 [Value.int IntKind.u32 (0)] false 1) := by kernel_rfl
theorem ty132 : tyOf Tryd.prog 132 = some (Ty.mk (TD.int IntKind.u64) 1 8 [Value.int IntKind.u64 (0)] false 1) := by kernel_rfl
theorem ty133 : tyOf Tryd.prog 133 = some (Ty.mk TD.other 1 8 [Value.nilFunc] false 1) := by kernel_rfl
theorem ty134 : tyOf Tryd.prog 134 = some (Ty.mk TD.other 1 0 [Value.tuple (Array.mk [Value.string (ByteArray.mk (#[])), Value.string (ByteArray.mk (#[])), Value.int IntKind.i64 (0)])] false 1) := by kernel_rfl
theorem ty135 : tyOf Tryd.prog 135 = some (Ty.mk TD.other 1 8 [Value.nilFunc] false 1) := by kernel_rfl
theorem ty136 : tyOf Tryd.prog 136 = some (Ty.mk TD.other 1 0 [Value.tuple (Array.mk [Value.string (ByteArray.mk (#[])), Value.int IntKind.i64 (0)])] false 1) := by kernel_rfl
theorem ty137 : tyOf Tryd.prog 137 = some (Ty.mk TD.other 1 8 [Value.nilFunc] false 1) := by kernel_rfl
theorem ty138 : tyOf Tryd.prog 138 = some (Ty.mk TD.other 1 8 [Value.nilFunc] false 1) := by kernel_rfl
theorem ty139 : tyOf Tryd.prog 139 = some (Ty.mk TD.other 1 8 [Value.nilFunc] false 1) := by kernel_rfl
theorem ty140 : tyOf Tryd.prog 140 = some (Ty.mk (TD.sl 3) 1 24 [Value.slice none 0 0] false 1) := by kernel_rfl
theorem ty141 : tyOf Tryd.prog 141 = some (Ty.mk TD.other 1 8 [Value.nilFunc] false 1) := by kernel_rfl
theorem ty142 : tyOf Tryd.prog 142 = some (Ty.mk TD.other 1 8 [Value.nilFunc] false 1) := by kernel_rfl
theorem ty143 : tyOf Tryd.prog 143 = some (Ty.mk TD.other 1 8 [Value.nilFunc] false 1) := by kernel_rfl
theorem ty144 : tyOf Tryd.prog 144 = some (Ty.mk (TD.arr 8 5) 8 8 [Value.int IntKind.u8 (0), Value.int IntKind.u8 (0), Value.int IntKind.u8 (0), Value.int IntKind.u8 (0), Value.int IntKind.u8 (0), Value.int IntKind.u8 (0), Value.int IntKind.u8 (0), Value.int IntKind.u8 (0)] true 1) := by kernel_rfl
theorem ty145 : tyOf Tryd.prog 145 = some (Ty.mk (TD.sl 5) 1 24 [Value.slice none 0 0] false 1) := by kernel_rfl
theorem ty146 : tyOf Tryd.prog 146 = some (Ty.mk TD.other 1 8 [Value.nilFunc] false 1) := by kernel_rfl
theorem ty147 : tyOf Tryd.prog 147 = some (Ty.mk TD.other 1 0 [Value.tuple (#[Value.slice none 0 0, Value.slice none 0 0])] false 1) := by kernel_rfl
theorem ty148 : tyOf Tryd.prog 148 = some (Ty.mk TD.other 1 8 [Value.nilFunc] false 1) := by kernel_rfl
theorem ty149 : tyOf Tryd.prog 149 = some (Ty.mk TD.other 1 8 [Value.nilFunc] false 1) := by kernel_rfl
theorem ty150 : tyOf Tryd.prog 150 = some (Ty.mk TD.other 1 8 [Value.nilFunc] false 1) := by kernel_rfl
theorem ty151 : tyOf Tryd.prog 151 = some (Ty.mk (TD.sl 127) 1 24 [Value.slice none 0 0] false 1) := by kernel_rfl
theorem ty152 : tyOf Tryd.prog 152 = some (Ty.mk TD.other 1 8 [Value.nilFunc] false 1) := by kernel_rfl
theorem ty153 : tyOf Tryd.prog 153 = some (Ty.mk TD.other 1 8 [Value.nilFunc] false 1) := by kernel_rfl
theorem ty154 : tyOf Tryd.prog 154 = some (Ty.mk TD.other 1 8 [Value.nilFunc] false 1) := by kernel_rfl
theorem ty155 : tyOf Tryd.prog 155 = some (Ty.mk TD.other 1 8 [Value.nilFunc] false 1) := by kernel_rfl
theorem ty156 : tyOf Tryd.prog 156 = some (Ty.mk TD.other 1 8 [Value.nilFunc] false 1) := by kernel_rfl
theorem ty157 : tyOf Tryd.prog 157 = some (Ty.mk TD.other 1 8 [Value.nilFunc] false 1) := by kernel_rfl
theorem ty158 : tyOf Tryd.prog 158 = some (Ty.mk TD.other 1 8 [Value.nilFunc] false 1) := by kernel_rfl
theorem ty159 : tyOf Tryd.prog 159 = some (Ty.mk TD.other 1 8 [Value.nilFunc] false 1) := by kernel_rfl
theorem ty160 : tyOf Tryd.prog 160 = some (Ty.mk TD.other 1 8 [Value.nilFunc] false 1) := by kernel_rfl
theorem ty161 : tyOf Tryd.prog 161 = some (Ty.mk TD.other 1 8 [Value.nilFunc] false 1) := by kernel_rfl
theorem ty162 : tyOf Tryd.prog 162 = some (Ty.mk TD.other 1 0 [Value.tuple (#[Value.int IntKind.u64 (0), Value.int IntKind.u64 (0)])] false 1) := by kernel_rfl
theorem ty163 : tyOf Tryd.prog 163 = some (Ty.mk TD.other 1 8 [Value.nilFunc] false 1) := by kernel_rfl
theorem ty164 : tyOf Tryd.prog 164 = some (Ty.mk (TD.arr 64 5) 64 64 [Value.int IntKind.u8 (0), Value.int IntKind.u8 (0), Value.int IntKind.u8 (0), Value.int IntKind.u8 (0), Value.int IntKind.u8 (0), Value.int IntKind.u8 (0), Value.int IntKind.u8 (0), Value.int IntKind.u8 (0), Value.int IntKind.u8 (0), Value.int IntKind.u8 (0), Value.int IntKind.u8 (0), Value.int IntKind.u8 (0), Value.int IntKind.u8 (0), Value.int IntKind.u8 (0), Value.int IntKind.u8 (0), Value.int IntKind.u8 (0), Value.int IntKind.u8 (0), Value.int IntKind.u8 (0), Value.int IntKind.u8 (0), Value.int IntKind.u8 (0), Value.int IntKind.u8 (0), Value.int IntKind.u8 (0), Value.int IntKind.u8 (0), Value.int IntKind.u8 (0), Value.int IntKind.u8 (0), Value.int IntKind.u8 (0), Value.int IntKind.u8 (0), Value.int IntKind.u8 (0), Value.int IntKind.u8 (0), Value.int IntKind.u8 (0), Value.int IntKind.u8 (0), Value.int IntKind.u8 (0), Value.int IntKind.u8 (0), Value.int IntKind.u8 (0), Value.int IntKind.u8 (0), Value.int IntKind.u8 (0), Value.int IntKind.u8 (0), Value.int IntKind.u8 (0), Value.int IntKind.u8 (0), Value.int IntKind.u8 (0), Value.int IntKind.u8 (0), Value.int IntKind.u8 (0), Value.int IntKind.u8 (0), Value.int IntKind.u8 (0), Value.int IntKind.u8 (0), Value.int IntKind.u8 (0), Value.int IntKind.u8 (0), Value.int IntKind.u8 (0), Value.int IntKind.u8 (0), Value.int IntKind.u8 (0), Value.int IntKind.u8 (0), Value.int IntKind.u8 (0), Value.int IntKind.u8 (0), Value.int IntKind.u8 (0), Value.int IntKind.u8 (0), Value.int IntKind.u8 (0), Value.int IntKind.u8 (0), Value.int IntKind.u8 (0), Value.int IntKind.u8 (0), Value.int IntKind.u8 (0), Value.int IntKind.u8 (0), Value.int IntKind.u8 (0), Value.int IntKind.u8 (0), Value.int IntKind.u8 (0)] true 1) := by kernel_rfl
theorem ty165 : tyOf Tryd.prog 165 = some (Ty.mk TD.other 1 8 [Value.nilFunc] false 1) := by kernel_rfl
theorem ty166 : tyOf Tryd.prog 166 = some (Ty.mk (TD.st [(0, 1, 17), (1, 1, 17), (2, 1, 17), (3, 1, 9)]) 4 40 [Value.pointer none, Value.pointer none, Value.pointer none, Value.string (ByteArray.mk (#[]))] true 4) := by kernel_rfl
theorem ty167 : tyOf Tryd.prog 167 = some (Ty.mk (TD.st [(0, 1, 17), (1, 1, 17), (2, 1, 17), (3, 1, 9)]) 4 40 [Value.pointer none, Value.pointer none, Value.pointer none, Value.string (ByteArray.mk (#[]))] true 4) := by kernel_rfl
theorem ty168 : tyOf Tryd.prog 168 = some (Ty.mk (TD.arr 0 16) 0 0 [] true 1) := by kernel_rfl
theorem ty169 : tyOf Tryd.prog 169 = some (Ty.mk (TD.st [(0, 0, 168)]) 0 0 [] true 0) := by kernel_rfl
theorem ty170 : tyOf Tryd.prog 170 = some (Ty.mk (TD.st [(0, 0, 168)]) 0 0 [] true 0) := by kernel_rfl
theorem ty171 : tyOf Tryd.prog 171 = some (Ty.mk TD.other 1 8 [Value.nilFunc] false 1) := by kernel_rfl
theorem ty172 : tyOf Tryd.prog 172 = some (Ty.mk (TD.int IntKind.u8) 1 1 [Value.int IntKind.u8 (0)] false 1) := by kernel_rfl
theorem ty173 : tyOf Tryd.prog 173 = some (Ty.mk (TD.int IntKind.u8) 1 1 [Value.int IntKind.u8 (0)] false 1) := by kernel_rfl
theorem ty174 : tyOf Tryd.prog 174 = some (Ty.mk TD.other 1 8 [Value.nilFunc] false 1) := by kernel_rfl
theorem ty175 : tyOf Tryd.prog 175 = some (Ty.mk (TD.ptr 5) 1 8 [Value.pointer none] false 1) := by kernel_rfl
theorem ty176 : tyOf Tryd.prog 176 = some (Ty.mk (TD.int IntKind.i32) 1 4 [Value.int IntKind.i32 (0)] false 1) := by kernel_rfl
theorem ty177 : tyOf Tryd.prog 177 = some (Ty.mk (TD.int IntKind.i32) 1 4 [Value.int IntKind.i32 (0)] false 1) := by kernel_rfl
theorem ty178 : tyOf Tryd.prog 178 = some (Ty.mk (TD.st [(0, 1, 12), (1, 1, 12), (2, 1, 131), (3, 1, 172), (4, 1, 5), (5, 1, 5), (6, 1, 173), (7, 1, 174), (8, 1, 175), (9, 1, 176), (10, 1, 177)]) 11 48 [Value.int IntKind.u64 (0), Value.int IntKind.u64 (0), Value.int IntKind.u32 (0), Value.int IntKind.u8 (0), Value.int IntKind.u8 (0), Value.int IntKind.u8 (0), Value.int IntKind.u8 (0), Value.nilFunc, Value.pointer none, Value.int IntKind.i32 (0), Value.int IntKind.i32 (0)] true 11) := by kernel_rfl
theorem ty179 : tyOf Tryd.prog 179 = some (Ty.mk (TD.st [(0, 1, 12), (1, 1, 12), (2, 1, 131), (3, 1, 172), (4, 1, 5), (5, 1, 5), (6, 1, 173), (7, 1, 174), (8, 1, 175), (9, 1, 176), (10, 1, 177)]) 11 48 [Value.int IntKind.u64 (0), Value.int IntKind.u64 (0), Value.int IntKind.u32 (0), Value.int IntKind.u8 (0), Value.int IntKind.u8 (0), Value.int IntKind.u8 (0), Value.int IntKind.u8 (0), Value.nilFunc, Value.pointer none, Value.int IntKind.i32 (0), Value.int IntKind.i32 (0)] true 11) := by kernel_rfl
theorem ty180 : tyOf Tryd.prog 180 = some (Ty.mk TD.other 1 8 [Value.pointer none] false 1) := by kernel_rfl
theorem mixed : Tryd.prog.follows .mixedOrders = true := by kernel_rfl
set_option linter.defProp false in
/-- All of them. -/
def TY := And.intro @ty0 (And.intro @ty1 (And.intro @ty2 (And.intro @ty3 (And.intro @ty4 (And.intro @ty5 (And.intro @ty6 (And.intro @ty7 (And.intro @ty8 (And.intro @ty9 (And.intro @ty10 (And.intro @ty11 (And.intro @ty12 (And.intro @ty13 (And.intro @ty14 (And.intro @ty15 (And.intro @ty16 (And.intro @ty17 (And.intro @ty18 (And.intro @ty19 (And.intro @ty20 (And.intro @ty21 (And.intro @ty22 (And.intro @ty23 (And.intro @ty24 (And.intro @ty25 (And.intro @ty26 (And.intro @ty27 (And.intro @ty28 (And.intro @ty29 (And.intro @ty30 (And.intro @ty31 (And.intro @ty32 (And.intro @ty33 (And.intro @ty34 (And.intro @ty35 (And.intro @ty36 (And.intro @ty37 (And.intro @ty38 (And.intro @ty39 (And.intro @ty40 (And.intro @ty41 (And.intro @ty42 (And.intro @ty43 (And.intro @ty44 (And.intro @ty45 (And.intro @ty46 (And.intro @ty47 (And.intro @ty48 (And.intro @ty49 (And.intro @ty50 (And.intro @ty51 (And.intro @ty52 (And.intro @ty53 (And.intro @ty54 (And.intro @ty55 (And.intro @ty56 (And.intro @ty57 (And.intro @ty58 (And.intro @ty59 (And.intro @ty60 (And.intro @ty61 (And.intro @ty62 (And.intro @ty63 (And.intro @ty64 (And.intro @ty65 (And.intro @ty66 (And.intro @ty67 (And.intro @ty68 (And.intro @ty69 (And.intro @ty70 (And.intro @ty71 (And.intro @ty72 (And.intro @ty73 (And.intro @ty74 (And.intro @ty75 (And.intro @ty76 (And.intro @ty77 (And.intro @ty78 (And.intro @ty79 (And.intro @ty80 (And.intro @ty81 (And.intro @ty82 (And.intro @ty83 (And.intro @ty84 (And.intro @ty85 (And.intro @ty86 (And.intro @ty87 (And.intro @ty88 (And.intro @ty89 (And.intro @ty90 (And.intro @ty91 (And.intro @ty92 (And.intro @ty93 (And.intro @ty94 (And.intro @ty95 (And.intro @ty96 (And.intro @ty97 (And.intro @ty98 (And.intro @ty99 (And.intro @ty100 (And.intro @ty101 (And.intro @ty102 (And.intro @ty103 (And.intro @ty104 (And.intro @ty105 (And.intro @ty106 (And.intro @ty107 (And.intro @ty108 (And.intro @ty109 (And.intro @ty110 (And.intro @ty111 (And.intro @ty112 (And.intro @ty113 (And.intro @ty114 (And.intro @ty115 (And.intro @ty116 (And.intro @ty117 (And.intro @ty118 (And.intro @ty119 (And.intro @ty120 (And.intro @ty121 (And.intro @ty122 (And.intro @ty123 (And.intro @ty124 (And.intro @ty125 (And.intro @ty126 (And.intro @ty127 (And.intro @ty128 (And.intro @ty129 (And.intro @ty130 (And.intro @ty131 (And.intro @ty132 (And.intro @ty133 (And.intro @ty134 (And.intro @ty135 (And.intro @ty136 (And.intro @ty137 (And.intro @ty138 (And.intro @ty139 (And.intro @ty140 (And.intro @ty141 (And.intro @ty142 (And.intro @ty143 (And.intro @ty144 (And.intro @ty145 (And.intro @ty146 (And.intro @ty147 (And.intro @ty148 (And.intro @ty149 (And.intro @ty150 (And.intro @ty151 (And.intro @ty152 (And.intro @ty153 (And.intro @ty154 (And.intro @ty155 (And.intro @ty156 (And.intro @ty157 (And.intro @ty158 (And.intro @ty159 (And.intro @ty160 (And.intro @ty161 (And.intro @ty162 (And.intro @ty163 (And.intro @ty164 (And.intro @ty165 (And.intro @ty166 (And.intro @ty167 (And.intro @ty168 (And.intro @ty169 (And.intro @ty170 (And.intro @ty171 (And.intro @ty172 (And.intro @ty173 (And.intro @ty174 (And.intro @ty175 (And.intro @ty176 (And.intro @ty177 (And.intro @ty178 (And.intro @ty179 (@ty180))))))))))))))))))))))))))))))))))))))))))))))))))))))))))))))))))))))))))))))))))))))))))))))))))))))))))))))))))))))))))))))))))))))))))))))))))))))))))))))))))))))))))))))))))))
end Go.Proofs.YtjkimjmocfjjnaaDoor.Ab
