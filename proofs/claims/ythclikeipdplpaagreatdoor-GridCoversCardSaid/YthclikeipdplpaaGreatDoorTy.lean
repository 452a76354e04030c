/- The types of this seat's translation, as the abstract machine asks them. -/
import Derived.Test.YthclikeipdplpaaGreatDoorAb3
import Derived.Test.YthclikeipdplpaaGreatDoorProg
import Derived.KernelRfl
namespace Go.Proofs.YthclikeipdplpaaGreatDoor.Ab
open Go.RowKit
set_option maxRecDepth 100000
theorem ty0 : tyOf Tryz.prog 0 = some (Ty.mk TD.other 1 0 [Value.tuple (#[])] false 1) := by kernel_rfl
theorem ty1 : tyOf Tryz.prog 1 = some (Ty.mk TD.other 1 8 [Value.nilFunc] false 1) := by kernel_rfl
theorem ty2 : tyOf Tryz.prog 2 = some (Ty.mk (TD.int IntKind.i64) 1 8 [Value.int IntKind.i64 (0)] false 1) := by kernel_rfl
theorem ty3 : tyOf Tryz.prog 3 = some (Ty.mk (TD.int IntKind.i64) 1 8 [Value.int IntKind.i64 (0)] false 1) := by kernel_rfl
theorem ty4 : tyOf Tryz.prog 4 = some (Ty.mk TD.bool 1 1 [Value.bool false] false 1) := by kernel_rfl
theorem ty5 : tyOf Tryz.prog 5 = some (Ty.mk (TD.int IntKind.u8) 1 1 [Value.int IntKind.u8 (0)] false 1) := by kernel_rfl
theorem ty6 : tyOf Tryz.prog 6 = some (Ty.mk (TD.int IntKind.u8) 1 1 [Value.int IntKind.u8 (0)] false 1) := by kernel_rfl
theorem ty7 : tyOf Tryz.prog 7 = some (Ty.mk (TD.st [(0, 1, 2), (1, 1, 3), (2, 1, 4), (3, 1, 6)]) 4 24 [Value.int IntKind.i64 (0), Value.int IntKind.i64 (0), Value.bool false, Value.int IntKind.u8 (0)] true 4) := by kernel_rfl
theorem ty8 : tyOf Tryz.prog 8 = some (Ty.mk (TD.st [(0, 1, 2), (1, 1, 3), (2, 1, 4), (3, 1, 6)]) 4 24 [Value.int IntKind.i64 (0), Value.int IntKind.i64 (0), Value.bool false, Value.int IntKind.u8 (0)] true 4) := by kernel_rfl
theorem ty9 : tyOf Tryz.prog 9 = some (Ty.mk TD.str 1 16 [Value.string (ByteArray.mk (#[]))] false 1) := by kernel_rfl
theorem ty10 : tyOf Tryz.prog 10 = some (Ty.mk TD.str 1 16 [Value.string (ByteArray.mk (#[]))] false 1) := by kernel_rfl
theorem ty11 : tyOf Tryz.prog 11 = some (Ty.mk TD.str 1 16 [Value.string (ByteArray.mk (#[]))] false 1) := by kernel_rfl
theorem ty12 : tyOf Tryz.prog 12 = some (Ty.mk (TD.int IntKind.u64) 1 8 [Value.int IntKind.u64 (0)] false 1) := by kernel_rfl
theorem ty13 : tyOf Tryz.prog 13 = some (Ty.mk (TD.st [(0, 1, 9), (1, 1, 12)]) 2 24 [Value.string (ByteArray.mk (#[])), Value.int IntKind.u64 (0)] true 2) := by kernel_rfl
theorem ty14 : tyOf Tryz.prog 14 = some (Ty.mk (TD.st [(0, 1, 9), (1, 1, 12)]) 2 24 [Value.string (ByteArray.mk (#[])), Value.int IntKind.u64 (0)] true 2) := by kernel_rfl
theorem ty15 : tyOf Tryz.prog 15 = some (Ty.mk (TD.ptr 195) 1 8 [Value.pointer none] false 1) := by kernel_rfl
theorem ty16 : tyOf Tryz.prog 16 = some (Ty.mk (TD.ptr 198) 1 8 [Value.pointer none] false 1) := by kernel_rfl
theorem ty17 : tyOf Tryz.prog 17 = some (Ty.mk (TD.ptr 207) 1 8 [Value.pointer none] false 1) := by kernel_rfl
theorem ty18 : tyOf Tryz.prog 18 = some (Ty.mk (TD.st [(0, 1, 17)]) 1 8 [Value.pointer none] true 1) := by kernel_rfl
theorem ty19 : tyOf Tryz.prog 19 = some (Ty.mk (TD.st [(0, 1, 17)]) 1 8 [Value.pointer none] true 1) := by kernel_rfl
theorem ty20 : tyOf Tryz.prog 20 = some (Ty.mk TD.other 1 16 [Value.nilIface] false 1) := by kernel_rfl
theorem ty21 : tyOf Tryz.prog 21 = some (Ty.mk (TD.int IntKind.i32) 1 4 [Value.int IntKind.i32 (0)] false 1) := by kernel_rfl
theorem ty22 : tyOf Tryz.prog 22 = some (Ty.mk TD.other 1 8 [Value.nilFunc] false 1) := by kernel_rfl
theorem ty23 : tyOf Tryz.prog 23 = some (Ty.mk (TD.st [(0, 1, 4), (1, 1, 9), (2, 1, 9)]) 3 40 [Value.bool false, Value.string (ByteArray.mk (#[])), Value.string (ByteArray.mk (#[]))] true 3) := by kernel_rfl
theorem ty24 : tyOf Tryz.prog 24 = some (Ty.mk (TD.st [(0, 1, 4), (1, 1, 9), (2, 1, 9)]) 3 40 [Value.bool false, Value.string (ByteArray.mk (#[])), Value.string (ByteArray.mk (#[]))] true 3) := by kernel_rfl
theorem ty25 : tyOf Tryz.prog 25 = some (Ty.mk (TD.st [(0, 3, 24), (3, 3, 24)]) 6 80 [Value.bool false, Value.string (ByteArray.mk (#[])), Value.string (ByteArray.mk (#[])), Value.bool false, Value.string (ByteArray.mk (#[])), Value.string (ByteArray.mk (#[]))] true 6) := by kernel_rfl
theorem ty26 : tyOf Tryz.prog 26 = some (Ty.mk (TD.st [(0, 3, 24), (3, 3, 24)]) 6 80 [Value.bool false, Value.string (ByteArray.mk (#[])), Value.string (ByteArray.mk (#[])), Value.bool false, Value.string (ByteArray.mk (#[])), Value.string (ByteArray.mk (#[]))] true 6) := by kernel_rfl
theorem ty27 : tyOf Tryz.prog 27 = some (Ty.mk (TD.st [(0, 6, 26), (6, 6, 26)]) 12 160 [Value.bool false, Value.string (ByteArray.mk (#[])), Value.string (ByteArray.mk (#[])), Value.bool false, Value.string (ByteArray.mk (#[])), Value.string (ByteArray.mk (#[])), Value.bool false, Value.string (ByteArray.mk (#[])), Value.string (ByteArray.mk (#[])), Value.bool false, Value.string (ByteArray.mk (#[])), Value.string (ByteArray.mk (#[]))] true 12) := by kernel_rfl
theorem ty28 : tyOf Tryz.prog 28 = some (Ty.mk (TD.st [(0, 6, 26), (6, 6, 26)]) 12 160 [Value.bool false, Value.string (ByteArray.mk (#[])), Value.string (ByteArray.mk (#[])), Value.bool false, Value.string (ByteArray.mk (#[])), Value.string (ByteArray.mk (#[])), Value.bool false, Value.string (ByteArray.mk (#[])), Value.string (ByteArray.mk (#[])), Value.bool false, Value.string (ByteArray.mk (#[])), Value.string (ByteArray.mk (#[]))] true 12) := by kernel_rfl
theorem ty29 : tyOf Tryz.prog 29 = some (Ty.mk TD.other 1 8 [Value.nilFunc] false 1) := by kernel_rfl
theorem ty30 : tyOf Tryz.prog 30 = some (Ty.mk (TD.sl 36) 1 24 [Value.slice none 0 0] false 1) := by kernel_rfl
theorem ty31 : tyOf Tryz.prog 31 = some (Ty.mk (TD.int IntKind.i64) 1 8 [Value.int IntKind.i64 (0)] false 1) := by kernel_rfl
theorem ty32 : tyOf Tryz.prog 32 = some (Ty.mk TD.other 1 0 [Value.tuple (#[Value.slice none 0 0, Value.int IntKind.i64 (0)])] false 1) := by kernel_rfl
theorem ty33 : tyOf Tryz.prog 33 = some (Ty.mk TD.other 1 8 [Value.nilFunc] false 1) := by kernel_rfl
theorem ty34 : tyOf Tryz.prog 34 = some (Ty.mk TD.other 1 8 [Value.nilFunc] false 1) := by kernel_rfl
theorem ty35 : tyOf Tryz.prog 35 = some (Ty.mk (TD.st [(0, 1, 3), (1, 1, 3)]) 2 16 [Value.int IntKind.i64 (0), Value.int IntKind.i64 (0)] true 2) := by kernel_rfl
theorem ty36 : tyOf Tryz.prog 36 = some (Ty.mk (TD.st [(0, 1, 3), (1, 1, 3)]) 2 16 [Value.int IntKind.i64 (0), Value.int IntKind.i64 (0)] true 2) := by kernel_rfl
theorem ty37 : tyOf Tryz.prog 37 = some (Ty.mk TD.other 1 8 [Value.nilFunc] false 1) := by kernel_rfl
theorem ty38 : tyOf Tryz.prog 38 = some (Ty.mk TD.other 1 8 [Value.nilFunc] false 1) := by kernel_rfl
theorem ty39 : tyOf Tryz.prog 39 = some (Ty.mk TD.other 1 8 [Value.nilFunc] false 1) := by kernel_rfl
theorem ty40 : tyOf Tryz.prog 40 = some (Ty.mk (TD.st [(0, 3, 24), (3, 3, 24)]) 6 80 [Value.bool false, Value.string (ByteArray.mk (#[])), Value.string (ByteArray.mk (#[])), Value.bool false, Value.string (ByteArray.mk (#[])), Value.string (ByteArray.mk (#[]))] true 6) := by kernel_rfl
theorem ty41 : tyOf Tryz.prog 41 = some (Ty.mk (TD.st [(0, 3, 24), (3, 3, 24)]) 6 80 [Value.bool false, Value.string (ByteArray.mk (#[])), Value.string (ByteArray.mk (#[])), Value.bool false, Value.string (ByteArray.mk (#[])), Value.string (ByteArray.mk (#[]))] true 6) := by kernel_rfl
theorem ty42 : tyOf Tryz.prog 42 = some (Ty.mk TD.other 1 0 [Value.tuple (#[Value.int IntKind.i64 (0), Value.int IntKind.i64 (0)])] false 1) := by kernel_rfl
theorem ty43 : tyOf Tryz.prog 43 = some (Ty.mk TD.other 1 8 [Value.nilFunc] false 1) := by kernel_rfl
theorem ty44 : tyOf Tryz.prog 44 = some (Ty.mk TD.other 1 8 [Value.nilFunc] false 1) := by kernel_rfl
theorem ty45 : tyOf Tryz.prog 45 = some (Ty.mk TD.other 1 8 [Value.nilFunc] false 1) := by kernel_rfl
theorem ty46 : tyOf Tryz.prog 46 = some (Ty.mk TD.other 1 8 [Value.nilFunc] false 1) := by kernel_rfl
theorem ty47 : tyOf Tryz.prog 47 = some (Ty.mk (TD.sl 3) 1 24 [Value.slice none 0 0] false 1) := by kernel_rfl
theorem ty48 : tyOf Tryz.prog 48 = some (Ty.mk TD.other 1 8 [Value.nilFunc] false 1) := by kernel_rfl
theorem ty49 : tyOf Tryz.prog 49 = some (Ty.mk TD.other 1 8 [Value.nilFunc] false 1) := by kernel_rfl
theorem ty50 : tyOf Tryz.prog 50 = some (Ty.mk TD.other 1 8 [Value.nilFunc] false 1) := by kernel_rfl
theorem ty51 : tyOf Tryz.prog 51 = some (Ty.mk (TD.sl 26) 1 24 [Value.slice none 0 0] false 1) := by kernel_rfl
theorem ty52 : tyOf Tryz.prog 52 = some (Ty.mk TD.other 1 8 [Value.nilFunc] false 1) := by kernel_rfl
theorem ty53 : tyOf Tryz.prog 53 = some (Ty.mk TD.other 1 8 [Value.nilFunc] false 1) := by kernel_rfl
theorem ty54 : tyOf Tryz.prog 54 = some (Ty.mk TD.other 1 8 [Value.nilFunc] false 1) := by kernel_rfl
theorem ty55 : tyOf Tryz.prog 55 = some (Ty.mk TD.other 1 8 [Value.nilFunc] false 1) := by kernel_rfl
theorem ty56 : tyOf Tryz.prog 56 = some (Ty.mk TD.other 1 8 [Value.nilFunc] false 1) := by kernel_rfl
theorem ty57 : tyOf Tryz.prog 57 = some (Ty.mk TD.other 1 0 [Value.tuple (#[Value.slice none 0 0, Value.int IntKind.i64 (0)])] false 1) := by kernel_rfl
theorem ty58 : tyOf Tryz.prog 58 = some (Ty.mk TD.other 1 8 [Value.nilFunc] false 1) := by kernel_rfl
theorem ty59 : tyOf Tryz.prog 59 = some (Ty.mk TD.other 1 8 [Value.nilFunc] false 1) := by kernel_rfl
theorem ty60 : tyOf Tryz.prog 60 = some (Ty.mk TD.other 1 8 [Value.nilFunc] false 1) := by kernel_rfl
theorem ty61 : tyOf Tryz.prog 61 = some (Ty.mk TD.other 1 8 [Value.nilFunc] false 1) := by kernel_rfl
theorem ty62 : tyOf Tryz.prog 62 = some (Ty.mk TD.other 1 8 [Value.nilFunc] false 1) := by kernel_rfl
theorem ty63 : tyOf Tryz.prog 63 = some (Ty.mk TD.other 1 8 [Value.nilFunc] false 1) := by kernel_rfl
theorem ty64 : tyOf Tryz.prog 64 = some (Ty.mk TD.other 1 8 [Value.nilFunc] false 1) := by kernel_rfl
theorem ty65 : tyOf Tryz.prog 65 = some (Ty.mk TD.other 1 8 [Value.nilFunc] false 1) := by kernel_rfl
theorem ty66 : tyOf Tryz.prog 66 = some (Ty.mk TD.other 1 0 [Value.tuple (Array.mk [Value.agg (Array.mk [Value.bool false, Value.string (ByteArray.mk (#[])), Value.string (ByteArray.mk (#[]))]), Value.int IntKind.i64 (0)])] false 1) := by kernel_rfl
theorem ty67 : tyOf Tryz.prog 67 = some (Ty.mk TD.other 1 8 [Value.nilFunc] false 1) := by kernel_rfl
theorem ty68 : tyOf Tryz.prog 68 = some (Ty.mk TD.other 1 8 [Value.nilFunc] false 1) := by kernel_rfl
theorem ty69 : tyOf Tryz.prog 69 = some (Ty.mk TD.other 1 8 [Value.nilFunc] false 1) := by kernel_rfl
theorem ty70 : tyOf Tryz.prog 70 = some (Ty.mk TD.other 1 0 [Value.tuple (#[Value.int IntKind.i64 (0), Value.int IntKind.i64 (0), Value.bool false])] false 1) := by kernel_rfl
theorem ty71 : tyOf Tryz.prog 71 = some (Ty.mk TD.other 1 8 [Value.nilFunc] false 1) := by kernel_rfl
theorem ty72 : tyOf Tryz.prog 72 = some (Ty.mk TD.other 1 8 [Value.nilFunc] false 1) := by kernel_rfl
theorem ty73 : tyOf Tryz.prog 73 = some (Ty.mk TD.other 1 8 [Value.nilFunc] false 1) := by kernel_rfl
theorem ty74 : tyOf Tryz.prog 74 = some (Ty.mk TD.other 1 8 [Value.nilFunc] false 1) := by kernel_rfl
theorem ty75 : tyOf Tryz.prog 75 = some (Ty.mk TD.other 1 8 [Value.nilFunc] false 1) := by kernel_rfl
theorem ty76 : tyOf Tryz.prog 76 = some (Ty.mk TD.other 1 8 [Value.nilFunc] false 1) := by kernel_rfl
theorem ty77 : tyOf Tryz.prog 77 = some (Ty.mk TD.other 1 8 [Value.nilFunc] false 1) := by kernel_rfl
theorem ty78 : tyOf Tryz.prog 78 = some (Ty.mk TD.other 1 8 [Value.nilFunc] false 1) := by kernel_rfl
theorem ty79 : tyOf Tryz.prog 79 = some (Ty.mk TD.other 1 8 [Value.nilFunc] false 1) := by kernel_rfl
theorem ty80 : tyOf Tryz.prog 80 = some (Ty.mk TD.other 1 8 [Value.nilFunc] false 1) := by kernel_rfl
theorem ty81 : tyOf Tryz.prog 81 = some (Ty.mk TD.other 1 8 [Value.nilFunc] false 1) := by kernel_rfl
theorem ty82 : tyOf Tryz.prog 82 = some (Ty.mk (TD.ptr 84) 1 8 [Value.pointer none] false 1) := by kernel_rfl
theorem ty83 : tyOf Tryz.prog 83 = some (Ty.mk (TD.st [(0, 1, 47)]) 1 24 [Value.slice none 0 0] true 1) := by kernel_rfl
theorem ty84 : tyOf Tryz.prog 84 = some (Ty.mk (TD.st [(0, 1, 47)]) 1 24 [Value.slice none 0 0] true 1) := by kernel_rfl
theorem ty85 : tyOf Tryz.prog 85 = some (Ty.mk TD.other 1 8 [Value.nilFunc] false 1) := by kernel_rfl
theorem ty86 : tyOf Tryz.prog 86 = some (Ty.mk TD.other 1 8 [Value.nilFunc] false 1) := by kernel_rfl
theorem ty87 : tyOf Tryz.prog 87 = some (Ty.mk TD.other 1 8 [Value.nilFunc] false 1) := by kernel_rfl
theorem ty88 : tyOf Tryz.prog 88 = some (Ty.mk TD.other 1 8 [Value.nilFunc] false 1) := by kernel_rfl
theorem ty89 : tyOf Tryz.prog 89 = some (Ty.mk TD.other 1 8 [Value.nilFunc] false 1) := by kernel_rfl
theorem ty90 : tyOf Tryz.prog 90 = some (Ty.mk TD.other 1 8 [Value.nilFunc] false 1) := by kernel_rfl
theorem ty91 : tyOf Tryz.prog 91 = some (Ty.mk TD.other 1 8 [Value.nilFunc] false 1) := by kernel_rfl
theorem ty92 : tyOf Tryz.prog 92 = some (Ty.mk TD.other 1 8 [Value.nilFunc] false 1) := by kernel_rfl
theorem ty93 : tyOf Tryz.prog 93 = some (Ty.mk TD.other 1 8 [Value.nilFunc] false 1) := by kernel_rfl
theorem ty94 : tyOf Tryz.prog 94 = some (Ty.mk TD.other 1 8 [Value.nilFunc] false 1) := by kernel_rfl
theorem ty95 : tyOf Tryz.prog 95 = some (Ty.mk TD.other 1 8 [Value.nilFunc] false 1) := by kernel_rfl
theorem ty96 : tyOf Tryz.prog 96 = some (Ty.mk TD.other 1 8 [Value.nilFunc] false 1) := by kernel_rfl
theorem ty97 : tyOf Tryz.prog 97 = some (Ty.mk TD.other 1 8 [Value.nilFunc] false 1) := by kernel_rfl
theorem ty98 : tyOf Tryz.prog 98 = some (Ty.mk TD.other 1 8 [Value.nilFunc] false 1) := by kernel_rfl
theorem ty99 : tyOf Tryz.prog 99 = some (Ty.mk TD.other 1 8 [Value.nilFunc] false 1) := by kernel_rfl
theorem ty100 : tyOf Tryz.prog 100 = some (Ty.mk TD.other 1 8 [Value.nilFunc] false 1) := by kernel_rfl
theorem ty101 : tyOf Tryz.prog 101 = some (Ty.mk TD.other 1 8 [Value.nilFunc] false 1) := by kernel_rfl
theorem ty102 : tyOf Tryz.prog 102 = some (Ty.mk TD.other 1 0 [Value.tuple (#[Value.bool false, Value.int IntKind.i64 (0)])] false 1) := by kernel_rfl
theorem ty103 : tyOf Tryz.prog 103 = some (Ty.mk TD.other 1 8 [Value.nilFunc] false 1) := by kernel_rfl
theorem ty104 : tyOf Tryz.prog 104 = some (Ty.mk TD.other 1 8 [Value.nilFunc] false 1) := by kernel_rfl
theorem ty105 : tyOf Tryz.prog 105 = some (Ty.mk TD.other 1 8 [Value.nilFunc] false 1) := by kernel_rfl
theorem ty106 : tyOf Tryz.prog 106 = some (Ty.mk TD.other 1 0 [Value.tuple (Array.mk [Value.bool false, Value.string (ByteArray.mk (#[]))])] false 1) := by kernel_rfl
theorem ty107 : tyOf Tryz.prog 107 = some (Ty.mk TD.other 1 8 [Value.nilFunc] false 1) := by kernel_rfl
theorem ty108 : tyOf Tryz.prog 108 = some (Ty.mk TD.other 1 0 [Value.tuple (Array.mk [Value.string (ByteArray.mk (#[])), Value.string (ByteArray.mk (#[])), Value.int IntKind.i64 (0)])] false 1) := by kernel_rfl
theorem ty109 : tyOf Tryz.prog 109 = some (Ty.mk TD.other 1 8 [Value.nilFunc] false 1) := by kernel_rfl
theorem ty110 : tyOf Tryz.prog 110 = some (Ty.mk TD.other 1 8 [Value.nilFunc] false 1) := by kernel_rfl
theorem ty111 : tyOf Tryz.prog 111 = some (Ty.mk TD.other 1 8 [Value.nilFunc] false 1) := by kernel_rfl
theorem ty112 : tyOf Tryz.prog 112 = some (Ty.mk TD.other 1 8 [Value.nilFunc] false 1) := by kernel_rfl
theorem ty113 : tyOf Tryz.prog 113 = some (Ty.mk (TD.int IntKind.u64) 1 8 [Value.int IntKind.u64 (0)] false 1) := by kernel_rfl
theorem ty114 : tyOf Tryz.prog 114 = some (Ty.mk TD.other 1 8 [Value.nilFunc] false 1) := by kernel_rfl
theorem ty115 : tyOf Tryz.prog 115 = some (Ty.mk TD.other 1 8 [Value.nilFunc] false 1) := by kernel_rfl
theorem ty116 : tyOf Tryz.prog 116 = some (Ty.mk TD.other 1 8 [Value.nilFunc] false 1) := by kernel_rfl
theorem ty117 : tyOf Tryz.prog 117 = some (Ty.mk (TD.sl 30) 1 24 [Value.slice none 0 0] false 1) := by kernel_rfl
theorem ty118 : tyOf Tryz.prog 118 = some (Ty.mk TD.other 1 8 [Value.nilFunc] false 1) := by kernel_rfl
theorem ty119 : tyOf Tryz.prog 119 = some (Ty.mk TD.other 1 8 [Value.nilFunc] false 1) := by kernel_rfl
theorem ty120 : tyOf Tryz.prog 120 = some (Ty.mk TD.other 1 8 [Value.nilFunc] false 1) := by kernel_rfl
theorem ty121 : tyOf Tryz.prog 121 = some (Ty.mk TD.other 1 0 [Value.tuple (#[Value.int IntKind.i64 (0), Value.bool false])] false 1) := by kernel_rfl
theorem ty122 : tyOf Tryz.prog 122 = some (Ty.mk TD.other 1 8 [Value.nilFunc] false 1) := by kernel_rfl
theorem ty123 : tyOf Tryz.prog 123 = some (Ty.mk TD.other 1 8 [Value.nilFunc] false 1) := by kernel_rfl
theorem ty124 : tyOf Tryz.prog 124 = some (Ty.mk TD.other 1 8 [Value.nilFunc] false 1) := by kernel_rfl
theorem ty125 : tyOf Tryz.prog 125 = some (Ty.mk TD.other 1 8 [Value.nilFunc] false 1) := by kernel_rfl
theorem ty126 : tyOf Tryz.prog 126 = some (Ty.mk (TD.int IntKind.u64) 1 8 [Value.int IntKind.u64 (0)] false 1) := by kernel_rfl
theorem ty127 : tyOf Tryz.prog 127 = some (Ty.mk TD.other 1 8 [Value.nilFunc] false 1) := by kernel_rfl
theorem ty128 : tyOf Tryz.prog 128 = some (Ty.mk TD.other 1 8 [Value.nilFunc] false 1) := by kernel_rfl
theorem ty129 : tyOf Tryz.prog 129 = some (Ty.mk (TD.sl 131) 1 24 [Value.slice none 0 0] false 1) := by kernel_rfl
theorem ty130 : tyOf Tryz.prog 130 = some (Ty.mk TD.other 1 8 [Value.nilFunc] false 1) := by kernel_rfl
theorem ty131 : tyOf Tryz.prog 131 = some (Ty.mk (TD.int IntKind.u32) 1 4 [Value.int IntKind.u32 (0)] false 1) := by kernel_rfl
theorem ty132 : tyOf Tryz.prog 132 = some (Ty.mk TD.other 1 8 [Value.nilFunc] false 1) := by kernel_rfl
theorem ty133 : tyOf Tryz.prog 133 = some (Ty.mk TD.other 1 8 [Value.nilFunc] false 1) := by kernel_rfl
theorem ty134 : tyOf Tryz.prog 134 = some (Ty.mk TD.other 1 0 [Value.tuple (Array.mk [Value.agg (Array.mk [Value.bool false, Value.string (ByteArray.mk (#[])), Value.string (ByteArray.mk (#[])), Value.bool false, Value.string (ByteArray.mk (#[])), Value.string (ByteArray.mk (#[]))]), Value.bool false])] false 1) := by kernel_rfl
theorem ty135 : tyOf Tryz.prog 135 = some (Ty.mk TD.other 1 8 [Value.nilFunc] false 1) := by kernel_rfl
theorem ty136 : tyOf Tryz.prog 136 = some (Ty.mk TD.other 1 8 [Value.nilFunc] false 1) := by kernel_rfl
theorem ty137 : tyOf Tryz.prog 137 = some (Ty.mk TD.other 1 0 [Value.tuple (Array.mk [Value.string (ByteArray.mk (#[])), Value.int IntKind.i64 (0)])] false 1) := by kernel_rfl
theorem ty138 : tyOf Tryz.prog 138 = some (Ty.mk TD.other 1 8 [Value.nilFunc] false 1) := by kernel_rfl
theorem ty139 : tyOf Tryz.prog 139 = some (Ty.mk TD.other 1 0 [Value.tuple (#[Value.slice none 0 0, Value.slice none 0 0])] false 1) := by kernel_rfl
theorem ty140 : tyOf Tryz.prog 140 = some (Ty.mk TD.other 1 8 [Value.nilFunc] false 1) := by kernel_rfl
theorem ty141 : tyOf Tryz.prog 141 = some (Ty.mk TD.other 1 8 [Value.nilFunc] false 1) := by kernel_rfl
theorem ty142 : tyOf Tryz.prog 142 = some (Ty.mk TD.other 1 8 [Value.nilFunc] false 1) := by kernel_rfl
theorem ty143 : tyOf Tryz.prog 143 = some (Ty.mk (TD.st [(0, 1, 4), (1, 3, 24)]) 4 48 [Value.bool false, Value.bool false, Value.string (ByteArray.mk (#[])), Value.string (ByteArray.mk (#[]))] true 4) := by kernel_rfl
theorem ty144 : tyOf Tryz.prog 144 = some (Ty.mk (TD.st [(0, 1, 4), (1, 3, 24)]) 4 48 [Value.bool false, Value.bool false, Value.string (ByteArray.mk (#[])), Value.string (ByteArray.mk (#[]))] true 4) := by kernel_rfl
theorem ty145 : tyOf Tryz.prog 145 = some (Ty.mk TD.other 1 8 [Value.nilFunc] false 1) := by kernel_rfl
theorem ty146 : tyOf Tryz.prog 146 = some (Ty.mk TD.other 1 8 [Value.nilFunc] false 1) := by kernel_rfl
theorem ty147 : tyOf Tryz.prog 147 = some (Ty.mk TD.other 1 8 [Value.nilFunc] false 1) := by kernel_rfl
theorem ty148 : tyOf Tryz.prog 148 = some (Ty.mk (TD.int IntKind.i64) 1 8 [Value.int IntKind.i64 (0)] false 1) := by kernel_rfl
theorem ty149 : tyOf Tryz.prog 149 = some (Ty.mk TD.other 1 0 [Value.tuple (#[Value.int IntKind.i64 (0), Value.int IntKind.i64 (0)])] false 1) := by kernel_rfl
theorem ty150 : tyOf Tryz.prog 150 = some (Ty.mk TD.other 1 8 [Value.nilFunc] false 1) := by kernel_rfl
theorem ty151 : tyOf Tryz.prog 151 = some (Ty.mk TD.other 1 8 [Value.nilFunc] false 1) := by kernel_rfl
theorem ty152 : tyOf Tryz.prog 152 = some (Ty.mk TD.other 1 8 [Value.nilFunc] false 1) := by kernel_rfl
theorem ty153 : tyOf Tryz.prog 153 = some (Ty.mk TD.other 1 8 [Value.nilFunc] false 1) := by kernel_rfl
theorem ty154 : tyOf Tryz.prog 154 = some (Ty.mk TD.other 1 8 [Value.nilFunc] false 1) := by kernel_rfl
theorem ty155 : tyOf Tryz.prog 155 = some (Ty.mk TD.other 1 8 [Value.nilFunc] false 1) := by kernel_rfl
theorem ty156 : tyOf Tryz.prog 156 = some (Ty.mk TD.other 1 8 [Value.nilFunc] false 1) := by kernel_rfl
theorem ty157 : tyOf Tryz.prog 157 = some (Ty.mk (TD.arr 8 5) 8 8 [Value.int IntKind.u8 (0), Value.int IntKind.u8 (0), Value.int IntKind.u8 (0), Value.int IntKind.u8 (0), Value.int IntKind.u8 (0), Value.int IntKind.u8 (0), Value.int IntKind.u8 (0), Value.int IntKind.u8 (0)] true 1) := by kernel_rfl
theorem ty158 : tyOf Tryz.prog 158 = some (Ty.mk (TD.sl 5) 1 24 [Value.slice none 0 0] false 1) := by kernel_rfl
theorem ty159 : tyOf Tryz.prog 159 = some (Ty.mk TD.other 1 8 [Value.nilFunc] false 1) := by kernel_rfl
theorem ty160 : tyOf Tryz.prog 160 = some (Ty.mk TD.other 1 8 [Value.nilFunc] false 1) := by kernel_rfl
theorem ty161 : tyOf Tryz.prog 161 = some (Ty.mk TD.other 1 8 [Value.nilFunc] false 1) := by kernel_rfl
theorem ty162 : tyOf Tryz.prog 162 = some (Ty.mk TD.other 1 8 [Value.nilFunc] false 1) := by kernel_rfl
theorem ty163 : tyOf Tryz.prog 163 = some (Ty.mk TD.other 1 8 [Value.nilFunc] false 1) := by kernel_rfl
theorem ty164 : tyOf Tryz.prog 164 = some (Ty.mk TD.other 1 8 [Value.nilFunc] false 1) := by kernel_rfl
theorem ty165 : tyOf Tryz.prog 165 = some (Ty.mk TD.other 1 8 [Value.nilFunc] false 1) := by kernel_rfl
theorem ty166 : tyOf Tryz.prog 166 = some (Ty.mk TD.other 1 8 [Value.nilFunc] false 1) := by kernel_rfl
theorem ty167 : tyOf Tryz.prog 167 = some (Ty.mk TD.other 1 8 [Value.nilFunc] false 1) := by kernel_rfl
theorem ty168 : tyOf Tryz.prog 168 = some (Ty.mk TD.other 1 8 [Value.nilFunc] false 1) := by kernel_rfl
theorem ty169 : tyOf Tryz.prog 169 = some (Ty.mk (TD.int IntKind.u64) 1 8 [Value.int IntKind.u64 (0)] false 1) := by kernel_rfl
theorem ty170 : tyOf Tryz.prog 170 = some (Ty.mk TD.other 1 8 [Value.nilFunc] false 1) := by kernel_rfl
theorem ty171 : tyOf Tryz.prog 171 = some (Ty.mk TD.other 1 8 [Value.nilFunc] false 1) := by kernel_rfl
theorem ty172 : tyOf Tryz.prog 172 = some (Ty.mk TD.other 1 8 [Value.nilFunc] false 1) := by kernel_rfl
theorem ty173 : tyOf Tryz.prog 173 = some (Ty.mk (TD.ptr 3) 1 8 [Value.pointer none] false 1) := by kernel_rfl
theorem ty174 : tyOf Tryz.prog 174 = some (Ty.mk TD.other 1 8 [Value.nilFunc] false 1) := by kernel_rfl
theorem ty175 : tyOf Tryz.prog 175 = some (Ty.mk (TD.sl 113) 1 24 [Value.slice none 0 0] false 1) := by kernel_rfl
theorem ty176 : tyOf Tryz.prog 176 = some (Ty.mk TD.other 1 8 [Value.nilFunc] false 1) := by kernel_rfl
theorem ty177 : tyOf Tryz.prog 177 = some (Ty.mk TD.other 1 8 [Value.nilFunc] false 1) := by kernel_rfl
theorem ty178 : tyOf Tryz.prog 178 = some (Ty.mk TD.other 1 8 [Value.nilFunc] false 1) := by kernel_rfl
theorem ty179 : tyOf Tryz.prog 179 = some (Ty.mk TD.other 1 8 [Value.nilFunc] false 1) := by kernel_rfl
theorem ty180 : tyOf Tryz.prog 180 = some (Ty.mk TD.other 1 8 [Value.nilFunc] false 1) := by kernel_rfl
theorem ty181 : tyOf Tryz.prog 181 = some (Ty.mk TD.other 1 8 [Value.nilFunc] false 1) := by kernel_rfl
theorem ty182 : tyOf Tryz.prog 182 = some (Ty.mk TD.other 1 8 [Value.nilFunc] false 1) := by kernel_rfl
theorem ty183 : tyOf Tryz.prog 183 = some (Ty.mk TD.other 1 8 [Value.nilFunc] false 1) := by kernel_rfl
theorem ty184 : tyOf Tryz.prog 184 = some (Ty.mk TD.other 1 8 [Value.nilFunc] false 1) := by kernel_rfl
theorem ty185 : tyOf Tryz.prog 185 = some (Ty.mk (TD.ptr 169) 1 8 [Value.pointer none] false 1) := by kernel_rfl
theorem ty186 : tyOf Tryz.prog 186 = some (Ty.mk TD.other 1 0 [Value.tuple (#[Value.int IntKind.i64 (0), Value.int IntKind.i64 (0)])] false 1) := by kernel_rfl
theorem ty187 : tyOf Tryz.prog 187 = some (Ty.mk TD.other 1 8 [Value.nilFunc] false 1) := by kernel_rfl
theorem ty188 : tyOf Tryz.prog 188 = some (Ty.mk TD.other 1 8 [Value.nilFunc] false 1) := by kernel_rfl
theorem ty189 : tyOf Tryz.prog 189 = some (Ty.mk TD.other 1 0 [Value.tuple (#[Value.int IntKind.u64 (0), Value.int IntKind.u64 (0)])] false 1) := by kernel_rfl
theorem ty190 : tyOf Tryz.prog 190 = some (Ty.mk TD.other 1 8 [Value.nilFunc] false 1) := by kernel_rfl
theorem ty191 : tyOf Tryz.prog 191 = some (Ty.mk TD.other 1 8 [Value.nilFunc] false 1) := by kernel_rfl
theorem ty192 : tyOf Tryz.prog 192 = some (Ty.mk (TD.arr 64 5) 64 64 [Value.int IntKind.u8 (0), Value.int IntKind.u8 (0), Value.int IntKind.u8 (0), Value.int IntKind.u8 (0), Value.int IntKind.u8 (0), Value.int IntKind.u8 (0), Value.int IntKind.u8 (0), Value.int IntKind.u8 (0), Value.int IntKind.u8 (0), Value.int IntKind.u8 (0), Value.int IntKind.u8 (0), Value.int IntKind.u8 (0), Value.int IntKind.u8 (0), Value.int IntKind.u8 (0), Value.int IntKind.u8 (0), Value.int IntKind.u8 (0), Value.int IntKind.u8 (0), Value.int IntKind.u8 (0), Value.int IntKind.u8 (0), Value.int IntKind.u8 (0), Value.int IntKind.u8 (0), Value.int IntKind.u8 (0), Value.int IntKind.u8 (0), Value.int IntKind.u8 (0), Value.int IntKind.u8 (0), Value.int IntKind.u8 (0), Value.int IntKind.u8 (0), Value.int IntKind.u8 (0), Value.int IntKind.u8 (0), Value.int IntKind.u8 (0), Value.int IntKind.u8 (0), Value.int IntKind.u8 (0), Value.int IntKind.u8 (0), Value.int IntKind.u8 (0), Value.int IntKind.u8 (0), Value.int IntKind.u8 (0), Value.int IntKind.u8 (0), Value.int IntKind.u8 (0), Value.int IntKind.u8 (0), Value.int IntKind.u8 (0), Value.int IntKind.u8 (0), Value.int IntKind.u8 (0), Value.int IntKind.u8 (0), Value.int IntKind.u8 (0), Value.int IntKind.u8 (0), Value.int IntKind.u8 (0), Value.int IntKind.u8 (0), Value.int IntKind.u8 (0), Value.int IntKind.u8 (0), Value.int IntKind.u8 (0), Value.int IntKind.u8 (0), Value.int IntKind.u8 (0), Value.int IntKind.u8 (0), Value.int IntKind.u8 (0), Value.int IntKind.u8 (0), Value.int IntKind.u8 (0), Value.int IntKind.u8 (0), Value.int IntKind.u8 (0), Value.int IntKind.u8 (0), Value.int IntKind.u8 (0), Value.int IntKind.u8 (0), Value.int IntKind.u8 (0), Value.int IntKind.u8 (0), Value.int IntKind.u8 (0)] true 1) := by kernel_rfl
theorem ty193 : tyOf Tryz.prog 193 = some (Ty.mk TD.other 1 8 [Value.nilFunc] false 1) := by kernel_rfl
theorem ty194 : tyOf Tryz.prog 194 = some (Ty.mk (TD.st [(0, 1, 17), (1, 1, 17), (2, 1, 17), (3, 1, 9)]) 4 40 [Value.pointer none, Value.pointer none, Value.pointer none, Value.string (ByteArray.mk (#[]))] true 4) := by kernel_rfl
theorem ty195 : tyOf Tryz.prog 195 = some (Ty.mk (TD.st [(0, 1, 17), (1, 1, 17), (2, 1, 17), (3, 1, 9)]) 4 40 [Value.pointer none, Value.pointer none, Value.pointer none, Value.string (ByteArray.mk (#[]))] true 4) := by kernel_rfl
theorem ty196 : tyOf Tryz.prog 196 = some (Ty.mk (TD.arr 0 16) 0 0 [] true 1) := by kernel_rfl
theorem ty197 : tyOf Tryz.prog 197 = some (Ty.mk (TD.st [(0, 0, 196)]) 0 0 [] true 0) := by kernel_rfl
theorem ty198 : tyOf Tryz.prog 198 = some (Ty.mk (TD.st [(0, 0, 196)]) 0 0 [] true 0) := by kernel_rfl
theorem ty199 : tyOf Tryz.prog 199 = some (Ty.mk TD.other 1 8 [Value.nilFunc] false 1) := by kernel_rfl
theorem ty200 : tyOf Tryz.prog 200 = some (Ty.mk (TD.int IntKind.u8) 1 1 [Value.int IntKind.u8 (0)] false 1) := by kernel_rfl
theorem ty201 : tyOf Tryz.prog 201 = some (Ty.mk (TD.int IntKind.u8) 1 1 [Value.int IntKind.u8 (0)] false 1) := by kernel_rfl
theorem ty202 : tyOf Tryz.prog 202 = some (Ty.mk TD.other 1 8 [Value.nilFunc] false 1) := by kernel_rfl
theorem ty203 : tyOf Tryz.prog 203 = some (Ty.mk (TD.ptr 5) 1 8 [Value.pointer none] false 1) := by kernel_rfl
theorem ty204 : tyOf Tryz.prog 204 = some (Ty.mk (TD.int IntKind.i32) 1 4 [Value.int IntKind.i32 (0)] false 1) := by kernel_rfl
theorem ty205 : tyOf Tryz.prog 205 = some (Ty.mk (TD.int IntKind.i32) 1 4 [Value.int IntKind.i32 (0)] false 1) := by kernel_rfl
theorem ty206 : tyOf Tryz.prog 206 = some (Ty.mk (TD.st [(0, 1, 12), (1, 1, 12), (2, 1, 131), (3, 1, 200), (4, 1, 5), (5, 1, 5), (6, 1, 201), (7, 1, 202), (8, 1, 203), (9, 1, 204), (10, 1, 205)]) 11 48 [Value.int IntKind.u64 (0), Value.int IntKind.u64 (0), Value.int IntKind.u32 (0), Value.int IntKind.u8 (0), Value.int IntKind.u8 (0), Value.int IntKind.u8 (0), Value.int IntKind.u8 (0), Value.nilFunc, Value.pointer none, Value.int IntKind.i32 (0), Value.int IntKind.i32 (0)] true 11) := by kernel_rfl
theorem ty207 : tyOf Tryz.prog 207 = some (Ty.mk (TD.st [(0, 1, 12), (1, 1, 12), (2, 1, 131), (3, 1, 200), (4, 1, 5), (5, 1, 5), (6, 1, 201), (7, 1, 202), (8, 1, 203), (9, 1, 204), (10, 1, 205)]) 11 48 [Value.int IntKind.u64 (0), Value.int IntKind.u64 (0), Value.int IntKind.u32 (0), Value.int IntKind.u8 (0), Value.int IntKind.u8 (0), Value.int IntKind.u8 (0), Value.int IntKind.u8 (0), Value.nilFunc, Value.pointer none, Value.int IntKind.i32 (0), Value.int IntKind.i32 (0)] true 11) := by kernel_rfl
theorem ty208 : tyOf Tryz.prog 208 = some (Ty.mk TD.other 1 8 [Value.pointer none] false 1) := by kernel_rfl
theorem mixed : Tryz.prog.follows .mixedOrders = true := by kernel_rfl
set_option linter.defProp false in
/-- All of them. -/
def TY := And.intro @ty0 (And.intro @ty1 (And.intro @ty2 (And.intro @ty3 (And.intro @ty4 (And.intro @ty5 (And.intro @ty6 (And.intro @ty7 (And.intro @ty8 (And.intro @ty9 (And.intro @ty10 (And.intro @ty11 (And.intro @ty12 (And.intro @ty13 (And.intro @ty14 (And.intro @ty15 (And.intro @ty16 (And.intro @ty17 (And.intro @ty18 (And.intro @ty19 (And.intro @ty20 (And.intro @ty21 (And.intro @ty22 (And.intro @ty23 (And.intro @ty24 (And.intro @ty25 (And.intro @ty26 (And.intro @ty27 (And.intro @ty28 (And.intro @ty29 (And.intro @ty30 (And.intro @ty31 (And.intro @ty32 (And.intro @ty33 (And.intro @ty34 (And.intro @ty35 (And.intro @ty36 (And.intro @ty37 (And.intro @ty38 (And.intro @ty39 (And.intro @ty40 (And.intro @ty41 (And.intro @ty42 (And.intro @ty43 (And.intro @ty44 (And.intro @ty45 (And.intro @ty46 (And.intro @ty47 (And.intro @ty48 (And.intro @ty49 (And.intro @ty50 (And.intro @ty51 (And.intro @ty52 (And.intro @ty53 (And.intro @ty54 (And.intro @ty55 (And.intro @ty56 (And.intro @ty57 (And.intro @ty58 (And.intro @ty59 (And.intro @ty60 (And.intro @ty61 (And.intro @ty62 (And.intro @ty63 (And.intro @ty64 (And.intro @ty65 (And.intro @ty66 (And.intro @ty67 (And.intro @ty68 (And.intro @ty69 (And.intro @ty70 (And.intro @ty71 (And.intro @ty72 (And.intro @ty73 (And.intro @ty74 (And.intro @ty75 (And.intro @ty76 (And.intro @ty77 (And.intro @ty78 (And.intro @ty79 (And.intro @ty80 (And.intro @ty81 (And.intro @ty82 (And.intro @ty83 (And.intro @ty84 (And.intro @ty85 (And.intro @ty86 (And.intro @ty87 (And.intro @ty88 (And.intro @ty89 (And.intro @ty90 (And.intro @ty91 (And.intro @ty92 (And.intro @ty93 (And.intro @ty94 (And.intro @ty95 (And.intro @ty96 (And.intro @ty97 (And.intro @ty98 (And.intro @ty99 (And.intro @ty100 (And.intro @ty101 (And.intro @ty102 (And.intro @ty103 (And.intro @ty104 (And.intro @ty105 (And.intro @ty106 (And.intro @ty107 (And.intro @ty108 (And.intro @ty109 (And.intro @ty110 (And.intro @ty111 (And.intro @ty112 (And.intro @ty113 (And.intro @ty114 (And.intro @ty115 (And.intro @ty116 (And.intro @ty117 (And.intro @ty118 (And.intro @ty119 (And.intro @ty120 (And.intro @ty121 (And.intro @ty122 (And.intro @ty123 (And.intro @ty124 (And.intro @ty125 (And.intro @ty126 (And.intro @ty127 (And.intro @ty128 (And.intro @ty129 (And.intro @ty130 (And.intro @ty131 (And.intro @ty132 (And.intro @ty133 (And.intro @ty134 (And.intro @ty135 (And.intro @ty136 (And.intro @ty137 (And.intro @ty138 (And.intro @ty139 (And.intro @ty140 (And.intro @ty141 (And.intro @ty142 (And.intro @ty143 (And.intro @ty144 (And.intro @ty145 (And.intro @ty146 (And.intro @ty147 (And.intro @ty148 (And.intro @ty149 (And.intro @ty150 (And.intro @ty151 (And.intro @ty152 (And.intro @ty153 (And.intro @ty154 (And.intro @ty155 (And.intro @ty156 (And.intro @ty157 (And.intro @ty158 (And.intro @ty159 (And.intro @ty160 (And.intro @ty161 (And.intro @ty162 (And.intro @ty163 (And.intro @ty164 (And.intro @ty165 (And.intro @ty166 (And.intro @ty167 (And.intro @ty168 (And.intro @ty169 (And.intro @ty170 (And.intro @ty171 (And.intro @ty172 (And.intro @ty173 (And.intro @ty174 (And.intro @ty175 (And.intro @ty176 (And.intro @ty177 (And.intro @ty178 (And.intro @ty179 (And.intro @ty180 (And.intro @ty181 (And.intro @ty182 (And.intro @ty183 (And.intro @ty184 (And.intro @ty185 (And.intro @ty186 (And.intro @ty187 (And.intro @ty188 (And.intro @ty189 (And.intro @ty190 (And.intro @ty191 (And.intro @ty192 (And.intro @ty193 (And.intro @ty194 (And.intro @ty195 (And.intro @ty196 (And.intro @ty197 (And.intro @ty198 (And.intro @ty199 (And.intro @ty200 (And.intro @ty201 (And.intro @ty202 (And.intro @ty203 (And.intro @ty204 (And.intro @ty205 (And.intro @ty206 (And.intro @ty207 (@ty208))))))))))))))))))))))))))))))))))))))))))))))))))))))))))))))))))))))))))))))))))))))))))))))))))))))))))))))))))))))))))))))))))))))))))))))))))))))))))))))))))))))))))))))))))))))))))))))))))))))))))))))))
end Go.Proofs.YthclikeipdplpaaGreatDoor.Ab
