/- The types of the seat's program, as a table; printed by gen.py. -/
import Derived.Test.YtimdnnlfkkkpbaaEvG
set_option linter.unusedVariables false
set_option linter.unusedSimpArgs false
namespace Go.Proofs.Ytimdnnlfkkkpbaa
def ti1 : TI := ⟨false, 1, [.nilf], .fn⟩
def ti2 : TI := ⟨false, 1, [.int .i64 0], .int .i64⟩
def ti3 : TI := ⟨false, 1, [.int .i64 0], .int .i64⟩
def ti4 : TI := ⟨false, 1, [.bool false], .bool⟩
def ti5 : TI := ⟨false, 1, [.int .u8 0], .int .u8⟩
def ti6 : TI := ⟨false, 1, [.int .u8 0], .int .u8⟩
def ti7 : TI := ⟨true, 4, [.int .i64 0, .int .i64 0, .bool false, .int .u8 0], .struct [(0, 1, false), (1, 1, false), (2, 1, false), (3, 1, false)]⟩
def ti8 : TI := ⟨true, 4, [.int .i64 0, .int .i64 0, .bool false, .int .u8 0], .struct [(0, 1, false), (1, 1, false), (2, 1, false), (3, 1, false)]⟩
def ti9 : TI := ⟨false, 1, [.str ⟨#[]⟩], .string⟩
def ti10 : TI := ⟨false, 1, [.str ⟨#[]⟩], .string⟩
def ti11 : TI := ⟨false, 1, [.str ⟨#[]⟩], .string⟩
def ti12 : TI := ⟨false, 1, [.int .u64 0], .int .u64⟩
def ti13 : TI := ⟨true, 2, [.str ⟨#[]⟩, .int .u64 0], .struct [(0, 1, false), (1, 1, false)]⟩
def ti14 : TI := ⟨true, 2, [.str ⟨#[]⟩, .int .u64 0], .struct [(0, 1, false), (1, 1, false)]⟩
def ti15 : TI := ⟨false, 1, [.nilp], .ptr⟩
def ti16 : TI := ⟨false, 1, [.nilp], .ptr⟩
def ti17 : TI := ⟨false, 1, [.nilp], .ptr⟩
def ti18 : TI := ⟨true, 1, [.nilp], .struct [(0, 1, false)]⟩
def ti19 : TI := ⟨true, 1, [.nilp], .struct [(0, 1, false)]⟩
def ti20 : TI := ⟨false, 1, [.nili], .iface⟩
def ti21 : TI := ⟨false, 1, [.int .i32 0], .int .i32⟩
def ti22 : TI := ⟨false, 1, [.nils], .slice 2 1 8 ([.int .i64 0])⟩
def ti23 : TI := ⟨false, 1, [.nili], .iface⟩
def ti24 : TI := ⟨false, 1, [.nili], .iface⟩
def ti26 : TI := ⟨false, 1, [.nilf], .fn⟩
def ti27 : TI := ⟨false, 1, [.nilf], .fn⟩
def ti28 : TI := ⟨false, 1, [.nilf], .fn⟩
def ti29 : TI := ⟨false, 1, [.nils], .slice 22 1 24 ([.nils])⟩
def ti30 : TI := ⟨false, 1, [.nilf], .fn⟩
def ti31 : TI := ⟨false, 1, [.nilf], .fn⟩
def ti32 : TI := ⟨false, 1, [.nilf], .fn⟩
def ti33 : TI := ⟨false, 1, [.nilf], .fn⟩
def ti34 : TI := ⟨true, 36, List.replicate 36 (.int .i64 0), .array 36 1 false⟩
def ti35 : TI := ⟨true, 38, List.replicate 38 (.int .i64 0), .struct [(0, 1, false), (1, 1, false), (2, 36, true)]⟩
def ti36 : TI := ⟨true, 38, List.replicate 38 (.int .i64 0), .struct [(0, 1, false), (1, 1, false), (2, 36, true)]⟩
def ti37 : TI := ⟨false, 1, [.nilf], .fn⟩
def ti39 : TI := ⟨false, 1, [.nilf], .fn⟩
def ti41 : TI := ⟨false, 1, [.nilf], .fn⟩
def ti42 : TI := ⟨false, 1, [.nilf], .fn⟩
def ti43 : TI := ⟨false, 1, [.nilf], .fn⟩
def ti44 : TI := ⟨false, 1, [.nilf], .fn⟩
def ti46 : TI := ⟨false, 1, [.nilf], .fn⟩
def ti47 : TI := ⟨false, 1, [.nilf], .fn⟩
def ti48 : TI := ⟨false, 1, [.nilf], .fn⟩
def ti49 : TI := ⟨false, 1, [.nils], .slice 3 1 8 ([.int .i64 0])⟩
def ti50 : TI := ⟨true, 2, [.bool false, .nils], .struct [(0, 1, false), (1, 1, false)]⟩
def ti51 : TI := ⟨true, 2, [.bool false, .nils], .struct [(0, 1, false), (1, 1, false)]⟩
def ti52 : TI := ⟨false, 1, [.nilf], .fn⟩
def ti53 : TI := ⟨false, 1, [.nilf], .fn⟩
def ti54 : TI := ⟨false, 1, [.nilf], .fn⟩
def ti55 : TI := ⟨false, 1, [.int .u64 0], .int .u64⟩
def ti57 : TI := ⟨false, 1, [.nilf], .fn⟩
def ti58 : TI := ⟨false, 1, [.nilf], .fn⟩
def ti59 : TI := ⟨false, 1, [.nilf], .fn⟩
def ti60 : TI := ⟨false, 1, [.int .u32 0], .int .u32⟩
def ti62 : TI := ⟨false, 1, [.nilf], .fn⟩
def ti63 : TI := ⟨false, 1, [.int .u32 0], .int .u32⟩
def ti65 : TI := ⟨false, 1, [.nilf], .fn⟩
def ti66 : TI := ⟨false, 1, [.nilf], .fn⟩
def ti67 : TI := ⟨false, 1, [.nilf], .fn⟩
def ti68 : TI := ⟨false, 1, [.nils], .slice 75 3 24 ([.int .i64 0, .int .i64 0, .int .i64 0])⟩
def ti69 : TI := ⟨false, 1, [.nilp], .ptr⟩
def ti71 : TI := ⟨false, 1, [.nilf], .fn⟩
def ti72 : TI := ⟨false, 1, [.nilf], .fn⟩
def ti73 : TI := ⟨true, 3, [.int .i64 0, .int .i64 0, .int .i64 0], .struct [(0, 1, false), (1, 1, false), (2, 1, false)]⟩
def ti74 : TI := ⟨true, 3, [.int .i64 0, .int .i64 0, .int .i64 0], .struct [(0, 1, false), (1, 1, false), (2, 1, false)]⟩
def ti75 : TI := ⟨true, 3, [.int .i64 0, .int .i64 0, .int .i64 0], .struct [(0, 1, false), (1, 1, false), (2, 1, false)]⟩
def ti76 : TI := ⟨false, 1, [.nils], .slice 74 3 24 ([.int .i64 0, .int .i64 0, .int .i64 0])⟩
def ti77 : TI := ⟨false, 1, [.nilf], .fn⟩
def ti78 : TI := ⟨false, 1, [.nilf], .fn⟩
def ti80 : TI := ⟨false, 1, [.nilf], .fn⟩
def ti81 : TI := ⟨false, 1, [.nilf], .fn⟩
def ti82 : TI := ⟨true, 6, [.int .i64 0, .int .i64 0, .int .i64 0, .int .i64 0, .int .i64 0, .int .i64 0], .array 6 1 false⟩
def ti83 : TI := ⟨true, 44, List.replicate 44 (.int .i64 0), .struct [(0, 6, true), (6, 38, true)]⟩
def ti84 : TI := ⟨true, 44, List.replicate 44 (.int .i64 0), .struct [(0, 6, true), (6, 38, true)]⟩
def ti85 : TI := ⟨false, 1, [.nilf], .fn⟩
def ti86 : TI := ⟨true, 2, [.nils, .nils], .struct [(0, 1, false), (1, 1, false)]⟩
def ti87 : TI := ⟨true, 2, [.nils, .nils], .struct [(0, 1, false), (1, 1, false)]⟩
def ti88 : TI := ⟨false, 1, [.nilf], .fn⟩
def ti90 : TI := ⟨false, 1, [.nilf], .fn⟩
def ti91 : TI := ⟨false, 1, [.nilf], .fn⟩
def ti92 : TI := ⟨false, 1, [.nilf], .fn⟩
def ti93 : TI := ⟨false, 1, [.nilf], .fn⟩
def ti94 : TI := ⟨false, 1, [.nilf], .fn⟩
def ti95 : TI := ⟨false, 1, [.int .i64 0], .int .i64⟩
def ti97 : TI := ⟨false, 1, [.nilf], .fn⟩
def ti98 : TI := ⟨false, 1, [.nilf], .fn⟩
def ti99 : TI := ⟨false, 1, [.nilf], .fn⟩
def ti100 : TI := ⟨false, 1, [.nilf], .fn⟩
def ti101 : TI := ⟨false, 1, [.nilf], .fn⟩
def ti103 : TI := ⟨false, 1, [.nilf], .fn⟩
def ti104 : TI := ⟨false, 1, [.nilf], .fn⟩
def ti105 : TI := ⟨false, 1, [.nilf], .fn⟩
def ti107 : TI := ⟨false, 1, [.nilf], .fn⟩
def ti108 : TI := ⟨false, 1, [.nilf], .fn⟩
def ti109 : TI := ⟨false, 1, [.nilf], .fn⟩
def ti110 : TI := ⟨false, 1, [.nilf], .fn⟩
def ti111 : TI := ⟨false, 1, [.nilf], .fn⟩
def ti112 : TI := ⟨false, 1, [.nilf], .fn⟩
def ti113 : TI := ⟨false, 1, [.int .u64 0], .int .u64⟩
def ti114 : TI := ⟨true, 3, [.int .u64 0, .int .u64 0, .int .u64 0], .array 3 1 false⟩
def ti115 : TI := ⟨true, 3, [.int .u64 0, .int .u64 0, .int .u64 0], .array 3 1 false⟩
def ti116 : TI := ⟨false, 1, [.nilf], .fn⟩
def ti117 : TI := ⟨false, 1, [.nilf], .fn⟩
def ti118 : TI := ⟨false, 1, [.nilf], .fn⟩
def ti119 : TI := ⟨false, 1, [.nilf], .fn⟩
def ti120 : TI := ⟨false, 1, [.nilf], .fn⟩
def ti121 : TI := ⟨false, 1, [.nilf], .fn⟩
def ti122 : TI := ⟨false, 1, [.nilf], .fn⟩
def ti123 : TI := ⟨false, 1, [.nilf], .fn⟩
def ti124 : TI := ⟨false, 1, [.nilf], .fn⟩
def ti125 : TI := ⟨false, 1, [.nilf], .fn⟩
def ti127 : TI := ⟨false, 1, [.nilf], .fn⟩
def ti128 : TI := ⟨false, 1, [.nilf], .fn⟩
def ti129 : TI := ⟨false, 1, [.nilf], .fn⟩
def ti130 : TI := ⟨false, 1, [.nilf], .fn⟩
def ti131 : TI := ⟨false, 1, [.nilf], .fn⟩
def ti133 : TI := ⟨false, 1, [.nilf], .fn⟩
def ti134 : TI := ⟨false, 1, [.nilf], .fn⟩
def ti135 : TI := ⟨false, 1, [.nilf], .fn⟩
def ti137 : TI := ⟨false, 1, [.nilf], .fn⟩
def ti138 : TI := ⟨false, 1, [.nilf], .fn⟩
def ti139 : TI := ⟨false, 1, [.nilf], .fn⟩
def ti140 : TI := ⟨true, 3, [.nils, .int .i64 0, .int .i64 0], .struct [(0, 1, false), (1, 1, false), (2, 1, false)]⟩
def ti141 : TI := ⟨true, 3, [.nils, .int .i64 0, .int .i64 0], .struct [(0, 1, false), (1, 1, false), (2, 1, false)]⟩
def ti142 : TI := ⟨false, 1, [.nilf], .fn⟩
def ti143 : TI := ⟨false, 1, [.nilf], .fn⟩
def ti144 : TI := ⟨false, 1, [.nilf], .fn⟩
def ti146 : TI := ⟨false, 1, [.nilf], .fn⟩
def ti147 : TI := ⟨false, 1, [.nilf], .fn⟩
def ti148 : TI := ⟨false, 1, [.nilf], .fn⟩
def ti150 : TI := ⟨false, 1, [.nilf], .fn⟩
def ti151 : TI := ⟨false, 1, [.nilf], .fn⟩
def ti153 : TI := ⟨false, 1, [.nilf], .fn⟩
def ti154 : TI := ⟨false, 1, [.nilf], .fn⟩
def ti155 : TI := ⟨false, 1, [.nilf], .fn⟩
def ti156 : TI := ⟨false, 1, [.nilf], .fn⟩
def ti157 : TI := ⟨true, 2, [.int .i64 0, .int .i64 0], .struct [(0, 1, false), (1, 1, false)]⟩
def ti158 : TI := ⟨true, 2, [.int .i64 0, .int .i64 0], .struct [(0, 1, false), (1, 1, false)]⟩
def ti159 : TI := ⟨true, 40, List.replicate 40 (.int .i64 0), .array 40 1 false⟩
def ti160 : TI := ⟨false, 1, [.nilf], .fn⟩
def ti161 : TI := ⟨false, 1, [.nilf], .fn⟩
def ti162 : TI := ⟨false, 1, [.nilf], .fn⟩
def ti163 : TI := ⟨false, 1, [.nilf], .fn⟩
def ti164 : TI := ⟨false, 1, [.nilf], .fn⟩
def ti165 : TI := ⟨false, 1, [.nilf], .fn⟩
def ti166 : TI := ⟨false, 1, [.nilf], .fn⟩
def ti167 : TI := ⟨false, 1, [.nilf], .fn⟩
def ti168 : TI := ⟨false, 1, [.nilf], .fn⟩
def ti169 : TI := ⟨false, 1, [.nilp], .ptr⟩
def ti170 : TI := ⟨false, 1, [.nilf], .fn⟩
def ti171 : TI := ⟨true, 4, [.nilp, .nilp, .nilp, .str ⟨#[]⟩], .struct [(0, 1, false), (1, 1, false), (2, 1, false), (3, 1, false)]⟩
def ti172 : TI := ⟨true, 4, [.nilp, .nilp, .nilp, .str ⟨#[]⟩], .struct [(0, 1, false), (1, 1, false), (2, 1, false), (3, 1, false)]⟩
def ti173 : TI := ⟨true, 0, [], .array 0 1 false⟩
def ti174 : TI := ⟨true, 0, [], .struct [(0, 0, true)]⟩
def ti175 : TI := ⟨true, 0, [], .struct [(0, 0, true)]⟩
def ti176 : TI := ⟨false, 1, [.nilf], .fn⟩
def ti177 : TI := ⟨false, 1, [.int .u8 0], .int .u8⟩
def ti178 : TI := ⟨false, 1, [.int .u8 0], .int .u8⟩
def ti179 : TI := ⟨false, 1, [.nilf], .fn⟩
def ti180 : TI := ⟨false, 1, [.nilp], .ptr⟩
def ti181 : TI := ⟨false, 1, [.int .i32 0], .int .i32⟩
def ti182 : TI := ⟨false, 1, [.int .i32 0], .int .i32⟩
def ti183 : TI := ⟨true, 11, [.int .u64 0, .int .u64 0, .int .u32 0, .int .u8 0, .int .u8 0, .int .u8 0, .int .u8 0, .nilf, .nilp, .int .i32 0, .int .i32 0], .struct [(0, 1, false), (1, 1, false), (2, 1, false), (3, 1, false), (4, 1, false), (5, 1, false), (6, 1, false), (7, 1, false), (8, 1, false), (9, 1, false), (10, 1, false)]⟩
def ti184 : TI := ⟨true, 11, [.int .u64 0, .int .u64 0, .int .u32 0, .int .u8 0, .int .u8 0, .int .u8 0, .int .u8 0, .nilf, .nilp, .int .i32 0, .int .i32 0], .struct [(0, 1, false), (1, 1, false), (2, 1, false), (3, 1, false), (4, 1, false), (5, 1, false), (6, 1, false), (7, 1, false), (8, 1, false), (9, 1, false), (10, 1, false)]⟩
def ti185 : TI := ⟨true, 1, [.str ⟨#[]⟩], .struct [(0, 1, false)]⟩
def ti186 : TI := ⟨true, 1, [.str ⟨#[]⟩], .struct [(0, 1, false)]⟩
def tyL : List (Option TI) := [none, some ti1, some ti2, some ti3, some ti4, some ti5, some ti6, some ti7, some ti8, some ti9, some ti10, some ti11, some ti12, some ti13, some ti14, some ti15, some ti16, some ti17, some ti18, some ti19, some ti20, some ti21, some ti22, some ti23, some ti24, none, some ti26, some ti27, some ti28, some ti29, some ti30, some ti31, some ti32, some ti33, some ti34, some ti35, some ti36, some ti37, none, some ti39, none, some ti41, some ti42, some ti43, some ti44, none, some ti46, some ti47, some ti48, some ti49, some ti50, some ti51, some ti52, some ti53, some ti54, some ti55, none, some ti57, some ti58, some ti59, some ti60, none, some ti62, some ti63, none, some ti65, some ti66, some ti67, some ti68, some ti69, none, some ti71, some ti72, some ti73, some ti74, some ti75, some ti76, some ti77, some ti78, none, some ti80, some ti81, some ti82, some ti83, some ti84, some ti85, some ti86, some ti87, some ti88, none, some ti90, some ti91, some ti92, some ti93, some ti94, some ti95, none, some ti97, some ti98, some ti99, some ti100, some ti101, none, some ti103, some ti104, some ti105, none, some ti107, some ti108, some ti109, some ti110, some ti111, some ti112, some ti113, some ti114, some ti115, some ti116, some ti117, some ti118, some ti119, some ti120, some ti121, some ti122, some ti123, some ti124, some ti125, none, some ti127, some ti128, some ti129, some ti130, some ti131, none, some ti133, some ti134, some ti135, none, some ti137, some ti138, some ti139, some ti140, some ti141, some ti142, some ti143, some ti144, none, some ti146, some ti147, some ti148, none, some ti150, some ti151, none, some ti153, some ti154, some ti155, some ti156, some ti157, some ti158, some ti159, some ti160, some ti161, some ti162, some ti163, some ti164, some ti165, some ti166, some ti167, some ti168, some ti169, some ti170, some ti171, some ti172, some ti173, some ti174, some ti175, some ti176, some ti177, some ti178, some ti179, some ti180, some ti181, some ti182, some ti183, some ti184, some ti185, some ti186, none]
def tyT (t : TypeId) : Option TI := (tyL[t]?).join
theorem ty1 : tyT 1 = some ⟨false, 1, [.nilf], .fn⟩ := rfl
theorem ty2 : tyT 2 = some ⟨false, 1, [.int .i64 0], .int .i64⟩ := rfl
theorem ty3 : tyT 3 = some ⟨false, 1, [.int .i64 0], .int .i64⟩ := rfl
theorem ty4 : tyT 4 = some ⟨false, 1, [.bool false], .bool⟩ := rfl
theorem ty5 : tyT 5 = some ⟨false, 1, [.int .u8 0], .int .u8⟩ := rfl
theorem ty6 : tyT 6 = some ⟨false, 1, [.int .u8 0], .int .u8⟩ := rfl
theorem ty7 : tyT 7 = some ⟨true, 4, [.int .i64 0, .int .i64 0, .bool false, .int .u8 0], .struct [(0, 1, false), (1, 1, false), (2, 1, false), (3, 1, false)]⟩ := rfl
theorem ty8 : tyT 8 = some ⟨true, 4, [.int .i64 0, .int .i64 0, .bool false, .int .u8 0], .struct [(0, 1, false), (1, 1, false), (2, 1, false), (3, 1, false)]⟩ := rfl
theorem ty9 : tyT 9 = some ⟨false, 1, [.str ⟨#[]⟩], .string⟩ := rfl
theorem ty10 : tyT 10 = some ⟨false, 1, [.str ⟨#[]⟩], .string⟩ := rfl
theorem ty11 : tyT 11 = some ⟨false, 1, [.str ⟨#[]⟩], .string⟩ := rfl
theorem ty12 : tyT 12 = some ⟨false, 1, [.int .u64 0], .int .u64⟩ := rfl
theorem ty13 : tyT 13 = some ⟨true, 2, [.str ⟨#[]⟩, .int .u64 0], .struct [(0, 1, false), (1, 1, false)]⟩ := rfl
theorem ty14 : tyT 14 = some ⟨true, 2, [.str ⟨#[]⟩, .int .u64 0], .struct [(0, 1, false), (1, 1, false)]⟩ := rfl
theorem ty15 : tyT 15 = some ⟨false, 1, [.nilp], .ptr⟩ := rfl
theorem ty16 : tyT 16 = some ⟨false, 1, [.nilp], .ptr⟩ := rfl
theorem ty17 : tyT 17 = some ⟨false, 1, [.nilp], .ptr⟩ := rfl
theorem ty18 : tyT 18 = some ⟨true, 1, [.nilp], .struct [(0, 1, false)]⟩ := rfl
theorem ty19 : tyT 19 = some ⟨true, 1, [.nilp], .struct [(0, 1, false)]⟩ := rfl
theorem ty20 : tyT 20 = some ⟨false, 1, [.nili], .iface⟩ := rfl
theorem ty21 : tyT 21 = some ⟨false, 1, [.int .i32 0], .int .i32⟩ := rfl
theorem ty22 : tyT 22 = some ⟨false, 1, [.nils], .slice 2 1 8 ([.int .i64 0])⟩ := rfl
theorem ty23 : tyT 23 = some ⟨false, 1, [.nili], .iface⟩ := rfl
theorem ty24 : tyT 24 = some ⟨false, 1, [.nili], .iface⟩ := rfl
theorem ty26 : tyT 26 = some ⟨false, 1, [.nilf], .fn⟩ := rfl
theorem ty27 : tyT 27 = some ⟨false, 1, [.nilf], .fn⟩ := rfl
theorem ty28 : tyT 28 = some ⟨false, 1, [.nilf], .fn⟩ := rfl
theorem ty29 : tyT 29 = some ⟨false, 1, [.nils], .slice 22 1 24 ([.nils])⟩ := rfl
theorem ty30 : tyT 30 = some ⟨false, 1, [.nilf], .fn⟩ := rfl
theorem ty31 : tyT 31 = some ⟨false, 1, [.nilf], .fn⟩ := rfl
theorem ty32 : tyT 32 = some ⟨false, 1, [.nilf], .fn⟩ := rfl
theorem ty33 : tyT 33 = some ⟨false, 1, [.nilf], .fn⟩ := rfl
theorem ty34 : tyT 34 = some ⟨true, 36, List.replicate 36 (.int .i64 0), .array 36 1 false⟩ := rfl
theorem ty35 : tyT 35 = some ⟨true, 38, List.replicate 38 (.int .i64 0), .struct [(0, 1, false), (1, 1, false), (2, 36, true)]⟩ := rfl
theorem ty36 : tyT 36 = some ⟨true, 38, List.replicate 38 (.int .i64 0), .struct [(0, 1, false), (1, 1, false), (2, 36, true)]⟩ := rfl
theorem ty37 : tyT 37 = some ⟨false, 1, [.nilf], .fn⟩ := rfl
theorem ty39 : tyT 39 = some ⟨false, 1, [.nilf], .fn⟩ := rfl
theorem ty41 : tyT 41 = some ⟨false, 1, [.nilf], .fn⟩ := rfl
theorem ty42 : tyT 42 = some ⟨false, 1, [.nilf], .fn⟩ := rfl
theorem ty43 : tyT 43 = some ⟨false, 1, [.nilf], .fn⟩ := rfl
theorem ty44 : tyT 44 = some ⟨false, 1, [.nilf], .fn⟩ := rfl
theorem ty46 : tyT 46 = some ⟨false, 1, [.nilf], .fn⟩ := rfl
theorem ty47 : tyT 47 = some ⟨false, 1, [.nilf], .fn⟩ := rfl
theorem ty48 : tyT 48 = some ⟨false, 1, [.nilf], .fn⟩ := rfl
theorem ty49 : tyT 49 = some ⟨false, 1, [.nils], .slice 3 1 8 ([.int .i64 0])⟩ := rfl
theorem ty50 : tyT 50 = some ⟨true, 2, [.bool false, .nils], .struct [(0, 1, false), (1, 1, false)]⟩ := rfl
theorem ty51 : tyT 51 = some ⟨true, 2, [.bool false, .nils], .struct [(0, 1, false), (1, 1, false)]⟩ := rfl
theorem ty52 : tyT 52 = some ⟨false, 1, [.nilf], .fn⟩ := rfl
theorem ty53 : tyT 53 = some ⟨false, 1, [.nilf], .fn⟩ := rfl
theorem ty54 : tyT 54 = some ⟨false, 1, [.nilf], .fn⟩ := rfl
theorem ty55 : tyT 55 = some ⟨false, 1, [.int .u64 0], .int .u64⟩ := rfl
theorem ty57 : tyT 57 = some ⟨false, 1, [.nilf], .fn⟩ := rfl
theorem ty58 : tyT 58 = some ⟨false, 1, [.nilf], .fn⟩ := rfl
theorem ty59 : tyT 59 = some ⟨false, 1, [.nilf], .fn⟩ := rfl
theorem ty60 : tyT 60 = some ⟨false, 1, [.int .u32 0], .int .u32⟩ := rfl
theorem ty62 : tyT 62 = some ⟨false, 1, [.nilf], .fn⟩ := rfl
theorem ty63 : tyT 63 = some ⟨false, 1, [.int .u32 0], .int .u32⟩ := rfl
theorem ty65 : tyT 65 = some ⟨false, 1, [.nilf], .fn⟩ := rfl
theorem ty66 : tyT 66 = some ⟨false, 1, [.nilf], .fn⟩ := rfl
theorem ty67 : tyT 67 = some ⟨false, 1, [.nilf], .fn⟩ := rfl
theorem ty68 : tyT 68 = some ⟨false, 1, [.nils], .slice 75 3 24 ([.int .i64 0, .int .i64 0, .int .i64 0])⟩ := rfl
theorem ty69 : tyT 69 = some ⟨false, 1, [.nilp], .ptr⟩ := rfl
theorem ty71 : tyT 71 = some ⟨false, 1, [.nilf], .fn⟩ := rfl
theorem ty72 : tyT 72 = some ⟨false, 1, [.nilf], .fn⟩ := rfl
theorem ty73 : tyT 73 = some ⟨true, 3, [.int .i64 0, .int .i64 0, .int .i64 0], .struct [(0, 1, false), (1, 1, false), (2, 1, false)]⟩ := rfl
theorem ty74 : tyT 74 = some ⟨true, 3, [.int .i64 0, .int .i64 0, .int .i64 0], .struct [(0, 1, false), (1, 1, false), (2, 1, false)]⟩ := rfl
theorem ty75 : tyT 75 = some ⟨true, 3, [.int .i64 0, .int .i64 0, .int .i64 0], .struct [(0, 1, false), (1, 1, false), (2, 1, false)]⟩ := rfl
theorem ty76 : tyT 76 = some ⟨false, 1, [.nils], .slice 74 3 24 ([.int .i64 0, .int .i64 0, .int .i64 0])⟩ := rfl
theorem ty77 : tyT 77 = some ⟨false, 1, [.nilf], .fn⟩ := rfl
theorem ty78 : tyT 78 = some ⟨false, 1, [.nilf], .fn⟩ := rfl
theorem ty80 : tyT 80 = some ⟨false, 1, [.nilf], .fn⟩ := rfl
theorem ty81 : tyT 81 = some ⟨false, 1, [.nilf], .fn⟩ := rfl
theorem ty82 : tyT 82 = some ⟨true, 6, [.int .i64 0, .int .i64 0, .int .i64 0, .int .i64 0, .int .i64 0, .int .i64 0], .array 6 1 false⟩ := rfl
theorem ty83 : tyT 83 = some ⟨true, 44, List.replicate 44 (.int .i64 0), .struct [(0, 6, true), (6, 38, true)]⟩ := rfl
theorem ty84 : tyT 84 = some ⟨true, 44, List.replicate 44 (.int .i64 0), .struct [(0, 6, true), (6, 38, true)]⟩ := rfl
theorem ty85 : tyT 85 = some ⟨false, 1, [.nilf], .fn⟩ := rfl
theorem ty86 : tyT 86 = some ⟨true, 2, [.nils, .nils], .struct [(0, 1, false), (1, 1, false)]⟩ := rfl
theorem ty87 : tyT 87 = some ⟨true, 2, [.nils, .nils], .struct [(0, 1, false), (1, 1, false)]⟩ := rfl
theorem ty88 : tyT 88 = some ⟨false, 1, [.nilf], .fn⟩ := rfl
theorem ty90 : tyT 90 = some ⟨false, 1, [.nilf], .fn⟩ := rfl
theorem ty91 : tyT 91 = some ⟨false, 1, [.nilf], .fn⟩ := rfl
theorem ty92 : tyT 92 = some ⟨false, 1, [.nilf], .fn⟩ := rfl
theorem ty93 : tyT 93 = some ⟨false, 1, [.nilf], .fn⟩ := rfl
theorem ty94 : tyT 94 = some ⟨false, 1, [.nilf], .fn⟩ := rfl
theorem ty95 : tyT 95 = some ⟨false, 1, [.int .i64 0], .int .i64⟩ := rfl
theorem ty97 : tyT 97 = some ⟨false, 1, [.nilf], .fn⟩ := rfl
theorem ty98 : tyT 98 = some ⟨false, 1, [.nilf], .fn⟩ := rfl
theorem ty99 : tyT 99 = some ⟨false, 1, [.nilf], .fn⟩ := rfl
theorem ty100 : tyT 100 = some ⟨false, 1, [.nilf], .fn⟩ := rfl
theorem ty101 : tyT 101 = some ⟨false, 1, [.nilf], .fn⟩ := rfl
theorem ty103 : tyT 103 = some ⟨false, 1, [.nilf], .fn⟩ := rfl
theorem ty104 : tyT 104 = some ⟨false, 1, [.nilf], .fn⟩ := rfl
theorem ty105 : tyT 105 = some ⟨false, 1, [.nilf], .fn⟩ := rfl
theorem ty107 : tyT 107 = some ⟨false, 1, [.nilf], .fn⟩ := rfl
theorem ty108 : tyT 108 = some ⟨false, 1, [.nilf], .fn⟩ := rfl
theorem ty109 : tyT 109 = some ⟨false, 1, [.nilf], .fn⟩ := rfl
theorem ty110 : tyT 110 = some ⟨false, 1, [.nilf], .fn⟩ := rfl
theorem ty111 : tyT 111 = some ⟨false, 1, [.nilf], .fn⟩ := rfl
theorem ty112 : tyT 112 = some ⟨false, 1, [.nilf], .fn⟩ := rfl
theorem ty113 : tyT 113 = some ⟨false, 1, [.int .u64 0], .int .u64⟩ := rfl
theorem ty114 : tyT 114 = some ⟨true, 3, [.int .u64 0, .int .u64 0, .int .u64 0], .array 3 1 false⟩ := rfl
theorem ty115 : tyT 115 = some ⟨true, 3, [.int .u64 0, .int .u64 0, .int .u64 0], .array 3 1 false⟩ := rfl
theorem ty116 : tyT 116 = some ⟨false, 1, [.nilf], .fn⟩ := rfl
theorem ty117 : tyT 117 = some ⟨false, 1, [.nilf], .fn⟩ := rfl
theorem ty118 : tyT 118 = some ⟨false, 1, [.nilf], .fn⟩ := rfl
theorem ty119 : tyT 119 = some ⟨false, 1, [.nilf], .fn⟩ := rfl
theorem ty120 : tyT 120 = some ⟨false, 1, [.nilf], .fn⟩ := rfl
theorem ty121 : tyT 121 = some ⟨false, 1, [.nilf], .fn⟩ := rfl
theorem ty122 : tyT 122 = some ⟨false, 1, [.nilf], .fn⟩ := rfl
theorem ty123 : tyT 123 = some ⟨false, 1, [.nilf], .fn⟩ := rfl
theorem ty124 : tyT 124 = some ⟨false, 1, [.nilf], .fn⟩ := rfl
theorem ty125 : tyT 125 = some ⟨false, 1, [.nilf], .fn⟩ := rfl
theorem ty127 : tyT 127 = some ⟨false, 1, [.nilf], .fn⟩ := rfl
theorem ty128 : tyT 128 = some ⟨false, 1, [.nilf], .fn⟩ := rfl
theorem ty129 : tyT 129 = some ⟨false, 1, [.nilf], .fn⟩ := rfl
theorem ty130 : tyT 130 = some ⟨false, 1, [.nilf], .fn⟩ := rfl
theorem ty131 : tyT 131 = some ⟨false, 1, [.nilf], .fn⟩ := rfl
theorem ty133 : tyT 133 = some ⟨false, 1, [.nilf], .fn⟩ := rfl
theorem ty134 : tyT 134 = some ⟨false, 1, [.nilf], .fn⟩ := rfl
theorem ty135 : tyT 135 = some ⟨false, 1, [.nilf], .fn⟩ := rfl
theorem ty137 : tyT 137 = some ⟨false, 1, [.nilf], .fn⟩ := rfl
theorem ty138 : tyT 138 = some ⟨false, 1, [.nilf], .fn⟩ := rfl
theorem ty139 : tyT 139 = some ⟨false, 1, [.nilf], .fn⟩ := rfl
theorem ty140 : tyT 140 = some ⟨true, 3, [.nils, .int .i64 0, .int .i64 0], .struct [(0, 1, false), (1, 1, false), (2, 1, false)]⟩ := rfl
theorem ty141 : tyT 141 = some ⟨true, 3, [.nils, .int .i64 0, .int .i64 0], .struct [(0, 1, false), (1, 1, false), (2, 1, false)]⟩ := rfl
theorem ty142 : tyT 142 = some ⟨false, 1, [.nilf], .fn⟩ := rfl
theorem ty143 : tyT 143 = some ⟨false, 1, [.nilf], .fn⟩ := rfl
theorem ty144 : tyT 144 = some ⟨false, 1, [.nilf], .fn⟩ := rfl
theorem ty146 : tyT 146 = some ⟨false, 1, [.nilf], .fn⟩ := rfl
theorem ty147 : tyT 147 = some ⟨false, 1, [.nilf], .fn⟩ := rfl
theorem ty148 : tyT 148 = some ⟨false, 1, [.nilf], .fn⟩ := rfl
theorem ty150 : tyT 150 = some ⟨false, 1, [.nilf], .fn⟩ := rfl
theorem ty151 : tyT 151 = some ⟨false, 1, [.nilf], .fn⟩ := rfl
theorem ty153 : tyT 153 = some ⟨false, 1, [.nilf], .fn⟩ := rfl
theorem ty154 : tyT 154 = some ⟨false, 1, [.nilf], .fn⟩ := rfl
theorem ty155 : tyT 155 = some ⟨false, 1, [.nilf], .fn⟩ := rfl
theorem ty156 : tyT 156 = some ⟨false, 1, [.nilf], .fn⟩ := rfl
theorem ty157 : tyT 157 = some ⟨true, 2, [.int .i64 0, .int .i64 0], .struct [(0, 1, false), (1, 1, false)]⟩ := rfl
theorem ty158 : tyT 158 = some ⟨true, 2, [.int .i64 0, .int .i64 0], .struct [(0, 1, false), (1, 1, false)]⟩ := rfl
theorem ty159 : tyT 159 = some ⟨true, 40, List.replicate 40 (.int .i64 0), .array 40 1 false⟩ := rfl
theorem ty160 : tyT 160 = some ⟨false, 1, [.nilf], .fn⟩ := rfl
theorem ty161 : tyT 161 = some ⟨false, 1, [.nilf], .fn⟩ := rfl
theorem ty162 : tyT 162 = some ⟨false, 1, [.nilf], .fn⟩ := rfl
theorem ty163 : tyT 163 = some ⟨false, 1, [.nilf], .fn⟩ := rfl
theorem ty164 : tyT 164 = some ⟨false, 1, [.nilf], .fn⟩ := rfl
theorem ty165 : tyT 165 = some ⟨false, 1, [.nilf], .fn⟩ := rfl
theorem ty166 : tyT 166 = some ⟨false, 1, [.nilf], .fn⟩ := rfl
theorem ty167 : tyT 167 = some ⟨false, 1, [.nilf], .fn⟩ := rfl
theorem ty168 : tyT 168 = some ⟨false, 1, [.nilf], .fn⟩ := rfl
theorem ty169 : tyT 169 = some ⟨false, 1, [.nilp], .ptr⟩ := rfl
theorem ty170 : tyT 170 = some ⟨false, 1, [.nilf], .fn⟩ := rfl
theorem ty171 : tyT 171 = some ⟨true, 4, [.nilp, .nilp, .nilp, .str ⟨#[]⟩], .struct [(0, 1, false), (1, 1, false), (2, 1, false), (3, 1, false)]⟩ := rfl
theorem ty172 : tyT 172 = some ⟨true, 4, [.nilp, .nilp, .nilp, .str ⟨#[]⟩], .struct [(0, 1, false), (1, 1, false), (2, 1, false), (3, 1, false)]⟩ := rfl
theorem ty173 : tyT 173 = some ⟨true, 0, [], .array 0 1 false⟩ := rfl
theorem ty174 : tyT 174 = some ⟨true, 0, [], .struct [(0, 0, true)]⟩ := rfl
theorem ty175 : tyT 175 = some ⟨true, 0, [], .struct [(0, 0, true)]⟩ := rfl
theorem ty176 : tyT 176 = some ⟨false, 1, [.nilf], .fn⟩ := rfl
theorem ty177 : tyT 177 = some ⟨false, 1, [.int .u8 0], .int .u8⟩ := rfl
theorem ty178 : tyT 178 = some ⟨false, 1, [.int .u8 0], .int .u8⟩ := rfl
theorem ty179 : tyT 179 = some ⟨false, 1, [.nilf], .fn⟩ := rfl
theorem ty180 : tyT 180 = some ⟨false, 1, [.nilp], .ptr⟩ := rfl
theorem ty181 : tyT 181 = some ⟨false, 1, [.int .i32 0], .int .i32⟩ := rfl
theorem ty182 : tyT 182 = some ⟨false, 1, [.int .i32 0], .int .i32⟩ := rfl
theorem ty183 : tyT 183 = some ⟨true, 11, [.int .u64 0, .int .u64 0, .int .u32 0, .int .u8 0, .int .u8 0, .int .u8 0, .int .u8 0, .nilf, .nilp, .int .i32 0, .int .i32 0], .struct [(0, 1, false), (1, 1, false), (2, 1, false), (3, 1, false), (4, 1, false), (5, 1, false), (6, 1, false), (7, 1, false), (8, 1, false), (9, 1, false), (10, 1, false)]⟩ := rfl
theorem ty184 : tyT 184 = some ⟨true, 11, [.int .u64 0, .int .u64 0, .int .u32 0, .int .u8 0, .int .u8 0, .int .u8 0, .int .u8 0, .nilf, .nilp, .int .i32 0, .int .i32 0], .struct [(0, 1, false), (1, 1, false), (2, 1, false), (3, 1, false), (4, 1, false), (5, 1, false), (6, 1, false), (7, 1, false), (8, 1, false), (9, 1, false), (10, 1, false)]⟩ := rfl
theorem ty185 : tyT 185 = some ⟨true, 1, [.str ⟨#[]⟩], .struct [(0, 1, false)]⟩ := rfl
theorem ty186 : tyT 186 = some ⟨true, 1, [.str ⟨#[]⟩], .struct [(0, 1, false)]⟩ := rfl
end Go.Proofs.Ytimdnnlfkkkpbaa
