/- The types of the seat's program, as a table; printed by gen.py. -/
import Derived.Test.YtoncolpkpgbfiaaDoorEvG
namespace Go.Proofs.YtoncolpkpgbfiaaDoor
def ti1 : TI := ⟨false, 1, [.nilf], .fn⟩
def ti2 : TI := ⟨false, 1, [.int .i64 0], .int .i64⟩
def ti3 : TI := ⟨false, 1, [.int .i64 0], .int .i64⟩
def ti4 : TI := ⟨false, 1, [.bool false], .bool⟩
def ti5 : TI := ⟨false, 1, [.int .u8 0], .int .u8⟩
def ti6 : TI := ⟨false, 1, [.int .u8 0], .int .u8⟩
def ti7 : TI := ⟨true, 4, [.int .i64 0, .int .i64 0, .bool false, .int .u8 0], .struct [(0, 1, false), (1, 1, false), (2, 1, false), (3, 1, false)]⟩
def ti8 : TI := ⟨true, 4, [.int .i64 0, .int .i64 0, .bool false, .int .u8 0], .struct [(0, 1, false), (1, 1, false), (2, 1, false), (3, 1, false)]⟩
def ti9 : TI := ⟨false, 1, [.str ⟨#[]⟩], .string⟩
def ti10 : TI := ⟨false, 1, [.str ⟨#[]⟩], .string⟩
def ti11 : TI := ⟨false, 1, [.str ⟨#[]⟩], .string⟩
def ti12 : TI := ⟨false, 1, [.int .u64 0], .int .u64⟩
def ti13 : TI := ⟨true, 2, [.str ⟨#[]⟩, .int .u64 0], .struct [(0, 1, false), (1, 1, false)]⟩
def ti14 : TI := ⟨true, 2, [.str ⟨#[]⟩, .int .u64 0], .struct [(0, 1, false), (1, 1, false)]⟩
def ti15 : TI := ⟨false, 1, [.nilp], .ptr⟩
def ti16 : TI := ⟨false, 1, [.nilp], .ptr⟩
def ti17 : TI := ⟨false, 1, [.nilp], .ptr⟩
def ti18 : TI := ⟨true, 1, [.nilp], .struct [(0, 1, false)]⟩
def ti19 : TI := ⟨true, 1, [.nilp], .struct [(0, 1, false)]⟩
def ti20 : TI := ⟨false, 1, [.nili], .iface⟩
def ti21 : TI := ⟨false, 1, [.int .i32 0], .int .i32⟩
def ti22 : TI := ⟨true, 2, [.int .i64 0, .int .i64 0], .struct [(0, 1, false), (1, 1, false)]⟩
def ti23 : TI := ⟨true, 2, [.int .i64 0, .int .i64 0], .struct [(0, 1, false), (1, 1, false)]⟩
def ti24 : TI := ⟨false, 1, [.int .u16 0], .int .u16⟩
def ti25 : TI := ⟨true, 3, [.int .i64 0, .int .u16 0, .int .i64 0], .struct [(0, 1, false), (1, 1, false), (2, 1, false)]⟩
def ti26 : TI := ⟨true, 3, [.int .i64 0, .int .u16 0, .int .i64 0], .struct [(0, 1, false), (1, 1, false), (2, 1, false)]⟩
def ti27 : TI := ⟨true, 5, [.int .i64 0, .int .i64 0, .int .i64 0, .int .i64 0, .int .i64 0], .struct [(0, 1, false), (1, 1, false), (2, 1, false), (3, 1, false), (4, 1, false)]⟩
def ti28 : TI := ⟨true, 5, [.int .i64 0, .int .i64 0, .int .i64 0, .int .i64 0, .int .i64 0], .struct [(0, 1, false), (1, 1, false), (2, 1, false), (3, 1, false), (4, 1, false)]⟩
def ti29 : TI := ⟨false, 1, [.nili], .iface⟩
def ti30 : TI := ⟨false, 1, [.nili], .iface⟩
def ti32 : TI := ⟨false, 1, [.nilf], .fn⟩
def ti33 : TI := ⟨true, 2, [.int .i64 0, .int .i64 0], .struct [(0, 1, false), (1, 1, false)]⟩
def ti34 : TI := ⟨true, 3, [.int .i64 0, .int .u16 0, .int .i64 0], .struct [(0, 1, false), (1, 1, false), (2, 1, false)]⟩
def ti35 : TI := ⟨false, 1, [.nilf], .fn⟩
def ti36 : TI := ⟨false, 1, [.nilf], .fn⟩
def ti38 : TI := ⟨false, 1, [.nilf], .fn⟩
def ti39 : TI := ⟨false, 1, [.nilf], .fn⟩
def ti40 : TI := ⟨false, 1, [.nilf], .fn⟩
def ti41 : TI := ⟨false, 1, [.nils], .slice 42 1 24 ([.nils])⟩
def ti42 : TI := ⟨false, 1, [.nils], .slice 2 1 8 ([.int .i64 0])⟩
def ti43 : TI := ⟨false, 1, [.nilf], .fn⟩
def ti44 : TI := ⟨true, 36, List.replicate 36 (.int .i64 0), .array 36 1 false⟩
def ti45 : TI := ⟨true, 6, [.int .i64 0, .int .i64 0, .int .i64 0, .int .i64 0, .int .i64 0, .int .i64 0], .array 6 1 false⟩
def ti46 : TI := ⟨true, 43, List.replicate 43 (.int .i64 0), .struct [(0, 1, false), (1, 36, true), (37, 6, true)]⟩
def ti47 : TI := ⟨true, 43, List.replicate 43 (.int .i64 0), .struct [(0, 1, false), (1, 36, true), (37, 6, true)]⟩
def ti49 : TI := ⟨false, 1, [.nilf], .fn⟩
def ti50 : TI := ⟨true, 38, List.replicate 38 (.int .i64 0), .struct [(0, 1, false), (1, 1, false), (2, 36, true)]⟩
def ti51 : TI := ⟨true, 38, List.replicate 38 (.int .i64 0), .struct [(0, 1, false), (1, 1, false), (2, 36, true)]⟩
def ti52 : TI := ⟨false, 1, [.nilf], .fn⟩
def ti53 : TI := ⟨false, 1, [.nilf], .fn⟩
def ti54 : TI := ⟨true, 2, [.nils, .nils], .struct [(0, 1, false), (1, 1, false)]⟩
def ti55 : TI := ⟨true, 2, [.nils, .nils], .struct [(0, 1, false), (1, 1, false)]⟩
def ti56 : TI := ⟨false, 1, [.nilf], .fn⟩
def ti58 : TI := ⟨false, 1, [.nilf], .fn⟩
def ti60 : TI := ⟨false, 1, [.nilf], .fn⟩
def ti61 : TI := ⟨false, 1, [.nilf], .fn⟩
def ti62 : TI := ⟨false, 1, [.nilf], .fn⟩
def ti63 : TI := ⟨true, 3, [.int .i64 0, .int .i64 0, .int .i64 0], .struct [(0, 1, false), (1, 1, false), (2, 1, false)]⟩
def ti64 : TI := ⟨true, 3, [.int .i64 0, .int .i64 0, .int .i64 0], .struct [(0, 1, false), (1, 1, false), (2, 1, false)]⟩
def ti66 : TI := ⟨false, 1, [.nilf], .fn⟩
def ti67 : TI := ⟨true, 3, [.int .i64 0, .int .i64 0, .int .i64 0], .struct [(0, 1, false), (1, 1, false), (2, 1, false)]⟩
def ti68 : TI := ⟨false, 1, [.nilf], .fn⟩
def ti70 : TI := ⟨false, 1, [.nilf], .fn⟩
def ti71 : TI := ⟨false, 1, [.nilf], .fn⟩
def ti72 : TI := ⟨false, 1, [.nilf], .fn⟩
def ti73 : TI := ⟨false, 1, [.nilf], .fn⟩
def ti74 : TI := ⟨false, 1, [.nilf], .fn⟩
def ti75 : TI := ⟨false, 1, [.int .i64 0], .int .i64⟩
def ti76 : TI := ⟨false, 1, [.int .u32 0], .int .u32⟩
def ti77 : TI := ⟨false, 1, [.int .u32 0], .int .u32⟩
def ti78 : TI := ⟨false, 1, [.nilf], .fn⟩
def ti79 : TI := ⟨false, 1, [.nilf], .fn⟩
def ti80 : TI := ⟨false, 1, [.nilp], .ptr⟩
def ti81 : TI := ⟨true, 2, [.bool false, .nili], .struct [(0, 1, false), (1, 1, false)]⟩
def ti82 : TI := ⟨true, 2, [.bool false, .nili], .struct [(0, 1, false), (1, 1, false)]⟩
def ti84 : TI := ⟨false, 1, [.nilf], .fn⟩
def ti85 : TI := ⟨false, 1, [.nilf], .fn⟩
def ti86 : TI := ⟨false, 1, [.nilf], .fn⟩
def ti87 : TI := ⟨false, 1, [.nilf], .fn⟩
def ti88 : TI := ⟨false, 1, [.nilp], .ptr⟩
def ti89 : TI := ⟨false, 1, [.nilf], .fn⟩
def ti90 : TI := ⟨false, 1, [.nilf], .fn⟩
def ti91 : TI := ⟨false, 1, [.nilp], .ptr⟩
def ti92 : TI := ⟨false, 1, [.nilp], .ptr⟩
def ti93 : TI := ⟨true, 1, [.bool false], .struct [(0, 1, false)]⟩
def ti94 : TI := ⟨true, 1, [.bool false], .struct [(0, 1, false)]⟩
def ti95 : TI := ⟨false, 1, [.nilf], .fn⟩
def ti96 : TI := ⟨false, 1, [.nilf], .fn⟩
def ti97 : TI := ⟨false, 1, [.nilf], .fn⟩
def ti99 : TI := ⟨false, 1, [.nilf], .fn⟩
def ti100 : TI := ⟨false, 1, [.nils], .slice 3 1 8 ([.int .i64 0])⟩
def ti101 : TI := ⟨true, 2, [.bool false, .nils], .struct [(0, 1, false), (1, 1, false)]⟩
def ti102 : TI := ⟨true, 2, [.bool false, .nils], .struct [(0, 1, false), (1, 1, false)]⟩
def ti103 : TI := ⟨false, 1, [.nilf], .fn⟩
def ti104 : TI := ⟨false, 1, [.nilf], .fn⟩
def ti105 : TI := ⟨false, 1, [.nilf], .fn⟩
def ti106 : TI := ⟨false, 1, [.nilf], .fn⟩
def ti107 : TI := ⟨false, 1, [.nilf], .fn⟩
def ti108 : TI := ⟨false, 1, [.nilf], .fn⟩
def ti109 : TI := ⟨false, 1, [.nilf], .fn⟩
def ti110 : TI := ⟨false, 1, [.nilf], .fn⟩
def ti111 : TI := ⟨false, 1, [.nilf], .fn⟩
def ti112 : TI := ⟨false, 1, [.nilp], .ptr⟩
def ti113 : TI := ⟨true, 2, [.bool false, .nili], .struct [(0, 1, false), (1, 1, false)]⟩
def ti114 : TI := ⟨true, 2, [.bool false, .nili], .struct [(0, 1, false), (1, 1, false)]⟩
def ti115 : TI := ⟨false, 1, [.nilf], .fn⟩
def ti116 : TI := ⟨true, 3, [.int .i64 0, .int .i64 0, .int .i64 0], .array 3 1 false⟩
def ti117 : TI := ⟨true, 2, [.int .i64 0, .int .i64 0], .array 2 1 false⟩
def ti118 : TI := ⟨false, 1, [.nilf], .fn⟩
def ti119 : TI := ⟨false, 1, [.nilf], .fn⟩
def ti120 : TI := ⟨false, 1, [.nilf], .fn⟩
def ti121 : TI := ⟨false, 1, [.nilf], .fn⟩
def ti123 : TI := ⟨false, 1, [.nilf], .fn⟩
def ti124 : TI := ⟨false, 1, [.nilf], .fn⟩
def ti125 : TI := ⟨false, 1, [.nilf], .fn⟩
def ti126 : TI := ⟨false, 1, [.nilp], .ptr⟩
def ti127 : TI := ⟨false, 1, [.nilf], .fn⟩
def ti129 : TI := ⟨false, 1, [.nilf], .fn⟩
def ti130 : TI := ⟨false, 1, [.nilf], .fn⟩
def ti131 : TI := ⟨false, 1, [.int .u64 0], .int .u64⟩
def ti132 : TI := ⟨false, 1, [.nilf], .fn⟩
def ti133 : TI := ⟨false, 1, [.nilf], .fn⟩
def ti134 : TI := ⟨false, 1, [.nilf], .fn⟩
def ti136 : TI := ⟨false, 1, [.int .u64 0], .int .u64⟩
def ti137 : TI := ⟨true, 3, [.nilp, .nilp, .int .u64 0], .struct [(0, 1, false), (1, 1, false), (2, 1, false)]⟩
def ti138 : TI := ⟨true, 3, [.nilp, .nilp, .int .u64 0], .struct [(0, 1, false), (1, 1, false), (2, 1, false)]⟩
def ti139 : TI := ⟨false, 1, [.nilf], .fn⟩
def ti140 : TI := ⟨false, 1, [.nili], .iface⟩
def ti141 : TI := ⟨false, 1, [.nili], .iface⟩
def ti142 : TI := ⟨false, 1, [.nilf], .fn⟩
def ti143 : TI := ⟨false, 1, [.int .u8 0], .int .u8⟩
def ti144 : TI := ⟨false, 1, [.nilf], .fn⟩
def ti145 : TI := ⟨false, 1, [.nilf], .fn⟩
def ti146 : TI := ⟨false, 1, [.nilf], .fn⟩
def ti147 : TI := ⟨false, 1, [.nilf], .fn⟩
def ti148 : TI := ⟨false, 1, [.nilf], .fn⟩
def ti149 : TI := ⟨false, 1, [.nilf], .fn⟩
def ti150 : TI := ⟨false, 1, [.nilf], .fn⟩
def ti151 : TI := ⟨false, 1, [.int .u64 0], .int .u64⟩
def ti152 : TI := ⟨false, 1, [.nilf], .fn⟩
def ti153 : TI := ⟨false, 1, [.nilf], .fn⟩
def ti154 : TI := ⟨false, 1, [.nilf], .fn⟩
def ti155 : TI := ⟨false, 1, [.nilf], .fn⟩
def ti156 : TI := ⟨false, 1, [.nilf], .fn⟩
def ti157 : TI := ⟨false, 1, [.nilf], .fn⟩
def ti158 : TI := ⟨false, 1, [.nils], .slice 116 3 24 ([.int .i64 0, .int .i64 0, .int .i64 0])⟩
def ti159 : TI := ⟨true, 2, [.int .i64 0, .int .i64 0], .array 2 1 false⟩
def ti160 : TI := ⟨true, 2, [.int .i64 0, .int .i64 0], .struct [(0, 1, false), (1, 1, false)]⟩
def ti161 : TI := ⟨true, 2, [.int .i64 0, .int .i64 0], .struct [(0, 1, false), (1, 1, false)]⟩
def ti162 : TI := ⟨true, 40, List.replicate 40 (.int .i64 0), .array 40 1 false⟩
def ti163 : TI := ⟨false, 1, [.nilf], .fn⟩
def ti164 : TI := ⟨false, 1, [.nilf], .fn⟩
def ti165 : TI := ⟨true, 3, [.int .u64 0, .int .u64 0, .int .u64 0], .array 3 1 false⟩
def ti166 : TI := ⟨true, 3, [.int .u64 0, .int .u64 0, .int .u64 0], .array 3 1 false⟩
def ti167 : TI := ⟨false, 1, [.nilf], .fn⟩
def ti168 : TI := ⟨false, 1, [.nilf], .fn⟩
def ti169 : TI := ⟨false, 1, [.nilf], .fn⟩
def ti170 : TI := ⟨false, 1, [.nilf], .fn⟩
def ti171 : TI := ⟨true, 1, [.nilp], .struct [(0, 1, false)]⟩
def ti172 : TI := ⟨true, 1, [.nilp], .struct [(0, 1, false)]⟩
def ti173 : TI := ⟨false, 1, [.nilp], .ptr⟩
def ti174 : TI := ⟨false, 1, [.nilf], .fn⟩
def ti175 : TI := ⟨false, 1, [.nilf], .fn⟩
def ti176 : TI := ⟨false, 1, [.nilf], .fn⟩
def ti177 : TI := ⟨false, 1, [.nili], .iface⟩
def ti179 : TI := ⟨false, 1, [.nilf], .fn⟩
def ti180 : TI := ⟨false, 1, [.nili], .iface⟩
def ti181 : TI := ⟨false, 1, [.nilf], .fn⟩
def ti182 : TI := ⟨false, 1, [.nili], .iface⟩
def ti183 : TI := ⟨false, 1, [.nils], .slice 30 1 16 ([.nili])⟩
def ti184 : TI := ⟨false, 1, [.nilf], .fn⟩
def ti186 : TI := ⟨false, 1, [.nilf], .fn⟩
def ti187 : TI := ⟨false, 1, [.nilf], .fn⟩
def ti188 : TI := ⟨false, 1, [.nilf], .fn⟩
def ti189 : TI := ⟨false, 1, [.nilf], .fn⟩
def ti190 : TI := ⟨false, 1, [.nilf], .fn⟩
def ti191 : TI := ⟨false, 1, [.nilf], .fn⟩
def ti192 : TI := ⟨false, 1, [.nilf], .fn⟩
def ti193 : TI := ⟨false, 1, [.nilf], .fn⟩
def ti195 : TI := ⟨false, 1, [.nilf], .fn⟩
def ti196 : TI := ⟨false, 1, [.nilf], .fn⟩
def ti197 : TI := ⟨false, 1, [.nilf], .fn⟩
def ti198 : TI := ⟨false, 1, [.nilp], .ptr⟩
def ti199 : TI := ⟨false, 1, [.nilf], .fn⟩
def ti200 : TI := ⟨true, 4, [.nilp, .nilp, .nilp, .str ⟨#[]⟩], .struct [(0, 1, false), (1, 1, false), (2, 1, false), (3, 1, false)]⟩
def ti201 : TI := ⟨true, 4, [.nilp, .nilp, .nilp, .str ⟨#[]⟩], .struct [(0, 1, false), (1, 1, false), (2, 1, false), (3, 1, false)]⟩
def ti202 : TI := ⟨true, 0, [], .array 0 1 false⟩
def ti203 : TI := ⟨true, 0, [], .struct [(0, 0, true)]⟩
def ti204 : TI := ⟨true, 0, [], .struct [(0, 0, true)]⟩
def ti205 : TI := ⟨false, 1, [.nilf], .fn⟩
def ti206 : TI := ⟨false, 1, [.nilf], .fn⟩
def ti207 : TI := ⟨false, 1, [.int .u8 0], .int .u8⟩
def ti208 : TI := ⟨false, 1, [.nilf], .fn⟩
def ti209 : TI := ⟨false, 1, [.nilp], .ptr⟩
def ti210 : TI := ⟨false, 1, [.int .i32 0], .int .i32⟩
def ti211 : TI := ⟨false, 1, [.int .i32 0], .int .i32⟩
def ti212 : TI := ⟨true, 11, [.int .u64 0, .int .u64 0, .int .u32 0, .int .u8 0, .int .u8 0, .int .u8 0, .int .u8 0, .nilf, .nilp, .int .i32 0, .int .i32 0], .struct [(0, 1, false), (1, 1, false), (2, 1, false), (3, 1, false), (4, 1, false), (5, 1, false), (6, 1, false), (7, 1, false), (8, 1, false), (9, 1, false), (10, 1, false)]⟩
def ti213 : TI := ⟨true, 11, [.int .u64 0, .int .u64 0, .int .u32 0, .int .u8 0, .int .u8 0, .int .u8 0, .int .u8 0, .nilf, .nilp, .int .i32 0, .int .i32 0], .struct [(0, 1, false), (1, 1, false), (2, 1, false), (3, 1, false), (4, 1, false), (5, 1, false), (6, 1, false), (7, 1, false), (8, 1, false), (9, 1, false), (10, 1, false)]⟩
def ti214 : TI := ⟨false, 1, [.nilf], .fn⟩
def ti215 : TI := ⟨false, 1, [.nilf], .fn⟩
def ti216 : TI := ⟨true, 2, [.str ⟨#[]⟩, .int .u8 0], .struct [(0, 1, false), (1, 1, false)]⟩
def ti217 : TI := ⟨true, 2, [.str ⟨#[]⟩, .int .u8 0], .struct [(0, 1, false), (1, 1, false)]⟩
def ti218 : TI := ⟨true, 1, [.str ⟨#[]⟩], .struct [(0, 1, false)]⟩
def ti219 : TI := ⟨true, 1, [.str ⟨#[]⟩], .struct [(0, 1, false)]⟩
def ti220 : TI := ⟨false, 1, [.nilp], .ptr⟩
def ti221 : TI := ⟨false, 1, [.nilf], .fn⟩
def ti222 : TI := ⟨true, 5, [.int .i32 0, .int .u16 0, .int .u16 0, .int .u32 0, .int .u32 0], .struct [(0, 1, false), (1, 1, false), (2, 1, false), (3, 1, false), (4, 1, false)]⟩
def ti223 : TI := ⟨true, 5, [.int .i32 0, .int .u16 0, .int .u16 0, .int .u32 0, .int .u32 0], .struct [(0, 1, false), (1, 1, false), (2, 1, false), (3, 1, false), (4, 1, false)]⟩
def ti224 : TI := ⟨false, 1, [.nils], .slice 227 4 16 ([.int .i32 0, .int .i32 0, .int .i32 0, .int .i32 0])⟩
def ti225 : TI := ⟨false, 1, [.int .i32 0], .int .i32⟩
def ti226 : TI := ⟨true, 4, [.int .i32 0, .int .i32 0, .int .i32 0, .int .i32 0], .struct [(0, 1, false), (1, 1, false), (2, 1, false), (3, 1, false)]⟩
def ti227 : TI := ⟨true, 4, [.int .i32 0, .int .i32 0, .int .i32 0, .int .i32 0], .struct [(0, 1, false), (1, 1, false), (2, 1, false), (3, 1, false)]⟩
def ti228 : TI := ⟨false, 1, [.nilp], .ptr⟩
def tyL : List (Option TI) := [none, some ti1, some ti2, some ti3, some ti4, some ti5, some ti6, some ti7, some ti8, some ti9, some ti10, some ti11, some ti12, some ti13, some ti14, some ti15, some ti16, some ti17, some ti18, some ti19, some ti20, some ti21, some ti22, some ti23, some ti24, some ti25, some ti26, some ti27, some ti28, some ti29, some ti30, none, some ti32, some ti33, some ti34, some ti35, some ti36, none, some ti38, some ti39, some ti40, some ti41, some ti42, some ti43, some ti44, some ti45, some ti46, some ti47, none, some ti49, some ti50, some ti51, some ti52, some ti53, some ti54, some ti55, some ti56, none, some ti58, none, some ti60, some ti61, some ti62, some ti63, some ti64, none, some ti66, some ti67, some ti68, none, some ti70, some ti71, some ti72, some ti73, some ti74, some ti75, some ti76, some ti77, some ti78, some ti79, some ti80, some ti81, some ti82, none, some ti84, some ti85, some ti86, some ti87, some ti88, some ti89, some ti90, some ti91, some ti92, some ti93, some ti94, some ti95, some ti96, some ti97, none, some ti99, some ti100, some ti101, some ti102, some ti103, some ti104, some ti105, some ti106, some ti107, some ti108, some ti109, some ti110, some ti111, some ti112, some ti113, some ti114, some ti115, some ti116, some ti117, some ti118, some ti119, some ti120, some ti121, none, some ti123, some ti124, some ti125, some ti126, some ti127, none, some ti129, some ti130, some ti131, some ti132, some ti133, some ti134, none, some ti136, some ti137, some ti138, some ti139, some ti140, some ti141, some ti142, some ti143, some ti144, some ti145, some ti146, some ti147, some ti148, some ti149, some ti150, some ti151, some ti152, some ti153, some ti154, some ti155, some ti156, some ti157, some ti158, some ti159, some ti160, some ti161, some ti162, some ti163, some ti164, some ti165, some ti166, some ti167, some ti168, some ti169, some ti170, some ti171, some ti172, some ti173, some ti174, some ti175, some ti176, some ti177, none, some ti179, some ti180, some ti181, some ti182, some ti183, some ti184, none, some ti186, some ti187, some ti188, some ti189, some ti190, some ti191, some ti192, some ti193, none, some ti195, some ti196, some ti197, some ti198, some ti199, some ti200, some ti201, some ti202, some ti203, some ti204, some ti205, some ti206, some ti207, some ti208, some ti209, some ti210, some ti211, some ti212, some ti213, some ti214, some ti215, some ti216, some ti217, some ti218, some ti219, some ti220, some ti221, some ti222, some ti223, some ti224, some ti225, some ti226, some ti227, some ti228]
def tyT (t : TypeId) : Option TI := (tyL[t]?).join
theorem ty1 : tyT 1 = some ⟨false, 1, [.nilf], .fn⟩ := rfl
theorem ty2 : tyT 2 = some ⟨false, 1, [.int .i64 0], .int .i64⟩ := rfl
theorem ty3 : tyT 3 = some ⟨false, 1, [.int .i64 0], .int .i64⟩ := rfl
theorem ty4 : tyT 4 = some ⟨false, 1, [.bool false], .bool⟩ := rfl
theorem ty5 : tyT 5 = some ⟨false, 1, [.int .u8 0], .int .u8⟩ := rfl
theorem ty6 : tyT 6 = some ⟨false, 1, [.int .u8 0], .int .u8⟩ := rfl
theorem ty7 : tyT 7 = some ⟨true, 4, [.int .i64 0, .int .i64 0, .bool false, .int .u8 0], .struct [(0, 1, false), (1, 1, false), (2, 1, false), (3, 1, false)]⟩ := rfl
theorem ty8 : tyT 8 = some ⟨true, 4, [.int .i64 0, .int .i64 0, .bool false, .int .u8 0], .struct [(0, 1, false), (1, 1, false), (2, 1, false), (3, 1, false)]⟩ := rfl
theorem ty9 : tyT 9 = some ⟨false, 1, [.str ⟨#[]⟩], .string⟩ := rfl
theorem ty10 : tyT 10 = some ⟨false, 1, [.str ⟨#[]⟩], .string⟩ := rfl
theorem ty11 : tyT 11 = some ⟨false, 1, [.str ⟨#[]⟩], .string⟩ := rfl
theorem ty12 : tyT 12 = some ⟨false, 1, [.int .u64 0], .int .u64⟩ := rfl
theorem ty13 : tyT 13 = some ⟨true, 2, [.str ⟨#[]⟩, .int .u64 0], .struct [(0, 1, false), (1, 1, false)]⟩ := rfl
theorem ty14 : tyT 14 = some ⟨true, 2, [.str ⟨#[]⟩, .int .u64 0], .struct [(0, 1, false), (1, 1, false)]⟩ := rfl
theorem ty15 : tyT 15 = some ⟨false, 1, [.nilp], .ptr⟩ := rfl
theorem ty16 : tyT 16 = some ⟨false, 1, [.nilp], .ptr⟩ := rfl
theorem ty17 : tyT 17 = some ⟨false, 1, [.nilp], .ptr⟩ := rfl
theorem ty18 : tyT 18 = some ⟨true, 1, [.nilp], .struct [(0, 1, false)]⟩ := rfl
theorem ty19 : tyT 19 = some ⟨true, 1, [.nilp], .struct [(0, 1, false)]⟩ := rfl
theorem ty20 : tyT 20 = some ⟨false, 1, [.nili], .iface⟩ := rfl
theorem ty21 : tyT 21 = some ⟨false, 1, [.int .i32 0], .int .i32⟩ := rfl
theorem ty22 : tyT 22 = some ⟨true, 2, [.int .i64 0, .int .i64 0], .struct [(0, 1, false), (1, 1, false)]⟩ := rfl
theorem ty23 : tyT 23 = some ⟨true, 2, [.int .i64 0, .int .i64 0], .struct [(0, 1, false), (1, 1, false)]⟩ := rfl
theorem ty24 : tyT 24 = some ⟨false, 1, [.int .u16 0], .int .u16⟩ := rfl
theorem ty25 : tyT 25 = some ⟨true, 3, [.int .i64 0, .int .u16 0, .int .i64 0], .struct [(0, 1, false), (1, 1, false), (2, 1, false)]⟩ := rfl
theorem ty26 : tyT 26 = some ⟨true, 3, [.int .i64 0, .int .u16 0, .int .i64 0], .struct [(0, 1, false), (1, 1, false), (2, 1, false)]⟩ := rfl
theorem ty27 : tyT 27 = some ⟨true, 5, [.int .i64 0, .int .i64 0, .int .i64 0, .int .i64 0, .int .i64 0], .struct [(0, 1, false), (1, 1, false), (2, 1, false), (3, 1, false), (4, 1, false)]⟩ := rfl
theorem ty28 : tyT 28 = some ⟨true, 5, [.int .i64 0, .int .i64 0, .int .i64 0, .int .i64 0, .int .i64 0], .struct [(0, 1, false), (1, 1, false), (2, 1, false), (3, 1, false), (4, 1, false)]⟩ := rfl
theorem ty29 : tyT 29 = some ⟨false, 1, [.nili], .iface⟩ := rfl
theorem ty30 : tyT 30 = some ⟨false, 1, [.nili], .iface⟩ := rfl
theorem ty32 : tyT 32 = some ⟨false, 1, [.nilf], .fn⟩ := rfl
theorem ty33 : tyT 33 = some ⟨true, 2, [.int .i64 0, .int .i64 0], .struct [(0, 1, false), (1, 1, false)]⟩ := rfl
theorem ty34 : tyT 34 = some ⟨true, 3, [.int .i64 0, .int .u16 0, .int .i64 0], .struct [(0, 1, false), (1, 1, false), (2, 1, false)]⟩ := rfl
theorem ty35 : tyT 35 = some ⟨false, 1, [.nilf], .fn⟩ := rfl
theorem ty36 : tyT 36 = some ⟨false, 1, [.nilf], .fn⟩ := rfl
theorem ty38 : tyT 38 = some ⟨false, 1, [.nilf], .fn⟩ := rfl
theorem ty39 : tyT 39 = some ⟨false, 1, [.nilf], .fn⟩ := rfl
theorem ty40 : tyT 40 = some ⟨false, 1, [.nilf], .fn⟩ := rfl
theorem ty41 : tyT 41 = some ⟨false, 1, [.nils], .slice 42 1 24 ([.nils])⟩ := rfl
theorem ty42 : tyT 42 = some ⟨false, 1, [.nils], .slice 2 1 8 ([.int .i64 0])⟩ := rfl
theorem ty43 : tyT 43 = some ⟨false, 1, [.nilf], .fn⟩ := rfl
theorem ty44 : tyT 44 = some ⟨true, 36, List.replicate 36 (.int .i64 0), .array 36 1 false⟩ := rfl
theorem ty45 : tyT 45 = some ⟨true, 6, [.int .i64 0, .int .i64 0, .int .i64 0, .int .i64 0, .int .i64 0, .int .i64 0], .array 6 1 false⟩ := rfl
theorem ty46 : tyT 46 = some ⟨true, 43, List.replicate 43 (.int .i64 0), .struct [(0, 1, false), (1, 36, true), (37, 6, true)]⟩ := rfl
theorem ty47 : tyT 47 = some ⟨true, 43, List.replicate 43 (.int .i64 0), .struct [(0, 1, false), (1, 36, true), (37, 6, true)]⟩ := rfl
theorem ty49 : tyT 49 = some ⟨false, 1, [.nilf], .fn⟩ := rfl
theorem ty50 : tyT 50 = some ⟨true, 38, List.replicate 38 (.int .i64 0), .struct [(0, 1, false), (1, 1, false), (2, 36, true)]⟩ := rfl
theorem ty51 : tyT 51 = some ⟨true, 38, List.replicate 38 (.int .i64 0), .struct [(0, 1, false), (1, 1, false), (2, 36, true)]⟩ := rfl
theorem ty52 : tyT 52 = some ⟨false, 1, [.nilf], .fn⟩ := rfl
theorem ty53 : tyT 53 = some ⟨false, 1, [.nilf], .fn⟩ := rfl
theorem ty54 : tyT 54 = some ⟨true, 2, [.nils, .nils], .struct [(0, 1, false), (1, 1, false)]⟩ := rfl
theorem ty55 : tyT 55 = some ⟨true, 2, [.nils, .nils], .struct [(0, 1, false), (1, 1, false)]⟩ := rfl
theorem ty56 : tyT 56 = some ⟨false, 1, [.nilf], .fn⟩ := rfl
theorem ty58 : tyT 58 = some ⟨false, 1, [.nilf], .fn⟩ := rfl
theorem ty60 : tyT 60 = some ⟨false, 1, [.nilf], .fn⟩ := rfl
theorem ty61 : tyT 61 = some ⟨false, 1, [.nilf], .fn⟩ := rfl
theorem ty62 : tyT 62 = some ⟨false, 1, [.nilf], .fn⟩ := rfl
theorem ty63 : tyT 63 = some ⟨true, 3, [.int .i64 0, .int .i64 0, .int .i64 0], .struct [(0, 1, false), (1, 1, false), (2, 1, false)]⟩ := rfl
theorem ty64 : tyT 64 = some ⟨true, 3, [.int .i64 0, .int .i64 0, .int .i64 0], .struct [(0, 1, false), (1, 1, false), (2, 1, false)]⟩ := rfl
theorem ty66 : tyT 66 = some ⟨false, 1, [.nilf], .fn⟩ := rfl
theorem ty67 : tyT 67 = some ⟨true, 3, [.int .i64 0, .int .i64 0, .int .i64 0], .struct [(0, 1, false), (1, 1, false), (2, 1, false)]⟩ := rfl
theorem ty68 : tyT 68 = some ⟨false, 1, [.nilf], .fn⟩ := rfl
theorem ty70 : tyT 70 = some ⟨false, 1, [.nilf], .fn⟩ := rfl
theorem ty71 : tyT 71 = some ⟨false, 1, [.nilf], .fn⟩ := rfl
theorem ty72 : tyT 72 = some ⟨false, 1, [.nilf], .fn⟩ := rfl
theorem ty73 : tyT 73 = some ⟨false, 1, [.nilf], .fn⟩ := rfl
theorem ty74 : tyT 74 = some ⟨false, 1, [.nilf], .fn⟩ := rfl
theorem ty75 : tyT 75 = some ⟨false, 1, [.int .i64 0], .int .i64⟩ := rfl
theorem ty76 : tyT 76 = some ⟨false, 1, [.int .u32 0], .int .u32⟩ := rfl
theorem ty77 : tyT 77 = some ⟨false, 1, [.int .u32 0], .int .u32⟩ := rfl
theorem ty78 : tyT 78 = some ⟨false, 1, [.nilf], .fn⟩ := rfl
theorem ty79 : tyT 79 = some ⟨false, 1, [.nilf], .fn⟩ := rfl
theorem ty80 : tyT 80 = some ⟨false, 1, [.nilp], .ptr⟩ := rfl
theorem ty81 : tyT 81 = some ⟨true, 2, [.bool false, .nili], .struct [(0, 1, false), (1, 1, false)]⟩ := rfl
theorem ty82 : tyT 82 = some ⟨true, 2, [.bool false, .nili], .struct [(0, 1, false), (1, 1, false)]⟩ := rfl
theorem ty84 : tyT 84 = some ⟨false, 1, [.nilf], .fn⟩ := rfl
theorem ty85 : tyT 85 = some ⟨false, 1, [.nilf], .fn⟩ := rfl
theorem ty86 : tyT 86 = some ⟨false, 1, [.nilf], .fn⟩ := rfl
theorem ty87 : tyT 87 = some ⟨false, 1, [.nilf], .fn⟩ := rfl
theorem ty88 : tyT 88 = some ⟨false, 1, [.nilp], .ptr⟩ := rfl
theorem ty89 : tyT 89 = some ⟨false, 1, [.nilf], .fn⟩ := rfl
theorem ty90 : tyT 90 = some ⟨false, 1, [.nilf], .fn⟩ := rfl
theorem ty91 : tyT 91 = some ⟨false, 1, [.nilp], .ptr⟩ := rfl
theorem ty92 : tyT 92 = some ⟨false, 1, [.nilp], .ptr⟩ := rfl
theorem ty93 : tyT 93 = some ⟨true, 1, [.bool false], .struct [(0, 1, false)]⟩ := rfl
theorem ty94 : tyT 94 = some ⟨true, 1, [.bool false], .struct [(0, 1, false)]⟩ := rfl
theorem ty95 : tyT 95 = some ⟨false, 1, [.nilf], .fn⟩ := rfl
theorem ty96 : tyT 96 = some ⟨false, 1, [.nilf], .fn⟩ := rfl
theorem ty97 : tyT 97 = some ⟨false, 1, [.nilf], .fn⟩ := rfl
theorem ty99 : tyT 99 = some ⟨false, 1, [.nilf], .fn⟩ := rfl
theorem ty100 : tyT 100 = some ⟨false, 1, [.nils], .slice 3 1 8 ([.int .i64 0])⟩ := rfl
theorem ty101 : tyT 101 = some ⟨true, 2, [.bool false, .nils], .struct [(0, 1, false), (1, 1, false)]⟩ := rfl
theorem ty102 : tyT 102 = some ⟨true, 2, [.bool false, .nils], .struct [(0, 1, false), (1, 1, false)]⟩ := rfl
theorem ty103 : tyT 103 = some ⟨false, 1, [.nilf], .fn⟩ := rfl
theorem ty104 : tyT 104 = some ⟨false, 1, [.nilf], .fn⟩ := rfl
theorem ty105 : tyT 105 = some ⟨false, 1, [.nilf], .fn⟩ := rfl
theorem ty106 : tyT 106 = some ⟨false, 1, [.nilf], .fn⟩ := rfl
theorem ty107 : tyT 107 = some ⟨false, 1, [.nilf], .fn⟩ := rfl
theorem ty108 : tyT 108 = some ⟨false, 1, [.nilf], .fn⟩ := rfl
theorem ty109 : tyT 109 = some ⟨false, 1, [.nilf], .fn⟩ := rfl
theorem ty110 : tyT 110 = some ⟨false, 1, [.nilf], .fn⟩ := rfl
theorem ty111 : tyT 111 = some ⟨false, 1, [.nilf], .fn⟩ := rfl
theorem ty112 : tyT 112 = some ⟨false, 1, [.nilp], .ptr⟩ := rfl
theorem ty113 : tyT 113 = some ⟨true, 2, [.bool false, .nili], .struct [(0, 1, false), (1, 1, false)]⟩ := rfl
theorem ty114 : tyT 114 = some ⟨true, 2, [.bool false, .nili], .struct [(0, 1, false), (1, 1, false)]⟩ := rfl
theorem ty115 : tyT 115 = some ⟨false, 1, [.nilf], .fn⟩ := rfl
theorem ty116 : tyT 116 = some ⟨true, 3, [.int .i64 0, .int .i64 0, .int .i64 0], .array 3 1 false⟩ := rfl
theorem ty117 : tyT 117 = some ⟨true, 2, [.int .i64 0, .int .i64 0], .array 2 1 false⟩ := rfl
theorem ty118 : tyT 118 = some ⟨false, 1, [.nilf], .fn⟩ := rfl
theorem ty119 : tyT 119 = some ⟨false, 1, [.nilf], .fn⟩ := rfl
theorem ty120 : tyT 120 = some ⟨false, 1, [.nilf], .fn⟩ := rfl
theorem ty121 : tyT 121 = some ⟨false, 1, [.nilf], .fn⟩ := rfl
theorem ty123 : tyT 123 = some ⟨false, 1, [.nilf], .fn⟩ := rfl
theorem ty124 : tyT 124 = some ⟨false, 1, [.nilf], .fn⟩ := rfl
theorem ty125 : tyT 125 = some ⟨false, 1, [.nilf], .fn⟩ := rfl
theorem ty126 : tyT 126 = some ⟨false, 1, [.nilp], .ptr⟩ := rfl
theorem ty127 : tyT 127 = some ⟨false, 1, [.nilf], .fn⟩ := rfl
theorem ty129 : tyT 129 = some ⟨false, 1, [.nilf], .fn⟩ := rfl
theorem ty130 : tyT 130 = some ⟨false, 1, [.nilf], .fn⟩ := rfl
theorem ty131 : tyT 131 = some ⟨false, 1, [.int .u64 0], .int .u64⟩ := rfl
theorem ty132 : tyT 132 = some ⟨false, 1, [.nilf], .fn⟩ := rfl
theorem ty133 : tyT 133 = some ⟨false, 1, [.nilf], .fn⟩ := rfl
theorem ty134 : tyT 134 = some ⟨false, 1, [.nilf], .fn⟩ := rfl
theorem ty136 : tyT 136 = some ⟨false, 1, [.int .u64 0], .int .u64⟩ := rfl
theorem ty137 : tyT 137 = some ⟨true, 3, [.nilp, .nilp, .int .u64 0], .struct [(0, 1, false), (1, 1, false), (2, 1, false)]⟩ := rfl
theorem ty138 : tyT 138 = some ⟨true, 3, [.nilp, .nilp, .int .u64 0], .struct [(0, 1, false), (1, 1, false), (2, 1, false)]⟩ := rfl
theorem ty139 : tyT 139 = some ⟨false, 1, [.nilf], .fn⟩ := rfl
theorem ty140 : tyT 140 = some ⟨false, 1, [.nili], .iface⟩ := rfl
theorem ty141 : tyT 141 = some ⟨false, 1, [.nili], .iface⟩ := rfl
theorem ty142 : tyT 142 = some ⟨false, 1, [.nilf], .fn⟩ := rfl
theorem ty143 : tyT 143 = some ⟨false, 1, [.int .u8 0], .int .u8⟩ := rfl
theorem ty144 : tyT 144 = some ⟨false, 1, [.nilf], .fn⟩ := rfl
theorem ty145 : tyT 145 = some ⟨false, 1, [.nilf], .fn⟩ := rfl
theorem ty146 : tyT 146 = some ⟨false, 1, [.nilf], .fn⟩ := rfl
theorem ty147 : tyT 147 = some ⟨false, 1, [.nilf], .fn⟩ := rfl
theorem ty148 : tyT 148 = some ⟨false, 1, [.nilf], .fn⟩ := rfl
theorem ty149 : tyT 149 = some ⟨false, 1, [.nilf], .fn⟩ := rfl
theorem ty150 : tyT 150 = some ⟨false, 1, [.nilf], .fn⟩ := rfl
theorem ty151 : tyT 151 = some ⟨false, 1, [.int .u64 0], .int .u64⟩ := rfl
theorem ty152 : tyT 152 = some ⟨false, 1, [.nilf], .fn⟩ := rfl
theorem ty153 : tyT 153 = some ⟨false, 1, [.nilf], .fn⟩ := rfl
theorem ty154 : tyT 154 = some ⟨false, 1, [.nilf], .fn⟩ := rfl
theorem ty155 : tyT 155 = some ⟨false, 1, [.nilf], .fn⟩ := rfl
theorem ty156 : tyT 156 = some ⟨false, 1, [.nilf], .fn⟩ := rfl
theorem ty157 : tyT 157 = some ⟨false, 1, [.nilf], .fn⟩ := rfl
theorem ty158 : tyT 158 = some ⟨false, 1, [.nils], .slice 116 3 24 ([.int .i64 0, .int .i64 0, .int .i64 0])⟩ := rfl
theorem ty159 : tyT 159 = some ⟨true, 2, [.int .i64 0, .int .i64 0], .array 2 1 false⟩ := rfl
theorem ty160 : tyT 160 = some ⟨true, 2, [.int .i64 0, .int .i64 0], .struct [(0, 1, false), (1, 1, false)]⟩ := rfl
theorem ty161 : tyT 161 = some ⟨true, 2, [.int .i64 0, .int .i64 0], .struct [(0, 1, false), (1, 1, false)]⟩ := rfl
theorem ty162 : tyT 162 = some ⟨true, 40, List.replicate 40 (.int .i64 0), .array 40 1 false⟩ := rfl
theorem ty163 : tyT 163 = some ⟨false, 1, [.nilf], .fn⟩ := rfl
theorem ty164 : tyT 164 = some ⟨false, 1, [.nilf], .fn⟩ := rfl
theorem ty165 : tyT 165 = some ⟨true, 3, [.int .u64 0, .int .u64 0, .int .u64 0], .array 3 1 false⟩ := rfl
theorem ty166 : tyT 166 = some ⟨true, 3, [.int .u64 0, .int .u64 0, .int .u64 0], .array 3 1 false⟩ := rfl
theorem ty167 : tyT 167 = some ⟨false, 1, [.nilf], .fn⟩ := rfl
theorem ty168 : tyT 168 = some ⟨false, 1, [.nilf], .fn⟩ := rfl
theorem ty169 : tyT 169 = some ⟨false, 1, [.nilf], .fn⟩ := rfl
theorem ty170 : tyT 170 = some ⟨false, 1, [.nilf], .fn⟩ := rfl
theorem ty171 : tyT 171 = some ⟨true, 1, [.nilp], .struct [(0, 1, false)]⟩ := rfl
theorem ty172 : tyT 172 = some ⟨true, 1, [.nilp], .struct [(0, 1, false)]⟩ := rfl
theorem ty173 : tyT 173 = some ⟨false, 1, [.nilp], .ptr⟩ := rfl
theorem ty174 : tyT 174 = some ⟨false, 1, [.nilf], .fn⟩ := rfl
theorem ty175 : tyT 175 = some ⟨false, 1, [.nilf], .fn⟩ := rfl
theorem ty176 : tyT 176 = some ⟨false, 1, [.nilf], .fn⟩ := rfl
theorem ty177 : tyT 177 = some ⟨false, 1, [.nili], .iface⟩ := rfl
theorem ty179 : tyT 179 = some ⟨false, 1, [.nilf], .fn⟩ := rfl
theorem ty180 : tyT 180 = some ⟨false, 1, [.nili], .iface⟩ := rfl
theorem ty181 : tyT 181 = some ⟨false, 1, [.nilf], .fn⟩ := rfl
theorem ty182 : tyT 182 = some ⟨false, 1, [.nili], .iface⟩ := rfl
theorem ty183 : tyT 183 = some ⟨false, 1, [.nils], .slice 30 1 16 ([.nili])⟩ := rfl
theorem ty184 : tyT 184 = some ⟨false, 1, [.nilf], .fn⟩ := rfl
theorem ty186 : tyT 186 = some ⟨false, 1, [.nilf], .fn⟩ := rfl
theorem ty187 : tyT 187 = some ⟨false, 1, [.nilf], .fn⟩ := rfl
theorem ty188 : tyT 188 = some ⟨false, 1, [.nilf], .fn⟩ := rfl
theorem ty189 : tyT 189 = some ⟨false, 1, [.nilf], .fn⟩ := rfl
theorem ty190 : tyT 190 = some ⟨false, 1, [.nilf], .fn⟩ := rfl
theorem ty191 : tyT 191 = some ⟨false, 1, [.nilf], .fn⟩ := rfl
theorem ty192 : tyT 192 = some ⟨false, 1, [.nilf], .fn⟩ := rfl
theorem ty193 : tyT 193 = some ⟨false, 1, [.nilf], .fn⟩ := rfl
theorem ty195 : tyT 195 = some ⟨false, 1, [.nilf], .fn⟩ := rfl
theorem ty196 : tyT 196 = some ⟨false, 1, [.nilf], .fn⟩ := rfl
theorem ty197 : tyT 197 = some ⟨false, 1, [.nilf], .fn⟩ := rfl
theorem ty198 : tyT 198 = some ⟨false, 1, [.nilp], .ptr⟩ := rfl
theorem ty199 : tyT 199 = some ⟨false, 1, [.nilf], .fn⟩ := rfl
theorem ty200 : tyT 200 = some ⟨true, 4, [.nilp, .nilp, .nilp, .str ⟨#[]⟩], .struct [(0, 1, false), (1, 1, false), (2, 1, false), (3, 1, false)]⟩ := rfl
theorem ty201 : tyT 201 = some ⟨true, 4, [.nilp, .nilp, .nilp, .str ⟨#[]⟩], .struct [(0, 1, false), (1, 1, false), (2, 1, false), (3, 1, false)]⟩ := rfl
theorem ty202 : tyT 202 = some ⟨true, 0, [], .array 0 1 false⟩ := rfl
theorem ty203 : tyT 203 = some ⟨true, 0, [], .struct [(0, 0, true)]⟩ := rfl
theorem ty204 : tyT 204 = some ⟨true, 0, [], .struct [(0, 0, true)]⟩ := rfl
theorem ty205 : tyT 205 = some ⟨false, 1, [.nilf], .fn⟩ := rfl
theorem ty206 : tyT 206 = some ⟨false, 1, [.nilf], .fn⟩ := rfl
theorem ty207 : tyT 207 = some ⟨false, 1, [.int .u8 0], .int .u8⟩ := rfl
theorem ty208 : tyT 208 = some ⟨false, 1, [.nilf], .fn⟩ := rfl
theorem ty209 : tyT 209 = some ⟨false, 1, [.nilp], .ptr⟩ := rfl
theorem ty210 : tyT 210 = some ⟨false, 1, [.int .i32 0], .int .i32⟩ := rfl
theorem ty211 : tyT 211 = some ⟨false, 1, [.int .i32 0], .int .i32⟩ := rfl
theorem ty212 : tyT 212 = some ⟨true, 11, [.int .u64 0, .int .u64 0, .int .u32 0, .int .u8 0, .int .u8 0, .int .u8 0, .int .u8 0, .nilf, .nilp, .int .i32 0, .int .i32 0], .struct [(0, 1, false), (1, 1, false), (2, 1, false), (3, 1, false), (4, 1, false), (5, 1, false), (6, 1, false), (7, 1, false), (8, 1, false), (9, 1, false), (10, 1, false)]⟩ := rfl
theorem ty213 : tyT 213 = some ⟨true, 11, [.int .u64 0, .int .u64 0, .int .u32 0, .int .u8 0, .int .u8 0, .int .u8 0, .int .u8 0, .nilf, .nilp, .int .i32 0, .int .i32 0], .struct [(0, 1, false), (1, 1, false), (2, 1, false), (3, 1, false), (4, 1, false), (5, 1, false), (6, 1, false), (7, 1, false), (8, 1, false), (9, 1, false), (10, 1, false)]⟩ := rfl
theorem ty214 : tyT 214 = some ⟨false, 1, [.nilf], .fn⟩ := rfl
theorem ty215 : tyT 215 = some ⟨false, 1, [.nilf], .fn⟩ := rfl
theorem ty216 : tyT 216 = some ⟨true, 2, [.str ⟨#[]⟩, .int .u8 0], .struct [(0, 1, false), (1, 1, false)]⟩ := rfl
theorem ty217 : tyT 217 = some ⟨true, 2, [.str ⟨#[]⟩, .int .u8 0], .struct [(0, 1, false), (1, 1, false)]⟩ := rfl
theorem ty218 : tyT 218 = some ⟨true, 1, [.str ⟨#[]⟩], .struct [(0, 1, false)]⟩ := rfl
theorem ty219 : tyT 219 = some ⟨true, 1, [.str ⟨#[]⟩], .struct [(0, 1, false)]⟩ := rfl
theorem ty220 : tyT 220 = some ⟨false, 1, [.nilp], .ptr⟩ := rfl
theorem ty221 : tyT 221 = some ⟨false, 1, [.nilf], .fn⟩ := rfl
theorem ty222 : tyT 222 = some ⟨true, 5, [.int .i32 0, .int .u16 0, .int .u16 0, .int .u32 0, .int .u32 0], .struct [(0, 1, false), (1, 1, false), (2, 1, false), (3, 1, false), (4, 1, false)]⟩ := rfl
theorem ty223 : tyT 223 = some ⟨true, 5, [.int .i32 0, .int .u16 0, .int .u16 0, .int .u32 0, .int .u32 0], .struct [(0, 1, false), (1, 1, false), (2, 1, false), (3, 1, false), (4, 1, false)]⟩ := rfl
theorem ty224 : tyT 224 = some ⟨false, 1, [.nils], .slice 227 4 16 ([.int .i32 0, .int .i32 0, .int .i32 0, .int .i32 0])⟩ := rfl
theorem ty225 : tyT 225 = some ⟨false, 1, [.int .i32 0], .int .i32⟩ := rfl
theorem ty226 : tyT 226 = some ⟨true, 4, [.int .i32 0, .int .i32 0, .int .i32 0, .int .i32 0], .struct [(0, 1, false), (1, 1, false), (2, 1, false), (3, 1, false)]⟩ := rfl
theorem ty227 : tyT 227 = some ⟨true, 4, [.int .i32 0, .int .i32 0, .int .i32 0, .int .i32 0], .struct [(0, 1, false), (1, 1, false), (2, 1, false), (3, 1, false)]⟩ := rfl
theorem ty228 : tyT 228 = some ⟨false, 1, [.nilp], .ptr⟩ := rfl
end Go.Proofs.YtoncolpkpgbfiaaDoor
