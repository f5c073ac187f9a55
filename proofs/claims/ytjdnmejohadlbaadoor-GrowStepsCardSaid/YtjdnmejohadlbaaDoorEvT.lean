/- The types of the seat's program, as a table; printed by gen.py. -/
import Derived.Test.YtjdnmejohadlbaaDoorEvG
namespace Go.Proofs.YtjdnmejohadlbaaDoor
def ti1 : TI := ⟨false, 1, [.nilf], .fn⟩
def ti2 : TI := ⟨false, 1, [.int .i64 0], .int .i64⟩
def ti3 : TI := ⟨false, 1, [.int .i64 0], .int .i64⟩
def ti4 : TI := ⟨false, 1, [.bool false], .bool⟩
def ti5 : TI := ⟨false, 1, [.int .u8 0], .int .u8⟩
def ti6 : TI := ⟨false, 1, [.int .u8 0], .int .u8⟩
def ti7 : TI := ⟨true, 4, [.int .i64 0, .int .i64 0, .bool false, .int .u8 0], .struct [(0, 1, false), (1, 1, false), (2, 1, false), (3, 1, false)]⟩
def ti8 : TI := ⟨true, 4, [.int .i64 0, .int .i64 0, .bool false, .int .u8 0], .struct [(0, 1, false), (1, 1, false), (2, 1, false), (3, 1, false)]⟩
def ti9 : TI := ⟨false, 1, [.str ⟨#[]⟩], .string⟩
def ti10 : TI := ⟨false, 1, [.str ⟨#[]⟩], .string⟩
def ti11 : TI := ⟨false, 1, [.str ⟨#[]⟩], .string⟩
def ti12 : TI := ⟨false, 1, [.int .u64 0], .int .u64⟩
def ti13 : TI := ⟨true, 2, [.str ⟨#[]⟩, .int .u64 0], .struct [(0, 1, false), (1, 1, false)]⟩
def ti14 : TI := ⟨true, 2, [.str ⟨#[]⟩, .int .u64 0], .struct [(0, 1, false), (1, 1, false)]⟩
def ti15 : TI := ⟨false, 1, [.nilp], .ptr⟩
def ti16 : TI := ⟨false, 1, [.nilp], .ptr⟩
def ti17 : TI := ⟨false, 1, [.nilp], .ptr⟩
def ti18 : TI := ⟨true, 1, [.nilp], .struct [(0, 1, false)]⟩
def ti19 : TI := ⟨true, 1, [.nilp], .struct [(0, 1, false)]⟩
def ti20 : TI := ⟨false, 1, [.nili], .iface⟩
def ti21 : TI := ⟨false, 1, [.int .i32 0], .int .i32⟩
def ti22 : TI := ⟨true, 2, [.int .i64 0, .int .i64 0], .struct [(0, 1, false), (1, 1, false)]⟩
def ti23 : TI := ⟨true, 2, [.int .i64 0, .int .i64 0], .struct [(0, 1, false), (1, 1, false)]⟩
def ti24 : TI := ⟨false, 1, [.int .u16 0], .int .u16⟩
def ti25 : TI := ⟨true, 3, [.int .i64 0, .int .u16 0, .int .i64 0], .struct [(0, 1, false), (1, 1, false), (2, 1, false)]⟩
def ti26 : TI := ⟨true, 3, [.int .i64 0, .int .u16 0, .int .i64 0], .struct [(0, 1, false), (1, 1, false), (2, 1, false)]⟩
def ti27 : TI := ⟨true, 5, [.int .i64 0, .int .i64 0, .int .i64 0, .int .i64 0, .int .i64 0], .struct [(0, 1, false), (1, 1, false), (2, 1, false), (3, 1, false), (4, 1, false)]⟩
def ti28 : TI := ⟨true, 5, [.int .i64 0, .int .i64 0, .int .i64 0, .int .i64 0, .int .i64 0], .struct [(0, 1, false), (1, 1, false), (2, 1, false), (3, 1, false), (4, 1, false)]⟩
def ti29 : TI := ⟨false, 1, [.nili], .iface⟩
def ti30 : TI := ⟨false, 1, [.nili], .iface⟩
def ti32 : TI := ⟨false, 1, [.nilf], .fn⟩
def ti33 : TI := ⟨true, 2, [.int .i64 0, .int .i64 0], .struct [(0, 1, false), (1, 1, false)]⟩
def ti34 : TI := ⟨true, 3, [.int .i64 0, .int .u16 0, .int .i64 0], .struct [(0, 1, false), (1, 1, false), (2, 1, false)]⟩
def ti36 : TI := ⟨false, 1, [.nilf], .fn⟩
def ti37 : TI := ⟨false, 1, [.nilf], .fn⟩
def ti38 : TI := ⟨false, 1, [.nilf], .fn⟩
def ti39 : TI := ⟨false, 1, [.nilf], .fn⟩
def ti40 : TI := ⟨false, 1, [.nilf], .fn⟩
def ti41 : TI := ⟨false, 1, [.nilf], .fn⟩
def ti42 : TI := ⟨true, 5, [.int .i64 0, .int .i64 0, .int .i64 0, .int .i64 0, .int .i64 0], .struct [(0, 1, false), (1, 1, false), (2, 1, false), (3, 1, false), (4, 1, false)]⟩
def ti44 : TI := ⟨false, 1, [.nilf], .fn⟩
def ti46 : TI := ⟨false, 1, [.nilf], .fn⟩
def ti47 : TI := ⟨false, 1, [.nilf], .fn⟩
def ti48 : TI := ⟨false, 1, [.int .u32 0], .int .u32⟩
def ti50 : TI := ⟨false, 1, [.nilf], .fn⟩
def ti51 : TI := ⟨false, 1, [.int .u32 0], .int .u32⟩
def ti52 : TI := ⟨false, 1, [.nilf], .fn⟩
def ti53 : TI := ⟨false, 1, [.nilf], .fn⟩
def ti54 : TI := ⟨false, 1, [.nilf], .fn⟩
def ti55 : TI := ⟨false, 1, [.nilf], .fn⟩
def ti57 : TI := ⟨false, 1, [.nilf], .fn⟩
def ti59 : TI := ⟨false, 1, [.nilf], .fn⟩
def ti60 : TI := ⟨false, 1, [.nilf], .fn⟩
def ti61 : TI := ⟨false, 1, [.nilf], .fn⟩
def ti62 : TI := ⟨false, 1, [.nilf], .fn⟩
def ti63 : TI := ⟨false, 1, [.nils], .slice 77 3 24 ([.int .i64 0, .int .i64 0, .int .i64 0])⟩
def ti64 : TI := ⟨false, 1, [.nilp], .ptr⟩
def ti66 : TI := ⟨false, 1, [.nilf], .fn⟩
def ti67 : TI := ⟨false, 1, [.nilf], .fn⟩
def ti69 : TI := ⟨false, 1, [.nilf], .fn⟩
def ti70 : TI := ⟨false, 1, [.nilf], .fn⟩
def ti71 : TI := ⟨true, 3, [.int .i64 0, .int .i64 0, .int .i64 0], .struct [(0, 1, false), (1, 1, false), (2, 1, false)]⟩
def ti72 : TI := ⟨true, 3, [.int .i64 0, .int .i64 0, .int .i64 0], .struct [(0, 1, false), (1, 1, false), (2, 1, false)]⟩
def ti73 : TI := ⟨false, 1, [.nils], .slice 72 3 24 ([.int .i64 0, .int .i64 0, .int .i64 0])⟩
def ti74 : TI := ⟨false, 1, [.nilf], .fn⟩
def ti76 : TI := ⟨false, 1, [.nilf], .fn⟩
def ti77 : TI := ⟨true, 3, [.int .i64 0, .int .i64 0, .int .i64 0], .struct [(0, 1, false), (1, 1, false), (2, 1, false)]⟩
def ti79 : TI := ⟨false, 1, [.nilf], .fn⟩
def ti80 : TI := ⟨false, 1, [.nilf], .fn⟩
def ti82 : TI := ⟨false, 1, [.nilf], .fn⟩
def ti84 : TI := ⟨false, 1, [.nilf], .fn⟩
def ti85 : TI := ⟨false, 1, [.nilf], .fn⟩
def ti86 : TI := ⟨true, 7, [.int .i64 0, .int .i64 0, .int .i64 0, .int .i64 0, .int .i64 0, .int .i64 0, .int .i64 0], .array 7 1 false⟩
def ti87 : TI := ⟨true, 6, [.int .i64 0, .int .i64 0, .int .i64 0, .int .i64 0, .int .i64 0, .int .i64 0], .array 6 1 false⟩
def ti88 : TI := ⟨true, 36, List.replicate 36 (.int .i64 0), .array 36 1 false⟩
def ti89 : TI := ⟨true, 38, List.replicate 38 (.int .i64 0), .struct [(0, 1, false), (1, 1, false), (2, 36, true)]⟩
def ti90 : TI := ⟨true, 38, List.replicate 38 (.int .i64 0), .struct [(0, 1, false), (1, 1, false), (2, 36, true)]⟩
def ti91 : TI := ⟨true, 44, List.replicate 44 (.int .i64 0), .struct [(0, 6, true), (6, 38, true)]⟩
def ti92 : TI := ⟨true, 44, List.replicate 44 (.int .i64 0), .struct [(0, 6, true), (6, 38, true)]⟩
def ti94 : TI := ⟨false, 1, [.nilf], .fn⟩
def ti95 : TI := ⟨false, 1, [.nils], .slice 2 1 8 ([.int .i64 0])⟩
def ti96 : TI := ⟨false, 1, [.nils], .slice 95 1 24 ([.nils])⟩
def ti97 : TI := ⟨true, 2, [.nils, .nils], .struct [(0, 1, false), (1, 1, false)]⟩
def ti98 : TI := ⟨true, 2, [.nils, .nils], .struct [(0, 1, false), (1, 1, false)]⟩
def ti99 : TI := ⟨false, 1, [.int .u64 0], .int .u64⟩
def ti100 : TI := ⟨false, 1, [.nilf], .fn⟩
def ti101 : TI := ⟨false, 1, [.nilf], .fn⟩
def ti102 : TI := ⟨false, 1, [.nilf], .fn⟩
def ti103 : TI := ⟨false, 1, [.nilf], .fn⟩
def ti104 : TI := ⟨false, 1, [.nilf], .fn⟩
def ti105 : TI := ⟨false, 1, [.nilf], .fn⟩
def ti106 : TI := ⟨false, 1, [.nilf], .fn⟩
def ti107 : TI := ⟨false, 1, [.nilf], .fn⟩
def ti108 : TI := ⟨false, 1, [.nilf], .fn⟩
def ti109 : TI := ⟨false, 1, [.nilf], .fn⟩
def ti110 : TI := ⟨false, 1, [.nilf], .fn⟩
def ti111 : TI := ⟨true, 5, [.int .i64 0, .int .i64 0, .int .i64 0, .int .i64 0, .int .i64 0], .struct [(0, 1, false), (1, 1, false), (2, 1, false), (3, 1, false), (4, 1, false)]⟩
def ti112 : TI := ⟨true, 5, [.int .i64 0, .int .i64 0, .int .i64 0, .int .i64 0, .int .i64 0], .struct [(0, 1, false), (1, 1, false), (2, 1, false), (3, 1, false), (4, 1, false)]⟩
def ti113 : TI := ⟨false, 1, [.nilf], .fn⟩
def ti114 : TI := ⟨true, 5, [.int .i64 0, .int .i64 0, .int .i64 0, .int .i64 0, .int .i64 0], .struct [(0, 1, false), (1, 1, false), (2, 1, false), (3, 1, false), (4, 1, false)]⟩
def ti115 : TI := ⟨true, 2, [.int .i64 0, .int .i64 0], .struct [(0, 1, false), (1, 1, false)]⟩
def ti116 : TI := ⟨true, 2, [.int .i64 0, .int .i64 0], .struct [(0, 1, false), (1, 1, false)]⟩
def ti118 : TI := ⟨false, 1, [.nilf], .fn⟩
def ti119 : TI := ⟨false, 1, [.nilf], .fn⟩
def ti120 : TI := ⟨false, 1, [.nilf], .fn⟩
def ti122 : TI := ⟨false, 1, [.nilf], .fn⟩
def ti123 : TI := ⟨false, 1, [.nilf], .fn⟩
def ti124 : TI := ⟨true, 43, List.replicate 43 (.int .i64 0), .struct [(0, 1, false), (1, 36, true), (37, 6, true)]⟩
def ti125 : TI := ⟨true, 43, List.replicate 43 (.int .i64 0), .struct [(0, 1, false), (1, 36, true), (37, 6, true)]⟩
def ti126 : TI := ⟨false, 1, [.nilf], .fn⟩
def ti128 : TI := ⟨false, 1, [.nilf], .fn⟩
def ti130 : TI := ⟨false, 1, [.nilf], .fn⟩
def ti131 : TI := ⟨false, 1, [.nilf], .fn⟩
def ti132 : TI := ⟨false, 1, [.nilf], .fn⟩
def ti133 : TI := ⟨false, 1, [.int .i64 0], .int .i64⟩
def ti134 : TI := ⟨false, 1, [.nilf], .fn⟩
def ti135 : TI := ⟨false, 1, [.nilp], .ptr⟩
def ti136 : TI := ⟨true, 2, [.bool false, .nili], .struct [(0, 1, false), (1, 1, false)]⟩
def ti137 : TI := ⟨true, 2, [.bool false, .nili], .struct [(0, 1, false), (1, 1, false)]⟩
def ti138 : TI := ⟨false, 1, [.nilf], .fn⟩
def ti139 : TI := ⟨false, 1, [.nilf], .fn⟩
def ti140 : TI := ⟨false, 1, [.nilf], .fn⟩
def ti141 : TI := ⟨false, 1, [.nilp], .ptr⟩
def ti142 : TI := ⟨false, 1, [.nilf], .fn⟩
def ti143 : TI := ⟨false, 1, [.nilf], .fn⟩
def ti144 : TI := ⟨false, 1, [.nilf], .fn⟩
def ti145 : TI := ⟨false, 1, [.nilf], .fn⟩
def ti146 : TI := ⟨false, 1, [.nilf], .fn⟩
def ti147 : TI := ⟨false, 1, [.nils], .slice 3 1 8 ([.int .i64 0])⟩
def ti148 : TI := ⟨true, 2, [.bool false, .nils], .struct [(0, 1, false), (1, 1, false)]⟩
def ti149 : TI := ⟨true, 2, [.bool false, .nils], .struct [(0, 1, false), (1, 1, false)]⟩
def ti150 : TI := ⟨false, 1, [.nilf], .fn⟩
def ti151 : TI := ⟨false, 1, [.nilf], .fn⟩
def ti152 : TI := ⟨false, 1, [.nilf], .fn⟩
def ti153 : TI := ⟨true, 3, [.nils, .int .i64 0, .int .i64 0], .struct [(0, 1, false), (1, 1, false), (2, 1, false)]⟩
def ti154 : TI := ⟨true, 3, [.nils, .int .i64 0, .int .i64 0], .struct [(0, 1, false), (1, 1, false), (2, 1, false)]⟩
def ti155 : TI := ⟨false, 1, [.nilf], .fn⟩
def ti156 : TI := ⟨false, 1, [.nilf], .fn⟩
def ti157 : TI := ⟨false, 1, [.nilf], .fn⟩
def ti158 : TI := ⟨false, 1, [.nilf], .fn⟩
def ti159 : TI := ⟨false, 1, [.nilf], .fn⟩
def ti160 : TI := ⟨false, 1, [.nilf], .fn⟩
def ti162 : TI := ⟨false, 1, [.nilf], .fn⟩
def ti164 : TI := ⟨false, 1, [.nilf], .fn⟩
def ti165 : TI := ⟨false, 1, [.nilf], .fn⟩
def ti166 : TI := ⟨false, 1, [.nilf], .fn⟩
def ti167 : TI := ⟨false, 1, [.nilf], .fn⟩
def ti168 : TI := ⟨false, 1, [.nilf], .fn⟩
def ti169 : TI := ⟨false, 1, [.nilf], .fn⟩
def ti170 : TI := ⟨false, 1, [.nilf], .fn⟩
def ti171 : TI := ⟨false, 1, [.nilf], .fn⟩
def ti172 : TI := ⟨false, 1, [.int .u64 0], .int .u64⟩
def ti173 : TI := ⟨false, 1, [.nilf], .fn⟩
def ti175 : TI := ⟨false, 1, [.nilf], .fn⟩
def ti176 : TI := ⟨true, 8, [.int .u64 0, .int .u64 0, .int .u64 0, .int .u64 0, .int .u64 0, .int .u64 0, .int .u64 0, .int .u64 0], .array 8 1 false⟩
def ti177 : TI := ⟨true, 9, [.bool false, .int .u64 0, .int .u64 0, .int .u64 0, .int .u64 0, .int .u64 0, .int .u64 0, .int .u64 0, .int .u64 0], .struct [(0, 1, false), (1, 8, true)]⟩
def ti178 : TI := ⟨true, 9, [.bool false, .int .u64 0, .int .u64 0, .int .u64 0, .int .u64 0, .int .u64 0, .int .u64 0, .int .u64 0, .int .u64 0], .struct [(0, 1, false), (1, 8, true)]⟩
def ti179 : TI := ⟨false, 1, [.nilf], .fn⟩
def ti180 : TI := ⟨false, 1, [.nilf], .fn⟩
def ti181 : TI := ⟨false, 1, [.nilf], .fn⟩
def ti182 : TI := ⟨false, 1, [.nilp], .ptr⟩
def ti183 : TI := ⟨true, 2, [.bool false, .nili], .struct [(0, 1, false), (1, 1, false)]⟩
def ti184 : TI := ⟨true, 2, [.bool false, .nili], .struct [(0, 1, false), (1, 1, false)]⟩
def ti185 : TI := ⟨false, 1, [.nilf], .fn⟩
def ti186 : TI := ⟨false, 1, [.nilf], .fn⟩
def ti187 : TI := ⟨false, 1, [.nilf], .fn⟩
def ti188 : TI := ⟨false, 1, [.nilf], .fn⟩
def ti189 : TI := ⟨false, 1, [.nils], .slice 193 2 16 ([.int .i64 0, .int .i64 0])⟩
def ti191 : TI := ⟨false, 1, [.nilf], .fn⟩
def ti192 : TI := ⟨false, 1, [.nils], .slice 114 5 40 ([.int .i64 0, .int .i64 0, .int .i64 0, .int .i64 0, .int .i64 0])⟩
def ti193 : TI := ⟨true, 2, [.int .i64 0, .int .i64 0], .array 2 1 false⟩
def ti194 : TI := ⟨false, 1, [.nilf], .fn⟩
def ti195 : TI := ⟨false, 1, [.nilp], .ptr⟩
def ti196 : TI := ⟨true, 1, [.bool false], .struct [(0, 1, false)]⟩
def ti197 : TI := ⟨true, 1, [.bool false], .struct [(0, 1, false)]⟩
def ti198 : TI := ⟨false, 1, [.nilf], .fn⟩
def ti199 : TI := ⟨false, 1, [.nilp], .ptr⟩
def ti200 : TI := ⟨false, 1, [.nilf], .fn⟩
def ti201 : TI := ⟨false, 1, [.nilf], .fn⟩
def ti202 : TI := ⟨false, 1, [.nilf], .fn⟩
def ti204 : TI := ⟨false, 1, [.nilf], .fn⟩
def ti205 : TI := ⟨false, 1, [.nilf], .fn⟩
def ti207 : TI := ⟨false, 1, [.int .u64 0], .int .u64⟩
def ti208 : TI := ⟨true, 3, [.nilp, .nilp, .int .u64 0], .struct [(0, 1, false), (1, 1, false), (2, 1, false)]⟩
def ti209 : TI := ⟨true, 3, [.nilp, .nilp, .int .u64 0], .struct [(0, 1, false), (1, 1, false), (2, 1, false)]⟩
def ti210 : TI := ⟨false, 1, [.nilf], .fn⟩
def ti211 : TI := ⟨false, 1, [.nili], .iface⟩
def ti212 : TI := ⟨false, 1, [.nili], .iface⟩
def ti213 : TI := ⟨false, 1, [.nilf], .fn⟩
def ti214 : TI := ⟨false, 1, [.int .u8 0], .int .u8⟩
def ti215 : TI := ⟨false, 1, [.nilf], .fn⟩
def ti216 : TI := ⟨false, 1, [.nilf], .fn⟩
def ti217 : TI := ⟨false, 1, [.nilf], .fn⟩
def ti218 : TI := ⟨true, 2, [.int .i64 0, .int .i64 0], .struct [(0, 1, false), (1, 1, false)]⟩
def ti219 : TI := ⟨true, 2, [.int .i64 0, .int .i64 0], .struct [(0, 1, false), (1, 1, false)]⟩
def ti220 : TI := ⟨true, 40, List.replicate 40 (.int .i64 0), .array 40 1 false⟩
def ti221 : TI := ⟨false, 1, [.nilf], .fn⟩
def ti222 : TI := ⟨false, 1, [.nilf], .fn⟩
def ti223 : TI := ⟨false, 1, [.nilf], .fn⟩
def ti225 : TI := ⟨false, 1, [.nilf], .fn⟩
def ti226 : TI := ⟨false, 1, [.nilf], .fn⟩
def ti227 : TI := ⟨false, 1, [.nilf], .fn⟩
def ti228 : TI := ⟨false, 1, [.nilf], .fn⟩
def ti229 : TI := ⟨false, 1, [.nilf], .fn⟩
def ti230 : TI := ⟨false, 1, [.nilf], .fn⟩
def ti231 : TI := ⟨false, 1, [.nilf], .fn⟩
def ti233 : TI := ⟨false, 1, [.nilf], .fn⟩
def ti234 : TI := ⟨false, 1, [.nilf], .fn⟩
def ti235 : TI := ⟨true, 3, [.int .u64 0, .int .u64 0, .int .u64 0], .array 3 1 false⟩
def ti236 : TI := ⟨true, 3, [.int .u64 0, .int .u64 0, .int .u64 0], .array 3 1 false⟩
def ti237 : TI := ⟨false, 1, [.nilf], .fn⟩
def ti238 : TI := ⟨false, 1, [.nilf], .fn⟩
def ti239 : TI := ⟨false, 1, [.nilf], .fn⟩
def ti240 : TI := ⟨false, 1, [.nilf], .fn⟩
def ti242 : TI := ⟨false, 1, [.nilf], .fn⟩
def ti243 : TI := ⟨false, 1, [.nilf], .fn⟩
def ti245 : TI := ⟨false, 1, [.nilf], .fn⟩
def ti247 : TI := ⟨false, 1, [.nilf], .fn⟩
def ti248 : TI := ⟨false, 1, [.nilf], .fn⟩
def ti249 : TI := ⟨false, 1, [.nilf], .fn⟩
def ti250 : TI := ⟨false, 1, [.nilf], .fn⟩
def ti251 : TI := ⟨false, 1, [.nilf], .fn⟩
def ti252 : TI := ⟨false, 1, [.nilf], .fn⟩
def ti253 : TI := ⟨false, 1, [.nils], .slice 172 1 8 ([.int .u64 0])⟩
def ti254 : TI := ⟨false, 1, [.nilf], .fn⟩
def ti255 : TI := ⟨true, 4, [.int .i64 0, .int .i64 0, .int .i64 0, .int .i64 0], .array 4 1 false⟩
def ti256 : TI := ⟨false, 1, [.nilf], .fn⟩
def ti257 : TI := ⟨false, 1, [.nilf], .fn⟩
def ti258 : TI := ⟨false, 1, [.nilf], .fn⟩
def ti259 : TI := ⟨false, 1, [.nilf], .fn⟩
def ti260 : TI := ⟨true, 1, [.nilp], .struct [(0, 1, false)]⟩
def ti261 : TI := ⟨true, 1, [.nilp], .struct [(0, 1, false)]⟩
def ti262 : TI := ⟨false, 1, [.nilp], .ptr⟩
def ti263 : TI := ⟨false, 1, [.nilf], .fn⟩
def ti264 : TI := ⟨false, 1, [.nilf], .fn⟩
def ti265 : TI := ⟨false, 1, [.nilf], .fn⟩
def ti266 : TI := ⟨false, 1, [.nili], .iface⟩
def ti268 : TI := ⟨false, 1, [.nilf], .fn⟩
def ti269 : TI := ⟨false, 1, [.nili], .iface⟩
def ti270 : TI := ⟨false, 1, [.nilf], .fn⟩
def ti271 : TI := ⟨false, 1, [.nili], .iface⟩
def ti272 : TI := ⟨false, 1, [.nils], .slice 30 1 16 ([.nili])⟩
def ti273 : TI := ⟨false, 1, [.nilf], .fn⟩
def ti274 : TI := ⟨false, 1, [.nilf], .fn⟩
def ti275 : TI := ⟨false, 1, [.nilf], .fn⟩
def ti276 : TI := ⟨false, 1, [.nilf], .fn⟩
def ti278 : TI := ⟨false, 1, [.nilf], .fn⟩
def ti279 : TI := ⟨false, 1, [.nilf], .fn⟩
def ti280 : TI := ⟨false, 1, [.nilp], .ptr⟩
def ti281 : TI := ⟨false, 1, [.nilf], .fn⟩
def ti282 : TI := ⟨true, 4, [.nilp, .nilp, .nilp, .str ⟨#[]⟩], .struct [(0, 1, false), (1, 1, false), (2, 1, false), (3, 1, false)]⟩
def ti283 : TI := ⟨true, 4, [.nilp, .nilp, .nilp, .str ⟨#[]⟩], .struct [(0, 1, false), (1, 1, false), (2, 1, false), (3, 1, false)]⟩
def ti284 : TI := ⟨true, 0, [], .array 0 1 false⟩
def ti285 : TI := ⟨true, 0, [], .struct [(0, 0, true)]⟩
def ti286 : TI := ⟨true, 0, [], .struct [(0, 0, true)]⟩
def ti287 : TI := ⟨false, 1, [.nilf], .fn⟩
def ti288 : TI := ⟨false, 1, [.nilf], .fn⟩
def ti289 : TI := ⟨false, 1, [.int .u8 0], .int .u8⟩
def ti290 : TI := ⟨false, 1, [.nilf], .fn⟩
def ti291 : TI := ⟨false, 1, [.nilp], .ptr⟩
def ti292 : TI := ⟨false, 1, [.int .i32 0], .int .i32⟩
def ti293 : TI := ⟨false, 1, [.int .i32 0], .int .i32⟩
def ti294 : TI := ⟨true, 11, [.int .u64 0, .int .u64 0, .int .u32 0, .int .u8 0, .int .u8 0, .int .u8 0, .int .u8 0, .nilf, .nilp, .int .i32 0, .int .i32 0], .struct [(0, 1, false), (1, 1, false), (2, 1, false), (3, 1, false), (4, 1, false), (5, 1, false), (6, 1, false), (7, 1, false), (8, 1, false), (9, 1, false), (10, 1, false)]⟩
def ti295 : TI := ⟨true, 11, [.int .u64 0, .int .u64 0, .int .u32 0, .int .u8 0, .int .u8 0, .int .u8 0, .int .u8 0, .nilf, .nilp, .int .i32 0, .int .i32 0], .struct [(0, 1, false), (1, 1, false), (2, 1, false), (3, 1, false), (4, 1, false), (5, 1, false), (6, 1, false), (7, 1, false), (8, 1, false), (9, 1, false), (10, 1, false)]⟩
def ti296 : TI := ⟨false, 1, [.nilf], .fn⟩
def ti297 : TI := ⟨false, 1, [.nilf], .fn⟩
def ti298 : TI := ⟨true, 2, [.str ⟨#[]⟩, .int .u8 0], .struct [(0, 1, false), (1, 1, false)]⟩
def ti299 : TI := ⟨true, 2, [.str ⟨#[]⟩, .int .u8 0], .struct [(0, 1, false), (1, 1, false)]⟩
def ti300 : TI := ⟨true, 1, [.str ⟨#[]⟩], .struct [(0, 1, false)]⟩
def ti301 : TI := ⟨true, 1, [.str ⟨#[]⟩], .struct [(0, 1, false)]⟩
def ti302 : TI := ⟨false, 1, [.nilp], .ptr⟩
def ti303 : TI := ⟨false, 1, [.nilf], .fn⟩
def ti304 : TI := ⟨true, 5, [.int .i32 0, .int .u16 0, .int .u16 0, .int .u32 0, .int .u32 0], .struct [(0, 1, false), (1, 1, false), (2, 1, false), (3, 1, false), (4, 1, false)]⟩
def ti305 : TI := ⟨true, 5, [.int .i32 0, .int .u16 0, .int .u16 0, .int .u32 0, .int .u32 0], .struct [(0, 1, false), (1, 1, false), (2, 1, false), (3, 1, false), (4, 1, false)]⟩
def ti306 : TI := ⟨false, 1, [.nils], .slice 309 4 16 ([.int .i32 0, .int .i32 0, .int .i32 0, .int .i32 0])⟩
def ti307 : TI := ⟨false, 1, [.int .i32 0], .int .i32⟩
def ti308 : TI := ⟨true, 4, [.int .i32 0, .int .i32 0, .int .i32 0, .int .i32 0], .struct [(0, 1, false), (1, 1, false), (2, 1, false), (3, 1, false)]⟩
def ti309 : TI := ⟨true, 4, [.int .i32 0, .int .i32 0, .int .i32 0, .int .i32 0], .struct [(0, 1, false), (1, 1, false), (2, 1, false), (3, 1, false)]⟩
def ti310 : TI := ⟨false, 1, [.nilp], .ptr⟩
def tyL : List (Option TI) := [none, some ti1, some ti2, some ti3, some ti4, some ti5, some ti6, some ti7, some ti8, some ti9, some ti10, some ti11, some ti12, some ti13, some ti14, some ti15, some ti16, some ti17, some ti18, some ti19, some ti20, some ti21, some ti22, some ti23, some ti24, some ti25, some ti26, some ti27, some ti28, some ti29, some ti30, none, some ti32, some ti33, some ti34, none, some ti36, some ti37, some ti38, some ti39, some ti40, some ti41, some ti42, none, some ti44, none, some ti46, some ti47, some ti48, none, some ti50, some ti51, some ti52, some ti53, some ti54, some ti55, none, some ti57, none, some ti59, some ti60, some ti61, some ti62, some ti63, some ti64, none, some ti66, some ti67, none, some ti69, some ti70, some ti71, some ti72, some ti73, some ti74, none, some ti76, some ti77, none, some ti79, some ti80, none, some ti82, none, some ti84, some ti85, some ti86, some ti87, some ti88, some ti89, some ti90, some ti91, some ti92, none, some ti94, some ti95, some ti96, some ti97, some ti98, some ti99, some ti100, some ti101, some ti102, some ti103, some ti104, some ti105, some ti106, some ti107, some ti108, some ti109, some ti110, some ti111, some ti112, some ti113, some ti114, some ti115, some ti116, none, some ti118, some ti119, some ti120, none, some ti122, some ti123, some ti124, some ti125, some ti126, none, some ti128, none, some ti130, some ti131, some ti132, some ti133, some ti134, some ti135, some ti136, some ti137, some ti138, some ti139, some ti140, some ti141, some ti142, some ti143, some ti144, some ti145, some ti146, some ti147, some ti148, some ti149, some ti150, some ti151, some ti152, some ti153, some ti154, some ti155, some ti156, some ti157, some ti158, some ti159, some ti160, none, some ti162, none, some ti164, some ti165, some ti166, some ti167, some ti168, some ti169, some ti170, some ti171, some ti172, some ti173, none, some ti175, some ti176, some ti177, some ti178, some ti179, some ti180, some ti181, some ti182, some ti183, some ti184, some ti185, some ti186, some ti187, some ti188, some ti189, none, some ti191, some ti192, some ti193, some ti194, some ti195, some ti196, some ti197, some ti198, some ti199, some ti200, some ti201, some ti202, none, some ti204, some ti205, none, some ti207, some ti208, some ti209, some ti210, some ti211, some ti212, some ti213, some ti214, some ti215, some ti216, some ti217, some ti218, some ti219, some ti220, some ti221, some ti222, some ti223, none, some ti225, some ti226, some ti227, some ti228, some ti229, some ti230, some ti231, none, some ti233, some ti234, some ti235, some ti236, some ti237, some ti238, some ti239, some ti240, none, some ti242, some ti243, none, some ti245, none, some ti247, some ti248, some ti249, some ti250, some ti251, some ti252, some ti253, some ti254, some ti255, some ti256, some ti257, some ti258, some ti259, some ti260, some ti261, some ti262, some ti263, some ti264, some ti265, some ti266, none, some ti268, some ti269, some ti270, some ti271, some ti272, some ti273, some ti274, some ti275, some ti276, none, some ti278, some ti279, some ti280, some ti281, some ti282, some ti283, some ti284, some ti285, some ti286, some ti287, some ti288, some ti289, some ti290, some ti291, some ti292, some ti293, some ti294, some ti295, some ti296, some ti297, some ti298, some ti299, some ti300, some ti301, some ti302, some ti303, some ti304, some ti305, some ti306, some ti307, some ti308, some ti309, some ti310]
def tyT (t : TypeId) : Option TI := (tyL[t]?).join
theorem ty1 : tyT 1 = some ⟨false, 1, [.nilf], .fn⟩ := rfl
theorem ty2 : tyT 2 = some ⟨false, 1, [.int .i64 0], .int .i64⟩ := rfl
theorem ty3 : tyT 3 = some ⟨false, 1, [.int .i64 0], .int .i64⟩ := rfl
theorem ty4 : tyT 4 = some ⟨false, 1, [.bool false], .bool⟩ := rfl
theorem ty5 : tyT 5 = some ⟨false, 1, [.int .u8 0], .int .u8⟩ := rfl
theorem ty6 : tyT 6 = some ⟨false, 1, [.int .u8 0], .int .u8⟩ := rfl
theorem ty7 : tyT 7 = some ⟨true, 4, [.int .i64 0, .int .i64 0, .bool false, .int .u8 0], .struct [(0, 1, false), (1, 1, false), (2, 1, false), (3, 1, false)]⟩ := rfl
theorem ty8 : tyT 8 = some ⟨true, 4, [.int .i64 0, .int .i64 0, .bool false, .int .u8 0], .struct [(0, 1, false), (1, 1, false), (2, 1, false), (3, 1, false)]⟩ := rfl
theorem ty9 : tyT 9 = some ⟨false, 1, [.str ⟨#[]⟩], .string⟩ := rfl
theorem ty10 : tyT 10 = some ⟨false, 1, [.str ⟨#[]⟩], .string⟩ := rfl
theorem ty11 : tyT 11 = some ⟨false, 1, [.str ⟨#[]⟩], .string⟩ := rfl
theorem ty12 : tyT 12 = some ⟨false, 1, [.int .u64 0], .int .u64⟩ := rfl
theorem ty13 : tyT 13 = some ⟨true, 2, [.str ⟨#[]⟩, .int .u64 0], .struct [(0, 1, false), (1, 1, false)]⟩ := rfl
theorem ty14 : tyT 14 = some ⟨true, 2, [.str ⟨#[]⟩, .int .u64 0], .struct [(0, 1, false), (1, 1, false)]⟩ := rfl
theorem ty15 : tyT 15 = some ⟨false, 1, [.nilp], .ptr⟩ := rfl
theorem ty16 : tyT 16 = some ⟨false, 1, [.nilp], .ptr⟩ := rfl
theorem ty17 : tyT 17 = some ⟨false, 1, [.nilp], .ptr⟩ := rfl
theorem ty18 : tyT 18 = some ⟨true, 1, [.nilp], .struct [(0, 1, false)]⟩ := rfl
theorem ty19 : tyT 19 = some ⟨true, 1, [.nilp], .struct [(0, 1, false)]⟩ := rfl
theorem ty20 : tyT 20 = some ⟨false, 1, [.nili], .iface⟩ := rfl
theorem ty21 : tyT 21 = some ⟨false, 1, [.int .i32 0], .int .i32⟩ := rfl
theorem ty22 : tyT 22 = some ⟨true, 2, [.int .i64 0, .int .i64 0], .struct [(0, 1, false), (1, 1, false)]⟩ := rfl
theorem ty23 : tyT 23 = some ⟨true, 2, [.int .i64 0, .int .i64 0], .struct [(0, 1, false), (1, 1, false)]⟩ := rfl
theorem ty24 : tyT 24 = some ⟨false, 1, [.int .u16 0], .int .u16⟩ := rfl
theorem ty25 : tyT 25 = some ⟨true, 3, [.int .i64 0, .int .u16 0, .int .i64 0], .struct [(0, 1, false), (1, 1, false), (2, 1, false)]⟩ := rfl
theorem ty26 : tyT 26 = some ⟨true, 3, [.int .i64 0, .int .u16 0, .int .i64 0], .struct [(0, 1, false), (1, 1, false), (2, 1, false)]⟩ := rfl
theorem ty27 : tyT 27 = some ⟨true, 5, [.int .i64 0, .int .i64 0, .int .i64 0, .int .i64 0, .int .i64 0], .struct [(0, 1, false), (1, 1, false), (2, 1, false), (3, 1, false), (4, 1, false)]⟩ := rfl
theorem ty28 : tyT 28 = some ⟨true, 5, [.int .i64 0, .int .i64 0, .int .i64 0, .int .i64 0, .int .i64 0], .struct [(0, 1, false), (1, 1, false), (2, 1, false), (3, 1, false), (4, 1, false)]⟩ := rfl
theorem ty29 : tyT 29 = some ⟨false, 1, [.nili], .iface⟩ := rfl
theorem ty30 : tyT 30 = some ⟨false, 1, [.nili], .iface⟩ := rfl
theorem ty32 : tyT 32 = some ⟨false, 1, [.nilf], .fn⟩ := rfl
theorem ty33 : tyT 33 = some ⟨true, 2, [.int .i64 0, .int .i64 0], .struct [(0, 1, false), (1, 1, false)]⟩ := rfl
theorem ty34 : tyT 34 = some ⟨true, 3, [.int .i64 0, .int .u16 0, .int .i64 0], .struct [(0, 1, false), (1, 1, false), (2, 1, false)]⟩ := rfl
theorem ty36 : tyT 36 = some ⟨false, 1, [.nilf], .fn⟩ := rfl
theorem ty37 : tyT 37 = some ⟨false, 1, [.nilf], .fn⟩ := rfl
theorem ty38 : tyT 38 = some ⟨false, 1, [.nilf], .fn⟩ := rfl
theorem ty39 : tyT 39 = some ⟨false, 1, [.nilf], .fn⟩ := rfl
theorem ty40 : tyT 40 = some ⟨false, 1, [.nilf], .fn⟩ := rfl
theorem ty41 : tyT 41 = some ⟨false, 1, [.nilf], .fn⟩ := rfl
theorem ty42 : tyT 42 = some ⟨true, 5, [.int .i64 0, .int .i64 0, .int .i64 0, .int .i64 0, .int .i64 0], .struct [(0, 1, false), (1, 1, false), (2, 1, false), (3, 1, false), (4, 1, false)]⟩ := rfl
theorem ty44 : tyT 44 = some ⟨false, 1, [.nilf], .fn⟩ := rfl
theorem ty46 : tyT 46 = some ⟨false, 1, [.nilf], .fn⟩ := rfl
theorem ty47 : tyT 47 = some ⟨false, 1, [.nilf], .fn⟩ := rfl
theorem ty48 : tyT 48 = some ⟨false, 1, [.int .u32 0], .int .u32⟩ := rfl
theorem ty50 : tyT 50 = some ⟨false, 1, [.nilf], .fn⟩ := rfl
theorem ty51 : tyT 51 = some ⟨false, 1, [.int .u32 0], .int .u32⟩ := rfl
theorem ty52 : tyT 52 = some ⟨false, 1, [.nilf], .fn⟩ := rfl
theorem ty53 : tyT 53 = some ⟨false, 1, [.nilf], .fn⟩ := rfl
theorem ty54 : tyT 54 = some ⟨false, 1, [.nilf], .fn⟩ := rfl
theorem ty55 : tyT 55 = some ⟨false, 1, [.nilf], .fn⟩ := rfl
theorem ty57 : tyT 57 = some ⟨false, 1, [.nilf], .fn⟩ := rfl
theorem ty59 : tyT 59 = some ⟨false, 1, [.nilf], .fn⟩ := rfl
theorem ty60 : tyT 60 = some ⟨false, 1, [.nilf], .fn⟩ := rfl
theorem ty61 : tyT 61 = some ⟨false, 1, [.nilf], .fn⟩ := rfl
theorem ty62 : tyT 62 = some ⟨false, 1, [.nilf], .fn⟩ := rfl
theorem ty63 : tyT 63 = some ⟨false, 1, [.nils], .slice 77 3 24 ([.int .i64 0, .int .i64 0, .int .i64 0])⟩ := rfl
theorem ty64 : tyT 64 = some ⟨false, 1, [.nilp], .ptr⟩ := rfl
theorem ty66 : tyT 66 = some ⟨false, 1, [.nilf], .fn⟩ := rfl
theorem ty67 : tyT 67 = some ⟨false, 1, [.nilf], .fn⟩ := rfl
theorem ty69 : tyT 69 = some ⟨false, 1, [.nilf], .fn⟩ := rfl
theorem ty70 : tyT 70 = some ⟨false, 1, [.nilf], .fn⟩ := rfl
theorem ty71 : tyT 71 = some ⟨true, 3, [.int .i64 0, .int .i64 0, .int .i64 0], .struct [(0, 1, false), (1, 1, false), (2, 1, false)]⟩ := rfl
theorem ty72 : tyT 72 = some ⟨true, 3, [.int .i64 0, .int .i64 0, .int .i64 0], .struct [(0, 1, false), (1, 1, false), (2, 1, false)]⟩ := rfl
theorem ty73 : tyT 73 = some ⟨false, 1, [.nils], .slice 72 3 24 ([.int .i64 0, .int .i64 0, .int .i64 0])⟩ := rfl
theorem ty74 : tyT 74 = some ⟨false, 1, [.nilf], .fn⟩ := rfl
theorem ty76 : tyT 76 = some ⟨false, 1, [.nilf], .fn⟩ := rfl
theorem ty77 : tyT 77 = some ⟨true, 3, [.int .i64 0, .int .i64 0, .int .i64 0], .struct [(0, 1, false), (1, 1, false), (2, 1, false)]⟩ := rfl
theorem ty79 : tyT 79 = some ⟨false, 1, [.nilf], .fn⟩ := rfl
theorem ty80 : tyT 80 = some ⟨false, 1, [.nilf], .fn⟩ := rfl
theorem ty82 : tyT 82 = some ⟨false, 1, [.nilf], .fn⟩ := rfl
theorem ty84 : tyT 84 = some ⟨false, 1, [.nilf], .fn⟩ := rfl
theorem ty85 : tyT 85 = some ⟨false, 1, [.nilf], .fn⟩ := rfl
theorem ty86 : tyT 86 = some ⟨true, 7, [.int .i64 0, .int .i64 0, .int .i64 0, .int .i64 0, .int .i64 0, .int .i64 0, .int .i64 0], .array 7 1 false⟩ := rfl
theorem ty87 : tyT 87 = some ⟨true, 6, [.int .i64 0, .int .i64 0, .int .i64 0, .int .i64 0, .int .i64 0, .int .i64 0], .array 6 1 false⟩ := rfl
theorem ty88 : tyT 88 = some ⟨true, 36, List.replicate 36 (.int .i64 0), .array 36 1 false⟩ := rfl
theorem ty89 : tyT 89 = some ⟨true, 38, List.replicate 38 (.int .i64 0), .struct [(0, 1, false), (1, 1, false), (2, 36, true)]⟩ := rfl
theorem ty90 : tyT 90 = some ⟨true, 38, List.replicate 38 (.int .i64 0), .struct [(0, 1, false), (1, 1, false), (2, 36, true)]⟩ := rfl
theorem ty91 : tyT 91 = some ⟨true, 44, List.replicate 44 (.int .i64 0), .struct [(0, 6, true), (6, 38, true)]⟩ := rfl
theorem ty92 : tyT 92 = some ⟨true, 44, List.replicate 44 (.int .i64 0), .struct [(0, 6, true), (6, 38, true)]⟩ := rfl
theorem ty94 : tyT 94 = some ⟨false, 1, [.nilf], .fn⟩ := rfl
theorem ty95 : tyT 95 = some ⟨false, 1, [.nils], .slice 2 1 8 ([.int .i64 0])⟩ := rfl
theorem ty96 : tyT 96 = some ⟨false, 1, [.nils], .slice 95 1 24 ([.nils])⟩ := rfl
theorem ty97 : tyT 97 = some ⟨true, 2, [.nils, .nils], .struct [(0, 1, false), (1, 1, false)]⟩ := rfl
theorem ty98 : tyT 98 = some ⟨true, 2, [.nils, .nils], .struct [(0, 1, false), (1, 1, false)]⟩ := rfl
theorem ty99 : tyT 99 = some ⟨false, 1, [.int .u64 0], .int .u64⟩ := rfl
theorem ty100 : tyT 100 = some ⟨false, 1, [.nilf], .fn⟩ := rfl
theorem ty101 : tyT 101 = some ⟨false, 1, [.nilf], .fn⟩ := rfl
theorem ty102 : tyT 102 = some ⟨false, 1, [.nilf], .fn⟩ := rfl
theorem ty103 : tyT 103 = some ⟨false, 1, [.nilf], .fn⟩ := rfl
theorem ty104 : tyT 104 = some ⟨false, 1, [.nilf], .fn⟩ := rfl
theorem ty105 : tyT 105 = some ⟨false, 1, [.nilf], .fn⟩ := rfl
theorem ty106 : tyT 106 = some ⟨false, 1, [.nilf], .fn⟩ := rfl
theorem ty107 : tyT 107 = some ⟨false, 1, [.nilf], .fn⟩ := rfl
theorem ty108 : tyT 108 = some ⟨false, 1, [.nilf], .fn⟩ := rfl
theorem ty109 : tyT 109 = some ⟨false, 1, [.nilf], .fn⟩ := rfl
theorem ty110 : tyT 110 = some ⟨false, 1, [.nilf], .fn⟩ := rfl
theorem ty111 : tyT 111 = some ⟨true, 5, [.int .i64 0, .int .i64 0, .int .i64 0, .int .i64 0, .int .i64 0], .struct [(0, 1, false), (1, 1, false), (2, 1, false), (3, 1, false), (4, 1, false)]⟩ := rfl
theorem ty112 : tyT 112 = some ⟨true, 5, [.int .i64 0, .int .i64 0, .int .i64 0, .int .i64 0, .int .i64 0], .struct [(0, 1, false), (1, 1, false), (2, 1, false), (3, 1, false), (4, 1, false)]⟩ := rfl
theorem ty113 : tyT 113 = some ⟨false, 1, [.nilf], .fn⟩ := rfl
theorem ty114 : tyT 114 = some ⟨true, 5, [.int .i64 0, .int .i64 0, .int .i64 0, .int .i64 0, .int .i64 0], .struct [(0, 1, false), (1, 1, false), (2, 1, false), (3, 1, false), (4, 1, false)]⟩ := rfl
theorem ty115 : tyT 115 = some ⟨true, 2, [.int .i64 0, .int .i64 0], .struct [(0, 1, false), (1, 1, false)]⟩ := rfl
theorem ty116 : tyT 116 = some ⟨true, 2, [.int .i64 0, .int .i64 0], .struct [(0, 1, false), (1, 1, false)]⟩ := rfl
theorem ty118 : tyT 118 = some ⟨false, 1, [.nilf], .fn⟩ := rfl
theorem ty119 : tyT 119 = some ⟨false, 1, [.nilf], .fn⟩ := rfl
theorem ty120 : tyT 120 = some ⟨false, 1, [.nilf], .fn⟩ := rfl
theorem ty122 : tyT 122 = some ⟨false, 1, [.nilf], .fn⟩ := rfl
theorem ty123 : tyT 123 = some ⟨false, 1, [.nilf], .fn⟩ := rfl
theorem ty124 : tyT 124 = some ⟨true, 43, List.replicate 43 (.int .i64 0), .struct [(0, 1, false), (1, 36, true), (37, 6, true)]⟩ := rfl
theorem ty125 : tyT 125 = some ⟨true, 43, List.replicate 43 (.int .i64 0), .struct [(0, 1, false), (1, 36, true), (37, 6, true)]⟩ := rfl
theorem ty126 : tyT 126 = some ⟨false, 1, [.nilf], .fn⟩ := rfl
theorem ty128 : tyT 128 = some ⟨false, 1, [.nilf], .fn⟩ := rfl
theorem ty130 : tyT 130 = some ⟨false, 1, [.nilf], .fn⟩ := rfl
theorem ty131 : tyT 131 = some ⟨false, 1, [.nilf], .fn⟩ := rfl
theorem ty132 : tyT 132 = some ⟨false, 1, [.nilf], .fn⟩ := rfl
theorem ty133 : tyT 133 = some ⟨false, 1, [.int .i64 0], .int .i64⟩ := rfl
theorem ty134 : tyT 134 = some ⟨false, 1, [.nilf], .fn⟩ := rfl
theorem ty135 : tyT 135 = some ⟨false, 1, [.nilp], .ptr⟩ := rfl
theorem ty136 : tyT 136 = some ⟨true, 2, [.bool false, .nili], .struct [(0, 1, false), (1, 1, false)]⟩ := rfl
theorem ty137 : tyT 137 = some ⟨true, 2, [.bool false, .nili], .struct [(0, 1, false), (1, 1, false)]⟩ := rfl
theorem ty138 : tyT 138 = some ⟨false, 1, [.nilf], .fn⟩ := rfl
theorem ty139 : tyT 139 = some ⟨false, 1, [.nilf], .fn⟩ := rfl
theorem ty140 : tyT 140 = some ⟨false, 1, [.nilf], .fn⟩ := rfl
theorem ty141 : tyT 141 = some ⟨false, 1, [.nilp], .ptr⟩ := rfl
theorem ty142 : tyT 142 = some ⟨false, 1, [.nilf], .fn⟩ := rfl
theorem ty143 : tyT 143 = some ⟨false, 1, [.nilf], .fn⟩ := rfl
theorem ty144 : tyT 144 = some ⟨false, 1, [.nilf], .fn⟩ := rfl
theorem ty145 : tyT 145 = some ⟨false, 1, [.nilf], .fn⟩ := rfl
theorem ty146 : tyT 146 = some ⟨false, 1, [.nilf], .fn⟩ := rfl
theorem ty147 : tyT 147 = some ⟨false, 1, [.nils], .slice 3 1 8 ([.int .i64 0])⟩ := rfl
theorem ty148 : tyT 148 = some ⟨true, 2, [.bool false, .nils], .struct [(0, 1, false), (1, 1, false)]⟩ := rfl
theorem ty149 : tyT 149 = some ⟨true, 2, [.bool false, .nils], .struct [(0, 1, false), (1, 1, false)]⟩ := rfl
theorem ty150 : tyT 150 = some ⟨false, 1, [.nilf], .fn⟩ := rfl
theorem ty151 : tyT 151 = some ⟨false, 1, [.nilf], .fn⟩ := rfl
theorem ty152 : tyT 152 = some ⟨false, 1, [.nilf], .fn⟩ := rfl
theorem ty153 : tyT 153 = some ⟨true, 3, [.nils, .int .i64 0, .int .i64 0], .struct [(0, 1, false), (1, 1, false), (2, 1, false)]⟩ := rfl
theorem ty154 : tyT 154 = some ⟨true, 3, [.nils, .int .i64 0, .int .i64 0], .struct [(0, 1, false), (1, 1, false), (2, 1, false)]⟩ := rfl
theorem ty155 : tyT 155 = some ⟨false, 1, [.nilf], .fn⟩ := rfl
theorem ty156 : tyT 156 = some ⟨false, 1, [.nilf], .fn⟩ := rfl
theorem ty157 : tyT 157 = some ⟨false, 1, [.nilf], .fn⟩ := rfl
theorem ty158 : tyT 158 = some ⟨false, 1, [.nilf], .fn⟩ := rfl
theorem ty159 : tyT 159 = some ⟨false, 1, [.nilf], .fn⟩ := rfl
theorem ty160 : tyT 160 = some ⟨false, 1, [.nilf], .fn⟩ := rfl
theorem ty162 : tyT 162 = some ⟨false, 1, [.nilf], .fn⟩ := rfl
theorem ty164 : tyT 164 = some ⟨false, 1, [.nilf], .fn⟩ := rfl
theorem ty165 : tyT 165 = some ⟨false, 1, [.nilf], .fn⟩ := rfl
theorem ty166 : tyT 166 = some ⟨false, 1, [.nilf], .fn⟩ := rfl
theorem ty167 : tyT 167 = some ⟨false, 1, [.nilf], .fn⟩ := rfl
theorem ty168 : tyT 168 = some ⟨false, 1, [.nilf], .fn⟩ := rfl
theorem ty169 : tyT 169 = some ⟨false, 1, [.nilf], .fn⟩ := rfl
theorem ty170 : tyT 170 = some ⟨false, 1, [.nilf], .fn⟩ := rfl
theorem ty171 : tyT 171 = some ⟨false, 1, [.nilf], .fn⟩ := rfl
theorem ty172 : tyT 172 = some ⟨false, 1, [.int .u64 0], .int .u64⟩ := rfl
theorem ty173 : tyT 173 = some ⟨false, 1, [.nilf], .fn⟩ := rfl
theorem ty175 : tyT 175 = some ⟨false, 1, [.nilf], .fn⟩ := rfl
theorem ty176 : tyT 176 = some ⟨true, 8, [.int .u64 0, .int .u64 0, .int .u64 0, .int .u64 0, .int .u64 0, .int .u64 0, .int .u64 0, .int .u64 0], .array 8 1 false⟩ := rfl
theorem ty177 : tyT 177 = some ⟨true, 9, [.bool false, .int .u64 0, .int .u64 0, .int .u64 0, .int .u64 0, .int .u64 0, .int .u64 0, .int .u64 0, .int .u64 0], .struct [(0, 1, false), (1, 8, true)]⟩ := rfl
theorem ty178 : tyT 178 = some ⟨true, 9, [.bool false, .int .u64 0, .int .u64 0, .int .u64 0, .int .u64 0, .int .u64 0, .int .u64 0, .int .u64 0, .int .u64 0], .struct [(0, 1, false), (1, 8, true)]⟩ := rfl
theorem ty179 : tyT 179 = some ⟨false, 1, [.nilf], .fn⟩ := rfl
theorem ty180 : tyT 180 = some ⟨false, 1, [.nilf], .fn⟩ := rfl
theorem ty181 : tyT 181 = some ⟨false, 1, [.nilf], .fn⟩ := rfl
theorem ty182 : tyT 182 = some ⟨false, 1, [.nilp], .ptr⟩ := rfl
theorem ty183 : tyT 183 = some ⟨true, 2, [.bool false, .nili], .struct [(0, 1, false), (1, 1, false)]⟩ := rfl
theorem ty184 : tyT 184 = some ⟨true, 2, [.bool false, .nili], .struct [(0, 1, false), (1, 1, false)]⟩ := rfl
theorem ty185 : tyT 185 = some ⟨false, 1, [.nilf], .fn⟩ := rfl
theorem ty186 : tyT 186 = some ⟨false, 1, [.nilf], .fn⟩ := rfl
theorem ty187 : tyT 187 = some ⟨false, 1, [.nilf], .fn⟩ := rfl
theorem ty188 : tyT 188 = some ⟨false, 1, [.nilf], .fn⟩ := rfl
theorem ty189 : tyT 189 = some ⟨false, 1, [.nils], .slice 193 2 16 ([.int .i64 0, .int .i64 0])⟩ := rfl
theorem ty191 : tyT 191 = some ⟨false, 1, [.nilf], .fn⟩ := rfl
theorem ty192 : tyT 192 = some ⟨false, 1, [.nils], .slice 114 5 40 ([.int .i64 0, .int .i64 0, .int .i64 0, .int .i64 0, .int .i64 0])⟩ := rfl
theorem ty193 : tyT 193 = some ⟨true, 2, [.int .i64 0, .int .i64 0], .array 2 1 false⟩ := rfl
theorem ty194 : tyT 194 = some ⟨false, 1, [.nilf], .fn⟩ := rfl
theorem ty195 : tyT 195 = some ⟨false, 1, [.nilp], .ptr⟩ := rfl
theorem ty196 : tyT 196 = some ⟨true, 1, [.bool false], .struct [(0, 1, false)]⟩ := rfl
theorem ty197 : tyT 197 = some ⟨true, 1, [.bool false], .struct [(0, 1, false)]⟩ := rfl
theorem ty198 : tyT 198 = some ⟨false, 1, [.nilf], .fn⟩ := rfl
theorem ty199 : tyT 199 = some ⟨false, 1, [.nilp], .ptr⟩ := rfl
theorem ty200 : tyT 200 = some ⟨false, 1, [.nilf], .fn⟩ := rfl
theorem ty201 : tyT 201 = some ⟨false, 1, [.nilf], .fn⟩ := rfl
theorem ty202 : tyT 202 = some ⟨false, 1, [.nilf], .fn⟩ := rfl
theorem ty204 : tyT 204 = some ⟨false, 1, [.nilf], .fn⟩ := rfl
theorem ty205 : tyT 205 = some ⟨false, 1, [.nilf], .fn⟩ := rfl
theorem ty207 : tyT 207 = some ⟨false, 1, [.int .u64 0], .int .u64⟩ := rfl
theorem ty208 : tyT 208 = some ⟨true, 3, [.nilp, .nilp, .int .u64 0], .struct [(0, 1, false), (1, 1, false), (2, 1, false)]⟩ := rfl
theorem ty209 : tyT 209 = some ⟨true, 3, [.nilp, .nilp, .int .u64 0], .struct [(0, 1, false), (1, 1, false), (2, 1, false)]⟩ := rfl
theorem ty210 : tyT 210 = some ⟨false, 1, [.nilf], .fn⟩ := rfl
theorem ty211 : tyT 211 = some ⟨false, 1, [.nili], .iface⟩ := rfl
theorem ty212 : tyT 212 = some ⟨false, 1, [.nili], .iface⟩ := rfl
theorem ty213 : tyT 213 = some ⟨false, 1, [.nilf], .fn⟩ := rfl
theorem ty214 : tyT 214 = some ⟨false, 1, [.int .u8 0], .int .u8⟩ := rfl
theorem ty215 : tyT 215 = some ⟨false, 1, [.nilf], .fn⟩ := rfl
theorem ty216 : tyT 216 = some ⟨false, 1, [.nilf], .fn⟩ := rfl
theorem ty217 : tyT 217 = some ⟨false, 1, [.nilf], .fn⟩ := rfl
theorem ty218 : tyT 218 = some ⟨true, 2, [.int .i64 0, .int .i64 0], .struct [(0, 1, false), (1, 1, false)]⟩ := rfl
theorem ty219 : tyT 219 = some ⟨true, 2, [.int .i64 0, .int .i64 0], .struct [(0, 1, false), (1, 1, false)]⟩ := rfl
theorem ty220 : tyT 220 = some ⟨true, 40, List.replicate 40 (.int .i64 0), .array 40 1 false⟩ := rfl
theorem ty221 : tyT 221 = some ⟨false, 1, [.nilf], .fn⟩ := rfl
theorem ty222 : tyT 222 = some ⟨false, 1, [.nilf], .fn⟩ := rfl
theorem ty223 : tyT 223 = some ⟨false, 1, [.nilf], .fn⟩ := rfl
theorem ty225 : tyT 225 = some ⟨false, 1, [.nilf], .fn⟩ := rfl
theorem ty226 : tyT 226 = some ⟨false, 1, [.nilf], .fn⟩ := rfl
theorem ty227 : tyT 227 = some ⟨false, 1, [.nilf], .fn⟩ := rfl
theorem ty228 : tyT 228 = some ⟨false, 1, [.nilf], .fn⟩ := rfl
theorem ty229 : tyT 229 = some ⟨false, 1, [.nilf], .fn⟩ := rfl
theorem ty230 : tyT 230 = some ⟨false, 1, [.nilf], .fn⟩ := rfl
theorem ty231 : tyT 231 = some ⟨false, 1, [.nilf], .fn⟩ := rfl
theorem ty233 : tyT 233 = some ⟨false, 1, [.nilf], .fn⟩ := rfl
theorem ty234 : tyT 234 = some ⟨false, 1, [.nilf], .fn⟩ := rfl
theorem ty235 : tyT 235 = some ⟨true, 3, [.int .u64 0, .int .u64 0, .int .u64 0], .array 3 1 false⟩ := rfl
theorem ty236 : tyT 236 = some ⟨true, 3, [.int .u64 0, .int .u64 0, .int .u64 0], .array 3 1 false⟩ := rfl
theorem ty237 : tyT 237 = some ⟨false, 1, [.nilf], .fn⟩ := rfl
theorem ty238 : tyT 238 = some ⟨false, 1, [.nilf], .fn⟩ := rfl
theorem ty239 : tyT 239 = some ⟨false, 1, [.nilf], .fn⟩ := rfl
theorem ty240 : tyT 240 = some ⟨false, 1, [.nilf], .fn⟩ := rfl
theorem ty242 : tyT 242 = some ⟨false, 1, [.nilf], .fn⟩ := rfl
theorem ty243 : tyT 243 = some ⟨false, 1, [.nilf], .fn⟩ := rfl
theorem ty245 : tyT 245 = some ⟨false, 1, [.nilf], .fn⟩ := rfl
theorem ty247 : tyT 247 = some ⟨false, 1, [.nilf], .fn⟩ := rfl
theorem ty248 : tyT 248 = some ⟨false, 1, [.nilf], .fn⟩ := rfl
theorem ty249 : tyT 249 = some ⟨false, 1, [.nilf], .fn⟩ := rfl
theorem ty250 : tyT 250 = some ⟨false, 1, [.nilf], .fn⟩ := rfl
theorem ty251 : tyT 251 = some ⟨false, 1, [.nilf], .fn⟩ := rfl
theorem ty252 : tyT 252 = some ⟨false, 1, [.nilf], .fn⟩ := rfl
theorem ty253 : tyT 253 = some ⟨false, 1, [.nils], .slice 172 1 8 ([.int .u64 0])⟩ := rfl
theorem ty254 : tyT 254 = some ⟨false, 1, [.nilf], .fn⟩ := rfl
theorem ty255 : tyT 255 = some ⟨true, 4, [.int .i64 0, .int .i64 0, .int .i64 0, .int .i64 0], .array 4 1 false⟩ := rfl
theorem ty256 : tyT 256 = some ⟨false, 1, [.nilf], .fn⟩ := rfl
theorem ty257 : tyT 257 = some ⟨false, 1, [.nilf], .fn⟩ := rfl
theorem ty258 : tyT 258 = some ⟨false, 1, [.nilf], .fn⟩ := rfl
theorem ty259 : tyT 259 = some ⟨false, 1, [.nilf], .fn⟩ := rfl
theorem ty260 : tyT 260 = some ⟨true, 1, [.nilp], .struct [(0, 1, false)]⟩ := rfl
theorem ty261 : tyT 261 = some ⟨true, 1, [.nilp], .struct [(0, 1, false)]⟩ := rfl
theorem ty262 : tyT 262 = some ⟨false, 1, [.nilp], .ptr⟩ := rfl
theorem ty263 : tyT 263 = some ⟨false, 1, [.nilf], .fn⟩ := rfl
theorem ty264 : tyT 264 = some ⟨false, 1, [.nilf], .fn⟩ := rfl
theorem ty265 : tyT 265 = some ⟨false, 1, [.nilf], .fn⟩ := rfl
theorem ty266 : tyT 266 = some ⟨false, 1, [.nili], .iface⟩ := rfl
theorem ty268 : tyT 268 = some ⟨false, 1, [.nilf], .fn⟩ := rfl
theorem ty269 : tyT 269 = some ⟨false, 1, [.nili], .iface⟩ := rfl
theorem ty270 : tyT 270 = some ⟨false, 1, [.nilf], .fn⟩ := rfl
theorem ty271 : tyT 271 = some ⟨false, 1, [.nili], .iface⟩ := rfl
theorem ty272 : tyT 272 = some ⟨false, 1, [.nils], .slice 30 1 16 ([.nili])⟩ := rfl
theorem ty273 : tyT 273 = some ⟨false, 1, [.nilf], .fn⟩ := rfl
theorem ty274 : tyT 274 = some ⟨false, 1, [.nilf], .fn⟩ := rfl
theorem ty275 : tyT 275 = some ⟨false, 1, [.nilf], .fn⟩ := rfl
theorem ty276 : tyT 276 = some ⟨false, 1, [.nilf], .fn⟩ := rfl
theorem ty278 : tyT 278 = some ⟨false, 1, [.nilf], .fn⟩ := rfl
theorem ty279 : tyT 279 = some ⟨false, 1, [.nilf], .fn⟩ := rfl
theorem ty280 : tyT 280 = some ⟨false, 1, [.nilp], .ptr⟩ := rfl
theorem ty281 : tyT 281 = some ⟨false, 1, [.nilf], .fn⟩ := rfl
theorem ty282 : tyT 282 = some ⟨true, 4, [.nilp, .nilp, .nilp, .str ⟨#[]⟩], .struct [(0, 1, false), (1, 1, false), (2, 1, false), (3, 1, false)]⟩ := rfl
theorem ty283 : tyT 283 = some ⟨true, 4, [.nilp, .nilp, .nilp, .str ⟨#[]⟩], .struct [(0, 1, false), (1, 1, false), (2, 1, false), (3, 1, false)]⟩ := rfl
theorem ty284 : tyT 284 = some ⟨true, 0, [], .array 0 1 false⟩ := rfl
theorem ty285 : tyT 285 = some ⟨true, 0, [], .struct [(0, 0, true)]⟩ := rfl
theorem ty286 : tyT 286 = some ⟨true, 0, [], .struct [(0, 0, true)]⟩ := rfl
theorem ty287 : tyT 287 = some ⟨false, 1, [.nilf], .fn⟩ := rfl
theorem ty288 : tyT 288 = some ⟨false, 1, [.nilf], .fn⟩ := rfl
theorem ty289 : tyT 289 = some ⟨false, 1, [.int .u8 0], .int .u8⟩ := rfl
theorem ty290 : tyT 290 = some ⟨false, 1, [.nilf], .fn⟩ := rfl
theorem ty291 : tyT 291 = some ⟨false, 1, [.nilp], .ptr⟩ := rfl
theorem ty292 : tyT 292 = some ⟨false, 1, [.int .i32 0], .int .i32⟩ := rfl
theorem ty293 : tyT 293 = some ⟨false, 1, [.int .i32 0], .int .i32⟩ := rfl
theorem ty294 : tyT 294 = some ⟨true, 11, [.int .u64 0, .int .u64 0, .int .u32 0, .int .u8 0, .int .u8 0, .int .u8 0, .int .u8 0, .nilf, .nilp, .int .i32 0, .int .i32 0], .struct [(0, 1, false), (1, 1, false), (2, 1, false), (3, 1, false), (4, 1, false), (5, 1, false), (6, 1, false), (7, 1, false), (8, 1, false), (9, 1, false), (10, 1, false)]⟩ := rfl
theorem ty295 : tyT 295 = some ⟨true, 11, [.int .u64 0, .int .u64 0, .int .u32 0, .int .u8 0, .int .u8 0, .int .u8 0, .int .u8 0, .nilf, .nilp, .int .i32 0, .int .i32 0], .struct [(0, 1, false), (1, 1, false), (2, 1, false), (3, 1, false), (4, 1, false), (5, 1, false), (6, 1, false), (7, 1, false), (8, 1, false), (9, 1, false), (10, 1, false)]⟩ := rfl
theorem ty296 : tyT 296 = some ⟨false, 1, [.nilf], .fn⟩ := rfl
theorem ty297 : tyT 297 = some ⟨false, 1, [.nilf], .fn⟩ := rfl
theorem ty298 : tyT 298 = some ⟨true, 2, [.str ⟨#[]⟩, .int .u8 0], .struct [(0, 1, false), (1, 1, false)]⟩ := rfl
theorem ty299 : tyT 299 = some ⟨true, 2, [.str ⟨#[]⟩, .int .u8 0], .struct [(0, 1, false), (1, 1, false)]⟩ := rfl
theorem ty300 : tyT 300 = some ⟨true, 1, [.str ⟨#[]⟩], .struct [(0, 1, false)]⟩ := rfl
theorem ty301 : tyT 301 = some ⟨true, 1, [.str ⟨#[]⟩], .struct [(0, 1, false)]⟩ := rfl
theorem ty302 : tyT 302 = some ⟨false, 1, [.nilp], .ptr⟩ := rfl
theorem ty303 : tyT 303 = some ⟨false, 1, [.nilf], .fn⟩ := rfl
theorem ty304 : tyT 304 = some ⟨true, 5, [.int .i32 0, .int .u16 0, .int .u16 0, .int .u32 0, .int .u32 0], .struct [(0, 1, false), (1, 1, false), (2, 1, false), (3, 1, false), (4, 1, false)]⟩ := rfl
theorem ty305 : tyT 305 = some ⟨true, 5, [.int .i32 0, .int .u16 0, .int .u16 0, .int .u32 0, .int .u32 0], .struct [(0, 1, false), (1, 1, false), (2, 1, false), (3, 1, false), (4, 1, false)]⟩ := rfl
theorem ty306 : tyT 306 = some ⟨false, 1, [.nils], .slice 309 4 16 ([.int .i32 0, .int .i32 0, .int .i32 0, .int .i32 0])⟩ := rfl
theorem ty307 : tyT 307 = some ⟨false, 1, [.int .i32 0], .int .i32⟩ := rfl
theorem ty308 : tyT 308 = some ⟨true, 4, [.int .i32 0, .int .i32 0, .int .i32 0, .int .i32 0], .struct [(0, 1, false), (1, 1, false), (2, 1, false), (3, 1, false)]⟩ := rfl
theorem ty309 : tyT 309 = some ⟨true, 4, [.int .i32 0, .int .i32 0, .int .i32 0, .int .i32 0], .struct [(0, 1, false), (1, 1, false), (2, 1, false), (3, 1, false)]⟩ := rfl
theorem ty310 : tyT 310 = some ⟨false, 1, [.nilp], .ptr⟩ := rfl
end Go.Proofs.YtjdnmejohadlbaaDoor
