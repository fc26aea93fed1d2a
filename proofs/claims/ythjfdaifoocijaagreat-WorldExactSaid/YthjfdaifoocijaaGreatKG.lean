/- Ground of laws of thronglaw25: contracts and plain lemmas; no condition beyond the row's own. -/
import Derived.KernelRfl
import Derived.Test.YthjfdaifoocijaaGreatProg
import Derived.Test.YthjfdaifoocijaaGreatKC
set_option linter.unusedSimpArgs false
set_option linter.unusedVariables false
set_option linter.defProp false
namespace Go.Proofs
open Go Go.V
abbrev Yp(n:TypeId):V.TI:=⟨.ptr n,1,8,[.pointer none],false⟩
abbrev Yl(n:TypeId):V.TI:=⟨.slice n,1,24,[.slice none 0 0],false⟩
abbrev Ym(n m:TypeId):V.TI:=⟨.map n m,1,8,[.map none],false⟩
abbrev Yi:Value:=.int .i64 0
abbrev Ys:Value:=.slice none 0 0
abbrev Yt:=V.Tr.node
abbrev Yz:=V.Tr.nil
def ti1:V.TI:=⟨.func,1,8,[.nilFunc],false⟩
def ti2:V.TI:=⟨.int .i64,1,8,[Yi],false⟩
def ti4:V.TI:=⟨.bool,1,1,[.bool false],false⟩
def ti5:V.TI:=⟨.int .u8,1,1,[.int .u8 0],false⟩
def ti9:V.TI:=⟨.str,1,16,[.string ⟨#[]⟩],false⟩
def ti12:V.TI:=⟨.int .u64,1,8,[.int .u64 0],false⟩
def ti20:V.TI:=⟨.other,1,16,[.nilIface],false⟩
def ti21:V.TI:=⟨.int .i32,1,4,[.int .i32 0],false⟩
def ti22:V.TI:=Yl 5
def ti23:V.TI:=⟨.struct [(0,3),(1,3),(2,22)],3,40,[Yi,Yi,Ys],true⟩
def ti25:V.TI:=Yl 164
def ti26:V.TI:=Yl 37
def ti27:V.TI:=⟨.struct [(0,3),(1,3),(2,3),(3,24),(6,25),(7,26)],8,112,[Yi,Yi,Yi,Yi,Yi,Ys,Ys,Ys],true⟩
def ti29:V.TI:=Yl 3
def ti30:V.TI:=Yl 34
def ti33:V.TI:=⟨.struct [(0,2),(1,2)],2,16,[Yi,Yi],true⟩
def ti36:V.TI:=⟨.struct [(0,3),(1,3),(2,3),(3,34),(5,3),(6,3),(7,3),(8,3),(9,3)],10,80,[Yi,Yi,Yi,Yi,Yi,Yi,Yi,Yi,Yi,Yi],true⟩
def ti43:V.TI:=⟨.struct [(0,2),(1,2),(2,3),(3,3),(4,3)],5,40,[Yi,Yi,Yi,Yi,Yi],true⟩
def ti61:V.TI:=Yl 139
def ti62:V.TI:=⟨.struct [(0,28),(8,61)],9,136,[Yi,Yi,Yi,Yi,Yi,Ys,Ys,Ys,Ys],true⟩
def ti64:V.TI:=⟨.struct [(0,63),(9,3),(10,3)],11,152,[Yi,Yi,Yi,Yi,Yi,Ys,Ys,Ys,Ys,Yi,Yi],true⟩
def ti67:V.TI:=Yp 135
def ti71:V.TI:=Yl 61
def ti74:V.TI:=Yl 39
def ti88:V.TI:=Yl 4
def ti107:V.TI:=Yp 115
def ti111:V.TI:=Yp 119
def ti114:V.TI:=⟨.struct [(0,111),(1,113)],2,24,[.pointer none,.nilIface],false⟩
def ti116:V.TI:=⟨.array 3 88,3,72,[Ys,Ys,Ys],false⟩
def ti117:V.TI:=Yp 292
def ti118:V.TI:=⟨.struct [(0,28),(8,116),(11,117)],12,192,[Yi,Yi,Yi,Yi,Yi,Ys,Ys,Ys,Ys,Ys,Ys,.pointer none],true⟩
def ti131:V.TI:=Yp 192
def ti134:V.TI:=⟨.struct [(0,28),(8,131)],9,120,[Yi,Yi,Yi,Yi,Yi,Ys,Ys,Ys,.pointer none],true⟩
def ti138:V.TI:=⟨.struct [(0,3),(1,3),(2,3),(3,3),(4,29),(5,3),(6,3),(7,3),(8,34)],10,96,[Yi,Yi,Yi,Yi,Ys,Yi,Yi,Yi,Yi,Yi],true⟩
def ti162:V.TI:=Ym 3 4
def ti163:V.TI:=⟨.struct [(0,3),(1,3),(2,3),(3,3),(4,3),(5,3)],6,48,[Yi,Yi,Yi,Yi,Yi,Yi],true⟩
def ti176:V.TI:=⟨.struct [],0,0,[],true⟩
def ti182:V.TI:=Yp 245
def ti187:V.TI:=⟨.struct [(0,185),(0,186),(0,2)],1,8,[Yi],false⟩
def ti189:V.TI:=Ym 3 203
def ti190:V.TI:=Ym 3 469
def ti191:V.TI:=⟨.struct [(0,182),(1,188),(2,4),(3,24),(6,25),(7,189),(8,190),(9,3)],10,112,[.pointer none,Yi,.bool false,Yi,Yi,Ys,Ys,.map none,.map none,Yi],true⟩
def ti197:V.TI:=Yp 199
def ti198:V.TI:=⟨.struct [(0,111),(1,139),(11,195)],12,112,[.pointer none,Yi,Yi,Yi,Yi,Ys,Yi,Yi,Yi,Yi,Yi,.nilFunc],true⟩
def ti201:V.TI:=Yp 253
def ti203:V.TI:=Yp 215
def ti205:V.TI:=⟨.int .u32,1,4,[.int .u32 0],false⟩
def ti206:V.TI:=⟨.struct [(0,185),(0,205)],1,4,[.int .u32 0],false⟩
def ti208:V.TI:=⟨.struct [(0,21),(1,205)],2,8,[.int .i32 0,.int .u32 0],true⟩
def ti210:V.TI:=⟨.struct [(0,204),(0,209)],2,8,[.int .i32 0,.int .u32 0],false⟩
def ti212:V.TI:=⟨.struct [(0,204),(0,207),(1,211)],3,12,[.int .u32 0,.int .i32 0,.int .u32 0],false⟩
def ti214:V.TI:=⟨.struct [(0,213),(3,201)],4,24,[.int .u32 0,.int .i32 0,.int .u32 0,.pointer none],true⟩
def ti218:V.TI:=Yp 28
def ti220:V.TI:=Yp 37
def ti221:V.TI:=Yp 224
def ti222:V.TI:=Yl 29
def ti223:V.TI:=⟨.struct [(0,29),(1,29),(2,29),(3,222)],4,96,[Ys,Ys,Ys,Ys],true⟩
def ti237:V.TI:=Ym 3 3
def ti244:V.TI:=⟨.struct [(0,3),(1,237),(2,29),(3,188),(4,188)],5,56,[Yi,.map none,Ys,Yi,Yi],true⟩
def ti250:V.TI:=Yp 213
def ti252:V.TI:=⟨.struct [(0,24),(3,3),(4,88)],5,72,[Yi,Yi,Ys,Yi,Ys],true⟩
def ti289:V.TI:=Ym 3 34
def ti290:V.TI:=Ym 294 29
def ti291:V.TI:=⟨.struct [(0,289),(1,290)],2,16,[.map none,.map none],true⟩
def ti303:V.TI:=⟨.struct [(0,282),(1,282)],2,16,[.int .u64 0,.int .u64 0],true⟩
def ti316:V.TI:=Ym 3 29
def ti326:V.TI:=Yp 207
def ti328:V.TI:=Yp 205
def ti334:V.TI:=⟨.array 8 3,8,64,[Yi,Yi,Yi,Yi,Yi,Yi,Yi,Yi],false⟩
def ti362:V.TI:=⟨.array 6 3,6,48,[Yi,Yi,Yi,Yi,Yi,Yi],false⟩
def ti363:V.TI:=⟨.array 3 362,18,144,[Yi,Yi,Yi,Yi,Yi,Yi,Yi,Yi,Yi,Yi,Yi,Yi,Yi,Yi,Yi,Yi,Yi,Yi],false⟩
def ti372:V.TI:=Yp 211
def ti376:V.TI:=⟨.array 2 3,2,16,[Yi,Yi],false⟩
def ti377:V.TI:=Yl 376
def ti405:V.TI:=⟨.array 8 376,16,128,[Yi,Yi,Yi,Yi,Yi,Yi,Yi,Yi,Yi,Yi,Yi,Yi,Yi,Yi,Yi,Yi],false⟩
def ti412:V.TI:=Yp 209
def ti414:V.TI:=Yp 21
def ti416:V.TI:=⟨.other,1,8,[.pointer none],false⟩
def ti446:V.TI:=Yp 3
def ti449:V.TI:=Yp 443
def ti469:V.TI:=Yp 471
def ti470:V.TI:=⟨.struct [(0,213),(3,29)],4,40,[.int .u32 0,.int .i32 0,.int .u32 0,Ys],true⟩
def ti477:V.TI:=Yp 188
def ti479:V.TI:=Yp 2
def ti482:V.TI:=Yp 489
def ti487:V.TI:=Yl 491
def ti488:V.TI:=⟨.struct [(0,487)],1,24,[Ys],true⟩
def ti490:V.TI:=⟨.struct [(0,3),(1,3)],2,16,[Yi,Yi],true⟩
def infoTree:V.Tr:=Yt 199 (Yt 74 (Yt 29 (Yt 22 (Yt 4 (Yt 2 (Yt 1 Yz ti1 Yz) ti2 (Yt 3 Yz ti2 Yz)) ti4 (Yt 9 (Yt 5 Yz ti5 Yz) ti9 (Yt 21 Yz ti21 Yz))) ti22 (Yt 26 (Yt 24 (Yt 23 Yz ti23 Yz) ti23 (Yt 25 Yz ti25 Yz)) ti26 (Yt 28 (Yt 27 Yz ti27 Yz) ti27 Yz))) ti29 (Yt 44 (Yt 36 (Yt 33 (Yt 30 Yz ti30 Yz) ti33 (Yt 34 Yz ti33 Yz)) ti36 (Yt 39 (Yt 37 Yz ti36 Yz) ti2 Yz)) ti43 (Yt 67 (Yt 63 (Yt 61 Yz ti61 Yz) ti62 (Yt 65 Yz ti64 Yz)) ti67 (Yt 71 (Yt 70 Yz ti1 Yz) ti71 Yz)))) ti74 (Yt 163 (Yt 119 (Yt 113 (Yt 107 (Yt 88 Yz ti88 Yz) ti107 (Yt 111 Yz ti111 Yz)) ti20 (Yt 116 (Yt 115 Yz ti114 Yz) ti116 (Yt 117 Yz ti117 Yz))) ti118 (Yt 139 (Yt 135 (Yt 131 Yz ti131 Yz) ti134 (Yt 138 Yz ti138 Yz)) ti138 (Yt 162 (Yt 142 Yz ti1 Yz) ti162 Yz))) ti163 (Yt 188 (Yt 182 (Yt 169 (Yt 164 Yz ti163 Yz) ti1 (Yt 171 Yz ti1 Yz)) ti182 (Yt 186 (Yt 185 Yz ti176 Yz) ti176 Yz)) ti187 (Yt 193 (Yt 190 (Yt 189 Yz ti189 Yz) ti190 (Yt 192 Yz ti191 Yz)) ti12 (Yt 197 (Yt 195 Yz ti1 Yz) ti197 Yz))))) ti198 (Yt 328 (Yt 231 (Yt 213 (Yt 205 (Yt 203 (Yt 201 Yz ti201 Yz) ti203 (Yt 204 Yz ti176 Yz)) ti205 (Yt 209 (Yt 207 Yz ti206 Yz) ti208 (Yt 211 Yz ti210 Yz))) ti212 (Yt 221 (Yt 218 (Yt 215 Yz ti214 Yz) ti218 (Yt 220 Yz ti220 Yz)) ti221 (Yt 224 (Yt 222 Yz ti222 Yz) ti223 Yz))) ti1 (Yt 290 (Yt 253 (Yt 245 (Yt 237 Yz ti237 Yz) ti244 (Yt 250 Yz ti250 Yz)) ti252 (Yt 289 (Yt 282 Yz ti12 Yz) ti289 Yz)) ti290 (Yt 316 (Yt 294 (Yt 292 Yz ti291 Yz) ti33 (Yt 304 Yz ti303 Yz)) ti316 (Yt 326 (Yt 324 Yz ti1 Yz) ti326 Yz)))) ti328 (Yt 438 (Yt 377 (Yt 363 (Yt 358 (Yt 334 Yz ti334 Yz) ti303 (Yt 362 Yz ti362 Yz)) ti363 (Yt 376 (Yt 372 Yz ti372 Yz) ti376 Yz)) ti377 (Yt 414 (Yt 410 (Yt 405 Yz ti405 Yz) ti1 (Yt 412 Yz ti412 Yz)) ti414 (Yt 430 (Yt 416 Yz ti416 Yz) ti2 Yz))) ti20 (Yt 477 (Yt 469 (Yt 446 (Yt 443 Yz ti12 Yz) ti446 (Yt 449 Yz ti449 Yz)) ti469 (Yt 475 (Yt 471 Yz ti470 Yz) ti1 Yz)) ti477 (Yt 489 (Yt 482 (Yt 479 Yz ti479 Yz) ti482 (Yt 487 Yz ti487 Yz)) ti488 (Yt 491 (Yt 490 Yz ti490 Yz) ti490 Yz)))))
def yg5:infoTree.all Tryz.prog:=V.Tr.of_look _ κ
end Go.Proofs
