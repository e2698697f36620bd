/- Facts on the program. -/
import Derived.Test.YtnlpccoigflheaaGreatDoorRun
import Derived.KernelRfl
import Derived.Test.YtnlpccoigflheaaGreatDoorProg
namespace Go.Proofs.YtnlpccoigflheaaGreatDoor
open Go.RowKit Tryz
theorem Tbl.Ok.of {P:Program}{T:Tbl}(h3:Tbl.SlOk P T.sl)(h1:Tbl.FaOk P T.fa:=by repeat (first | exact trivial | refine⟨fun _ _ _=>by kernel_rfl,?_⟩))(h2:Tbl.CoOk P T.conc:=by repeat (first | exact trivial | refine⟨by kernel_rfl,?_⟩)):T.Ok P:=⟨h1,h2,h3⟩
abbrev FZ (t i:Nat):Prop:=∀ (b o:Nat) (w:World),(Instr.fieldAt t (.pointer (some ⟨b,o,none⟩)) i).run prog w=.ok (.pointer (some ⟨b,o,none⟩)) w
abbrev FA (t i k:Nat):Prop:=∀ (b o:Nat) (w:World),(Instr.fieldAt t (.pointer (some ⟨b,o,none⟩)) i).run prog w=.ok (.pointer (some ⟨b,o+k,none⟩)) w
theorem Cl {f:FuncId}{fn:Func}{code:Code}(h:prog.funcs[f]?=some fn)(hb:fn.body=some code:=by rfl)(hn:(fn.name == "runtime.NumGoroutine")=false:=by kernel_rfl):Callee prog f:=⟨_,_,h,hb,hn⟩
theorem cl10:Callee prog 10:=Cl func10
theorem cl100:Callee prog 100:=Cl func100
theorem cl103:Callee prog 103:=Cl func103
theorem cl106:Callee prog 106:=Cl func106
theorem cl108:Callee prog 108:=Cl func108
theorem cl11:Callee prog 11:=Cl func11
theorem cl114:Callee prog 114:=Cl func114
theorem cl115:Callee prog 115:=Cl func115
theorem cl116:Callee prog 116:=Cl func116
theorem cl117:Callee prog 117:=Cl func117
theorem cl118:Callee prog 118:=Cl func118
theorem cl119:Callee prog 119:=Cl func119
theorem cl12:Callee prog 12:=Cl func12
theorem cl120:Callee prog 120:=Cl func120
theorem cl121:Callee prog 121:=Cl func121
theorem cl122:Callee prog 122:=Cl func122
theorem cl123:Callee prog 123:=Cl func123
theorem cl125:Callee prog 125:=Cl func125
theorem cl128:Callee prog 128:=Cl func128
theorem cl129:Callee prog 129:=Cl func129
theorem cl13:Callee prog 13:=Cl func13
theorem cl130:Callee prog 130:=Cl func130
theorem cl131:Callee prog 131:=Cl func131
theorem cl132:Callee prog 132:=Cl func132
theorem cl133:Callee prog 133:=Cl func133
theorem cl134:Callee prog 134:=Cl func134
theorem cl135:Callee prog 135:=Cl func135
theorem cl136:Callee prog 136:=Cl func136
theorem cl137:Callee prog 137:=Cl func137
theorem cl139:Callee prog 139:=Cl func139
theorem cl14:Callee prog 14:=Cl func14
theorem cl140:Callee prog 140:=Cl func140
theorem cl141:Callee prog 141:=Cl func141
theorem cl142:Callee prog 142:=Cl func142
theorem cl143:Callee prog 143:=Cl func143
theorem cl144:Callee prog 144:=Cl func144
theorem cl145:Callee prog 145:=Cl func145
theorem cl146:Callee prog 146:=Cl func146
theorem cl147:Callee prog 147:=Cl func147
theorem cl148:Callee prog 148:=Cl func148
theorem cl149:Callee prog 149:=Cl func149
theorem cl15:Callee prog 15:=Cl func15
theorem cl150:Callee prog 150:=Cl func150
theorem cl151:Callee prog 151:=Cl func151
theorem cl152:Callee prog 152:=Cl func152
theorem cl153:Callee prog 153:=Cl func153
theorem cl154:Callee prog 154:=Cl func154
theorem cl155:Callee prog 155:=Cl func155
theorem cl156:Callee prog 156:=Cl func156
theorem cl157:Callee prog 157:=Cl func157
theorem cl158:Callee prog 158:=Cl func158
theorem cl159:Callee prog 159:=Cl func159
theorem cl16:Callee prog 16:=Cl func16
theorem cl160:Callee prog 160:=Cl func160
theorem cl161:Callee prog 161:=Cl func161
theorem cl162:Callee prog 162:=Cl func162
theorem cl163:Callee prog 163:=Cl func163
theorem cl164:Callee prog 164:=Cl func164
theorem cl165:Callee prog 165:=Cl func165
theorem cl166:Callee prog 166:=Cl func166
theorem cl167:Callee prog 167:=Cl func167
theorem cl168:Callee prog 168:=Cl func168
theorem cl169:Callee prog 169:=Cl func169
theorem cl17:Callee prog 17:=Cl func17
theorem cl170:Callee prog 170:=Cl func170
theorem cl171:Callee prog 171:=Cl func171
theorem cl173:Callee prog 173:=Cl func173
theorem cl174:Callee prog 174:=Cl func174
theorem cl175:Callee prog 175:=Cl func175
theorem cl177:Callee prog 177:=Cl func177
theorem cl178:Callee prog 178:=Cl func178
theorem cl179:Callee prog 179:=Cl func179
theorem cl18:Callee prog 18:=Cl func18
theorem cl180:Callee prog 180:=Cl func180
theorem cl181:Callee prog 181:=Cl func181
theorem cl182:Callee prog 182:=Cl func182
theorem cl183:Callee prog 183:=Cl func183
theorem cl184:Callee prog 184:=Cl func184
theorem cl185:Callee prog 185:=Cl func185
theorem cl186:Callee prog 186:=Cl func186
theorem cl187:Callee prog 187:=Cl func187
theorem cl19:Callee prog 19:=Cl func19
theorem cl195:Callee prog 195:=Cl func195
theorem cl20:Callee prog 20:=Cl func20
theorem cl200:Callee prog 200:=Cl func200
theorem cl201:Callee prog 201:=Cl func201
theorem cl202:Callee prog 202:=Cl func202
theorem cl203:Callee prog 203:=Cl func203
theorem cl204:Callee prog 204:=Cl func204
theorem cl205:Callee prog 205:=Cl func205
theorem cl206:Callee prog 206:=Cl func206
theorem cl207:Callee prog 207:=Cl func207
theorem cl208:Callee prog 208:=Cl func208
theorem cl209:Callee prog 209:=Cl func209
theorem cl21:Callee prog 21:=Cl func21
theorem cl210:Callee prog 210:=Cl func210
theorem cl211:Callee prog 211:=Cl func211
theorem cl212:Callee prog 212:=Cl func212
theorem cl213:Callee prog 213:=Cl func213
theorem cl214:Callee prog 214:=Cl func214
theorem cl215:Callee prog 215:=Cl func215
theorem cl218:Callee prog 218:=Cl func218
theorem cl219:Callee prog 219:=Cl func219
theorem cl220:Callee prog 220:=Cl func220
theorem cl221:Callee prog 221:=Cl func221
theorem cl222:Callee prog 222:=Cl func222
theorem cl223:Callee prog 223:=Cl func223
theorem cl224:Callee prog 224:=Cl func224
theorem cl225:Callee prog 225:=Cl func225
theorem cl228:Callee prog 228:=Cl func228
theorem cl229:Callee prog 229:=Cl func229
theorem cl23:Callee prog 23:=Cl func23
theorem cl230:Callee prog 230:=Cl func230
theorem cl231:Callee prog 231:=Cl func231
theorem cl232:Callee prog 232:=Cl func232
theorem cl233:Callee prog 233:=Cl func233
theorem cl234:Callee prog 234:=Cl func234
theorem cl235:Callee prog 235:=Cl func235
theorem cl236:Callee prog 236:=Cl func236
theorem cl237:Callee prog 237:=Cl func237
theorem cl238:Callee prog 238:=Cl func238
theorem cl239:Callee prog 239:=Cl func239
theorem cl24:Callee prog 24:=Cl func24
theorem cl240:Callee prog 240:=Cl func240
theorem cl241:Callee prog 241:=Cl func241
theorem cl245:Callee prog 245:=Cl func245
theorem cl246:Callee prog 246:=Cl func246
theorem cl247:Callee prog 247:=Cl func247
theorem cl248:Callee prog 248:=Cl func248
theorem cl249:Callee prog 249:=Cl func249
theorem cl25:Callee prog 25:=Cl func25
theorem cl250:Callee prog 250:=Cl func250
theorem cl256:Callee prog 256:=Cl func256
theorem cl26:Callee prog 26:=Cl func26
theorem cl260:Callee prog 260:=Cl func260
theorem cl261:Callee prog 261:=Cl func261
theorem cl262:Callee prog 262:=Cl func262
theorem cl263:Callee prog 263:=Cl func263
theorem cl265:Callee prog 265:=Cl func265
theorem cl266:Callee prog 266:=Cl func266
theorem cl267:Callee prog 267:=Cl func267
theorem cl268:Callee prog 268:=Cl func268
theorem cl269:Callee prog 269:=Cl func269
theorem cl27:Callee prog 27:=Cl func27
theorem cl270:Callee prog 270:=Cl func270
theorem cl273:Callee prog 273:=Cl func273
theorem cl274:Callee prog 274:=Cl func274
theorem cl275:Callee prog 275:=Cl func275
theorem cl276:Callee prog 276:=Cl func276
theorem cl277:Callee prog 277:=Cl func277
theorem cl28:Callee prog 28:=Cl func28
theorem cl280:Callee prog 280:=Cl func280
theorem cl281:Callee prog 281:=Cl func281
theorem cl282:Callee prog 282:=Cl func282
theorem cl283:Callee prog 283:=Cl func283
theorem cl284:Callee prog 284:=Cl func284
theorem cl285:Callee prog 285:=Cl func285
theorem cl286:Callee prog 286:=Cl func286
theorem cl287:Callee prog 287:=Cl func287
theorem cl288:Callee prog 288:=Cl func288
theorem cl289:Callee prog 289:=Cl func289
theorem cl29:Callee prog 29:=Cl func29
theorem cl292:Callee prog 292:=Cl func292
theorem cl30:Callee prog 30:=Cl func30
theorem cl302:Callee prog 302:=Cl func302
theorem cl303:Callee prog 303:=Cl func303
theorem cl307:Callee prog 307:=Cl func307
theorem cl308:Callee prog 308:=Cl func308
theorem cl309:Callee prog 309:=Cl func309
theorem cl31:Callee prog 31:=Cl func31
theorem cl311:Callee prog 311:=Cl func311
theorem cl32:Callee prog 32:=Cl func32
theorem cl324:Callee prog 324:=Cl func324
theorem cl325:Callee prog 325:=Cl func325
theorem cl334:Callee prog 334:=Cl func334
theorem cl335:Callee prog 335:=Cl func335
theorem cl336:Callee prog 336:=Cl func336
theorem cl337:Callee prog 337:=Cl func337
theorem cl34:Callee prog 34:=Cl func34
theorem cl347:Callee prog 347:=Cl func347
theorem cl348:Callee prog 348:=Cl func348
theorem cl349:Callee prog 349:=Cl func349
theorem cl35:Callee prog 35:=Cl func35
theorem cl36:Callee prog 36:=Cl func36
theorem cl37:Callee prog 37:=Cl func37
theorem cl377:Callee prog 377:=Cl func377
theorem cl378:Callee prog 378:=Cl func378
theorem cl38:Callee prog 38:=Cl func38
theorem cl388:Callee prog 388:=Cl func388
theorem cl390:Callee prog 390:=Cl func390
theorem cl391:Callee prog 391:=Cl func391
theorem cl392:Callee prog 392:=Cl func392
theorem cl393:Callee prog 393:=Cl func393
theorem cl394:Callee prog 394:=Cl func394
theorem cl395:Callee prog 395:=Cl func395
theorem cl396:Callee prog 396:=Cl func396
theorem cl397:Callee prog 397:=Cl func397
theorem cl4:Callee prog 4:=Cl func4
theorem cl40:Callee prog 40:=Cl func40
theorem cl41:Callee prog 41:=Cl func41
theorem cl42:Callee prog 42:=Cl func42
theorem cl43:Callee prog 43:=Cl func43
theorem cl44:Callee prog 44:=Cl func44
theorem cl45:Callee prog 45:=Cl func45
theorem cl46:Callee prog 46:=Cl func46
theorem cl47:Callee prog 47:=Cl func47
theorem cl48:Callee prog 48:=Cl func48
theorem cl49:Callee prog 49:=Cl func49
theorem cl5:Callee prog 5:=Cl func5
theorem cl50:Callee prog 50:=Cl func50
theorem cl58:Callee prog 58:=Cl func58
theorem cl59:Callee prog 59:=Cl func59
theorem cl6:Callee prog 6:=Cl func6
theorem cl60:Callee prog 60:=Cl func60
theorem cl61:Callee prog 61:=Cl func61
theorem cl62:Callee prog 62:=Cl func62
theorem cl63:Callee prog 63:=Cl func63
theorem cl64:Callee prog 64:=Cl func64
theorem cl65:Callee prog 65:=Cl func65
theorem cl66:Callee prog 66:=Cl func66
theorem cl67:Callee prog 67:=Cl func67
theorem cl68:Callee prog 68:=Cl func68
theorem cl69:Callee prog 69:=Cl func69
theorem cl7:Callee prog 7:=Cl func7
theorem cl70:Callee prog 70:=Cl func70
theorem cl71:Callee prog 71:=Cl func71
theorem cl72:Callee prog 72:=Cl func72
theorem cl74:Callee prog 74:=Cl func74
theorem cl75:Callee prog 75:=Cl func75
theorem cl76:Callee prog 76:=Cl func76
theorem cl77:Callee prog 77:=Cl func77
theorem cl78:Callee prog 78:=Cl func78
theorem cl79:Callee prog 79:=Cl func79
theorem cl8:Callee prog 8:=Cl func8
theorem cl80:Callee prog 80:=Cl func80
theorem cl81:Callee prog 81:=Cl func81
theorem cl82:Callee prog 82:=Cl func82
theorem cl84:Callee prog 84:=Cl func84
theorem cl87:Callee prog 87:=Cl func87
theorem cl88:Callee prog 88:=Cl func88
theorem cl89:Callee prog 89:=Cl func89
theorem cl9:Callee prog 9:=Cl func9
theorem cl90:Callee prog 90:=Cl func90
theorem cl91:Callee prog 91:=Cl func91
theorem cl92:Callee prog 92:=Cl func92
theorem cl93:Callee prog 93:=Cl func93
theorem cl94:Callee prog 94:=Cl func94
theorem cl96:Callee prog 96:=Cl func96
theorem cl97:Callee prog 97:=Cl func97
theorem cl98:Callee prog 98:=Cl func98
theorem cl99:Callee prog 99:=Cl func99
theorem fa108_0:FZ 108 0:=fun _ _ _=>by kernel_rfl
theorem fa108_2:FA 108 2 2:=fun _ _ _=>by kernel_rfl
theorem fa108_3:FA 108 3 3:=fun _ _ _=>by kernel_rfl
theorem fa108_4:FA 108 4 4:=fun _ _ _=>by kernel_rfl
theorem fa114_0:FZ 114 0:=fun _ _ _=>by kernel_rfl
theorem fa114_1:FA 114 1 1:=fun _ _ _=>by kernel_rfl
theorem fa114_2:FA 114 2 2:=fun _ _ _=>by kernel_rfl
theorem fa149_0:FZ 149 0:=fun _ _ _=>by kernel_rfl
theorem fa149_1:FA 149 1 1:=fun _ _ _=>by kernel_rfl
theorem fa153_0:FZ 153 0:=fun _ _ _=>by kernel_rfl
theorem fa201_0:FZ 201 0:=fun _ _ _=>by kernel_rfl
theorem fa201_1:FA 201 1 1:=fun _ _ _=>by kernel_rfl
theorem fa206_0:FZ 206 0:=fun _ _ _=>by kernel_rfl
theorem fa227_0:FZ 227 0:=fun _ _ _=>by kernel_rfl
theorem fa227_1:FA 227 1 1:=fun _ _ _=>by kernel_rfl
theorem fa232_2:FA 232 2 2:=fun _ _ _=>by kernel_rfl
theorem fa234_0:FZ 234 0:=fun _ _ _=>by kernel_rfl
theorem fa234_1:FA 234 1 1:=fun _ _ _=>by kernel_rfl
theorem fa236_0:FZ 236 0:=fun _ _ _=>by kernel_rfl
theorem fa236_1:FA 236 1 1:=fun _ _ _=>by kernel_rfl
theorem fa236_2:FA 236 2 2:=fun _ _ _=>by kernel_rfl
theorem fa236_3:FA 236 3 3:=fun _ _ _=>by kernel_rfl
theorem fa236_4:FA 236 4 4:=fun _ _ _=>by kernel_rfl
theorem fa236_5:FA 236 5 5:=fun _ _ _=>by kernel_rfl
theorem fa236_6:FA 236 6 6:=fun _ _ _=>by kernel_rfl
theorem fa236_7:FA 236 7 9:=fun _ _ _=>by kernel_rfl
theorem fa242_0:FZ 242 0:=fun _ _ _=>by kernel_rfl
theorem fa242_1:FA 242 1 1:=fun _ _ _=>by kernel_rfl
theorem fa247_0:FZ 247 0:=fun _ _ _=>by kernel_rfl
theorem fa247_1:FA 247 1 1:=fun _ _ _=>by kernel_rfl
theorem fa247_2:FA 247 2 2:=fun _ _ _=>by kernel_rfl
theorem fa249_0:FZ 249 0:=fun _ _ _=>by kernel_rfl
theorem fa256_0:FZ 256 0:=fun _ _ _=>by kernel_rfl
theorem fa256_1:FA 256 1 1:=fun _ _ _=>by kernel_rfl
theorem fa259_0:FZ 259 0:=fun _ _ _=>by kernel_rfl
theorem fa259_1:FA 259 1 1:=fun _ _ _=>by kernel_rfl
theorem fa259_2:FA 259 2 3:=fun _ _ _=>by kernel_rfl
theorem fa281_0:FZ 281 0:=fun _ _ _=>by kernel_rfl
theorem fa281_1:FA 281 1 1:=fun _ _ _=>by kernel_rfl
theorem fa281_2:FA 281 2 2:=fun _ _ _=>by kernel_rfl
theorem fa284_0:FZ 284 0:=fun _ _ _=>by kernel_rfl
theorem fa284_1:FA 284 1 1:=fun _ _ _=>by kernel_rfl
theorem fa301_0:FZ 301 0:=fun _ _ _=>by kernel_rfl
theorem fa327_0:FZ 327 0:=fun _ _ _=>by kernel_rfl
theorem fa327_1:FA 327 1 1:=fun _ _ _=>by kernel_rfl
theorem fa32_0:FZ 32 0:=fun _ _ _=>by kernel_rfl
theorem fa32_1:FA 32 1 1:=fun _ _ _=>by kernel_rfl
theorem fa32_10:FA 32 10 10:=fun _ _ _=>by kernel_rfl
theorem fa32_2:FA 32 2 2:=fun _ _ _=>by kernel_rfl
theorem fa32_3:FA 32 3 3:=fun _ _ _=>by kernel_rfl
theorem fa32_4:FA 32 4 4:=fun _ _ _=>by kernel_rfl
theorem fa32_5:FA 32 5 5:=fun _ _ _=>by kernel_rfl
theorem fa32_7:FA 32 7 7:=fun _ _ _=>by kernel_rfl
theorem fa32_8:FA 32 8 8:=fun _ _ _=>by kernel_rfl
theorem fa32_9:FA 32 9 9:=fun _ _ _=>by kernel_rfl
theorem fa36_0:FZ 36 0:=fun _ _ _=>by kernel_rfl
theorem fa36_1:FA 36 1 1:=fun _ _ _=>by kernel_rfl
theorem fa371_0:FZ 371 0:=fun _ _ _=>by kernel_rfl
theorem fa371_1:FA 371 1 1:=fun _ _ _=>by kernel_rfl
theorem fa374_0:FZ 374 0:=fun _ _ _=>by kernel_rfl
theorem fa374_1:FA 374 1 1:=fun _ _ _=>by kernel_rfl
theorem fa49_1:FA 49 1 1:=fun _ _ _=>by kernel_rfl
theorem fa62_2:FA 62 2 2:=fun _ _ _=>by kernel_rfl
theorem fa72_0:FZ 72 0:=fun _ _ _=>by kernel_rfl
theorem fa72_1:FA 72 1 1:=fun _ _ _=>by kernel_rfl
theorem fa77_0:FZ 77 0:=fun _ _ _=>by kernel_rfl
theorem fa77_1:FA 77 1 1:=fun _ _ _=>by kernel_rfl
theorem fa93_0:FZ 93 0:=fun _ _ _=>by kernel_rfl
theorem fa93_1:FA 93 1 1:=fun _ _ _=>by kernel_rfl
theorem fa93_3:FA 93 3 3:=fun _ _ _=>by kernel_rfl
theorem fa93_4:FA 93 4 4:=fun _ _ _=>by kernel_rfl
theorem fa99_0:FZ 99 0:=fun _ _ _=>by kernel_rfl
theorem fname217:(f217.name == "runtime.NumGoroutine")=false:=by kernel_rfl
theorem fname424:(f424.name == "runtime.NumGoroutine")=false:=by kernel_rfl
theorem fname44:(f44.name == "runtime.NumGoroutine")=false:=by kernel_rfl
theorem fv262_0 (x0 x1:Value)(w:World):(Instr.field 262 (.agg #[x0,x1]) 0).run prog w=.ok (x0) w:=by kernel_rfl
theorem fv262_1 (x0 x1:Value)(w:World):(Instr.field 262 (.agg #[x0,x1]) 1).run prog w=.ok (x1) w:=by kernel_rfl
theorem fv36_3 (x0 x1 x2 x3 x4:Value)(w:World):(Instr.field 36 (.agg #[x0,x1,x2,x3,x4]) 3).run prog w=.ok (x3) w:=by kernel_rfl
theorem fv39_0 (x0 x1 x2 x3 x4 x5 x6 x7 x8 x9 x10 x11 x12:Value)(w:World):(Instr.field 39 (.agg #[x0,x1,x2,x3,x4,x5,x6,x7,x8,x9,x10,x11,x12]) 0).run prog w=.ok (x0) w:=by kernel_rfl
theorem info120:(prog.info? 120).map (fun i=>(i.zero,i.size,i.bytes))=some (some (.agg #[.int .i64 0,.slice none 0 0,.int .u32 0,.bool false]),4,40):=by kernel_rfl
theorem info2:(prog.info? 2).map (fun i=>(i.zero,i.size,i.bytes))=some (some (.int .i64 0),1,8):=by kernel_rfl
theorem info21:(prog.info? 21).map (fun i=>(i.zero,i.size,i.bytes))=some (some (.int .i32 0),1,4):=by kernel_rfl
theorem info22:(prog.info? 22).map (fun i=>(i.zero,i.size,i.bytes))=some (some (.slice none 0 0),1,24):=by kernel_rfl
theorem info220:(prog.info? 220).map (fun i=>(i.zero,i.size,i.bytes))=some (some (.agg (List.replicate 64 (Value.int .u8 0)).toArray),64,64):=by kernel_rfl
theorem info25:(prog.info? 25).map (fun i=>(i.zero,i.size,i.bytes))=some (some (.slice none 0 0),1,24):=by kernel_rfl
theorem info3:(prog.info? 3).map (fun i=>(i.zero,i.size,i.bytes))=some (some (.int .i64 0),1,8):=by kernel_rfl
theorem info348:(prog.info? 348).map (fun i=>(i.zero,i.size,i.bytes))=some (some (.agg #[.int .i64 0,.int .i64 0]),2,16):=by kernel_rfl
theorem info36:(prog.info? 36).map (fun i=>(i.zero,i.size,i.bytes))=some (some (.agg #[.int .i64 0,.slice none 0 0,.string ⟨#[]⟩,.int .i64 0,.bool false]),5,64):=by kernel_rfl
theorem info4:(prog.info? 4).map (fun i=>(i.zero,i.size,i.bytes))=some (some (.bool false),1,1):=by kernel_rfl
theorem info5:(prog.info? 5).map (fun i=>(i.zero,i.size,i.bytes))=some (some (.int .u8 0),1,1):=by kernel_rfl
theorem info65:(prog.info? 65).map (fun i=>(i.zero,i.size,i.bytes))=some (some (.slice none 0 0),1,24):=by kernel_rfl
theorem info72:(prog.info? 72).map (fun i=>(i.zero,i.size,i.bytes))=some (some (.agg #[.int .i64 0,.int .i64 0]),2,16):=by kernel_rfl
theorem info85:(prog.info? 85).map (fun i=>(i.zero,i.size,i.bytes))=some (some (.slice none 0 0),1,24):=by kernel_rfl
theorem info9:(prog.info? 9).map (fun i=>(i.zero,i.size,i.bytes))=some (some (.string ⟨#[]⟩),1,16):=by kernel_rfl
theorem ixs163:(prog.info? 36).map (·.size)=some 5:=by kernel_rfl
theorem ixs166:(prog.info? 2).map (·.size)=some 1:=by kernel_rfl
theorem ixs210:(prog.info? 65).map (·.size)=some 1:=by kernel_rfl
theorem ixs22:(prog.info? 25).map (·.size)=some 1:=by kernel_rfl
theorem ixs223:(prog.info? 9).map (·.size)=some 1:=by kernel_rfl
theorem ixs23:(prog.info? 4).map (·.size)=some 1:=by kernel_rfl
theorem ixs24:(prog.info? 21).map (·.size)=some 1:=by kernel_rfl
theorem ixs25:(prog.info? 21).map (·.size)=some 1:=by kernel_rfl
theorem ixs279:(prog.info? 85).map (·.size)=some 1:=by kernel_rfl
theorem ixs325:(prog.info? 120).map (·.size)=some 4:=by kernel_rfl
theorem ixs348:(prog.info? 3).map (·.size)=some 1:=by kernel_rfl
theorem ixs349:(prog.info? 348).map (·.size)=some 2:=by kernel_rfl
theorem ixs37:(prog.info? 72).map (·.size)=some 2:=by kernel_rfl
theorem ixs387:(prog.info? 22).map (·.size)=some 1:=by kernel_rfl
theorem ixs391:(prog.info? 5).map (·.size)=some 1:=by kernel_rfl
theorem ixs433:(prog.info? 85).map (·.size)=some 1:=by kernel_rfl
theorem ixs65:(prog.info? 5).map (·.size)=some 1:=by kernel_rfl
theorem ixs75:(prog.info? 220).map (·.size)=some 64:=by kernel_rfl
theorem ixs85:(prog.info? 3).map (·.size)=some 1:=by kernel_rfl
theorem mixed:prog.follows .mixedOrders=true:=by kernel_rfl
theorem one106:oneB prog 106=true:=by kernel_rfl
theorem one111:oneB prog 111=true:=by kernel_rfl
theorem one112:oneB prog 112=true:=by kernel_rfl
theorem one129:oneB prog 129=true:=by kernel_rfl
theorem one151:oneB prog 151=true:=by kernel_rfl
theorem one156:oneB prog 156=true:=by kernel_rfl
theorem one157:oneB prog 157=true:=by kernel_rfl
theorem one158:oneB prog 158=true:=by kernel_rfl
theorem one159:oneB prog 159=true:=by kernel_rfl
theorem one173:oneB prog 173=true:=by kernel_rfl
theorem one199:oneB prog 199=true:=by kernel_rfl
theorem one2:oneB prog 2=true:=by kernel_rfl
theorem one203:oneB prog 203=true:=by kernel_rfl
theorem one21:oneB prog 21=true:=by kernel_rfl
theorem one22:oneB prog 22=true:=by kernel_rfl
theorem one23:oneB prog 23=true:=by kernel_rfl
theorem one230:oneB prog 230=true:=by kernel_rfl
theorem one24:oneB prog 24=true:=by kernel_rfl
theorem one245:oneB prog 245=true:=by kernel_rfl
theorem one25:oneB prog 25=true:=by kernel_rfl
theorem one257:oneB prog 257=true:=by kernel_rfl
theorem one282:oneB prog 282=true:=by kernel_rfl
theorem one3:oneB prog 3=true:=by kernel_rfl
theorem one30:oneB prog 30=true:=by kernel_rfl
theorem one325:oneB prog 325=true:=by kernel_rfl
theorem one34:oneB prog 34=true:=by kernel_rfl
theorem one369:oneB prog 369=true:=by kernel_rfl
theorem one37:oneB prog 37=true:=by kernel_rfl
theorem one4:oneB prog 4=true:=by kernel_rfl
theorem one43:oneB prog 43=true:=by kernel_rfl
theorem one45:oneB prog 45=true:=by kernel_rfl
theorem one46:oneB prog 46=true:=by kernel_rfl
theorem one47:oneB prog 47=true:=by kernel_rfl
theorem one5:oneB prog 5=true:=by kernel_rfl
theorem one52:oneB prog 52=true:=by kernel_rfl
theorem one59:oneB prog 59=true:=by kernel_rfl
theorem one60:oneB prog 60=true:=by kernel_rfl
theorem one65:oneB prog 65=true:=by kernel_rfl
theorem one75:oneB prog 75=true:=by kernel_rfl
theorem one85:oneB prog 85=true:=by kernel_rfl
theorem one9:oneB prog 9=true:=by kernel_rfl
theorem one90:oneB prog 90=true:=by kernel_rfl
theorem one91:oneB prog 91=true:=by kernel_rfl
theorem sz156:(prog.info? 156).map (·.size)=some 1:=by kernel_rfl
theorem sz157:(prog.info? 157).map (·.size)=some 1:=by kernel_rfl
theorem sz158:(prog.info? 158).map (·.size)=some 1:=by kernel_rfl
theorem sz159:(prog.info? 159).map (·.size)=some 1:=by kernel_rfl
theorem sz173:(prog.info? 173).map (·.size)=some 1:=by kernel_rfl
theorem sz2:(prog.info? 2).map (·.size)=some 1:=by kernel_rfl
theorem sz21:(prog.info? 21).map (·.size)=some 1:=by kernel_rfl
theorem sz22:(prog.info? 22).map (·.size)=some 1:=by kernel_rfl
theorem sz25:(prog.info? 25).map (·.size)=some 1:=by kernel_rfl
theorem sz3:(prog.info? 3).map (·.size)=some 1:=by kernel_rfl
theorem sz30:(prog.info? 30).map (·.size)=some 1:=by kernel_rfl
theorem sz325:(prog.info? 325).map (·.size)=some 1:=by kernel_rfl
theorem sz37:(prog.info? 37).map (·.size)=some 1:=by kernel_rfl
theorem sz4:(prog.info? 4).map (·.size)=some 1:=by kernel_rfl
theorem sz46:(prog.info? 46).map (·.size)=some 1:=by kernel_rfl
theorem sz5:(prog.info? 5).map (·.size)=some 1:=by kernel_rfl
theorem sz65:(prog.info? 65).map (·.size)=some 1:=by kernel_rfl
theorem sz85:(prog.info? 85).map (·.size)=some 1:=by kernel_rfl
theorem sz9:(prog.info? 9).map (·.size)=some 1:=by kernel_rfl
theorem szt120:(prog.info? 120).map (·.size)=some 4:=by kernel_rfl
theorem szt126:(prog.info? 126).map (·.size)=some 3:=by kernel_rfl
theorem szt220:(prog.info? 220).map (·.size)=some 64:=by kernel_rfl
theorem szt232:(prog.info? 232).map (·.size)=some 3:=by kernel_rfl
theorem szt234:(prog.info? 234).map (·.size)=some 2:=by kernel_rfl
theorem szt249:(prog.info? 249).map (·.size)=some 2:=by kernel_rfl
theorem szt256:(prog.info? 256).map (·.size)=some 2:=by kernel_rfl
theorem szt3:(prog.info? 3).map (·.size)=some 1:=by kernel_rfl
theorem szt32:(prog.info? 32).map (·.size)=some 11:=by kernel_rfl
theorem szt348:(prog.info? 348).map (·.size)=some 2:=by kernel_rfl
theorem szt36:(prog.info? 36).map (·.size)=some 5:=by kernel_rfl
theorem szt39:(prog.info? 39).map (·.size)=some 13:=by kernel_rfl
theorem szt41:(prog.info? 41).map (·.size)=some 20:=by kernel_rfl
theorem szt5:(prog.info? 5).map (·.size)=some 1:=by kernel_rfl
theorem szt72:(prog.info? 72).map (·.size)=some 2:=by kernel_rfl
theorem zero120:(prog.info? 120).bind (·.zero)=some (.agg #[.int .i64 0,.slice none 0 0,.int .u32 0,.bool false]):=by kernel_rfl
theorem zero126:(prog.info? 126).bind (·.zero)=some (.agg #[.pointer none,.pointer none,.int .u64 0]):=by kernel_rfl
theorem zero173:(prog.info? 173).bind (·.zero)=some (.map none):=by kernel_rfl
theorem zero220:(prog.info? 220).bind (·.zero)=some (.agg (List.replicate 64 (Value.int .u8 0)).toArray):=by kernel_rfl
theorem zero232:(prog.info? 232).bind (·.zero)=some (.agg #[.int .i64 0,.int .i64 0,.int .i64 0]):=by kernel_rfl
theorem zero234:(prog.info? 234).bind (·.zero)=some (.agg #[.int .i64 0,.int .i64 0]):=by kernel_rfl
theorem zero249:(prog.info? 249).bind (·.zero)=some (.agg #[.slice none 0 0,.int .i64 0]):=by kernel_rfl
theorem zero25:(prog.info? 25).bind (·.zero)=some (.slice none 0 0):=by kernel_rfl
theorem zero256:(prog.info? 256).bind (·.zero)=some (.agg #[.slice none 0 0,.slice none 0 0]):=by kernel_rfl
theorem zero262:(prog.info? 262).bind (·.zero)=some (.agg #[.slice none 0 0,.slice none 0 0]):=by kernel_rfl
theorem zero277:(prog.info? 277).bind (·.zero)=some (.pointer none):=by kernel_rfl
theorem zero311:(prog.info? 311).bind (·.zero)=some (.pointer none):=by kernel_rfl
theorem zero32:(prog.info? 32).bind (·.zero)=some (.agg #[.int .i64 0,.string ⟨#[]⟩,.string ⟨#[]⟩,.int .i64 0,.int .i64 0,.int .i64 0,.int .i64 0,.slice none 0 0,.string ⟨#[]⟩,.int .i64 0,.int .u32 0]):=by kernel_rfl
theorem zero348:(prog.info? 348).bind (·.zero)=some (.agg #[.int .i64 0,.int .i64 0]):=by kernel_rfl
theorem zero36:(prog.info? 36).bind (·.zero)=some (.agg #[.int .i64 0,.slice none 0 0,.string ⟨#[]⟩,.int .i64 0,.bool false]):=by kernel_rfl
theorem zero39:(prog.info? 39).bind (·.zero)=some (.agg #[.int .i64 0,.bool false,.string ⟨#[]⟩,.int .i64 0,.int .i64 0,.int .i64 0,.int .i64 0,.int .i64 0,.int .i64 0,.int .i64 0,.int .i64 0,.int .i64 0,.int .i64 0]):=by kernel_rfl
theorem zero4:(prog.info? 4).bind (·.zero)=some (.bool false):=by kernel_rfl
theorem zero41:(prog.info? 41).bind (·.zero)=some (.agg #[.int .i64 0,.slice none 0 0,.string ⟨#[]⟩,.int .i64 0,.bool false,.slice none 0 0,.int .i64 0,.int .i64 0,.bool false,.string ⟨#[]⟩,.int .i64 0,.int .i64 0,.int .i64 0,.int .i64 0,.int .i64 0,.int .i64 0,.int .i64 0,.int .i64 0,.int .i64 0,.int .i64 0]):=by kernel_rfl
theorem zero52:(prog.info? 52).bind (·.zero)=some (.int .i64 0):=by kernel_rfl
theorem zero72:(prog.info? 72).bind (·.zero)=some (.agg #[.int .i64 0,.int .i64 0]):=by kernel_rfl
theorem zero85:(prog.info? 85).bind (·.zero)=some (.slice none 0 0):=by kernel_rfl
theorem zero87:(prog.info? 87).bind (·.zero)=some (.pointer none):=by kernel_rfl
theorem zero9:(prog.info? 9).bind (·.zero)=some (.string ⟨#[]⟩):=by kernel_rfl
theorem zero99:(prog.info? 99).bind (·.zero)=some (.agg #[.slice none 0 0]):=by kernel_rfl
end Go.Proofs.YtnlpccoigflheaaGreatDoor
