/- The functions of the program, for the executor. -/
import Derived.Test.YtmlipiegjgklcaaGreatXd
import Derived.Test.YtmlipiegjgklcaaGreatProg
import Derived.KernelRfl
import Derived.Test.YtmlipiegjgklcaaGreatXc
/- The functions of the program, for the executor. -/
noncomputable section
set_option linter.unusedVariables false
namespace Go.Ax.Top
noncomputable abbrev P : Program := Go.Proofs.Tryz.prog
def bodyOf (f : Func) : Code := Option.rec (motive := fun _ => Code) .skip (fun c => c) f.body
def fnA (f : Func) (mask : Nat) : FnA := ⟨bodyOf f, f.results.toList, mask, f.ntmps⟩
def delTy (o : Oper) : TypeId := match o.op with | .range t _ => t | _ => 0
def delOf (c : Code) : DelS := match c with
  | .seq (.region _ a _) (.block _ (.loop (.seq (.region _ b _) (.seq _ (.block _ (.seq (.region _ d _) R)))))) => ⟨a.getD 0 default, a.getD 1 default, b.getD 0 default, b.getD 1 default, d.getD 0 default, tailL d.toList, R, delTy (a.getD 1 default)⟩
  | _ => ⟨default, default, default, default, default, [], .skip, 0⟩
noncomputable def x4 : FnA := fnA Go.Proofs.Tryz.f4 332306998946228968225951833794543603
noncomputable def x5 : FnA := fnA Go.Proofs.Tryz.f5 44601490397061256805561770507057856942014451
noncomputable def x8 : FnA := fnA Go.Proofs.Tryz.f8 87112285931771388106977467925006822932467
noncomputable def x9 : FnA := fnA Go.Proofs.Tryz.f9 268443903
noncomputable def x10 : FnA := fnA Go.Proofs.Tryz.f10 15
noncomputable def x11 : FnA := fnA Go.Proofs.Tryz.f11 70508331664219
noncomputable def x12 : FnA := fnA Go.Proofs.Tryz.f12 783
noncomputable def x13 : FnA := fnA Go.Proofs.Tryz.f13 147
noncomputable def x14 : FnA := fnA Go.Proofs.Tryz.f14 21
noncomputable def x15 : FnA := fnA Go.Proofs.Tryz.f15 20292352149602856729963582324733
noncomputable def x16 : FnA := fnA Go.Proofs.Tryz.f16 15
noncomputable def x17 : FnA := fnA Go.Proofs.Tryz.f17 21
noncomputable def x18 : FnA := fnA Go.Proofs.Tryz.f18 2173
noncomputable def x19 : FnA := fnA Go.Proofs.Tryz.f19 33571891
noncomputable def x20 : FnA := fnA Go.Proofs.Tryz.f20 524351
noncomputable def x21 : FnA := fnA Go.Proofs.Tryz.f21 39
noncomputable def x22 : FnA := fnA Go.Proofs.Tryz.f22 32887
noncomputable def x23 : FnA := fnA Go.Proofs.Tryz.f23 63
noncomputable def x24 : FnA := fnA Go.Proofs.Tryz.f24 5
noncomputable def x25 : FnA := fnA Go.Proofs.Tryz.f25 33571891
noncomputable def x29 : FnA := fnA Go.Proofs.Tryz.f29 158495086360194030620771372991
noncomputable def x30 : FnA := fnA Go.Proofs.Tryz.f30 16783047
noncomputable def x31 : FnA := fnA Go.Proofs.Tryz.f31 711
noncomputable def x32 : FnA := fnA Go.Proofs.Tryz.f32 562949955524339
noncomputable def x33 : FnA := fnA Go.Proofs.Tryz.f33 179
noncomputable def x34 : FnA := fnA Go.Proofs.Tryz.f34 21
noncomputable def x35 : FnA := fnA Go.Proofs.Tryz.f35 17180144253
noncomputable def x36 : FnA := fnA Go.Proofs.Tryz.f36 16842739
noncomputable def x37 : FnA := fnA Go.Proofs.Tryz.f37 140737555726323
noncomputable def x38 : FnA := fnA Go.Proofs.Tryz.f38 21
noncomputable def x39 : FnA := fnA Go.Proofs.Tryz.f39 55
noncomputable def x40 : FnA := fnA Go.Proofs.Tryz.f40 9671407061355376991536125
noncomputable def x41 : FnA := fnA Go.Proofs.Tryz.f41 287
noncomputable def x42 : FnA := fnA Go.Proofs.Tryz.f42 1821
noncomputable def x43 : FnA := fnA Go.Proofs.Tryz.f43 71
noncomputable def x44 : FnA := fnA Go.Proofs.Tryz.f44 21
noncomputable def x46 : FnA := fnA Go.Proofs.Tryz.f46 5
noncomputable def x47 : FnA := fnA Go.Proofs.Tryz.f47 33011
noncomputable def x48 : FnA := fnA Go.Proofs.Tryz.f48 51
noncomputable def x49 : FnA := fnA Go.Proofs.Tryz.f49 20292332504557999308305936155639
noncomputable def x50 : FnA := fnA Go.Proofs.Tryz.f50 79247505327378242029083427327
noncomputable def x51 : FnA := fnA Go.Proofs.Tryz.f51 8211
noncomputable def x52 : FnA := fnA Go.Proofs.Tryz.f52 295219962842112403443
noncomputable def x54 : FnA := fnA Go.Proofs.Tryz.f54 5
noncomputable def x55 : FnA := fnA Go.Proofs.Tryz.f55 6442490621
noncomputable def x56 : FnA := fnA Go.Proofs.Tryz.f56 18898689312311528918727
noncomputable def x57 : FnA := fnA Go.Proofs.Tryz.f57 4569574383027637
noncomputable def x58 : FnA := fnA Go.Proofs.Tryz.f58 72057731477411783
noncomputable def x59 : FnA := fnA Go.Proofs.Tryz.f59 21
noncomputable def x60 : FnA := fnA Go.Proofs.Tryz.f60 21
noncomputable def x61 : FnA := fnA Go.Proofs.Tryz.f61 1073742075
noncomputable def x62 : FnA := fnA Go.Proofs.Tryz.f62 1152921521786720215
noncomputable def x63 : FnA := fnA Go.Proofs.Tryz.f63 528315337151347
noncomputable def x64 : FnA := fnA Go.Proofs.Tryz.f64 21
noncomputable def x65 : FnA := fnA Go.Proofs.Tryz.f65 603981767
noncomputable def x66 : FnA := fnA Go.Proofs.Tryz.f66 2512299131165771454005235
noncomputable def x67 : FnA := fnA Go.Proofs.Tryz.f67 162259276904771533442325185429263
noncomputable def x68 : FnA := fnA Go.Proofs.Tryz.f68 21
noncomputable def x69 : FnA := fnA Go.Proofs.Tryz.f69 35201559855325
noncomputable def x70 : FnA := fnA Go.Proofs.Tryz.f70 71
noncomputable def x71 : FnA := fnA Go.Proofs.Tryz.f71 1161114477920317
noncomputable def x72 : FnA := fnA Go.Proofs.Tryz.f72 508093
noncomputable def x73 : FnA := fnA Go.Proofs.Tryz.f73 35184372104135
noncomputable def x74 : FnA := fnA Go.Proofs.Tryz.f74 11
noncomputable def x75 : FnA := fnA Go.Proofs.Tryz.f75 115
noncomputable def x76 : FnA := fnA Go.Proofs.Tryz.f76 2147746035
noncomputable def x77 : FnA := fnA Go.Proofs.Tryz.f77 159
noncomputable def x78 : FnA := fnA Go.Proofs.Tryz.f78 21
noncomputable def x79 : FnA := fnA Go.Proofs.Tryz.f79 21
noncomputable def x80 : FnA := fnA Go.Proofs.Tryz.f80 21
noncomputable def x81 : FnA := fnA Go.Proofs.Tryz.f81 8623521917
noncomputable def x83 : FnA := fnA Go.Proofs.Tryz.f83 16781363
noncomputable def x84 : FnA := fnA Go.Proofs.Tryz.f84 115
noncomputable def x85 : FnA := fnA Go.Proofs.Tryz.f85 11
noncomputable def x86 : FnA := fnA Go.Proofs.Tryz.f86 17179870991
noncomputable def x87 : FnA := fnA Go.Proofs.Tryz.f87 4611686499467929597
noncomputable def x88 : FnA := fnA Go.Proofs.Tryz.f88 663231
noncomputable def x89 : FnA := fnA Go.Proofs.Tryz.f89 51
noncomputable def x90 : FnA := fnA Go.Proofs.Tryz.f90 33558643
noncomputable def x91 : FnA := fnA Go.Proofs.Tryz.f91 562952100906951
noncomputable def x92 : FnA := fnA Go.Proofs.Tryz.f92 117502317
noncomputable def x93 : FnA := fnA Go.Proofs.Tryz.f93 1967
noncomputable def x94 : FnA := fnA Go.Proofs.Tryz.f94 1073741885
noncomputable def x95 : FnA := fnA Go.Proofs.Tryz.f95 34359762831
noncomputable def x96 : FnA := fnA Go.Proofs.Tryz.f96 311
noncomputable def x97 : FnA := fnA Go.Proofs.Tryz.f97 2909303483279
noncomputable def x98 : FnA := fnA Go.Proofs.Tryz.f98 1152925902658601427
noncomputable def x99 : FnA := fnA Go.Proofs.Tryz.f99 21
noncomputable def x100 : FnA := fnA Go.Proofs.Tryz.f100 21
noncomputable def x101 : FnA := fnA Go.Proofs.Tryz.f101 33015
noncomputable def x102 : FnA := fnA Go.Proofs.Tryz.f102 4951835715149362202004161223
noncomputable def x103 : FnA := fnA Go.Proofs.Tryz.f103 11
noncomputable def x104 : FnA := fnA Go.Proofs.Tryz.f104 19
noncomputable def x105 : FnA := fnA Go.Proofs.Tryz.f105 5070602419138301278714870109567
noncomputable def x106 : FnA := fnA Go.Proofs.Tryz.f106 491577
noncomputable def x107 : FnA := fnA Go.Proofs.Tryz.f107 9224533156048011379
noncomputable def x108 : FnA := fnA Go.Proofs.Tryz.f108 5
noncomputable def x109 : FnA := fnA Go.Proofs.Tryz.f109 19
noncomputable def x110 : FnA := fnA Go.Proofs.Tryz.f110 4295094301
noncomputable def x111 : FnA := fnA Go.Proofs.Tryz.f111 137438953491
noncomputable def x112 : FnA := fnA Go.Proofs.Tryz.f112 268559047
noncomputable def x113 : FnA := fnA Go.Proofs.Tryz.f113 2383428735
noncomputable def x114 : FnA := fnA Go.Proofs.Tryz.f114 278781
noncomputable def x115 : FnA := fnA Go.Proofs.Tryz.f115 19
noncomputable def x116 : FnA := fnA Go.Proofs.Tryz.f116 51
noncomputable def x117 : FnA := fnA Go.Proofs.Tryz.f117 1821
noncomputable def x118 : FnA := fnA Go.Proofs.Tryz.f118 5
noncomputable def x119 : FnA := fnA Go.Proofs.Tryz.f119 17195599091
noncomputable def x120 : FnA := fnA Go.Proofs.Tryz.f120 2077
noncomputable def x121 : FnA := fnA Go.Proofs.Tryz.f121 16777459
noncomputable def x122 : FnA := fnA Go.Proofs.Tryz.f122 21
noncomputable def x123 : FnA := fnA Go.Proofs.Tryz.f123 525
noncomputable def x124 : FnA := fnA Go.Proofs.Tryz.f124 525
noncomputable def x125 : FnA := fnA Go.Proofs.Tryz.f125 77
noncomputable def x126 : FnA := fnA Go.Proofs.Tryz.f126 525
noncomputable def x128 : FnA := fnA Go.Proofs.Tryz.f128 1006634951
noncomputable def x129 : FnA := fnA Go.Proofs.Tryz.f129 72061725834754767
noncomputable def x130 : FnA := fnA Go.Proofs.Tryz.f130 134217927
noncomputable def x131 : FnA := fnA Go.Proofs.Tryz.f131 17179869309
noncomputable def x132 : FnA := fnA Go.Proofs.Tryz.f132 134217927
noncomputable def x133 : FnA := fnA Go.Proofs.Tryz.f133 1125899906842877
noncomputable def x135 : FnA := fnA Go.Proofs.Tryz.f135 1207962567
noncomputable def x136 : FnA := fnA Go.Proofs.Tryz.f136 21
noncomputable def x137 : FnA := fnA Go.Proofs.Tryz.f137 21
noncomputable def x138 : FnA := fnA Go.Proofs.Tryz.f138 66483
noncomputable def x139 : FnA := fnA Go.Proofs.Tryz.f139 15
noncomputable def x140 : FnA := fnA Go.Proofs.Tryz.f140 5
noncomputable def x141 : FnA := fnA Go.Proofs.Tryz.f141 65735
noncomputable def x142 : FnA := fnA Go.Proofs.Tryz.f142 4194323
noncomputable def x143 : FnA := fnA Go.Proofs.Tryz.f143 4198323
noncomputable def x144 : FnA := fnA Go.Proofs.Tryz.f144 8205
noncomputable def x145 : FnA := fnA Go.Proofs.Tryz.f145 1099511628287
noncomputable def x146 : FnA := fnA Go.Proofs.Tryz.f146 103
noncomputable def x147 : FnA := fnA Go.Proofs.Tryz.f147 134246399
noncomputable def x148 : FnA := fnA Go.Proofs.Tryz.f148 137443172287
noncomputable def x149 : FnA := fnA Go.Proofs.Tryz.f149 154887602655
noncomputable def x150 : FnA := fnA Go.Proofs.Tryz.f150 8203
noncomputable def x151 : FnA := fnA Go.Proofs.Tryz.f151 4520092302843111
noncomputable def x152 : FnA := fnA Go.Proofs.Tryz.f152 1073748943
noncomputable def x153 : FnA := fnA Go.Proofs.Tryz.f153 536871527
noncomputable def x154 : FnA := fnA Go.Proofs.Tryz.f154 17594334516751
noncomputable def x155 : FnA := fnA Go.Proofs.Tryz.f155 583
noncomputable def x156 : FnA := fnA Go.Proofs.Tryz.f156 19807196466660583146143104967
noncomputable def x157 : FnA := fnA Go.Proofs.Tryz.f157 67108935
noncomputable def x158 : FnA := fnA Go.Proofs.Tryz.f158 266077
noncomputable def x159 : FnA := fnA Go.Proofs.Tryz.f159 8391367
noncomputable def x160 : FnA := fnA Go.Proofs.Tryz.f160 2251799813832463
noncomputable def x163 : FnA := fnA Go.Proofs.Tryz.f163 21
noncomputable def x164 : FnA := fnA Go.Proofs.Tryz.f164 603988605
noncomputable def x165 : FnA := fnA Go.Proofs.Tryz.f165 1143
noncomputable def x166 : FnA := fnA Go.Proofs.Tryz.f166 2099
noncomputable def x167 : FnA := fnA Go.Proofs.Tryz.f167 67170739
noncomputable def x168 : FnA := fnA Go.Proofs.Tryz.f168 27
noncomputable def x169 : FnA := fnA Go.Proofs.Tryz.f169 66483
noncomputable def x170 : FnA := fnA Go.Proofs.Tryz.f170 3940649673954047
noncomputable def x171 : FnA := fnA Go.Proofs.Tryz.f171 303538111560023941333
noncomputable def x172 : FnA := fnA Go.Proofs.Tryz.f172 1
noncomputable def x173 : FnA := fnA Go.Proofs.Tryz.f173 3
noncomputable def x174 : FnA := fnA Go.Proofs.Tryz.f174 15
noncomputable def x175 : FnA := fnA Go.Proofs.Tryz.f175 5
noncomputable def x176 : FnA := fnA Go.Proofs.Tryz.f176 5
noncomputable def x177 : FnA := fnA Go.Proofs.Tryz.f177 21
noncomputable def x178 : FnA := fnA Go.Proofs.Tryz.f178 8635763
noncomputable def x180 : FnA := fnA Go.Proofs.Tryz.f180 141
noncomputable def x181 : FnA := fnA Go.Proofs.Tryz.f181 66483
noncomputable def x182 : FnA := fnA Go.Proofs.Tryz.f182 149542309953555
noncomputable def x183 : FnA := fnA Go.Proofs.Tryz.f183 47
noncomputable def x184 : FnA := fnA Go.Proofs.Tryz.f184 524353
noncomputable def x185 : FnA := fnA Go.Proofs.Tryz.f185 261
noncomputable def x186 : FnA := fnA Go.Proofs.Tryz.f186 8247
noncomputable def x187 : FnA := fnA Go.Proofs.Tryz.f187 193428149585085845745971187
noncomputable def x188 : FnA := fnA Go.Proofs.Tryz.f188 68719476979
noncomputable def x189 : FnA := fnA Go.Proofs.Tryz.f189 115
noncomputable def x190 : FnA := fnA Go.Proofs.Tryz.f190 9903595872295387038658854671
noncomputable def x192 : FnA := fnA Go.Proofs.Tryz.f192 19
noncomputable def x193 : FnA := fnA Go.Proofs.Tryz.f193 268439327
noncomputable def x194 : FnA := fnA Go.Proofs.Tryz.f194 75874892316893
noncomputable def x195 : FnA := fnA Go.Proofs.Tryz.f195 4512412900262351
noncomputable def x196 : FnA := fnA Go.Proofs.Tryz.f196 36031124958347485
noncomputable def x197 : FnA := fnA Go.Proofs.Tryz.f197 268713917
noncomputable def x198 : FnA := fnA Go.Proofs.Tryz.f198 1125899906908083
noncomputable def x199 : FnA := fnA Go.Proofs.Tryz.f199 2555109374455286619115857393607
noncomputable def x200 : FnA := fnA Go.Proofs.Tryz.f200 66227
noncomputable def d200 : DelS := delOf x200.body
noncomputable def x201 : FnA := fnA Go.Proofs.Tryz.f201 79
noncomputable def x208 : FnA := fnA Go.Proofs.Tryz.f208 21
noncomputable def x209 : FnA := fnA Go.Proofs.Tryz.f209 32967
noncomputable def x210 : FnA := fnA Go.Proofs.Tryz.f210 541
noncomputable def x213 : FnA := fnA Go.Proofs.Tryz.f213 17747108403196364621623289925565
noncomputable def x214 : FnA := fnA Go.Proofs.Tryz.f214 66483
noncomputable def x215 : FnA := fnA Go.Proofs.Tryz.f215 31
noncomputable def x216 : FnA := fnA Go.Proofs.Tryz.f216 9223512774343141367
noncomputable def x217 : FnA := fnA Go.Proofs.Tryz.f217 8589935091
noncomputable def x218 : FnA := fnA Go.Proofs.Tryz.f218 3758098813
noncomputable def x219 : FnA := fnA Go.Proofs.Tryz.f219 4611686018427393023
noncomputable def x220 : FnA := fnA Go.Proofs.Tryz.f220 34359762703
noncomputable def x221 : FnA := fnA Go.Proofs.Tryz.f221 71
noncomputable def x222 : FnA := fnA Go.Proofs.Tryz.f222 271
noncomputable def x223 : FnA := fnA Go.Proofs.Tryz.f223 281475102587335
noncomputable def x224 : FnA := fnA Go.Proofs.Tryz.f224 21
noncomputable def x225 : FnA := fnA Go.Proofs.Tryz.f225 134218183
noncomputable def x226 : FnA := fnA Go.Proofs.Tryz.f226 27
noncomputable def x227 : FnA := fnA Go.Proofs.Tryz.f227 2053
noncomputable def x228 : FnA := fnA Go.Proofs.Tryz.f228 317
noncomputable def x229 : FnA := fnA Go.Proofs.Tryz.f229 9739880875316689780687
noncomputable def x230 : FnA := fnA Go.Proofs.Tryz.f230 70368744177979
noncomputable def x234 : FnA := fnA Go.Proofs.Tryz.f234 1073742279
noncomputable def x237 : FnA := fnA Go.Proofs.Tryz.f237 302249901788533452964063
noncomputable def x238 : FnA := fnA Go.Proofs.Tryz.f238 15
noncomputable def x239 : FnA := fnA Go.Proofs.Tryz.f239 19
noncomputable def x240 : FnA := fnA Go.Proofs.Tryz.f240 15
noncomputable def x241 : FnA := fnA Go.Proofs.Tryz.f241 66523
noncomputable def x242 : FnA := fnA Go.Proofs.Tryz.f242 51
noncomputable def x243 : FnA := fnA Go.Proofs.Tryz.f243 71
noncomputable def x244 : FnA := fnA Go.Proofs.Tryz.f244 5
noncomputable def x245 : FnA := fnA Go.Proofs.Tryz.f245 307
noncomputable def x246 : FnA := fnA Go.Proofs.Tryz.f246 77442678250641599244722163
noncomputable def x247 : FnA := fnA Go.Proofs.Tryz.f247 285
noncomputable def x248 : FnA := fnA Go.Proofs.Tryz.f248 141
noncomputable def x250 : FnA := fnA Go.Proofs.Tryz.f250 7
noncomputable def x255 : FnA := fnA Go.Proofs.Tryz.f255 5245
noncomputable def x256 : FnA := fnA Go.Proofs.Tryz.f256 16842695
noncomputable def x257 : FnA := fnA Go.Proofs.Tryz.f257 141
noncomputable def x258 : FnA := fnA Go.Proofs.Tryz.f258 33554717
noncomputable def x259 : FnA := fnA Go.Proofs.Tryz.f259 5
noncomputable def x260 : FnA := fnA Go.Proofs.Tryz.f260 7
noncomputable def x261 : FnA := fnA Go.Proofs.Tryz.f261 69171
noncomputable def x262 : FnA := fnA Go.Proofs.Tryz.f262 19
noncomputable def x263 : FnA := fnA Go.Proofs.Tryz.f263 17596514574653
noncomputable def x265 : FnA := fnA Go.Proofs.Tryz.f265 19
noncomputable def x266 : FnA := fnA Go.Proofs.Tryz.f266 1074757853
noncomputable def x267 : FnA := fnA Go.Proofs.Tryz.f267 19
noncomputable def x274 : FnA := fnA Go.Proofs.Tryz.f274 5
noncomputable def x275 : FnA := fnA Go.Proofs.Tryz.f275 19
noncomputable def x276 : FnA := fnA Go.Proofs.Tryz.f276 66227
noncomputable def d276 : DelS := delOf x276.body
noncomputable def x277 : FnA := fnA Go.Proofs.Tryz.f277 127
noncomputable def x279 : FnA := fnA Go.Proofs.Tryz.f279 272631821
noncomputable def x280 : FnA := fnA Go.Proofs.Tryz.f280 5
noncomputable def x281 : FnA := fnA Go.Proofs.Tryz.f281 66227
noncomputable def d281 : DelS := delOf x281.body
noncomputable def x286 : FnA := fnA Go.Proofs.Tryz.f286 5903
noncomputable def x287 : FnA := fnA Go.Proofs.Tryz.f287 537399539
noncomputable def x288 : FnA := fnA Go.Proofs.Tryz.f288 15
noncomputable def x289 : FnA := fnA Go.Proofs.Tryz.f289 2200265231119
noncomputable def x291 : FnA := fnA Go.Proofs.Tryz.f291 66483
noncomputable def x292 : FnA := fnA Go.Proofs.Tryz.f292 111
noncomputable def x294 : FnA := fnA Go.Proofs.Tryz.f294 42535296023574879666274036850519702559
noncomputable def x295 : FnA := fnA Go.Proofs.Tryz.f295 5
noncomputable def x296 : FnA := fnA Go.Proofs.Tryz.f296 66483
noncomputable def x299 : FnA := fnA Go.Proofs.Tryz.f299 10384593871817177683247510831234831
noncomputable def x305 : FnA := fnA Go.Proofs.Tryz.f305 31
noncomputable def x306 : FnA := fnA Go.Proofs.Tryz.f306 17179886351
noncomputable def x315 : FnA := fnA Go.Proofs.Tryz.f315 16661
noncomputable def x316 : FnA := fnA Go.Proofs.Tryz.f316 1073746119
abbrev FL := List (Nat × Fun)
noncomputable def fl0 : FL := [(4, .code x4), (5, .code x5), (8, .code x8), (9, .code x9), (10, .code x10), (11, .code x11), (12, .code x12), (13, .code x13), (14, .code x14), (15, .code x15), (16, .code x16), (17, .code x17), (18, .code x18), (19, .code x19), (20, .code x20), (21, .code x21), (22, .code x22), (23, .code x23), (24, .code x24), (25, .code x25), (29, .code x29), (30, .code x30), (31, .code x31), (32, .code x32), (33, .code x33), (34, .code x34), (35, .code x35), (36, .code x36), (37, .code x37), (38, .code x38), (39, .code x39), (40, .code x40)]
noncomputable def fl1 : FL := [(41, .code x41), (42, .code x42), (43, .code x43), (44, .code x44), (46, .code x46), (47, .code x47), (48, .code x48), (49, .code x49), (50, .code x50), (51, .code x51), (52, .code x52), (54, .code x54), (55, .code x55), (56, .code x56), (57, .code x57), (58, .code x58), (59, .code x59), (60, .code x60), (61, .code x61), (62, .code x62), (63, .code x63), (64, .code x64), (65, .code x65), (66, .code x66), (67, .code x67), (68, .code x68), (69, .code x69), (70, .code x70), (71, .code x71), (72, .code x72), (73, .code x73), (74, .code x74)]
noncomputable def fl2 : FL := [(75, .code x75), (76, .code x76), (77, .code x77), (78, .code x78), (79, .code x79), (80, .code x80), (81, .code x81), (83, .code x83), (84, .code x84), (85, .code x85), (86, .code x86), (87, .code x87), (88, .code x88), (89, .code x89), (90, .code x90), (91, .code x91), (92, .code x92), (93, .code x93), (94, .code x94), (95, .code x95), (96, .code x96), (97, .code x97), (98, .code x98), (99, .code x99), (100, .code x100), (101, .code x101), (102, .code x102), (103, .code x103), (104, .code x104), (105, .code x105), (106, .code x106), (107, .code x107)]
noncomputable def fl3 : FL := [(108, .code x108), (109, .code x109), (110, .code x110), (111, .code x111), (112, .code x112), (113, .code x113), (114, .code x114), (115, .code x115), (116, .code x116), (117, .code x117), (119, .code x119), (120, .code x120), (121, .code x121), (122, .code x122), (123, .code x123), (124, .code x124), (125, .code x125), (126, .code x126), (128, .code x128), (129, .code x129), (130, .code x130), (131, .code x131), (132, .code x132), (133, .code x133), (135, .code x135), (136, .code x136), (137, .code x137), (138, .code x138), (139, .code x139), (140, .code x140), (141, .code x141), (142, .code x142)]
noncomputable def fl4 : FL := [(143, .code x143), (144, .code x144), (145, .code x145), (146, .code x146), (147, .code x147), (148, .code x148), (149, .code x149), (150, .code x150), (151, .code x151), (152, .code x152), (153, .code x153), (154, .code x154), (155, .code x155), (156, .code x156), (157, .code x157), (158, .code x158), (159, .code x159), (160, .code x160), (163, .code x163), (164, .code x164), (165, .code x165), (166, .code x166), (167, .code x167), (168, .code x168), (169, .code x169), (170, .code x170), (171, .code x171), (172, .code x172), (173, .code x173), (174, .code x174), (175, .code x175), (176, .code x176)]
noncomputable def fl5 : FL := [(177, .code x177), (178, .code x178), (180, .code x180), (181, .code x181), (182, .code x182), (183, .code x183), (185, .code x185), (186, .code x186), (187, .code x187), (188, .code x188), (189, .code x189), (190, .code x190), (192, .code x192), (193, .code x193), (194, .code x194), (195, .code x195), (196, .code x196), (197, .code x197), (198, .code x198), (199, .code x199), (200, .sum (deleteM d200 x200.mask)), (201, .code x201), (208, .code x208), (209, .code x209), (210, .code x210), (213, .code x213), (214, .code x214), (215, .code x215), (216, .code x216), (217, .code x217), (218, .code x218), (219, .code x219)]
noncomputable def fl6 : FL := [(220, .code x220), (221, .code x221), (222, .code x222), (223, .code x223), (224, .code x224), (225, .code x225), (226, .code x226), (227, .code x227), (228, .code x228), (229, .code x229), (230, .code x230), (234, .code x234), (237, .code x237), (238, .code x238), (239, .code x239), (240, .code x240), (241, .code x241), (242, .code x242), (243, .code x243), (244, .code x244), (245, .code x245), (246, .code x246), (247, .code x247), (248, .code x248), (250, .code x250), (255, .code x255), (256, .code x256), (257, .code x257), (258, .code x258), (259, .code x259), (260, .code x260), (261, .code x261)]
noncomputable def fl7 : FL := [(262, .code x262), (263, .code x263), (265, .code x265), (266, .code x266), (267, .code x267), (274, .code x274), (275, .code x275), (276, .sum (deleteM d276 x276.mask)), (277, .code x277), (279, .code x279), (280, .code x280), (281, .sum (deleteM d281 x281.mask)), (286, .code x286), (287, .code x287), (288, .code x288), (289, .code x289), (291, .code x291), (292, .code x292), (294, .code x294), (295, .code x295), (296, .code x296), (299, .code x299), (305, .code x305), (306, .code x306), (315, .code x315), (316, .code x316)]
def treeL (l : FL) (t : PT Fun) : PT Fun := List.rec (motive := fun _ => PT Fun) t (fun p _ ih => PT.set .none p.2 (pos p.1) ih) l
noncomputable def tree0 : PT Fun := treeL fl0 (treeL fl1 (treeL fl2 (treeL fl3 (treeL fl4 (treeL fl5 (treeL fl6 (treeL fl7 (.leaf))))))))
def fnsOf (t : PT Fun) (f : FuncId) : Fun := PT.get .none (pos f) t
end Go.Ax.Top
end
/- Answers known beforehand: tables. -/
noncomputable section
set_option linter.unusedVariables false
namespace Go.Ax.Top
def r64 : Nat → Int × Int := fun _ => (-9223372036854775808, 9223372036854775807)
def rngC : Rng := rngOf r64
def KC : List TypeId := [188, 258, 425, 434, 420, 38, 46, 78]
def tab72 : Tab := [
  ([.str [0]], .str [0]),
  ([.str [1, 98, 1, 99, 0]], .str [1, 98, 1, 99, 0]),
  ([.str [1, 99, 0]], .str [1, 99, 0]),
  ([.str [1, 100, 0]], .str [1, 100, 0]),
  ([.str [1, 101, 1, 99, 0]], .str [1, 101, 1, 99, 0]),
  ([.str [1, 104, 0]], .str [1, 104, 0]),
  ([.str [1, 108, 1, 99, 0]], .str [1, 108, 1, 99, 0]),
  ([.str [1, 110, 1, 98, 1, 99, 0]], .str [1, 110, 1, 98, 1, 99, 0]),
  ([.str [1, 110, 1, 99, 0]], .str [1, 110, 1, 99, 0]),
  ([.str [1, 113, 0]], .str [1, 113, 0]),
  ([.str [1, 114, 0]], .str [1, 114, 0]),
  ([.str [1, 119, 1, 98, 1, 99, 0]], .str [1, 119, 1, 98, 1, 99, 0]),
  ([.str [1, 119, 1, 100, 0]], .str [1, 119, 1, 100, 0]),
  ([.str [1, 120, 1, 101, 1, 99, 0]], .str [1, 120, 1, 101, 1, 99, 0])]
def tab100 : Tab := [
  ([.str [0]], .bool true),
  ([.str [1, 98, 1, 99, 0]], .bool true),
  ([.str [1, 99, 0]], .bool true),
  ([.str [1, 100, 0]], .bool true),
  ([.str [1, 101, 1, 99, 0]], .bool true),
  ([.str [1, 104, 0]], .bool true),
  ([.str [1, 108, 1, 99, 0]], .bool true),
  ([.str [1, 109, 1, 100, 0]], .bool true),
  ([.str [1, 110, 1, 98, 1, 99, 0]], .bool true),
  ([.str [1, 110, 1, 99, 0]], .bool true),
  ([.str [1, 113, 0]], .bool true),
  ([.str [1, 114, 0]], .bool true),
  ([.str [1, 119, 1, 98, 1, 99, 0]], .bool true),
  ([.str [1, 119, 1, 100, 0]], .bool true),
  ([.str [1, 120, 1, 101, 1, 99, 0]], .bool true)]
def tab120 : Tab := [
  ([.str [0]], .int .i64 (.ofNat 0)),
  ([.str [1, 98, 1, 99, 0]], .int .i64 (.ofNat 2)),
  ([.str [1, 99, 0]], .int .i64 (.ofNat 1)),
  ([.str [1, 100, 0]], .int .i64 (.ofNat 1)),
  ([.str [1, 101, 1, 99, 0]], .int .i64 (.ofNat 2)),
  ([.str [1, 104, 0]], .int .i64 (.ofNat 1)),
  ([.str [1, 108, 1, 99, 0]], .int .i64 (.ofNat 2)),
  ([.str [1, 113, 0]], .int .i64 (.ofNat 1)),
  ([.str [1, 119, 1, 98, 1, 99, 0]], .int .i64 (.ofNat 3)),
  ([.str [1, 119, 1, 100, 0]], .int .i64 (.ofNat 2)),
  ([.str [1, 120, 1, 101, 1, 99, 0]], .int .i64 (.ofNat 3))]
def tab75 : Tab := [
  ([.str [0], .str [0]], .bool true),
  ([.str [0], .str [1, 98, 1, 99, 0]], .bool false),
  ([.str [0], .str [1, 99, 0]], .bool false),
  ([.str [0], .str [1, 100, 0]], .bool false),
  ([.str [0], .str [1, 104, 0]], .bool false),
  ([.str [0], .str [1, 113, 0]], .bool false),
  ([.str [1, 98, 1, 99, 0], .str [0]], .bool false),
  ([.str [1, 98, 1, 99, 0], .str [1, 98, 1, 99, 0]], .bool true),
  ([.str [1, 98, 1, 99, 0], .str [1, 99, 0]], .bool false),
  ([.str [1, 98, 1, 99, 0], .str [1, 100, 0]], .bool false),
  ([.str [1, 98, 1, 99, 0], .str [1, 101, 1, 99, 0]], .bool false),
  ([.str [1, 98, 1, 99, 0], .str [1, 108, 1, 99, 0]], .bool false),
  ([.str [1, 98, 1, 99, 0], .str [1, 119, 1, 98, 1, 99, 0]], .bool false),
  ([.str [1, 98, 1, 99, 0], .str [1, 120, 1, 101, 1, 99, 0]], .bool false),
  ([.str [1, 99, 0], .str [0]], .bool false),
  ([.str [1, 99, 0], .str [1, 98, 1, 99, 0]], .bool false),
  ([.str [1, 99, 0], .str [1, 99, 0]], .bool true),
  ([.str [1, 99, 0], .str [1, 100, 0]], .bool false),
  ([.str [1, 99, 0], .str [1, 101, 1, 99, 0]], .bool false),
  ([.str [1, 99, 0], .str [1, 104, 0]], .bool false),
  ([.str [1, 99, 0], .str [1, 108, 1, 99, 0]], .bool false),
  ([.str [1, 99, 0], .str [1, 113, 0]], .bool false),
  ([.str [1, 99, 0], .str [1, 119, 1, 98, 1, 99, 0]], .bool false),
  ([.str [1, 99, 0], .str [1, 120, 1, 101, 1, 99, 0]], .bool false),
  ([.str [1, 100, 0], .str [0]], .bool false),
  ([.str [1, 100, 0], .str [1, 98, 1, 99, 0]], .bool false),
  ([.str [1, 100, 0], .str [1, 99, 0]], .bool false),
  ([.str [1, 100, 0], .str [1, 100, 0]], .bool true),
  ([.str [1, 100, 0], .str [1, 104, 0]], .bool false),
  ([.str [1, 100, 0], .str [1, 113, 0]], .bool false),
  ([.str [1, 100, 0], .str [1, 119, 1, 100, 0]], .bool false),
  ([.str [1, 101, 1, 99, 0], .str [1, 120, 1, 101, 1, 99, 0]], .bool false),
  ([.str [1, 104, 0], .str [1, 104, 0]], .bool true),
  ([.str [1, 104, 0], .str [1, 113, 0]], .bool false),
  ([.str [1, 108, 1, 99, 0], .str [1, 101, 1, 99, 0]], .bool false),
  ([.str [1, 108, 1, 99, 0], .str [1, 108, 1, 99, 0]], .bool true),
  ([.str [1, 108, 1, 99, 0], .str [1, 120, 1, 101, 1, 99, 0]], .bool false),
  ([.str [1, 110, 1, 98, 1, 99, 0], .str [1, 101, 1, 99, 0]], .bool false),
  ([.str [1, 110, 1, 98, 1, 99, 0], .str [1, 108, 1, 99, 0]], .bool false),
  ([.str [1, 110, 1, 98, 1, 99, 0], .str [1, 110, 1, 98, 1, 99, 0]], .bool true),
  ([.str [1, 110, 1, 98, 1, 99, 0], .str [1, 110, 1, 99, 0]], .bool false),
  ([.str [1, 110, 1, 98, 1, 99, 0], .str [1, 119, 1, 98, 1, 99, 0]], .bool false),
  ([.str [1, 110, 1, 98, 1, 99, 0], .str [1, 120, 1, 101, 1, 99, 0]], .bool false),
  ([.str [1, 110, 1, 99, 0], .str [1, 101, 1, 99, 0]], .bool false),
  ([.str [1, 110, 1, 99, 0], .str [1, 104, 0]], .bool false),
  ([.str [1, 110, 1, 99, 0], .str [1, 108, 1, 99, 0]], .bool false),
  ([.str [1, 110, 1, 99, 0], .str [1, 110, 1, 99, 0]], .bool true),
  ([.str [1, 110, 1, 99, 0], .str [1, 113, 0]], .bool false),
  ([.str [1, 110, 1, 99, 0], .str [1, 114, 0]], .bool false),
  ([.str [1, 110, 1, 99, 0], .str [1, 120, 1, 101, 1, 99, 0]], .bool false),
  ([.str [1, 113, 0], .str [1, 113, 0]], .bool true),
  ([.str [1, 114, 0], .str [1, 104, 0]], .bool false),
  ([.str [1, 114, 0], .str [1, 113, 0]], .bool false),
  ([.str [1, 119, 1, 98, 1, 99, 0], .str [1, 119, 1, 98, 1, 99, 0]], .bool true),
  ([.str [1, 119, 1, 100, 0], .str [1, 119, 1, 100, 0]], .bool true),
  ([.str [1, 120, 1, 101, 1, 99, 0], .str [1, 101, 1, 99, 0]], .bool false),
  ([.str [1, 120, 1, 101, 1, 99, 0], .str [1, 108, 1, 99, 0]], .bool false),
  ([.str [1, 120, 1, 101, 1, 99, 0], .str [1, 120, 1, 101, 1, 99, 0]], .bool true)]
def tab119 : Tab := [
  ([.str [0], .str [0]], .bool true),
  ([.str [0], .str [1, 98, 1, 99, 0]], .bool true),
  ([.str [0], .str [1, 99, 0]], .bool true),
  ([.str [0], .str [1, 100, 0]], .bool true),
  ([.str [0], .str [1, 104, 0]], .bool true),
  ([.str [0], .str [1, 108, 1, 99, 0]], .bool true),
  ([.str [0], .str [1, 110, 1, 99, 0]], .bool true),
  ([.str [0], .str [1, 113, 0]], .bool true),
  ([.str [0], .str [1, 114, 0]], .bool true),
  ([.str [0], .str [1, 119, 1, 98, 1, 99, 0]], .bool true),
  ([.str [0], .str [1, 119, 1, 100, 0]], .bool true),
  ([.str [0], .str [1, 120, 1, 101, 1, 99, 0]], .bool true),
  ([.str [1, 98, 1, 99, 0], .str [1, 98, 1, 99, 0]], .bool true),
  ([.str [1, 98, 1, 99, 0], .str [1, 99, 0]], .bool false),
  ([.str [1, 98, 1, 99, 0], .str [1, 100, 0]], .bool false),
  ([.str [1, 98, 1, 99, 0], .str [1, 110, 1, 98, 1, 99, 0]], .bool true),
  ([.str [1, 98, 1, 99, 0], .str [1, 119, 1, 98, 1, 99, 0]], .bool true),
  ([.str [1, 99, 0], .str [1, 98, 1, 99, 0]], .bool true),
  ([.str [1, 99, 0], .str [1, 99, 0]], .bool true),
  ([.str [1, 99, 0], .str [1, 100, 0]], .bool false),
  ([.str [1, 99, 0], .str [1, 101, 1, 99, 0]], .bool true),
  ([.str [1, 99, 0], .str [1, 108, 1, 99, 0]], .bool true),
  ([.str [1, 99, 0], .str [1, 110, 1, 98, 1, 99, 0]], .bool true),
  ([.str [1, 99, 0], .str [1, 110, 1, 99, 0]], .bool true),
  ([.str [1, 99, 0], .str [1, 119, 1, 98, 1, 99, 0]], .bool true),
  ([.str [1, 99, 0], .str [1, 119, 1, 100, 0]], .bool false),
  ([.str [1, 99, 0], .str [1, 120, 1, 101, 1, 99, 0]], .bool true),
  ([.str [1, 100, 0], .str [1, 98, 1, 99, 0]], .bool false),
  ([.str [1, 100, 0], .str [1, 99, 0]], .bool false),
  ([.str [1, 100, 0], .str [1, 100, 0]], .bool true),
  ([.str [1, 100, 0], .str [1, 101, 1, 99, 0]], .bool false),
  ([.str [1, 100, 0], .str [1, 108, 1, 99, 0]], .bool false),
  ([.str [1, 100, 0], .str [1, 119, 1, 100, 0]], .bool true),
  ([.str [1, 100, 0], .str [1, 120, 1, 101, 1, 99, 0]], .bool false),
  ([.str [1, 101, 1, 99, 0], .str [1, 98, 1, 99, 0]], .bool false),
  ([.str [1, 101, 1, 99, 0], .str [1, 99, 0]], .bool false),
  ([.str [1, 101, 1, 99, 0], .str [1, 110, 1, 98, 1, 99, 0]], .bool false),
  ([.str [1, 101, 1, 99, 0], .str [1, 110, 1, 99, 0]], .bool false),
  ([.str [1, 101, 1, 99, 0], .str [1, 120, 1, 101, 1, 99, 0]], .bool true),
  ([.str [1, 104, 0], .str [1, 104, 0]], .bool true),
  ([.str [1, 108, 1, 99, 0], .str [1, 108, 1, 99, 0]], .bool true),
  ([.str [1, 113, 0], .str [0]], .bool false),
  ([.str [1, 113, 0], .str [1, 99, 0]], .bool false),
  ([.str [1, 113, 0], .str [1, 100, 0]], .bool false),
  ([.str [1, 113, 0], .str [1, 104, 0]], .bool false),
  ([.str [1, 113, 0], .str [1, 110, 1, 99, 0]], .bool false),
  ([.str [1, 113, 0], .str [1, 113, 0]], .bool true),
  ([.str [1, 113, 0], .str [1, 114, 0]], .bool false),
  ([.str [1, 119, 1, 98, 1, 99, 0], .str [1, 119, 1, 98, 1, 99, 0]], .bool true),
  ([.str [1, 119, 1, 100, 0], .str [1, 100, 0]], .bool false),
  ([.str [1, 119, 1, 100, 0], .str [1, 119, 1, 100, 0]], .bool true),
  ([.str [1, 120, 1, 101, 1, 99, 0], .str [1, 120, 1, 101, 1, 99, 0]], .bool true)]
def tab9 : Tab := [([], .bool true)]
def mem (t : Tab) (x : FnA) : Fun := .sum (memoG t x)
noncomputable def ml1 : FL := [(72, mem tab72 x72)]
noncomputable def ml2 : FL := [(100, mem tab100 x100), (120, mem tab120 x120)]
noncomputable def ml3 : FL := [(75, mem tab75 x75), (119, mem tab119 x119)]
noncomputable def ml4 : FL := [(9, mem tab9 x9)]
noncomputable def tree1 : PT Fun := treeL ml1 tree0
noncomputable def fns1 : FuncId → Fun := fnsOf tree1
noncomputable def tree2 : PT Fun := treeL ml2 tree1
noncomputable def fns2 : FuncId → Fun := fnsOf tree2
noncomputable def tree3 : PT Fun := treeL ml3 tree2
noncomputable def fns3 : FuncId → Fun := fnsOf tree3
noncomputable def tree4 : PT Fun := treeL ml4 tree3
noncomputable def fns4 : FuncId → Fun := fnsOf tree4
end Go.Ax.Top
end
/- Words for states and steps. -/
noncomputable section
set_option linter.unusedVariables false
namespace Go.Ax.Top
def I (n : Nat) : AV := .int .i64 (.ofNat n)
def tr (l : List (List AV)) : PT (List AV) := ofList [] l
def p0 : Pos := .H
def p1 : Pos := .O .H
def p2 : Pos := .I .H
def p3 : Pos := .O (.O .H)
def p4 : Pos := .I (.O .H)
def p5 : Pos := .O (.I .H)
def p6 : Pos := .I (.I .H)
def p7 : Pos := .O (.O (.O .H))
def p8 : Pos := .I (.O (.O .H))
def p9 : Pos := .O (.I (.O .H))
def p10 : Pos := .I (.I (.O .H))
def p11 : Pos := .O (.O (.I .H))
def p12 : Pos := .I (.O (.I .H))
def p13 : Pos := .O (.I (.I .H))
def p14 : Pos := .I (.I (.I .H))
def p15 : Pos := .O (.O (.O (.O .H)))
def p16 : Pos := .I (.O (.O (.O .H)))
def p17 : Pos := .O (.I (.O (.O .H)))
def p18 : Pos := .I (.I (.O (.O .H)))
def p19 : Pos := .O (.O (.I (.O .H)))
def p20 : Pos := .I (.O (.I (.O .H)))
def p21 : Pos := .O (.I (.I (.O .H)))
def p22 : Pos := .I (.I (.I (.O .H)))
def p23 : Pos := .O (.O (.O (.I .H)))
def p24 : Pos := .I (.O (.O (.I .H)))
def p25 : Pos := .O (.I (.O (.I .H)))
def p26 : Pos := .I (.I (.O (.I .H)))
def p27 : Pos := .O (.O (.I (.I .H)))
def p28 : Pos := .I (.O (.I (.I .H)))
def p29 : Pos := .O (.I (.I (.I .H)))
def p30 : Pos := .I (.I (.I (.I .H)))
def p31 : Pos := .O (.O (.O (.O (.O .H))))
def p32 : Pos := .I (.O (.O (.O (.O .H))))
def p33 : Pos := .O (.I (.O (.O (.O .H))))
def p34 : Pos := .I (.I (.O (.O (.O .H))))
def p35 : Pos := .O (.O (.I (.O (.O .H))))
def p36 : Pos := .I (.O (.I (.O (.O .H))))
def p37 : Pos := .O (.I (.I (.O (.O .H))))
def p38 : Pos := .I (.I (.I (.O (.O .H))))
def p39 : Pos := .O (.O (.O (.I (.O .H))))
def p40 : Pos := .I (.O (.O (.I (.O .H))))
def p41 : Pos := .O (.I (.O (.I (.O .H))))
def p42 : Pos := .I (.I (.O (.I (.O .H))))
def p43 : Pos := .O (.O (.I (.I (.O .H))))
def p44 : Pos := .I (.O (.I (.I (.O .H))))
def p45 : Pos := .O (.I (.I (.I (.O .H))))
def p46 : Pos := .I (.I (.I (.I (.O .H))))
def p47 : Pos := .O (.O (.O (.O (.I .H))))
def p48 : Pos := .I (.O (.O (.O (.I .H))))
def p49 : Pos := .O (.I (.O (.O (.I .H))))
def p50 : Pos := .I (.I (.O (.O (.I .H))))
def p51 : Pos := .O (.O (.I (.O (.I .H))))
def p52 : Pos := .I (.O (.I (.O (.I .H))))
def p53 : Pos := .O (.I (.I (.O (.I .H))))
def p54 : Pos := .I (.I (.I (.O (.I .H))))
def p55 : Pos := .O (.O (.O (.I (.I .H))))
def p56 : Pos := .I (.O (.O (.I (.I .H))))
def p57 : Pos := .O (.I (.O (.I (.I .H))))
def p58 : Pos := .I (.I (.O (.I (.I .H))))
def p59 : Pos := .O (.O (.I (.I (.I .H))))
def p60 : Pos := .I (.O (.I (.I (.I .H))))
def p61 : Pos := .O (.I (.I (.I (.I .H))))
def p62 : Pos := .I (.I (.I (.I (.I .H))))
def p63 : Pos := .O (.O (.O (.O (.O (.O .H)))))
def p64 : Pos := .I (.O (.O (.O (.O (.O .H)))))
def p65 : Pos := .O (.I (.O (.O (.O (.O .H)))))
def p66 : Pos := .I (.I (.O (.O (.O (.O .H)))))
def p67 : Pos := .O (.O (.I (.O (.O (.O .H)))))
def p68 : Pos := .I (.O (.I (.O (.O (.O .H)))))
def p69 : Pos := .O (.I (.I (.O (.O (.O .H)))))
def p70 : Pos := .I (.I (.I (.O (.O (.O .H)))))
def p71 : Pos := .O (.O (.O (.I (.O (.O .H)))))
def p72 : Pos := .I (.O (.O (.I (.O (.O .H)))))
def p73 : Pos := .O (.I (.O (.I (.O (.O .H)))))
def p74 : Pos := .I (.I (.O (.I (.O (.O .H)))))
def p75 : Pos := .O (.O (.I (.I (.O (.O .H)))))
def p76 : Pos := .I (.O (.I (.I (.O (.O .H)))))
def p77 : Pos := .O (.I (.I (.I (.O (.O .H)))))
def p78 : Pos := .I (.I (.I (.I (.O (.O .H)))))
def p79 : Pos := .O (.O (.O (.O (.I (.O .H)))))
def p80 : Pos := .I (.O (.O (.O (.I (.O .H)))))
def p81 : Pos := .O (.I (.O (.O (.I (.O .H)))))
def p82 : Pos := .I (.I (.O (.O (.I (.O .H)))))
def p83 : Pos := .O (.O (.I (.O (.I (.O .H)))))
def p84 : Pos := .I (.O (.I (.O (.I (.O .H)))))
def p85 : Pos := .O (.I (.I (.O (.I (.O .H)))))
def p86 : Pos := .I (.I (.I (.O (.I (.O .H)))))
def p87 : Pos := .O (.O (.O (.I (.I (.O .H)))))
def p88 : Pos := .I (.O (.O (.I (.I (.O .H)))))
def p89 : Pos := .O (.I (.O (.I (.I (.O .H)))))
def p90 : Pos := .I (.I (.O (.I (.I (.O .H)))))
def p91 : Pos := .O (.O (.I (.I (.I (.O .H)))))
def p92 : Pos := .I (.O (.I (.I (.I (.O .H)))))
def p93 : Pos := .O (.I (.I (.I (.I (.O .H)))))
def p94 : Pos := .I (.I (.I (.I (.I (.O .H)))))
def p95 : Pos := .O (.O (.O (.O (.O (.I .H)))))
def p96 : Pos := .I (.O (.O (.O (.O (.I .H)))))
def p97 : Pos := .O (.I (.O (.O (.O (.I .H)))))
def p98 : Pos := .I (.I (.O (.O (.O (.I .H)))))
def p99 : Pos := .O (.O (.I (.O (.O (.I .H)))))
def p100 : Pos := .I (.O (.I (.O (.O (.I .H)))))
def p101 : Pos := .O (.I (.I (.O (.O (.I .H)))))
def p102 : Pos := .I (.I (.I (.O (.O (.I .H)))))
def p103 : Pos := .O (.O (.O (.I (.O (.I .H)))))
def p104 : Pos := .I (.O (.O (.I (.O (.I .H)))))
def p105 : Pos := .O (.I (.O (.I (.O (.I .H)))))
def p106 : Pos := .I (.I (.O (.I (.O (.I .H)))))
def p107 : Pos := .O (.O (.I (.I (.O (.I .H)))))
def p108 : Pos := .I (.O (.I (.I (.O (.I .H)))))
def p109 : Pos := .O (.I (.I (.I (.O (.I .H)))))
def p110 : Pos := .I (.I (.I (.I (.O (.I .H)))))
def p111 : Pos := .O (.O (.O (.O (.I (.I .H)))))
def p112 : Pos := .I (.O (.O (.O (.I (.I .H)))))
def p113 : Pos := .O (.I (.O (.O (.I (.I .H)))))
def p114 : Pos := .I (.I (.O (.O (.I (.I .H)))))
def p115 : Pos := .O (.O (.I (.O (.I (.I .H)))))
def p116 : Pos := .I (.O (.I (.O (.I (.I .H)))))
def p117 : Pos := .O (.I (.I (.O (.I (.I .H)))))
def p118 : Pos := .I (.I (.I (.O (.I (.I .H)))))
def p119 : Pos := .O (.O (.O (.I (.I (.I .H)))))
def p120 : Pos := .I (.O (.O (.I (.I (.I .H)))))
def p121 : Pos := .O (.I (.O (.I (.I (.I .H)))))
def p122 : Pos := .I (.I (.O (.I (.I (.I .H)))))
def p123 : Pos := .O (.O (.I (.I (.I (.I .H)))))
def p124 : Pos := .I (.O (.I (.I (.I (.I .H)))))
def p125 : Pos := .O (.I (.I (.I (.I (.I .H)))))
def p126 : Pos := .I (.I (.I (.I (.I (.I .H)))))
def p127 : Pos := .O (.O (.O (.O (.O (.O (.O .H))))))
def p128 : Pos := .I (.O (.O (.O (.O (.O (.O .H))))))
def p129 : Pos := .O (.I (.O (.O (.O (.O (.O .H))))))
def p130 : Pos := .I (.I (.O (.O (.O (.O (.O .H))))))
def p131 : Pos := .O (.O (.I (.O (.O (.O (.O .H))))))
def p132 : Pos := .I (.O (.I (.O (.O (.O (.O .H))))))
def p133 : Pos := .O (.I (.I (.O (.O (.O (.O .H))))))
def p134 : Pos := .I (.I (.I (.O (.O (.O (.O .H))))))
def p135 : Pos := .O (.O (.O (.I (.O (.O (.O .H))))))
def p136 : Pos := .I (.O (.O (.I (.O (.O (.O .H))))))
def p137 : Pos := .O (.I (.O (.I (.O (.O (.O .H))))))
def p138 : Pos := .I (.I (.O (.I (.O (.O (.O .H))))))
def p139 : Pos := .O (.O (.I (.I (.O (.O (.O .H))))))
def p140 : Pos := .I (.O (.I (.I (.O (.O (.O .H))))))
def p141 : Pos := .O (.I (.I (.I (.O (.O (.O .H))))))
def p142 : Pos := .I (.I (.I (.I (.O (.O (.O .H))))))
def p143 : Pos := .O (.O (.O (.O (.I (.O (.O .H))))))
def p144 : Pos := .I (.O (.O (.O (.I (.O (.O .H))))))
def p145 : Pos := .O (.I (.O (.O (.I (.O (.O .H))))))
def p146 : Pos := .I (.I (.O (.O (.I (.O (.O .H))))))
def p147 : Pos := .O (.O (.I (.O (.I (.O (.O .H))))))
def p148 : Pos := .I (.O (.I (.O (.I (.O (.O .H))))))
def p149 : Pos := .O (.I (.I (.O (.I (.O (.O .H))))))
def p150 : Pos := .I (.I (.I (.O (.I (.O (.O .H))))))
def p151 : Pos := .O (.O (.O (.I (.I (.O (.O .H))))))
def p152 : Pos := .I (.O (.O (.I (.I (.O (.O .H))))))
def p153 : Pos := .O (.I (.O (.I (.I (.O (.O .H))))))
def p154 : Pos := .I (.I (.O (.I (.I (.O (.O .H))))))
def p155 : Pos := .O (.O (.I (.I (.I (.O (.O .H))))))
def p156 : Pos := .I (.O (.I (.I (.I (.O (.O .H))))))
def p157 : Pos := .O (.I (.I (.I (.I (.O (.O .H))))))
def p158 : Pos := .I (.I (.I (.I (.I (.O (.O .H))))))
def p159 : Pos := .O (.O (.O (.O (.O (.I (.O .H))))))
def p160 : Pos := .I (.O (.O (.O (.O (.I (.O .H))))))
def p161 : Pos := .O (.I (.O (.O (.O (.I (.O .H))))))
def p162 : Pos := .I (.I (.O (.O (.O (.I (.O .H))))))
def p163 : Pos := .O (.O (.I (.O (.O (.I (.O .H))))))
def p164 : Pos := .I (.O (.I (.O (.O (.I (.O .H))))))
def p165 : Pos := .O (.I (.I (.O (.O (.I (.O .H))))))
def p166 : Pos := .I (.I (.I (.O (.O (.I (.O .H))))))
def p167 : Pos := .O (.O (.O (.I (.O (.I (.O .H))))))
def p168 : Pos := .I (.O (.O (.I (.O (.I (.O .H))))))
def p169 : Pos := .O (.I (.O (.I (.O (.I (.O .H))))))
def p170 : Pos := .I (.I (.O (.I (.O (.I (.O .H))))))
def p171 : Pos := .O (.O (.I (.I (.O (.I (.O .H))))))
def p172 : Pos := .I (.O (.I (.I (.O (.I (.O .H))))))
def p173 : Pos := .O (.I (.I (.I (.O (.I (.O .H))))))
def p174 : Pos := .I (.I (.I (.I (.O (.I (.O .H))))))
def p175 : Pos := .O (.O (.O (.O (.I (.I (.O .H))))))
def p176 : Pos := .I (.O (.O (.O (.I (.I (.O .H))))))
def p177 : Pos := .O (.I (.O (.O (.I (.I (.O .H))))))
def p178 : Pos := .I (.I (.O (.O (.I (.I (.O .H))))))
def p179 : Pos := .O (.O (.I (.O (.I (.I (.O .H))))))
def p180 : Pos := .I (.O (.I (.O (.I (.I (.O .H))))))
def p181 : Pos := .O (.I (.I (.O (.I (.I (.O .H))))))
def p182 : Pos := .I (.I (.I (.O (.I (.I (.O .H))))))
def p183 : Pos := .O (.O (.O (.I (.I (.I (.O .H))))))
def p184 : Pos := .I (.O (.O (.I (.I (.I (.O .H))))))
def p185 : Pos := .O (.I (.O (.I (.I (.I (.O .H))))))
def p186 : Pos := .I (.I (.O (.I (.I (.I (.O .H))))))
def p187 : Pos := .O (.O (.I (.I (.I (.I (.O .H))))))
def p188 : Pos := .I (.O (.I (.I (.I (.I (.O .H))))))
def p189 : Pos := .O (.I (.I (.I (.I (.I (.O .H))))))
def p190 : Pos := .I (.I (.I (.I (.I (.I (.O .H))))))
def p191 : Pos := .O (.O (.O (.O (.O (.O (.I .H))))))
def p192 : Pos := .I (.O (.O (.O (.O (.O (.I .H))))))
def p193 : Pos := .O (.I (.O (.O (.O (.O (.I .H))))))
def p194 : Pos := .I (.I (.O (.O (.O (.O (.I .H))))))
def p195 : Pos := .O (.O (.I (.O (.O (.O (.I .H))))))
def p196 : Pos := .I (.O (.I (.O (.O (.O (.I .H))))))
def p197 : Pos := .O (.I (.I (.O (.O (.O (.I .H))))))
def p198 : Pos := .I (.I (.I (.O (.O (.O (.I .H))))))
def p199 : Pos := .O (.O (.O (.I (.O (.O (.I .H))))))
def p200 : Pos := .I (.O (.O (.I (.O (.O (.I .H))))))
def p201 : Pos := .O (.I (.O (.I (.O (.O (.I .H))))))
def p202 : Pos := .I (.I (.O (.I (.O (.O (.I .H))))))
def p203 : Pos := .O (.O (.I (.I (.O (.O (.I .H))))))
def p204 : Pos := .I (.O (.I (.I (.O (.O (.I .H))))))
def p205 : Pos := .O (.I (.I (.I (.O (.O (.I .H))))))
def p206 : Pos := .I (.I (.I (.I (.O (.O (.I .H))))))
def p207 : Pos := .O (.O (.O (.O (.I (.O (.I .H))))))
def p208 : Pos := .I (.O (.O (.O (.I (.O (.I .H))))))
def p209 : Pos := .O (.I (.O (.O (.I (.O (.I .H))))))
def p210 : Pos := .I (.I (.O (.O (.I (.O (.I .H))))))
def p211 : Pos := .O (.O (.I (.O (.I (.O (.I .H))))))
def p212 : Pos := .I (.O (.I (.O (.I (.O (.I .H))))))
def p213 : Pos := .O (.I (.I (.O (.I (.O (.I .H))))))
def p214 : Pos := .I (.I (.I (.O (.I (.O (.I .H))))))
def p215 : Pos := .O (.O (.O (.I (.I (.O (.I .H))))))
def p216 : Pos := .I (.O (.O (.I (.I (.O (.I .H))))))
def p217 : Pos := .O (.I (.O (.I (.I (.O (.I .H))))))
def p218 : Pos := .I (.I (.O (.I (.I (.O (.I .H))))))
def p219 : Pos := .O (.O (.I (.I (.I (.O (.I .H))))))
def p220 : Pos := .I (.O (.I (.I (.I (.O (.I .H))))))
def p221 : Pos := .O (.I (.I (.I (.I (.O (.I .H))))))
def p222 : Pos := .I (.I (.I (.I (.I (.O (.I .H))))))
def p223 : Pos := .O (.O (.O (.O (.O (.I (.I .H))))))
def p224 : Pos := .I (.O (.O (.O (.O (.I (.I .H))))))
def p225 : Pos := .O (.I (.O (.O (.O (.I (.I .H))))))
def p226 : Pos := .I (.I (.O (.O (.O (.I (.I .H))))))
def p227 : Pos := .O (.O (.I (.O (.O (.I (.I .H))))))
def p228 : Pos := .I (.O (.I (.O (.O (.I (.I .H))))))
def p229 : Pos := .O (.I (.I (.O (.O (.I (.I .H))))))
def p230 : Pos := .I (.I (.I (.O (.O (.I (.I .H))))))
def p231 : Pos := .O (.O (.O (.I (.O (.I (.I .H))))))
def p232 : Pos := .I (.O (.O (.I (.O (.I (.I .H))))))
def p233 : Pos := .O (.I (.O (.I (.O (.I (.I .H))))))
def p234 : Pos := .I (.I (.O (.I (.O (.I (.I .H))))))
def p235 : Pos := .O (.O (.I (.I (.O (.I (.I .H))))))
def p236 : Pos := .I (.O (.I (.I (.O (.I (.I .H))))))
def p237 : Pos := .O (.I (.I (.I (.O (.I (.I .H))))))
def p238 : Pos := .I (.I (.I (.I (.O (.I (.I .H))))))
def p239 : Pos := .O (.O (.O (.O (.I (.I (.I .H))))))
def p240 : Pos := .I (.O (.O (.O (.I (.I (.I .H))))))
def p241 : Pos := .O (.I (.O (.O (.I (.I (.I .H))))))
def p242 : Pos := .I (.I (.O (.O (.I (.I (.I .H))))))
def p243 : Pos := .O (.O (.I (.O (.I (.I (.I .H))))))
def p244 : Pos := .I (.O (.I (.O (.I (.I (.I .H))))))
def p245 : Pos := .O (.I (.I (.O (.I (.I (.I .H))))))
def p246 : Pos := .I (.I (.I (.O (.I (.I (.I .H))))))
def p247 : Pos := .O (.O (.O (.I (.I (.I (.I .H))))))
def p248 : Pos := .I (.O (.O (.I (.I (.I (.I .H))))))
def p249 : Pos := .O (.I (.O (.I (.I (.I (.I .H))))))
def p250 : Pos := .I (.I (.O (.I (.I (.I (.I .H))))))
def p251 : Pos := .O (.O (.I (.I (.I (.I (.I .H))))))
def p252 : Pos := .I (.O (.I (.I (.I (.I (.I .H))))))
def p253 : Pos := .O (.I (.I (.I (.I (.I (.I .H))))))
def p254 : Pos := .I (.I (.I (.I (.I (.I (.I .H))))))
def p255 : Pos := .O (.O (.O (.O (.O (.O (.O (.O .H)))))))
def p256 : Pos := .I (.O (.O (.O (.O (.O (.O (.O .H)))))))
def p257 : Pos := .O (.I (.O (.O (.O (.O (.O (.O .H)))))))
def p258 : Pos := .I (.I (.O (.O (.O (.O (.O (.O .H)))))))
def p259 : Pos := .O (.O (.I (.O (.O (.O (.O (.O .H)))))))
def okT (r : Res AV) : Bool := Res.rec (motive := fun _ => Bool) (fun v _ => eqV1 v (.bool true)) (fun _ => false) r
def symR (i : Nat) : AV := .sym .i64 (.add i (.ofNat 0))
end Go.Ax.Top
end
