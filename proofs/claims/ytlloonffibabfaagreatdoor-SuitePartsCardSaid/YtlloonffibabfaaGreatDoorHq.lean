/- Part Hq of the proof. -/
import Derived.Test.YtlloonffibabfaaGreatDoorHp
import Derived.Test.YtlloonffibabfaaGreatDoorHk
import Derived.Test.YtlloonffibabfaaGreatDoorProg
set_option linter.unusedVariables false
set_option linter.unusedSimpArgs false
namespace Go.Sx
open Go Go.Proofs Go.RowKit
set_option maxRecDepth 100000
def fo2:Fo:=⟨185,222,223,224⟩
def s1:ByteArray:="396c8c005555e1568c00aaab0000aaab".toUTF8
def s2:ByteArray:="5d543a95414e7f1091d50792876a202".toUTF8
def s3:ByteArray:="cd91de4547085abaa68a205b2e5a7ddfa628f1cb4d9e82ef21537e293a6691ae1616ec6e786f0c70cf1c38e31c7238e5".toUTF8
def gl:Gls:=[(0,Sha.K0.map fun z=>.int .u32 (.lit z))]
theorem hm:Tryz.prog.follows .mixedOrders=true:=by kernel_rfl
theorem cy{T:List K}(LA:List Ann){κ:K}{t:Qq}(hh:∀e:Nat→Int,Q0 (Quc κ.ins) (Qa9 e 0 (Xk κ.ins))→κ.pre (Qa9 e 0 (Xk κ.ins))→t.Xat T ⟨fun ys=>ys=κ.sem (Qa9 e 0 (Xk κ.ins)),[]⟩ e)(hT:Qlq Tryz.prog T){fn:Func}(hf:Tryz.prog.funcs[κ.fn]?=some fn)(hn:(!(fn.name == "runtime.NumGoroutine")&&(!κ.ext&&(κ.ins.all Qhn&&wfT (Xk κ.ins) t)))=true)(ht:Qv3 Tryz.prog T LA 10000 fn κ.ins κ.outs=t):κ.ok Tryz.prog:=by
 simp only[Oo,Hc]at hn;exact Vu (LA:=LA) hm hT 10000 hf hn.1 hn.2.1 hn.2.2.1 ht hn.2.2.2 hh
theorem cz{T:List K}{κ:K}{t:Qq}(hh:∀e:Nat→Int,Q0 (Quc κ.ins) (Qa9 e 0 (Xk κ.ins))→κ.pre (Qa9 e 0 (Xk κ.ins))→t.Xat T ⟨fun ys=>ys=κ.sem (Qa9 e 0 (Xk κ.ins)),[]⟩ e)(hT:Qlq Tryz.prog T){fn:Func}(hf:Tryz.prog.funcs[κ.fn]?=some fn)(hn:(!(fn.name == "runtime.NumGoroutine")&&(!κ.ext&&(κ.ins.all Qhn&&wfT (Xk κ.ins) t)))=true)(ht:Qv3 Tryz.prog T [] 10000 fn κ.ins κ.outs=t):κ.ok Tryz.prog:=cy [] hh hT hf hn ht
theorem Qih:(Vr 49).ok Tryz.prog:=cz (fun e hk hp=>Zda 49 e hk hp) trivial Tryz.func49 (by kernel_rfl) (by kernel_rfl)
theorem Qsk:(Qci 20).ok Tryz.prog:=cz (fun e hk hp=>Qv4 49 20 e hk) ⟨Qih,trivial⟩ Tryz.func20 (by kernel_rfl) (by kernel_rfl)
theorem Qbi:(Vt 21).ok Tryz.prog:=cz (fun e hk hp=>Zio 21 e hk) trivial Tryz.func21 (by kernel_rfl) (by kernel_rfl)
theorem Qid:(Uv 128).ok Tryz.prog:=cz (fun e hk hp=>Zdb 128 e hk) trivial Tryz.func128 (by kernel_rfl) (by kernel_rfl)
theorem Zfa:(Qml 142).ok Tryz.prog:=cz (fun e hk hp=>Zia 128 142 e hk) ⟨Qid,trivial⟩ Tryz.func142 (by kernel_rfl) (by kernel_rfl)
theorem Qo7:(Qam 231).ok Tryz.prog:=Zh5 Tryz.func231 (by kernel_rfl) (by kernel_rfl) (by kernel_rfl) (by kernel_rfl)
theorem Qv5:(Qe0 144).ok Tryz.prog:=cz (fun e hk hp=>Zi4 231 144 e hk) ⟨Qo7,trivial⟩ Tryz.func144 (by kernel_rfl) (by kernel_rfl)
theorem Qwy:(Qg2 155).ok Tryz.prog:=cz (fun e hk hp=>Zku 144 155 e hk) ⟨Qv5,trivial⟩ Tryz.func155 (by kernel_rfl) (by kernel_rfl)
theorem Qlx:(kOf 64).ok Tryz.prog:=cz (fun e hk hp=>Zue 64 e hk) trivial Tryz.func64 (by kernel_rfl) (by kernel_rfl)
theorem Zgp:(Qhk 100 227).ok Tryz.prog:=cy [⟨ "modulus.go:30",[(.box 6,[.num]),(.slot 43,[.int .i64])],[]⟩] (fun e hk hp=>Zoh 142 21 155 64 100 227 e hk hp) ⟨Zfa,Qbi,Qwy,Qlx,trivial⟩ Tryz.func100 (by kernel_rfl) (by kernel_rfl)
theorem Qet:(Xu 243).ok Tryz.prog:=Zjp Tryz.func243 (by kernel_rfl) (by kernel_rfl) (by kernel_rfl) (by kernel_rfl)
theorem Qpn:(Wi 207).ok Tryz.prog:=cz (fun e hk hp=>Zcz 207 e hk) trivial Tryz.func207 (by kernel_rfl) (by kernel_rfl)
theorem Ziy:(Qms 174).ok Tryz.prog:=cz (fun e hk hp=>Zip 243 207 155 174 e hk hp) ⟨Qet,Qpn,Qwy,trivial⟩ Tryz.func174 (by kernel_rfl) (by kernel_rfl)
theorem Qlp:(Jn 96).ok Tryz.prog:=cz (fun e hk hp=>Qv7 21 174 64 96 e hk hp) ⟨Qbi,Ziy,Qlx,trivial⟩ Tryz.func96 (by kernel_rfl) (by kernel_rfl)
theorem Qor:(Qcq 154).ok Tryz.prog:=cz (fun e hk hp=>Zha 243 154 e hk) ⟨Qet,trivial⟩ Tryz.func154 (by kernel_rfl) (by kernel_rfl)
theorem Zgh:(Qnl 77).ok Tryz.prog:=cz (fun e hk hp=>Zf1 96 154 155 77 e hk hp) ⟨Qlp,Qor,Qwy,trivial⟩ Tryz.func77 (by kernel_rfl) (by kernel_rfl)
theorem Zs4:(kS2 27 (·+ ·)).ok Tryz.prog:=cz (fun e hk hp=>Ztk (X:=Qnl 77) 49 21 100 27 227 (fun _ _ _ _ _ h=>h) (fun _ _ _ _ _=>rfl) e) ⟨Qih,Qbi,Zgp,Zgh,trivial⟩ Tryz.func27 (by kernel_rfl) (by kernel_rfl)
theorem Zs9:(Qr1 111).ok Tryz.prog:=cz (fun e hk hp=>Zgt 111 e hk) trivial Tryz.func111 (by kernel_rfl) (by kernel_rfl)
theorem Zsm:(Qmp 218).ok Tryz.prog:=cz (fun e hk hp=>Zjr 154 218 e hk hp) ⟨Qor,trivial⟩ Tryz.func218 (by kernel_rfl) (by kernel_rfl)
theorem Zui:(Qnj 219).ok Tryz.prog:=cz (fun e hk hp=>Zfp 96 144 154 219 e hk hp) ⟨Qlp,Qv5,Qor,trivial⟩ Tryz.func219 (by kernel_rfl) (by kernel_rfl)
theorem Zt1:(Qkg 136).ok Tryz.prog:=cy [⟨ "modulus.go:169",[(.box 6,[.num]),(.box 7,[.num]),(.box 8,[.num]),(.box 9,[.num])],[]⟩] (fun e hk hp=>Zf0 64 96 111 218 21 144 219 136 e hk hp) ⟨Qlx,Qlp,Zs9,Zsm,Qbi,Qv5,Zui,trivial⟩ Tryz.func136 (by kernel_rfl) (by kernel_rfl)
theorem Zr5:(Qbt 65).ok Tryz.prog:=cz (fun e hk hp=>Zid 49 21 100 136 65 227 e) ⟨Qih,Qbi,Zgp,Zt1,trivial⟩ Tryz.func65 (by kernel_rfl) (by kernel_rfl)
theorem Zlz:(Qkd 281).ok Tryz.prog:=cy [⟨ "bits.go:547",[(.slot 15,[.int .u64]),(.slot 16,[.int .u64])],[]⟩,⟨ "bits.go:559",[(.slot 18,[.int .u64]),(.slot 16,[.int .u64])],[]⟩] (fun e hk hp=>Za3 128 281 e hk hp) ⟨Qid,trivial⟩ Tryz.func281 (by kernel_rfl) (by kernel_rfl)
theorem Znr:(Qge 208).ok Tryz.prog:=cz (fun e hk hp=>Zc2 281 208 e hk hp) ⟨Zlz,trivial⟩ Tryz.func208 (by kernel_rfl) (by kernel_rfl)
theorem Qfv:(Uu 182).ok Tryz.prog:=cz (fun e hk hp=>Zjf 207 208 182 e hp) ⟨Qpn,Znr,trivial⟩ Tryz.func182 (by kernel_rfl) (by kernel_rfl)
theorem Qv8:(Qd3 183).ok Tryz.prog:=cz (fun e hk hp=>Zgf 183 e hk hp) trivial Tryz.func183 (by kernel_rfl) (by kernel_rfl)
theorem Qs5:(Qaa 181).ok Tryz.prog:=cz (fun e hk hp=>Qxk 182 183 181 e hp) ⟨Qfv,Qv8,trivial⟩ Tryz.func181 (by kernel_rfl) (by kernel_rfl)
theorem Zqd:(Qvg 230).ok Tryz.prog:=cz (fun e hk hp=>Zmr 182 181 230 e hp) ⟨Qfv,Qs5,trivial⟩ Tryz.func230 (by kernel_rfl) (by kernel_rfl)
theorem Qvj:(Qez 159).ok Tryz.prog:=cz (fun e hk hp=>Zhw 159 e hk hp) trivial Tryz.func159 (by kernel_rfl) (by kernel_rfl)
theorem Zkg:(Qjr 180).ok Tryz.prog:=cy [⟨ "little.go:37",[(.slot 8,[.int .i64]),(.slot 7,[.int .u64])],[]⟩] (fun e hk hp=>Zkl 128 182 180 e hk hp) ⟨Qid,Qfv,trivial⟩ Tryz.func180 (by kernel_rfl) (by kernel_rfl)
theorem Zt6:(Qmw 296).ok Tryz.prog:=cz (fun e hk hp=>Zi0 180 296 e hk hp) ⟨Zkg,trivial⟩ Tryz.func296 (by kernel_rfl) (by kernel_rfl)
theorem Zje:(Qb6 242).ok Tryz.prog:=cz (fun e hk hp=>Qus 159 296 182 183 242 e hk hp) ⟨Qvj,Zt6,Qfv,Qv8,trivial⟩ Tryz.func242 (by kernel_rfl) (by kernel_rfl)
theorem Zuh:(Qmf 152).ok Tryz.prog:=cz (fun e hk hp=>Zfo 242 182 159 152 e hk hp) ⟨Zje,Qfv,Qvj,trivial⟩ Tryz.func152 (by kernel_rfl) (by kernel_rfl)
theorem Qq4:(Qar 151).ok Tryz.prog:=cy [⟨ "little.go:87",[(.slot 8,[.int .i64]),(.box 7,[.int .u64,.int .u64,.bool])],[]⟩] (fun e hk hp=>Qwz 128 152 151 e hk hp) ⟨Qid,Zuh,trivial⟩ Tryz.func151 (by kernel_rfl) (by kernel_rfl)
theorem Zqw:(Qwn 141).ok Tryz.prog:=cz (fun e hk hp=>Zoa 230 151 141 e hk hp) ⟨Zqd,Qq4,trivial⟩ Tryz.func141 (by kernel_rfl) (by kernel_rfl)
theorem Zsd:(Qqg 69 [.agg [.num,.num,.bool]] [oB]).ok Tryz.prog:=Zhi Tryz.prog 69 _ _
theorem Zu9:(Qss 24).ok Tryz.prog:=cz (fun e hk hp=>Zfk 141 69 24 _ _ e hk hp) ⟨Zqw,Zsd,trivial⟩ Tryz.func24 (by kernel_rfl) (by kernel_rfl)
theorem Zmb:(Qxe 19).ok Tryz.prog:=cz (fun e hk hp=>Zcb 20 27 65 24 64 19 e) ⟨Qsk,Zs4,Zr5,Zu9,Qlx,trivial⟩ Tryz.func19 (by kernel_rfl) (by kernel_rfl)
theorem Zht:(Qop 5 94).ok Tryz.prog:=cz (fun e hk hp=>Qu0 5 94 e hp) trivial Tryz.func94 (by kernel_rfl) (by kernel_rfl)
theorem Zf3:(Qig 5 42).ok Tryz.prog:=cy [⟨ "suite.go:131",[(.slot 8,[.int .i64])],[{slot:=3,k:=.int .u8,elem:=5 }]⟩] (fun e hk hp=>Qwe 5 94 42 e hp) ⟨Zht,trivial⟩ Tryz.func42 (by kernel_rfl) (by kernel_rfl)
theorem Zlp:(kIs 41).ok Tryz.prog:=cz (fun e hk hp=>Zbc 41 e) trivial Tryz.func41 (by kernel_rfl) (by kernel_rfl)
theorem Zej:(Qlc 5 48).ok Tryz.prog:=cy [⟨ "suite.go:346",[(.slot 14,[.int .i64]),(.slot 6,[.int .i64])],[]⟩] (fun e hk hp=>Ziw 5 42 41 48 e hk hp) ⟨Zf3,Zlp,trivial⟩ Tryz.func48 (by kernel_rfl) (by kernel_rfl)
theorem Zvz:(Sha.kRot 305).ok Tryz.prog:=cz (fun e hk hp=>Sha.law_dright 305 e hp.1 hp.2) trivial Tryz.func305 (by kernel_rfl) (by kernel_rfl)
theorem Zr7:(Qq6 QP 98).ok Tryz.prog gl:=Vu (LA:=[⟨ "digest.go:38",[(.slot 15,[.int .i64]),(.box 4,[.arr .u32 64])],[]⟩,⟨ "digest.go:47",[(.slot 96,[.int .i64]),(.box 8,[.arr .u32 8])],[]⟩,⟨ "digest.go:77",[(.slot 11,[.int .i64]),(.box 0,[.arr .u32 8,.arr .u8 64,.int .i64,.bool])],[]⟩,⟨ "digest.go:95",[],[{slot:=5,k:=.int .u8,elem:=5 }]⟩,⟨ "digest.go:101",[(.view 5,[.int .i64]),(.box 4,[.arr .u32 8])],[]⟩]) (T:=[Sha.kRot 305]) (gls:=gl) hm ⟨Zvz.up,trivial⟩ 10000 Tryz.func98 (by kernel_rfl) rfl (by kernel_rfl) (t:=Sha.tDSum) (by kernel_rfl) (by kernel_rfl) fun e hk hp=>Zln 305 98 e hp
theorem Zl9:(Qph 99).ok Tryz.prog:=cy [⟨ "words.go:140",[(.slot 14,[.int .i64]),(.box 4,[.num])],[]⟩] (fun e hk hp=>Zce 99 e hk) trivial Tryz.func99 (by kernel_rfl) (by kernel_rfl)
theorem Zl3:(Qk2 101).ok Tryz.prog:=cz (fun e hk hp=>Za2 77 174 101 e hp) ⟨Zgh,Ziy,trivial⟩ Tryz.func101 (by kernel_rfl) (by kernel_rfl)
theorem Qww:(Qe9 QP 44).ok Tryz.prog gl:=Vu (LA:=[]) (T:=[Qq6 QP 98,Qph 99,Qhk 100 227,Qk2 101]) (gls:=gl) hm ⟨Zr7,Zl9.up,Zgp.up,Zl3.up,trivial⟩ 10000 Tryz.func44 (by kernel_rfl) rfl (by kernel_rfl) (t:=Zhk) (by kernel_rfl) (by kernel_rfl) fun e hk hp=>Zke QP 227 98 99 100 101 44 e hp
theorem Zto:(Qsr QP 10).ok Tryz.prog gl:=Vu (LA:=[]) (T:=[Qlc 5 48,Vr 49,Qe9 QP 44]) (gls:=gl) hm ⟨Zej.up,Qih.up,Qww,trivial⟩ 10000 Tryz.func10 (by kernel_rfl) rfl (by kernel_rfl) (t:=Qju) (by kernel_rfl) (by kernel_rfl) fun e hk hp=>Zgv QP 5 48 49 44 10 e hp
theorem Qp5:(Qjs 102).ok Tryz.prog:=cz (fun e hk hp=>Zea 102 e) trivial Tryz.func102 (by kernel_rfl) (by kernel_rfl)
theorem Zau:(Zbj 93).ok Tryz.prog:=cz (fun e hk hp=>Zlm 93 e) trivial Tryz.func93 (by kernel_rfl) (by kernel_rfl)
theorem Zhx:(Qp2 103).ok Tryz.prog:=cz (fun e hk hp=>Qvw 93 103 e hp) ⟨Zau,trivial⟩ Tryz.func103 (by kernel_rfl) (by kernel_rfl)
theorem Qzj:(Qfe 45).ok Tryz.prog:=cz (fun e hk hp=>Zc3 102 103 64 45 e hp) ⟨Qp5,Zhx,Qlx,trivial⟩ Tryz.func45 (by kernel_rfl) (by kernel_rfl)
theorem Qz6:(Qf5 291).ok Tryz.prog:=cz (fun e hk hp=>Zbi 231 291 e hk) ⟨Qo7,trivial⟩ Tryz.func291 (by kernel_rfl) (by kernel_rfl)
theorem Qn3:(Qc4 234).ok Tryz.prog:=cz (fun e hk hp=>Za4 243 207 291 234 e hk hp) ⟨Qet,Qpn,Qz6,trivial⟩ Tryz.func234 (by kernel_rfl) (by kernel_rfl)
theorem Zmi:(Qn7 244).ok Tryz.prog:=cz (fun e hk hp=>Zbx 234 244 e hk hp) ⟨Qn3,trivial⟩ Tryz.func244 (by kernel_rfl) (by kernel_rfl)
theorem Qd2:(Qao 184).ok Tryz.prog:=cz (fun e hk hp=>Qxa 244 184 e hp) ⟨Zmi,trivial⟩ Tryz.func184 (by kernel_rfl) (by kernel_rfl)
theorem Qp4:(Qb1 232).ok Tryz.prog:=cz (fun e hk hp=>Zk0 243 291 232 e hk hp) ⟨Qet,Qz6,trivial⟩ Tryz.func232 (by kernel_rfl) (by kernel_rfl)
theorem Qhz:(Qdp 185).ok Tryz.prog:=cz (fun e hk hp=>Zd4 232 185 e hk hp) ⟨Qp4,trivial⟩ Tryz.func185 (by kernel_rfl) (by kernel_rfl)
theorem Zny:(Que 287).ok Tryz.prog:=cz (fun e hk hp=>Za6 287 e) trivial Tryz.func287 (by kernel_rfl) (by kernel_rfl)
theorem Zq8:(Zn9 221).ok Tryz.prog:=cz (fun e hk hp=>Zo5 234 287 221 e hk) ⟨Qn3,Zny,trivial⟩ Tryz.func221 (by kernel_rfl) (by kernel_rfl)
theorem Qp0:(Qhi 186).ok Tryz.prog:=cz (fun e hk hp=>Zgi 221 186 e) ⟨Zq8,trivial⟩ Tryz.func186 (by kernel_rfl) (by kernel_rfl)
theorem Qq0:(Qia 109).ok Tryz.prog:=cz (fun e hk hp=>Qu1 184 185 186 109 e) ⟨Qd2,Qhz,Qp0,trivial⟩ Tryz.func109 (by kernel_rfl) (by kernel_rfl)
theorem Zsy:(Zjh 111).ok Tryz.prog:=cz (fun e hk hp=>Ze9 111 e hk) trivial Tryz.func111 (by kernel_rfl) (by kernel_rfl)
theorem Qfn:(Qay 234).ok Tryz.prog:=Qtu Qn3
theorem Qvr:(Qkv 236).ok Tryz.prog:=cz (fun e hk hp=>Zhn 236 e) trivial Tryz.func236 (by kernel_rfl) (by kernel_rfl)
theorem Zf9:(Qso 293).ok Tryz.prog:=cy [⟨ "mont.go:127",[(.slot 6,[.int .i64]),(.box 5,[.num])],[]⟩] (fun e hk hp=>Zgd 234 236 293 e hk hp) ⟨Qfn,Qvr,trivial⟩ Tryz.func293 (by kernel_rfl) (by kernel_rfl)
theorem Zj4:(Qca 264).ok Tryz.prog:=cz (fun e hk hp=>Qvn 154 102 64 111 293 234 264 e hk hp) ⟨Qor,Qp5,Qlx,Zsy,Zf9,Qfn,trivial⟩ Tryz.func264 (by kernel_rfl) (by kernel_rfl)
theorem Qw4:(Qjd 233).ok Tryz.prog:=cz (fun e hk hp=>Zkt 231 243 233 e hk hp) ⟨Qo7,Qet,trivial⟩ Tryz.func233 (by kernel_rfl) (by kernel_rfl)
theorem Qws:(Qgy 266).ok Tryz.prog:=cz (fun e hk hp=>Zjl 233 266 e hk hp) ⟨Qw4,trivial⟩ Tryz.func266 (by kernel_rfl) (by kernel_rfl)
theorem Zma:(Qo3 306).ok Tryz.prog:=cz (fun e hk hp=>Zdo 266 306 e hp) ⟨Qws,trivial⟩ Tryz.func306 (by kernel_rfl) (by kernel_rfl)
theorem Zi8:(Qab 265).ok Tryz.prog:=cz (fun e hk hp=>Qxj 184 306 21 265 e hk hp) ⟨Qd2,Zma,Qbi,trivial⟩ Tryz.func265 (by kernel_rfl) (by kernel_rfl)
theorem Qqy:(B9 267).ok Tryz.prog:=cz (fun e hk hp=>Quu 234 232 267 e hk hp) ⟨Qfn,Qp4,trivial⟩ Tryz.func267 (by kernel_rfl) (by kernel_rfl)
theorem Zfw:(Qg8 235).ok Tryz.prog:=cz (fun e hk hp=>Zjn 293 235 e hk hp) ⟨Zf9,trivial⟩ Tryz.func235 (by kernel_rfl) (by kernel_rfl)
theorem Zdw:(Qlh 187).ok Tryz.prog:=cz (fun e hk hp=>Qri 186 264 265 266 267 235 232 236 234 187 e hk) ⟨Qp0,Zj4,Zi8,Qws,Qqy,Zfw,Qp4,Qvr,Qfn,trivial⟩ Tryz.func187 (by kernel_rfl) (by kernel_rfl)
theorem Qe4:(Qbe 223).ok Tryz.prog:=cz (fun e hk hp=>Zcl 234 232 233 223 e hk hp) ⟨Qfn,Qp4,Qw4,trivial⟩ Tryz.func223 (by kernel_rfl) (by kernel_rfl)
theorem Zhv:(Qpq 188).ok Tryz.prog:=cz (fun e hk hp=>Qv0 184 223 186 188 e) ⟨Qd2,Qe4,Qp0,trivial⟩ Tryz.func188 (by kernel_rfl) (by kernel_rfl)
theorem Zw1:(Zss 110).ok Tryz.prog:=cz (fun e hk hp=>Zlr 64 187 109 188 110 e) ⟨Qlx,Zdw,Qq0,Zhv,trivial⟩ Tryz.func110 (by kernel_rfl) (by kernel_rfl)
theorem Zo7:(Qle 50).ok Tryz.prog:=cy [⟨ "point.go:160",[(.box 1,[.num,.num]),(.slot 4,[.int .i64])],[]⟩] (fun e hk hp=>Zbo 109 110 64 50 e hp) ⟨Qq0,Zw1,Qlx,trivial⟩ Tryz.func50 (by kernel_rfl) (by kernel_rfl)
theorem Zfq:(Qof 220).ok Tryz.prog:=cz (fun e hk hp=>Qu5 21 102 220 e hk) ⟨Qbi,Qp5,trivial⟩ Tryz.func220 (by kernel_rfl) (by kernel_rfl)
theorem Qte:(Qh8 137).ok Tryz.prog:=cz (fun e hk hp=>Qvm 220 137 e) ⟨Zfq,trivial⟩ Tryz.func137 (by kernel_rfl) (by kernel_rfl)
theorem Zqv:(Zn6 140).ok Tryz.prog:=cz (fun e hk hp=>Zlg 186 140 e) ⟨Qp0,trivial⟩ Tryz.func140 (by kernel_rfl) (by kernel_rfl)
theorem Zls:(Qub 225).ok Tryz.prog:=cz (fun e hk hp=>Zdp 236 225 e) ⟨Qvr,trivial⟩ Tryz.func225 (by kernel_rfl) (by kernel_rfl)
theorem Qr3:(Qh2 fo2 138).ok Tryz.prog:=cz (fun e hk hp=>Qwo fo2 221 225 64 138 e) ⟨Zq8,Zls,Qlx,trivial⟩ Tryz.func138 (by kernel_rfl) (by kernel_rfl)
theorem Zqm:(Zen fo2 226).ok Tryz.prog:=cz (fun e hk hp=>Zow fo2 185 223 226 e hk hp) ⟨Qhz,Qe4,trivial⟩ Tryz.func226 (by kernel_rfl) (by kernel_rfl)
theorem Qy2:(Qi5 222).ok Tryz.prog:=cz (fun e hk hp=>Zdz 233 222 e hk hp) ⟨Qw4,trivial⟩ Tryz.func222 (by kernel_rfl) (by kernel_rfl)
theorem Qse:(Qd1 fo2 290).ok Tryz.prog:=cz (fun e hk hp=>Qug fo2 185 222 223 290 e hk hp) ⟨Qhz,Qy2,Qe4,trivial⟩ Tryz.func290 (by kernel_rfl) (by kernel_rfl)
theorem Qzt:(Qjv fo2 268).ok Tryz.prog:=cz (fun e hk hp=>Zfj fo2 185 222 223 290 268 e hk hp) ⟨Qhz,Qy2,Qe4,Qse,trivial⟩ Tryz.func268 (by kernel_rfl) (by kernel_rfl)
theorem Ztt:(Zms 143).ok Tryz.prog:=cz (fun e hk hp=>Zmc 143 e hk) trivial Tryz.func143 (by kernel_rfl) (by kernel_rfl)
theorem Qqt:(Qef fo2 228).ok Tryz.prog:=cy [⟨ "curve.go:113",[(.slot 8,[.int .i64]),(.box 7,[.num,.num,.num,.num,.num,.num])],[]⟩] (fun e hk hp=>Qun fo2 142 143 290 268 228 e hk hp) ⟨Zfa,Ztt,Qse,Qzt,trivial⟩ Tryz.func228 (by kernel_rfl) (by kernel_rfl)
theorem Qst:(Qh1 fo2 229).ok Tryz.prog:=cz (fun e hk hp=>Qwh fo2 229 e) trivial Tryz.func229 (by kernel_rfl) (by kernel_rfl)
theorem Zdt:(Qd6 288).ok Tryz.prog:=cz (fun e hk hp=>Qtt 234 288 e hk hp) ⟨Qfn,trivial⟩ Tryz.func288 (by kernel_rfl) (by kernel_rfl)
theorem Zgl:(Qib 289).ok Tryz.prog:=cz (fun e hk hp=>Qvv 266 289 e hk hp) ⟨Qws,trivial⟩ Tryz.func289 (by kernel_rfl) (by kernel_rfl)
theorem Zos:(Qo0 224).ok Tryz.prog:=cz (fun e hk hp=>Zcr 288 289 235 267 224 e hk hp) ⟨Zdt,Zgl,Zfw,Qqy,trivial⟩ Tryz.func224 (by kernel_rfl) (by kernel_rfl)
theorem Qtx:(Qew fo2 227).ok Tryz.prog:=cz (fun e hk hp=>Qwx fo2 223 224 227 e hk hp) ⟨Qe4,Zos,trivial⟩ Tryz.func227 (by kernel_rfl) (by kernel_rfl)
theorem Zof:(J9 fo2 189).ok Tryz.prog:=cy [⟨ "curve.go:132",[(.slot 21,[.int .i64])],[]⟩,⟨ "curve.go:138",[(.slot 38,[.int .i64]),(.box 10,[.num,.num,.num,.num,.num,.num])],[]⟩] (fun e hk hp=>Zch fo2 226 268 228 229 227 189 e hk hp) ⟨Zqm,Qzt,Qqt,Qst,Qtx,trivial⟩ Tryz.func189 (by kernel_rfl) (by kernel_rfl)
theorem Zts:(Qyk 190).ok Tryz.prog:=cz (fun e hk hp=>Zeq 184 190 e hp) ⟨Qd2,trivial⟩ Tryz.func190 (by kernel_rfl) (by kernel_rfl)
theorem Zju:(Wl 112).ok Tryz.prog:=cy [⟨ "curve.go:241",[(.slot 13,[.int .i64])],[{slot:=6,k:=Qux,elem:=195}]⟩] (fun e hk hp=>Zb1 fo2 137 140 138 189 190 112 e hk hp) ⟨Qte,Zqv,Qr3,Zof,Zts,trivial⟩ Tryz.func112 (by kernel_rfl) (by kernel_rfl)
theorem Zus:(Qaw 81).ok Tryz.prog:=cz (fun e hk hp=>Zc7 112 81 e hp) ⟨Zju,trivial⟩ Tryz.func81 (by kernel_rfl) (by kernel_rfl)
theorem Zqx:(Qs7 323).ok Tryz.prog:=Zte Tryz.func323 (by kernel_rfl) (by kernel_rfl) (by kernel_rfl) (by kernel_rfl)
theorem Zg6:(Qgj 111).ok Tryz.prog:=cz (fun e hk hp=>Ze2 111 e hk hp) trivial Tryz.func111 (by kernel_rfl) (by kernel_rfl)
theorem Zsa:(Qgq s2 c2H 104).ok Tryz.prog:=Vu (LA:=[]) (T:=[Qs7 323,Qgj 111]) hm ⟨Zqx,Zg6,trivial⟩ 10000 Tryz.func104 (by kernel_rfl) rfl (by kernel_rfl) (t:=Qv3 Tryz.prog [Qs7 323,Qgj 111] [] 10000 Tryz.f104 (Qgq s2 c2H 104).ins (Qgq s2 c2H 104).outs) rfl (by kernel_rfl) fun e hk hp=>Qrw (by kernel_rfl) 323 111 e
theorem Ztq:(Qgq s3 c2L 104).ok Tryz.prog:=Vu (LA:=[]) (T:=[Qs7 323,Qgj 111]) hm ⟨Zqx,Zg6,trivial⟩ 10000 Tryz.func104 (by kernel_rfl) rfl (by kernel_rfl) (t:=Qv3 Tryz.prog [Qs7 323,Qgj 111] [] 10000 Tryz.f104 (Qgq s3 c2L 104).ins (Qgq s3 c2L 104).outs) rfl (by kernel_rfl) fun e hk hp=>Qrw (by kernel_rfl) 323 111 e
theorem Zft:(Qp3 111).ok Tryz.prog:=cz (fun e hk hp=>Qur 111 e hp) trivial Tryz.func111 (by kernel_rfl) (by kernel_rfl)
theorem Zkn:(Qd5 51).ok Tryz.prog:=cz (fun e hk hp=>Qw3 s2 s3 81 104 104 64 111 112 51 e hp) ⟨Zus,Zsa,Ztq,Qlx,Zft,Zju,trivial⟩ Tryz.func51 (by kernel_rfl) (by kernel_rfl)
theorem Znp:(Qkc 105).ok Tryz.prog:=cy [⟨ "little.go:225",[(.slot 1,[.int .u64]),(.slot 9,[.int .i64])],[]⟩] (fun e hk hp=>Zck 93 180 181 182 183 159 105 e hk hp) ⟨Zau,Zkg,Qs5,Qfv,Qv8,Qvj,trivial⟩ Tryz.func105 (by kernel_rfl) (by kernel_rfl)
theorem Zhr:(Qel 106).ok Tryz.prog:=cz (fun e hk hp=>Qvp 93 230 151 106 e hp) ⟨Zau,Zqd,Qq4,trivial⟩ Tryz.func106 (by kernel_rfl) (by kernel_rfl)
theorem Zuz:(Qtg QP 47).ok Tryz.prog gl:=Vu (LA:=[]) (T:=[Qfe 45,Qe9 QP 44,Qkc 105,Qel 106]) (gls:=gl) hm ⟨Qzj.up,Qww,Znp.up,Zhr.up,trivial⟩ 10000 Tryz.func47 (by kernel_rfl) rfl (by kernel_rfl) (t:=Zk7) (by kernel_rfl) (by kernel_rfl) fun e hk hp=>Zki QP 45 44 105 106 47 e hp
theorem Ztf:(Qqu QP 11).ok Tryz.prog gl:=Vu (LA:=[]) (T:=[Qlc 5 48,Qfe 45,Qe9 QP 44,Qle 50,Qd5 51,Qtg QP 47]) (gls:=gl) hm ⟨Zej.up,Qzj.up,Qww,Zo7.up,Zkn.up,Zuz,trivial⟩ 10000 Tryz.func11 (by kernel_rfl) rfl (by kernel_rfl) (t:=Qjf) (by kernel_rfl) (by kernel_rfl) fun e hk hp=>Zhe QP 5 48 45 44 50 51 47 11 e hp
theorem Zge:(Qpf 107).ok Tryz.prog:=cz (fun e hk hp=>Quf 107 e) trivial Tryz.func107 (by kernel_rfl) (by kernel_rfl)
theorem Zvg:(Qyq fo2 139).ok Tryz.prog:=cz (fun e hk hp=>Zel fo2 226 229 107 228 227 139 e hk hp) ⟨Zqm,Qst,Zge,Qqt,Qtx,trivial⟩ Tryz.func139 (by kernel_rfl) (by kernel_rfl)
theorem Zsb:(Zhp 66).ok Tryz.prog:=cz (fun e hk hp=>Zi9 fo2 137 138 140 139 66 e hk) ⟨Qte,Qr3,Zqv,Zvg,trivial⟩ Tryz.func66 (by kernel_rfl) (by kernel_rfl)
theorem Ztb:(Zj5 67).ok Tryz.prog:=cz (fun e hk hp=>Zfm 93 141 67 e) ⟨Zau,Zqw,trivial⟩ Tryz.func67 (by kernel_rfl) (by kernel_rfl)
theorem Zj9:(Qie 22).ok Tryz.prog:=cz (fun e hk hp=>Qu4 66 67 22 e hk) ⟨Zsb,Ztb,trivial⟩ Tryz.func22 (by kernel_rfl) (by kernel_rfl)
theorem x_parts11:(B1 4).ok Tryz.prog gl:=Vu (LA:=[⟨ "outright.go:134",[(.slot 6,[.int .i64])],[]⟩]) (T:=[Qxe 19,Qsr QP 10,Qqu QP 11,Qci 20,Vt 21,Qie 22]) (gls:=gl) hm ⟨Zmb.up,Zto,Ztf,Qsk.up,Qbi.up,Zj9.up,trivial⟩ 10000 Tryz.func4 (by kernel_rfl) rfl (by kernel_rfl) (t:=Qln) (by kernel_rfl) (by kernel_rfl) fun e hk hp=>Qti 19 10 11 20 21 22 4 e hk
end Go.Sx
