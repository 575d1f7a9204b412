/- Part Njx of the proof. -/
import Derived.Test.YtjkkfifojkfnjaaGreatDoorNj
set_option linter.unusedVariables false
set_option linter.unusedSimpArgs false
namespace Go.Sx
open Go Go.RowKit
set_option maxRecDepth 100000
namespace Sha
theorem shr0 (x:Int):binE .shr .u32 x 0=x:=Int.fdiv_one x
theorem out8_eq (h:List Int):out8 h=[0,1,2,3,4,5,6,7].flatMap fun j=>[wr .u8 (binE .shr .u32 (h.getD j 0) 24),wr .u8 (binE .shr .u32 (h.getD j 0) 16),wr .u8 (binE .shr .u32 (h.getD j 0) 8),wr .u8 (h.getD j 0)]:=by
 simp only [out8,List.map_cons,List.map_nil,shr0]
theorem range64 {l:List Int} (h:l.length=64):(List.range 64).map (fun i=>l.getD i 0)=l:=by
 refine List.ext_getElem (by simp [h]) fun i h1 h2=>?_
 simp [List.getD_eq_getElem?_getD,h2]
def tDSum:Tree:=(.lett 1 (.int .i64) (.llen (.var 0))
(.lett 2 (.arr .u32 8) (.lapp (.lit 0) [.lit 1779033703,.lit 3144134277,.lit 1013904242,.lit 2773480762,.lit 1359893119,.lit 2600822924,.lit 528734635,.lit 1541459225])
(.lett 3 (.arr .u8 64) (.lapp (.lit 0) [.lit 0,.lit 0,.lit 0,.lit 0,.lit 0,.lit 0,.lit 0,.lit 0,.lit 0,.lit 0,.lit 0,.lit 0,.lit 0,.lit 0,.lit 0,.lit 0,.lit 0,.lit 0,.lit 0,.lit 0,.lit 0,.lit 0,.lit 0,.lit 0,.lit 0,.lit 0,.lit 0,.lit 0,.lit 0,.lit 0,.lit 0,.lit 0,.lit 0,.lit 0,.lit 0,.lit 0,.lit 0,.lit 0,.lit 0,.lit 0,.lit 0,.lit 0,.lit 0,.lit 0,.lit 0,.lit 0,.lit 0,.lit 0,.lit 0,.lit 0,.lit 0,.lit 0,.lit 0,.lit 0,.lit 0,.lit 0,.lit 0,.lit 0,.lit 0,.lit 0,.lit 0,.lit 0,.lit 0,.lit 0])
(.loop [.lit 0,.var 2,.var 3,.lit 0,.lit 1] [(.int .i64),(.arr .u32 8),(.arr .u8 64),(.int .i64),.bit] 4
(.lett 9 .bit (.cmp .lss (.var 4) (.var 1))
(.split 9
(.lett 10 (.int .i64) (.llen (.var 0))
(.lett 11 .bit (.cmp .leq (.lit 0) (.var 4))
(.lett 12 .bit (.cmp .lss (.var 4) (.var 10))
(.nz (.var 11)
(.nz (.var 12)
(.lett 13 (.int .u8) (.lget (.var 0) (.var 4))
(.lett 254 (.int .i64) (.bin .rem .i64 (.var 7) (.lit 64))
(.lett 446 .bit (.cmp .leq (.lit 0) (.var 254))
(.lett 447 .bit (.cmp .lss (.var 254) (.lit 64))
(.nz (.var 446)
(.nz (.var 447)
(.lett 494 (.arr .u8 64) (.lsub (.var 6) (.lit 0) (.lit 64))
(.lett 495 (.arr .u8 64) (.lput (.var 494) (.var 254) (.var 13))
(.lett 542 (.int .i64) (.bin .add .i64 (.var 7) (.lit 1))
(.lett 543 (.int .i64) (.bin .rem .i64 (.var 542) (.lit 64))
(.lett 544 .bit (.cmp .eql (.var 543) (.lit 0))
(.split 544
 (.lett 929 (.arr .u32 64) (.lapp (.lit 0) [.lit 0,.lit 0,.lit 0,.lit 0,.lit 0,.lit 0,.lit 0,.lit 0,.lit 0,.lit 0,.lit 0,.lit 0,.lit 0,.lit 0,.lit 0,.lit 0,.lit 0,.lit 0,.lit 0,.lit 0,.lit 0,.lit 0,.lit 0,.lit 0,.lit 0,.lit 0,.lit 0,.lit 0,.lit 0,.lit 0,.lit 0,.lit 0,.lit 0,.lit 0,.lit 0,.lit 0,.lit 0,.lit 0,.lit 0,.lit 0,.lit 0,.lit 0,.lit 0,.lit 0,.lit 0,.lit 0,.lit 0,.lit 0,.lit 0,.lit 0,.lit 0,.lit 0,.lit 0,.lit 0,.lit 0,.lit 0,.lit 0,.lit 0,.lit 0,.lit 0,.lit 0,.lit 0,.lit 0,.lit 0])
 (.loop [.lit 0,.var 929] [(.int .i64),(.arr .u32 64)] 930
 (.lett 932 .bit (.cmp .lss (.var 930) (.lit 64))
 (.split 932
 (.lett 933 .bit (.cmp .lss (.var 930) (.lit 16))
 (.split 933
 (.lett 1078 (.int .i64) (.bin .mul .i64 (.lit 4) (.var 930))
 (.lett 1126 .bit (.cmp .leq (.lit 0) (.var 1078))
 (.lett 1127 .bit (.cmp .lss (.var 1078) (.lit 64))
 (.nz (.var 1126)
 (.nz (.var 1127)
 (.lett 1174 (.int .u8) (.lget (.var 495) (.var 1078))
 (.lett 1270 (.int .u32) (.bin .shl .u32 (.var 1174) (.lit 24))
 (.lett 1414 (.int .i64) (.bin .mul .i64 (.lit 4) (.var 930))
 (.lett 1462 (.int .i64) (.bin .add .i64 (.var 1414) (.lit 1))
 (.lett 1510 .bit (.cmp .leq (.lit 0) (.var 1462))
 (.lett 1511 .bit (.cmp .lss (.var 1462) (.lit 64))
 (.nz (.var 1510)
 (.nz (.var 1511)
 (.lett 1558 (.int .u8) (.lget (.var 495) (.var 1462))
 (.lett 1654 (.int .u32) (.bin .shl .u32 (.var 1558) (.lit 16))
 (.lett 1702 (.int .u32) (.bin .or .u32 (.var 1270) (.var 1654))
 (.lett 1846 (.int .i64) (.bin .mul .i64 (.lit 4) (.var 930))
 (.lett 1894 (.int .i64) (.bin .add .i64 (.var 1846) (.lit 2))
 (.lett 1942 .bit (.cmp .leq (.lit 0) (.var 1894))
 (.lett 1943 .bit (.cmp .lss (.var 1894) (.lit 64))
 (.nz (.var 1942)
 (.nz (.var 1943)
 (.lett 1990 (.int .u8) (.lget (.var 495) (.var 1894))
 (.lett 2086 (.int .u32) (.bin .shl .u32 (.var 1990) (.lit 8))
 (.lett 2134 (.int .u32) (.bin .or .u32 (.var 1702) (.var 2086))
 (.lett 2278 (.int .i64) (.bin .mul .i64 (.lit 4) (.var 930))
 (.lett 2326 (.int .i64) (.bin .add .i64 (.var 2278) (.lit 3))
 (.lett 2374 .bit (.cmp .leq (.lit 0) (.var 2326))
 (.lett 2375 .bit (.cmp .lss (.var 2326) (.lit 64))
 (.nz (.var 2374)
 (.nz (.var 2375)
 (.lett 2422 (.int .u8) (.lget (.var 495) (.var 2326))
 (.lett 2518 (.int .u32) (.bin .or .u32 (.var 2134) (.var 2422))
 (.lett 2566 .bit (.cmp .leq (.lit 0) (.var 930))
 (.lett 2567 .bit (.cmp .lss (.var 930) (.lit 64))
 (.nz (.var 2566)
 (.nz (.var 2567)
 (.lett 2614 (.arr .u32 64) (.lsub (.var 931) (.lit 0) (.lit 64))
 (.lett 2615 (.arr .u32 64) (.lput (.var 2614) (.var 930) (.var 2518))
 (.lett 2662 (.int .i64) (.bin .add .i64 (.var 930) (.lit 1))
 (.lett 2663 (.arr .u32 64) (.lsub (.var 2615) (.lit 0) (.lit 64))
 (.back 1 [.var 2662,.var 2663]))))))))))))))))))))))))))))))))))))))))))
 (.lett 982 (.int .i64) (.bin .sub .i64 (.var 930) (.lit 15))
 (.lett 1030 .bit (.cmp .leq (.lit 0) (.var 982))
 (.lett 1031 .bit (.cmp .lss (.var 982) (.lit 64))
 (.nz (.var 1030)
 (.nz (.var 1031)
 (.lett 1078 (.int .u32) (.lget (.var 931) (.var 982))
 (.lett 1174 (.int .i64) (.bin .sub .i64 (.var 930) (.lit 2))
 (.lett 1222 .bit (.cmp .leq (.lit 0) (.var 1174))
 (.lett 1223 .bit (.cmp .lss (.var 1174) (.lit 64))
 (.nz (.var 1222)
 (.nz (.var 1223)
 (.lett 1270 (.int .u32) (.lget (.var 931) (.var 1174))
 (.req 0 [.var 1270,.lit 17]
 (.lett 1510 (.int .u32) (.app 0 0 [.var 1270,.lit 17])
 (.req 0 [.var 1270,.lit 19]
 (.lett 1606 (.int .u32) (.app 0 0 [.var 1270,.lit 19])
 (.lett 1654 (.int .u32) (.bin .xor .u32 (.var 1510) (.var 1606))
 (.lett 1750 (.int .u32) (.bin .shr .u32 (.var 1270) (.lit 10))
 (.lett 1798 (.int .u32) (.bin .xor .u32 (.var 1654) (.var 1750))
 (.lett 1894 (.int .i64) (.bin .sub .i64 (.var 930) (.lit 7))
 (.lett 1942 .bit (.cmp .leq (.lit 0) (.var 1894))
 (.lett 1943 .bit (.cmp .lss (.var 1894) (.lit 64))
 (.nz (.var 1942)
 (.nz (.var 1943)
 (.lett 1990 (.int .u32) (.lget (.var 931) (.var 1894))
 (.lett 2038 (.int .u32) (.bin .add .u32 (.var 1798) (.var 1990))
 (.req 0 [.var 1078,.lit 7]
 (.lett 2134 (.int .u32) (.app 0 0 [.var 1078,.lit 7])
 (.req 0 [.var 1078,.lit 18]
 (.lett 2230 (.int .u32) (.app 0 0 [.var 1078,.lit 18])
 (.lett 2278 (.int .u32) (.bin .xor .u32 (.var 2134) (.var 2230))
 (.lett 2374 (.int .u32) (.bin .shr .u32 (.var 1078) (.lit 3))
 (.lett 2422 (.int .u32) (.bin .xor .u32 (.var 2278) (.var 2374))
 (.lett 2470 (.int .u32) (.bin .add .u32 (.var 2038) (.var 2422))
 (.lett 2566 (.int .i64) (.bin .sub .i64 (.var 930) (.lit 16))
 (.lett 2614 .bit (.cmp .leq (.lit 0) (.var 2566))
 (.lett 2615 .bit (.cmp .lss (.var 2566) (.lit 64))
 (.nz (.var 2614)
 (.nz (.var 2615)
 (.lett 2662 (.int .u32) (.lget (.var 931) (.var 2566))
 (.lett 2710 (.int .u32) (.bin .add .u32 (.var 2470) (.var 2662))
 (.lett 2758 .bit (.cmp .leq (.lit 0) (.var 930))
 (.lett 2759 .bit (.cmp .lss (.var 930) (.lit 64))
 (.nz (.var 2758)
 (.nz (.var 2759)
 (.lett 2806 (.arr .u32 64) (.lsub (.var 931) (.lit 0) (.lit 64))
 (.lett 2807 (.arr .u32 64) (.lput (.var 2806) (.var 930) (.var 2710))
 (.lett 2854 (.int .i64) (.bin .add .i64 (.var 930) (.lit 1))
 (.lett 2855 (.arr .u32 64) (.lsub (.var 2807) (.lit 0) (.lit 64))
 (.back 1 [.var 2854,.var 2855]))))))))))))))))))))))))))))))))))))))))))))))))))))
 (.lett 933 (.arr .u32 8) (.lsub (.var 5) (.lit 0) (.lit 8))
 (.loop [.lit 0,.var 933] [(.int .i64),(.arr .u32 8)] 934
 (.lett 936 .bit (.cmp .lss (.var 934) (.lit 64))
 (.split 936
 (.req 0 [(.elt .u32 935 4),.lit 6]
 (.lett 1369 (.int .u32) (.app 0 0 [(.elt .u32 935 4),.lit 6])
 (.req 0 [(.elt .u32 935 4),.lit 11]
 (.lett 1465 (.int .u32) (.app 0 0 [(.elt .u32 935 4),.lit 11])
 (.lett 1513 (.int .u32) (.bin .xor .u32 (.var 1369) (.var 1465))
 (.req 0 [(.elt .u32 935 4),.lit 25]
 (.lett 1609 (.int .u32) (.app 0 0 [(.elt .u32 935 4),.lit 25])
 (.lett 1657 (.int .u32) (.bin .xor .u32 (.var 1513) (.var 1609))
 (.lett 1705 (.int .u32) (.bin .add .u32 (.elt .u32 935 7) (.var 1657))
 (.lett 1897 (.int .u32) (.bin .and .u32 (.elt .u32 935 4) (.elt .u32 935 5))
 (.lett 1993 (.int .u32) (.bin .xor .u32 (.lit 4294967295) (.elt .u32 935 4))
 (.lett 2137 (.int .u32) (.bin .and .u32 (.var 1993) (.elt .u32 935 6))
 (.lett 2185 (.int .u32) (.bin .xor .u32 (.var 1897) (.var 2137))
 (.lett 2233 (.int .u32) (.bin .add .u32 (.var 1705) (.var 2185))
 (.lett 2329 .bit (.cmp .leq (.lit 0) (.var 934))
 (.lett 2330 .bit (.cmp .lss (.var 934) (.lit 64))
 (.nz (.var 2329)
 (.nz (.var 2330)
 (.lett 2377 (.int .u32) (.sel (.var 934) [.lit 1116352408,.lit 1899447441,.lit 3049323471,.lit 3921009573,.lit 961987163,.lit 1508970993,.lit 2453635748,.lit 2870763221,.lit 3624381080,.lit 310598401,.lit 607225278,.lit 1426881987,.lit 1925078388,.lit 2162078206,.lit 2614888103,.lit 3248222580,.lit 3835390401,.lit 4022224774,.lit 264347078,.lit 604807628,.lit 770255983,.lit 1249150122,.lit 1555081692,.lit 1996064986,.lit 2554220882,.lit 2821834349,.lit 2952996808,.lit 3210313671,.lit 3336571891,.lit 3584528711,.lit 113926993,.lit 338241895,.lit 666307205,.lit 773529912,.lit 1294757372,.lit 1396182291,.lit 1695183700,.lit 1986661051,.lit 2177026350,.lit 2456956037,.lit 2730485921,.lit 2820302411,.lit 3259730800,.lit 3345764771,.lit 3516065817,.lit 3600352804,.lit 4094571909,.lit 275423344,.lit 430227734,.lit 506948616,.lit 659060556,.lit 883997877,.lit 958139571,.lit 1322822218,.lit 1537002063,.lit 1747873779,.lit 1955562222,.lit 2024104815,.lit 2227730452,.lit 2361852424,.lit 2428436474,.lit 2756734187,.lit 3204031479,.lit 3329325298])
 (.lett 2425 (.int .u32) (.bin .add .u32 (.var 2233) (.var 2377))
 (.lett 2521 .bit (.cmp .leq (.lit 0) (.var 934))
 (.lett 2522 .bit (.cmp .lss (.var 934) (.lit 64))
 (.nz (.var 2521)
 (.nz (.var 2522)
 (.lett 2569 (.int .u32) (.lget (.var 931) (.var 934))
 (.lett 2617 (.int .u32) (.bin .add .u32 (.var 2425) (.var 2569))
 (.req 0 [(.elt .u32 935 0),.lit 2]
 (.lett 2761 (.int .u32) (.app 0 0 [(.elt .u32 935 0),.lit 2])
 (.req 0 [(.elt .u32 935 0),.lit 13]
 (.lett 2857 (.int .u32) (.app 0 0 [(.elt .u32 935 0),.lit 13])
 (.lett 2905 (.int .u32) (.bin .xor .u32 (.var 2761) (.var 2857))
 (.req 0 [(.elt .u32 935 0),.lit 22]
 (.lett 3001 (.int .u32) (.app 0 0 [(.elt .u32 935 0),.lit 22])
 (.lett 3049 (.int .u32) (.bin .xor .u32 (.var 2905) (.var 3001))
 (.lett 3241 (.int .u32) (.bin .and .u32 (.elt .u32 935 0) (.elt .u32 935 1))
 (.lett 3433 (.int .u32) (.bin .and .u32 (.elt .u32 935 0) (.elt .u32 935 2))
 (.lett 3481 (.int .u32) (.bin .xor .u32 (.var 3241) (.var 3433))
 (.lett 3721 (.int .u32) (.bin .and .u32 (.elt .u32 935 1) (.elt .u32 935 2))
 (.lett 3769 (.int .u32) (.bin .xor .u32 (.var 3481) (.var 3721))
 (.lett 3817 (.int .u32) (.bin .add .u32 (.var 3049) (.var 3769))
 (.lett 3913 (.int .u32) (.bin .add .u32 (.var 2617) (.var 3817))
 (.lett 3914 (.int .u32) (.bin .add .u32 (.elt .u32 935 3) (.var 2617))
 (.lett 3915 (.int .i64) (.bin .add .i64 (.var 934) (.lit 1))
 (.lett 3916 (.arr .u32 8) (.lapp (.lit 0) [.var 3913,(.elt .u32 935 0),(.elt .u32 935 1),(.elt .u32 935 2),.var 3914,(.elt .u32 935 4),(.elt .u32 935 5),(.elt .u32 935 6)])
 (.back 2 [.var 3915,.var 3916])))))))))))))))))))))))))))))))))))))))))))))
 (.lett 1321 (.int .u32) (.bin .add .u32 (.elt .u32 5 0) (.elt .u32 935 0))
 (.lett 1897 (.int .u32) (.bin .add .u32 (.elt .u32 5 1) (.elt .u32 935 1))
 (.lett 2473 (.int .u32) (.bin .add .u32 (.elt .u32 5 2) (.elt .u32 935 2))
 (.lett 3049 (.int .u32) (.bin .add .u32 (.elt .u32 5 3) (.elt .u32 935 3))
 (.lett 3625 (.int .u32) (.bin .add .u32 (.elt .u32 5 4) (.elt .u32 935 4))
 (.lett 4201 (.int .u32) (.bin .add .u32 (.elt .u32 5 5) (.elt .u32 935 5))
 (.lett 4777 (.int .u32) (.bin .add .u32 (.elt .u32 5 6) (.elt .u32 935 6))
 (.lett 5353 (.int .u32) (.bin .add .u32 (.elt .u32 5 7) (.elt .u32 935 7))
 (.lett 5545 (.int .i64) (.bin .add .i64 (.var 4) (.lit 1))
 (.lett 5546 (.arr .u32 8) (.lapp (.lit 0) [.var 1321,.var 1897,.var 2473,.var 3049,.var 3625,.var 4201,.var 4777,.var 5353])
 (.lett 5547 (.arr .u8 64) (.lsub (.var 495) (.lit 0) (.lit 64))
 (.back 0 [.var 5545,.var 5546,.var 5547,.var 542,.var 8]))))))))))))))))))))
 (.lett 545 (.int .i64) (.bin .add .i64 (.var 4) (.lit 1))
 (.lett 546 (.arr .u32 8) (.lsub (.var 5) (.lit 0) (.lit 8))
 (.lett 547 (.arr .u8 64) (.lsub (.var 495) (.lit 0) (.lit 64))
 (.back 0 [.var 545,.var 546,.var 547,.var 542,.var 8])))))))))))))))))))))
(.lett 10 .bit (.not (.var 8))
(.split 10
 (.lett 11 (.arr .u8 32) (.lapp (.lit 0) [.lit 0,.lit 0,.lit 0,.lit 0,.lit 0,.lit 0,.lit 0,.lit 0,.lit 0,.lit 0,.lit 0,.lit 0,.lit 0,.lit 0,.lit 0,.lit 0,.lit 0,.lit 0,.lit 0,.lit 0,.lit 0,.lit 0,.lit 0,.lit 0,.lit 0,.lit 0,.lit 0,.lit 0,.lit 0,.lit 0,.lit 0,.lit 0])
 (.ret [.var 11]))
 (.lett 347 (.int .i64) (.bin .rem .i64 (.var 7) (.lit 64))
 (.lett 395 .bit (.cmp .leq (.lit 0) (.var 347))
 (.lett 396 .bit (.cmp .leq (.var 347) (.lit 64))
 (.nz (.var 395)
 (.nz (.var 396)
 (.lett 443 (.lst (.int .u8)) (.lapp (.lit 0) [(.elt .u8 6 0),(.elt .u8 6 1),(.elt .u8 6 2),(.elt .u8 6 3),(.elt .u8 6 4),(.elt .u8 6 5),(.elt .u8 6 6),(.elt .u8 6 7),(.elt .u8 6 8),(.elt .u8 6 9),(.elt .u8 6 10),(.elt .u8 6 11),(.elt .u8 6 12),(.elt .u8 6 13),(.elt .u8 6 14),(.elt .u8 6 15),(.elt .u8 6 16),(.elt .u8 6 17),(.elt .u8 6 18),(.elt .u8 6 19),(.elt .u8 6 20),(.elt .u8 6 21),(.elt .u8 6 22),(.elt .u8 6 23),(.elt .u8 6 24),(.elt .u8 6 25),(.elt .u8 6 26),(.elt .u8 6 27),(.elt .u8 6 28),(.elt .u8 6 29),(.elt .u8 6 30),(.elt .u8 6 31),(.elt .u8 6 32),(.elt .u8 6 33),(.elt .u8 6 34),(.elt .u8 6 35),(.elt .u8 6 36),(.elt .u8 6 37),(.elt .u8 6 38),(.elt .u8 6 39),(.elt .u8 6 40),(.elt .u8 6 41),(.elt .u8 6 42),(.elt .u8 6 43),(.elt .u8 6 44),(.elt .u8 6 45),(.elt .u8 6 46),(.elt .u8 6 47),(.elt .u8 6 48),(.elt .u8 6 49),(.elt .u8 6 50),(.elt .u8 6 51),(.elt .u8 6 52),(.elt .u8 6 53),(.elt .u8 6 54),(.elt .u8 6 55),(.elt .u8 6 56),(.elt .u8 6 57),(.elt .u8 6 58),(.elt .u8 6 59),(.elt .u8 6 60),(.elt .u8 6 61),(.elt .u8 6 62),(.elt .u8 6 63)])
 (.lett 444 (.lst (.int .u8)) (.lsub (.var 443) (.lit 0) (.var 347))
 (.lett 445 (.int .i64) (.llen (.lit 0))
 (.lett 446 .bit (.cmp .lss (.var 445) (.lit 2147483648))
 (.lett 447 (.int .i64) (.llen (.var 444))
 (.lett 448 .bit (.cmp .lss (.var 447) (.lit 2147483648))
 (.nz (.var 446)
 (.nz (.var 448)
 (.lett 449 (.lst (.int .u8)) (.lcat (.lit 0) (.var 444))
 (.lett 539 (.lst (.int .u8)) (.lapp (.lit 0) [.lit 128])
 (.lett 540 (.int .i64) (.llen (.var 449))
 (.lett 541 .bit (.cmp .lss (.var 540) (.lit 2147483648))
 (.lett 542 (.int .i64) (.llen (.var 539))
 (.lett 543 .bit (.cmp .lss (.var 542) (.lit 2147483648))
 (.nz (.var 541)
 (.nz (.var 543)
 (.lett 544 (.lst (.int .u8)) (.lcat (.var 449) (.var 539))
 (.loop [.var 544] [(.lst (.int .u8))] 635
 (.lett 636 (.int .i64) (.llen (.var 635))
 (.lett 637 (.int .i64) (.bin .rem .i64 (.var 636) (.lit 64))
 (.lett 638 .bit (.cmp .neq (.var 637) (.lit 56))
 (.split 638
 (.lett 639 (.int .i64) (.llen (.var 635))
 (.lett 640 .bit (.cmp .lss (.var 639) (.lit 4294967296))
 (.nz (.var 640)
 (.lett 641 (.lst (.int .u8)) (.lapp (.var 635) [.lit 0])
 (.back 1 [.var 641])))))
 (.lett 639 (.int .u64) (.conv .u64 (.var 7))
 (.lett 640 (.int .u64) (.bin .shl .u64 (.var 639) (.lit 3))
 (.lett 641 (.int .u64) (.bin .shr .u64 (.var 640) (.lit 56))
 (.lett 642 (.int .u8) (.conv .u8 (.var 641))
 (.lett 643 (.int .i64) (.llen (.var 635))
 (.lett 644 .bit (.cmp .lss (.var 643) (.lit 4294967296))
 (.nz (.var 644)
 (.lett 645 (.lst (.int .u8)) (.lapp (.var 635) [.var 642])
 (.lett 646 (.int .u64) (.conv .u64 (.var 7))
 (.lett 647 (.int .u64) (.bin .shl .u64 (.var 646) (.lit 3))
 (.lett 648 (.int .u64) (.bin .shr .u64 (.var 647) (.lit 48))
 (.lett 649 (.int .u8) (.conv .u8 (.var 648))
 (.lett 650 (.int .i64) (.llen (.var 645))
 (.lett 651 .bit (.cmp .lss (.var 650) (.lit 4294967296))
 (.nz (.var 651)
 (.lett 652 (.lst (.int .u8)) (.lapp (.var 645) [.var 649])
 (.lett 653 (.int .u64) (.conv .u64 (.var 7))
 (.lett 654 (.int .u64) (.bin .shl .u64 (.var 653) (.lit 3))
 (.lett 655 (.int .u64) (.bin .shr .u64 (.var 654) (.lit 40))
 (.lett 656 (.int .u8) (.conv .u8 (.var 655))
 (.lett 657 (.int .i64) (.llen (.var 652))
 (.lett 658 .bit (.cmp .lss (.var 657) (.lit 4294967296))
 (.nz (.var 658)
 (.lett 659 (.lst (.int .u8)) (.lapp (.var 652) [.var 656])
 (.lett 660 (.int .u64) (.conv .u64 (.var 7))
 (.lett 661 (.int .u64) (.bin .shl .u64 (.var 660) (.lit 3))
 (.lett 662 (.int .u64) (.bin .shr .u64 (.var 661) (.lit 32))
 (.lett 663 (.int .u8) (.conv .u8 (.var 662))
 (.lett 664 (.int .i64) (.llen (.var 659))
 (.lett 665 .bit (.cmp .lss (.var 664) (.lit 4294967296))
 (.nz (.var 665)
 (.lett 666 (.lst (.int .u8)) (.lapp (.var 659) [.var 663])
 (.lett 667 (.int .u64) (.conv .u64 (.var 7))
 (.lett 668 (.int .u64) (.bin .shl .u64 (.var 667) (.lit 3))
 (.lett 669 (.int .u64) (.bin .shr .u64 (.var 668) (.lit 24))
 (.lett 670 (.int .u8) (.conv .u8 (.var 669))
 (.lett 671 (.int .i64) (.llen (.var 666))
 (.lett 672 .bit (.cmp .lss (.var 671) (.lit 4294967296))
 (.nz (.var 672)
 (.lett 673 (.lst (.int .u8)) (.lapp (.var 666) [.var 670])
 (.lett 674 (.int .u64) (.conv .u64 (.var 7))
 (.lett 675 (.int .u64) (.bin .shl .u64 (.var 674) (.lit 3))
 (.lett 676 (.int .u64) (.bin .shr .u64 (.var 675) (.lit 16))
 (.lett 677 (.int .u8) (.conv .u8 (.var 676))
 (.lett 678 (.int .i64) (.llen (.var 673))
 (.lett 679 .bit (.cmp .lss (.var 678) (.lit 4294967296))
 (.nz (.var 679)
 (.lett 680 (.lst (.int .u8)) (.lapp (.var 673) [.var 677])
 (.lett 681 (.int .u64) (.conv .u64 (.var 7))
 (.lett 682 (.int .u64) (.bin .shl .u64 (.var 681) (.lit 3))
 (.lett 683 (.int .u64) (.bin .shr .u64 (.var 682) (.lit 8))
 (.lett 684 (.int .u8) (.conv .u8 (.var 683))
 (.lett 685 (.int .i64) (.llen (.var 680))
 (.lett 686 .bit (.cmp .lss (.var 685) (.lit 4294967296))
 (.nz (.var 686)
 (.lett 687 (.lst (.int .u8)) (.lapp (.var 680) [.var 684])
 (.lett 688 (.int .u64) (.conv .u64 (.var 7))
 (.lett 689 (.int .u64) (.bin .shl .u64 (.var 688) (.lit 3))
 (.lett 690 (.int .u64) (.bin .shr .u64 (.var 689) (.lit 0))
 (.lett 691 (.int .u8) (.conv .u8 (.var 690))
 (.lett 692 (.int .i64) (.llen (.var 687))
 (.lett 693 .bit (.cmp .lss (.var 692) (.lit 4294967296))
 (.nz (.var 693)
 (.lett 694 (.lst (.int .u8)) (.lapp (.var 687) [.var 691])
 (.lett 695 (.int .i64) (.llen (.var 694))
 (.lett 696 (.arr .u32 8) (.lsub (.var 5) (.lit 0) (.lit 8))
 (.loop [.lit 0,.var 696] [(.int .i64),(.arr .u32 8)] 697
 (.lett 699 (.int .i64) (.bin .sub .i64 (.var 695) (.var 697))
 (.lett 700 .bit (.cmp .gtr (.var 699) (.lit 0))
 (.split 700
 (.lett 701 (.int .i64) (.llen (.var 694))
 (.lett 702 (.int .i64) (.bin .sub .i64 (.var 701) (.var 697))
 (.lett 703 (.int .i64) (.bin .sub .i64 (.var 695) (.var 697))
 (.lett 704 .bit (.cmp .leq (.lit 0) (.lit 0))
 (.lett 705 .bit (.cmp .leq (.lit 0) (.lit 64))
 (.lett 706 .bit (.cmp .leq (.lit 64) (.var 702))
 (.lett 707 (.int .i64) (.bin .add .i64 (.var 697) (.lit 0))
 (.lett 708 (.int .i64) (.bin .add .i64 (.var 697) (.lit 64))
 (.nz (.var 704)
 (.nz (.var 705)
 (.nz (.var 706)
 (.lett 709 (.arr .u32 64) (.lapp (.lit 0) [.lit 0,.lit 0,.lit 0,.lit 0,.lit 0,.lit 0,.lit 0,.lit 0,.lit 0,.lit 0,.lit 0,.lit 0,.lit 0,.lit 0,.lit 0,.lit 0,.lit 0,.lit 0,.lit 0,.lit 0,.lit 0,.lit 0,.lit 0,.lit 0,.lit 0,.lit 0,.lit 0,.lit 0,.lit 0,.lit 0,.lit 0,.lit 0,.lit 0,.lit 0,.lit 0,.lit 0,.lit 0,.lit 0,.lit 0,.lit 0,.lit 0,.lit 0,.lit 0,.lit 0,.lit 0,.lit 0,.lit 0,.lit 0,.lit 0,.lit 0,.lit 0,.lit 0,.lit 0,.lit 0,.lit 0,.lit 0,.lit 0,.lit 0,.lit 0,.lit 0,.lit 0,.lit 0,.lit 0,.lit 0])
 (.loop [.lit 0,.var 709] [(.int .i64),(.arr .u32 64)] 710
 (.lett 712 .bit (.cmp .lss (.var 710) (.lit 64))
 (.split 712
 (.lett 713 .bit (.cmp .lss (.var 710) (.lit 16))
 (.split 713
 (.lett 858 (.int .i64) (.bin .mul .i64 (.lit 4) (.var 710))
 (.lett 906 (.int .i64) (.bin .sub .i64 (.var 708) (.var 707))
 (.lett 907 .bit (.cmp .leq (.lit 0) (.var 858))
 (.lett 908 .bit (.cmp .lss (.var 858) (.var 906))
 (.lett 909 (.int .i64) (.bin .add .i64 (.var 707) (.var 858))
 (.nz (.var 907)
 (.nz (.var 908)
 (.lett 954 (.int .u8) (.lget (.var 694) (.var 909))
 (.lett 1050 (.int .u32) (.bin .shl .u32 (.var 954) (.lit 24))
 (.lett 1194 (.int .i64) (.bin .mul .i64 (.lit 4) (.var 710))
 (.lett 1242 (.int .i64) (.bin .add .i64 (.var 1194) (.lit 1))
 (.lett 1290 (.int .i64) (.bin .sub .i64 (.var 708) (.var 707))
 (.lett 1291 .bit (.cmp .leq (.lit 0) (.var 1242))
 (.lett 1292 .bit (.cmp .lss (.var 1242) (.var 1290))
 (.lett 1293 (.int .i64) (.bin .add .i64 (.var 707) (.var 1242))
 (.nz (.var 1291)
 (.nz (.var 1292)
 (.lett 1338 (.int .u8) (.lget (.var 694) (.var 1293))
 (.lett 1434 (.int .u32) (.bin .shl .u32 (.var 1338) (.lit 16))
 (.lett 1482 (.int .u32) (.bin .or .u32 (.var 1050) (.var 1434))
 (.lett 1626 (.int .i64) (.bin .mul .i64 (.lit 4) (.var 710))
 (.lett 1674 (.int .i64) (.bin .add .i64 (.var 1626) (.lit 2))
 (.lett 1722 (.int .i64) (.bin .sub .i64 (.var 708) (.var 707))
 (.lett 1723 .bit (.cmp .leq (.lit 0) (.var 1674))
 (.lett 1724 .bit (.cmp .lss (.var 1674) (.var 1722))
 (.lett 1725 (.int .i64) (.bin .add .i64 (.var 707) (.var 1674))
 (.nz (.var 1723)
 (.nz (.var 1724)
 (.lett 1770 (.int .u8) (.lget (.var 694) (.var 1725))
 (.lett 1866 (.int .u32) (.bin .shl .u32 (.var 1770) (.lit 8))
 (.lett 1914 (.int .u32) (.bin .or .u32 (.var 1482) (.var 1866))
 (.lett 2058 (.int .i64) (.bin .mul .i64 (.lit 4) (.var 710))
 (.lett 2106 (.int .i64) (.bin .add .i64 (.var 2058) (.lit 3))
 (.lett 2154 (.int .i64) (.bin .sub .i64 (.var 708) (.var 707))
 (.lett 2155 .bit (.cmp .leq (.lit 0) (.var 2106))
 (.lett 2156 .bit (.cmp .lss (.var 2106) (.var 2154))
 (.lett 2157 (.int .i64) (.bin .add .i64 (.var 707) (.var 2106))
 (.nz (.var 2155)
 (.nz (.var 2156)
 (.lett 2202 (.int .u8) (.lget (.var 694) (.var 2157))
 (.lett 2298 (.int .u32) (.bin .or .u32 (.var 1914) (.var 2202))
 (.lett 2346 .bit (.cmp .leq (.lit 0) (.var 710))
 (.lett 2347 .bit (.cmp .lss (.var 710) (.lit 64))
 (.nz (.var 2346)
 (.nz (.var 2347)
 (.lett 2394 (.arr .u32 64) (.lsub (.var 711) (.lit 0) (.lit 64))
 (.lett 2395 (.arr .u32 64) (.lput (.var 2394) (.var 710) (.var 2298))
 (.lett 2442 (.int .i64) (.bin .add .i64 (.var 710) (.lit 1))
 (.lett 2443 (.arr .u32 64) (.lsub (.var 2395) (.lit 0) (.lit 64))
 (.back 3 [.var 2442,.var 2443]))))))))))))))))))))))))))))))))))))))))))))))))))
 (.lett 762 (.int .i64) (.bin .sub .i64 (.var 710) (.lit 15))
 (.lett 810 .bit (.cmp .leq (.lit 0) (.var 762))
 (.lett 811 .bit (.cmp .lss (.var 762) (.lit 64))
 (.nz (.var 810)
 (.nz (.var 811)
 (.lett 858 (.int .u32) (.lget (.var 711) (.var 762))
 (.lett 954 (.int .i64) (.bin .sub .i64 (.var 710) (.lit 2))
 (.lett 1002 .bit (.cmp .leq (.lit 0) (.var 954))
 (.lett 1003 .bit (.cmp .lss (.var 954) (.lit 64))
 (.nz (.var 1002)
 (.nz (.var 1003)
 (.lett 1050 (.int .u32) (.lget (.var 711) (.var 954))
 (.req 0 [.var 1050,.lit 17]
 (.lett 1290 (.int .u32) (.app 0 0 [.var 1050,.lit 17])
 (.req 0 [.var 1050,.lit 19]
 (.lett 1386 (.int .u32) (.app 0 0 [.var 1050,.lit 19])
 (.lett 1434 (.int .u32) (.bin .xor .u32 (.var 1290) (.var 1386))
 (.lett 1530 (.int .u32) (.bin .shr .u32 (.var 1050) (.lit 10))
 (.lett 1578 (.int .u32) (.bin .xor .u32 (.var 1434) (.var 1530))
 (.lett 1674 (.int .i64) (.bin .sub .i64 (.var 710) (.lit 7))
 (.lett 1722 .bit (.cmp .leq (.lit 0) (.var 1674))
 (.lett 1723 .bit (.cmp .lss (.var 1674) (.lit 64))
 (.nz (.var 1722)
 (.nz (.var 1723)
 (.lett 1770 (.int .u32) (.lget (.var 711) (.var 1674))
 (.lett 1818 (.int .u32) (.bin .add .u32 (.var 1578) (.var 1770))
 (.req 0 [.var 858,.lit 7]
 (.lett 1914 (.int .u32) (.app 0 0 [.var 858,.lit 7])
 (.req 0 [.var 858,.lit 18]
 (.lett 2010 (.int .u32) (.app 0 0 [.var 858,.lit 18])
 (.lett 2058 (.int .u32) (.bin .xor .u32 (.var 1914) (.var 2010))
 (.lett 2154 (.int .u32) (.bin .shr .u32 (.var 858) (.lit 3))
 (.lett 2202 (.int .u32) (.bin .xor .u32 (.var 2058) (.var 2154))
 (.lett 2250 (.int .u32) (.bin .add .u32 (.var 1818) (.var 2202))
 (.lett 2346 (.int .i64) (.bin .sub .i64 (.var 710) (.lit 16))
 (.lett 2394 .bit (.cmp .leq (.lit 0) (.var 2346))
 (.lett 2395 .bit (.cmp .lss (.var 2346) (.lit 64))
 (.nz (.var 2394)
 (.nz (.var 2395)
 (.lett 2442 (.int .u32) (.lget (.var 711) (.var 2346))
 (.lett 2490 (.int .u32) (.bin .add .u32 (.var 2250) (.var 2442))
 (.lett 2538 .bit (.cmp .leq (.lit 0) (.var 710))
 (.lett 2539 .bit (.cmp .lss (.var 710) (.lit 64))
 (.nz (.var 2538)
 (.nz (.var 2539)
 (.lett 2586 (.arr .u32 64) (.lsub (.var 711) (.lit 0) (.lit 64))
 (.lett 2587 (.arr .u32 64) (.lput (.var 2586) (.var 710) (.var 2490))
 (.lett 2634 (.int .i64) (.bin .add .i64 (.var 710) (.lit 1))
 (.lett 2635 (.arr .u32 64) (.lsub (.var 2587) (.lit 0) (.lit 64))
 (.back 3 [.var 2634,.var 2635]))))))))))))))))))))))))))))))))))))))))))))))))))))
 (.lett 713 (.arr .u32 8) (.lsub (.var 698) (.lit 0) (.lit 8))
 (.loop [.lit 0,.var 713] [(.int .i64),(.arr .u32 8)] 714
 (.lett 716 .bit (.cmp .lss (.var 714) (.lit 64))
 (.split 716
 (.req 0 [(.elt .u32 715 4),.lit 6]
 (.lett 1149 (.int .u32) (.app 0 0 [(.elt .u32 715 4),.lit 6])
 (.req 0 [(.elt .u32 715 4),.lit 11]
 (.lett 1245 (.int .u32) (.app 0 0 [(.elt .u32 715 4),.lit 11])
 (.lett 1293 (.int .u32) (.bin .xor .u32 (.var 1149) (.var 1245))
 (.req 0 [(.elt .u32 715 4),.lit 25]
 (.lett 1389 (.int .u32) (.app 0 0 [(.elt .u32 715 4),.lit 25])
 (.lett 1437 (.int .u32) (.bin .xor .u32 (.var 1293) (.var 1389))
 (.lett 1485 (.int .u32) (.bin .add .u32 (.elt .u32 715 7) (.var 1437))
 (.lett 1677 (.int .u32) (.bin .and .u32 (.elt .u32 715 4) (.elt .u32 715 5))
 (.lett 1773 (.int .u32) (.bin .xor .u32 (.lit 4294967295) (.elt .u32 715 4))
 (.lett 1917 (.int .u32) (.bin .and .u32 (.var 1773) (.elt .u32 715 6))
 (.lett 1965 (.int .u32) (.bin .xor .u32 (.var 1677) (.var 1917))
 (.lett 2013 (.int .u32) (.bin .add .u32 (.var 1485) (.var 1965))
 (.lett 2109 .bit (.cmp .leq (.lit 0) (.var 714))
 (.lett 2110 .bit (.cmp .lss (.var 714) (.lit 64))
 (.nz (.var 2109)
 (.nz (.var 2110)
 (.lett 2157 (.int .u32) (.sel (.var 714) [.lit 1116352408,.lit 1899447441,.lit 3049323471,.lit 3921009573,.lit 961987163,.lit 1508970993,.lit 2453635748,.lit 2870763221,.lit 3624381080,.lit 310598401,.lit 607225278,.lit 1426881987,.lit 1925078388,.lit 2162078206,.lit 2614888103,.lit 3248222580,.lit 3835390401,.lit 4022224774,.lit 264347078,.lit 604807628,.lit 770255983,.lit 1249150122,.lit 1555081692,.lit 1996064986,.lit 2554220882,.lit 2821834349,.lit 2952996808,.lit 3210313671,.lit 3336571891,.lit 3584528711,.lit 113926993,.lit 338241895,.lit 666307205,.lit 773529912,.lit 1294757372,.lit 1396182291,.lit 1695183700,.lit 1986661051,.lit 2177026350,.lit 2456956037,.lit 2730485921,.lit 2820302411,.lit 3259730800,.lit 3345764771,.lit 3516065817,.lit 3600352804,.lit 4094571909,.lit 275423344,.lit 430227734,.lit 506948616,.lit 659060556,.lit 883997877,.lit 958139571,.lit 1322822218,.lit 1537002063,.lit 1747873779,.lit 1955562222,.lit 2024104815,.lit 2227730452,.lit 2361852424,.lit 2428436474,.lit 2756734187,.lit 3204031479,.lit 3329325298])
 (.lett 2205 (.int .u32) (.bin .add .u32 (.var 2013) (.var 2157))
 (.lett 2301 .bit (.cmp .leq (.lit 0) (.var 714))
 (.lett 2302 .bit (.cmp .lss (.var 714) (.lit 64))
 (.nz (.var 2301)
 (.nz (.var 2302)
 (.lett 2349 (.int .u32) (.lget (.var 711) (.var 714))
 (.lett 2397 (.int .u32) (.bin .add .u32 (.var 2205) (.var 2349))
 (.req 0 [(.elt .u32 715 0),.lit 2]
 (.lett 2541 (.int .u32) (.app 0 0 [(.elt .u32 715 0),.lit 2])
 (.req 0 [(.elt .u32 715 0),.lit 13]
 (.lett 2637 (.int .u32) (.app 0 0 [(.elt .u32 715 0),.lit 13])
 (.lett 2685 (.int .u32) (.bin .xor .u32 (.var 2541) (.var 2637))
 (.req 0 [(.elt .u32 715 0),.lit 22]
 (.lett 2781 (.int .u32) (.app 0 0 [(.elt .u32 715 0),.lit 22])
 (.lett 2829 (.int .u32) (.bin .xor .u32 (.var 2685) (.var 2781))
 (.lett 3021 (.int .u32) (.bin .and .u32 (.elt .u32 715 0) (.elt .u32 715 1))
 (.lett 3213 (.int .u32) (.bin .and .u32 (.elt .u32 715 0) (.elt .u32 715 2))
 (.lett 3261 (.int .u32) (.bin .xor .u32 (.var 3021) (.var 3213))
 (.lett 3501 (.int .u32) (.bin .and .u32 (.elt .u32 715 1) (.elt .u32 715 2))
 (.lett 3549 (.int .u32) (.bin .xor .u32 (.var 3261) (.var 3501))
 (.lett 3597 (.int .u32) (.bin .add .u32 (.var 2829) (.var 3549))
 (.lett 3693 (.int .u32) (.bin .add .u32 (.var 2397) (.var 3597))
 (.lett 3694 (.int .u32) (.bin .add .u32 (.elt .u32 715 3) (.var 2397))
 (.lett 3695 (.int .i64) (.bin .add .i64 (.var 714) (.lit 1))
 (.lett 3696 (.arr .u32 8) (.lapp (.lit 0) [.var 3693,(.elt .u32 715 0),(.elt .u32 715 1),(.elt .u32 715 2),.var 3694,(.elt .u32 715 4),(.elt .u32 715 5),(.elt .u32 715 6)])
 (.back 4 [.var 3695,.var 3696])))))))))))))))))))))))))))))))))))))))))))))
 (.lett 1101 (.int .u32) (.bin .add .u32 (.elt .u32 698 0) (.elt .u32 715 0))
 (.lett 1677 (.int .u32) (.bin .add .u32 (.elt .u32 698 1) (.elt .u32 715 1))
 (.lett 2253 (.int .u32) (.bin .add .u32 (.elt .u32 698 2) (.elt .u32 715 2))
 (.lett 2829 (.int .u32) (.bin .add .u32 (.elt .u32 698 3) (.elt .u32 715 3))
 (.lett 3405 (.int .u32) (.bin .add .u32 (.elt .u32 698 4) (.elt .u32 715 4))
 (.lett 3981 (.int .u32) (.bin .add .u32 (.elt .u32 698 5) (.elt .u32 715 5))
 (.lett 4557 (.int .u32) (.bin .add .u32 (.elt .u32 698 6) (.elt .u32 715 6))
 (.lett 5133 (.int .u32) (.bin .add .u32 (.elt .u32 698 7) (.elt .u32 715 7))
 (.lett 5325 (.int .i64) (.llen (.var 694))
 (.lett 5326 (.int .i64) (.bin .sub .i64 (.var 5325) (.var 697))
 (.lett 5327 (.int .i64) (.bin .sub .i64 (.var 695) (.var 697))
 (.lett 5328 .bit (.cmp .leq (.lit 0) (.lit 64))
 (.lett 5329 .bit (.cmp .leq (.lit 64) (.var 5327))
 (.lett 5330 .bit (.cmp .leq (.var 5327) (.var 5326))
 (.lett 5331 (.int .i64) (.bin .add .i64 (.var 697) (.lit 64))
 (.lett 5332 (.int .i64) (.bin .add .i64 (.var 697) (.var 5327))
 (.nz (.var 5328)
 (.nz (.var 5329)
 (.nz (.var 5330)
 (.lett 5333 (.arr .u32 8) (.lapp (.lit 0) [.var 1101,.var 1677,.var 2253,.var 2829,.var 3405,.var 3981,.var 4557,.var 5133])
 (.back 2 [.var 5331,.var 5333]))))))))))))))))))))))))))))))))))))))))
 (.lett 701 (.int .u32) (.bin .shr .u32 (.elt .u32 698 0) (.lit 24))
 (.lett 702 (.int .u8) (.conv .u8 (.var 701))
 (.lett 703 (.int .u32) (.bin .shr .u32 (.elt .u32 698 0) (.lit 16))
 (.lett 704 (.int .u8) (.conv .u8 (.var 703))
 (.lett 705 (.int .u32) (.bin .shr .u32 (.elt .u32 698 0) (.lit 8))
 (.lett 706 (.int .u8) (.conv .u8 (.var 705))
 (.lett 707 (.int .u8) (.conv .u8 (.elt .u32 698 0))
 (.lett 708 (.int .u32) (.bin .shr .u32 (.elt .u32 698 1) (.lit 24))
 (.lett 709 (.int .u8) (.conv .u8 (.var 708))
 (.lett 710 (.int .u32) (.bin .shr .u32 (.elt .u32 698 1) (.lit 16))
 (.lett 711 (.int .u8) (.conv .u8 (.var 710))
 (.lett 712 (.int .u32) (.bin .shr .u32 (.elt .u32 698 1) (.lit 8))
 (.lett 713 (.int .u8) (.conv .u8 (.var 712))
 (.lett 714 (.int .u8) (.conv .u8 (.elt .u32 698 1))
 (.lett 715 (.int .u32) (.bin .shr .u32 (.elt .u32 698 2) (.lit 24))
 (.lett 716 (.int .u8) (.conv .u8 (.var 715))
 (.lett 717 (.int .u32) (.bin .shr .u32 (.elt .u32 698 2) (.lit 16))
 (.lett 718 (.int .u8) (.conv .u8 (.var 717))
 (.lett 719 (.int .u32) (.bin .shr .u32 (.elt .u32 698 2) (.lit 8))
 (.lett 720 (.int .u8) (.conv .u8 (.var 719))
 (.lett 721 (.int .u8) (.conv .u8 (.elt .u32 698 2))
 (.lett 722 (.int .u32) (.bin .shr .u32 (.elt .u32 698 3) (.lit 24))
 (.lett 723 (.int .u8) (.conv .u8 (.var 722))
 (.lett 724 (.int .u32) (.bin .shr .u32 (.elt .u32 698 3) (.lit 16))
 (.lett 725 (.int .u8) (.conv .u8 (.var 724))
 (.lett 726 (.int .u32) (.bin .shr .u32 (.elt .u32 698 3) (.lit 8))
 (.lett 727 (.int .u8) (.conv .u8 (.var 726))
 (.lett 728 (.int .u8) (.conv .u8 (.elt .u32 698 3))
 (.lett 729 (.int .u32) (.bin .shr .u32 (.elt .u32 698 4) (.lit 24))
 (.lett 730 (.int .u8) (.conv .u8 (.var 729))
 (.lett 731 (.int .u32) (.bin .shr .u32 (.elt .u32 698 4) (.lit 16))
 (.lett 732 (.int .u8) (.conv .u8 (.var 731))
 (.lett 733 (.int .u32) (.bin .shr .u32 (.elt .u32 698 4) (.lit 8))
 (.lett 734 (.int .u8) (.conv .u8 (.var 733))
 (.lett 735 (.int .u8) (.conv .u8 (.elt .u32 698 4))
 (.lett 736 (.int .u32) (.bin .shr .u32 (.elt .u32 698 5) (.lit 24))
 (.lett 737 (.int .u8) (.conv .u8 (.var 736))
 (.lett 738 (.int .u32) (.bin .shr .u32 (.elt .u32 698 5) (.lit 16))
 (.lett 739 (.int .u8) (.conv .u8 (.var 738))
 (.lett 740 (.int .u32) (.bin .shr .u32 (.elt .u32 698 5) (.lit 8))
 (.lett 741 (.int .u8) (.conv .u8 (.var 740))
 (.lett 742 (.int .u8) (.conv .u8 (.elt .u32 698 5))
 (.lett 743 (.int .u32) (.bin .shr .u32 (.elt .u32 698 6) (.lit 24))
 (.lett 744 (.int .u8) (.conv .u8 (.var 743))
 (.lett 745 (.int .u32) (.bin .shr .u32 (.elt .u32 698 6) (.lit 16))
 (.lett 746 (.int .u8) (.conv .u8 (.var 745))
 (.lett 747 (.int .u32) (.bin .shr .u32 (.elt .u32 698 6) (.lit 8))
 (.lett 748 (.int .u8) (.conv .u8 (.var 747))
 (.lett 749 (.int .u8) (.conv .u8 (.elt .u32 698 6))
 (.lett 750 (.int .u32) (.bin .shr .u32 (.elt .u32 698 7) (.lit 24))
 (.lett 751 (.int .u8) (.conv .u8 (.var 750))
 (.lett 752 (.int .u32) (.bin .shr .u32 (.elt .u32 698 7) (.lit 16))
 (.lett 753 (.int .u8) (.conv .u8 (.var 752))
 (.lett 754 (.int .u32) (.bin .shr .u32 (.elt .u32 698 7) (.lit 8))
 (.lett 755 (.int .u8) (.conv .u8 (.var 754))
 (.lett 756 (.int .u8) (.conv .u8 (.elt .u32 698 7))
 (.lett 757 (.arr .u8 32) (.lapp (.lit 0) [.var 702,.var 704,.var 706,.var 707,.var 709,.var 711,.var 713,.var 714,.var 716,.var 718,.var 720,.var 721,.var 723,.var 725,.var 727,.var 728,.var 730,.var 732,.var 734,.var 735,.var 737,.var 739,.var 741,.var 742,.var 744,.var 746,.var 748,.var 749,.var 751,.var 753,.var 755,.var 756])
 (.ret [.var 757])))))))))))))))))))))))))))))))))))))))))))))))))))))))))))))))))))))))))))))))))))))))))))))))))))))))))))))))))))))))))))))))))))))))))))))))))))))))))))))))))))
set_option maxHeartbeats 8000000 in
theorem law_dsum (f1 f:FuncId) (e:Nat->Int) (hp:(kSum f).pre [e 0]):tDSum.says [kRot f1] ⟨fun ys=>ys=(kSum f).sem [e 0],[]⟩ e:=by
 have hL:(dec (e 0)).length<1073741824:=hp
 clear hp
 show tDSum.says _ ⟨fun ys=>ys=[enc (sha (dec (e 0)))],[]⟩ e
 obtain ⟨b,hb⟩:∃ b:List Int,b=dec (e 0):=⟨_,rfl⟩
 rw [<- hb] at hL ⊢
 intro a1 k1
 have v1:e 1=((dec (e 0)).length:Int):=a1
 clear a1 k1
 rw [<- hb] at v1
 intro a2 k2
 have d2:dec (e 2)=dec (0)++[1779033703,3144134277,1013904242,2773480762,1359893119,2600822924,528734635,1541459225]:=(congrArg dec (show e 2=enc (dec (0)++[1779033703,3144134277,1013904242,2773480762,1359893119,2600822924,528734635,1541459225]) from a2)).trans (dec_enc _)
 rw [dec_zero] at d2
 try simp only [List.nil_append] at d2
 clear a2 k2
 intro a3 k3
 have d3:dec (e 3)=dec (0)++[0,0,0,0,0,0,0,0,0,0,0,0,0,0,0,0,0,0,0,0,0,0,0,0,0,0,0,0,0,0,0,0,0,0,0,0,0,0,0,0,0,0,0,0,0,0,0,0,0,0,0,0,0,0,0,0,0,0,0,0,0,0,0,0]:=(congrArg dec (show e 3=enc (dec (0)++[0,0,0,0,0,0,0,0,0,0,0,0,0,0,0,0,0,0,0,0,0,0,0,0,0,0,0,0,0,0,0,0,0,0,0,0,0,0,0,0,0,0,0,0,0,0,0,0,0,0,0,0,0,0,0,0,0,0,0,0,0,0,0,0]) from a3)).trans (dec_enc _)
 rw [dec_zero] at d3
 try simp only [List.nil_append] at d3
 clear a3 k3
 refine ⟨fun us=>∃ (n:Nat) (s w:Int),us=[(n:Int),s,w,(n:Int),1]/\n<=b.length/\dec s=Sha.run K0 H0 (fun k=>b.getD k 0) (n/64)/\(∀ i,i<n%64->(dec w).getD i 0=b.getD (64*(n/64)+i) 0),fun us=>(b.length-us.headD 0).toNat,⟨0,e 2,e 3,rfl,by omega,by rw [d2];rfl,fun i hi=>by omega⟩,fun e' he0 hkk0 hI0=>?_⟩
 obtain ⟨n,s,w,hus,hn,hs,hw⟩:=hI0
 have v4:e' 4=(n:Int):=(List.cons.inj hus).1
 have u5:e' 5=s:=(List.cons.inj (List.cons.inj hus).2).1
 have u6:e' 6=w:=(List.cons.inj (List.cons.inj (List.cons.inj hus).2).2).1
 have v7:e' 7=(n:Int):=(List.cons.inj (List.cons.inj (List.cons.inj (List.cons.inj hus).2).2).2).1
 have v8:e' 8=1:=(List.cons.inj (List.cons.inj (List.cons.inj (List.cons.inj (List.cons.inj hus).2).2).2).2).1
 have l6:(dec (e' 6)).length=64:=hkk0.2.2.1.2
 have d5:dec (e' 5)=Sha.run K0 H0 (fun k=>b.getD k 0) (n/64):=by rw [u5];exact hs
 have z6:∀ i,i<n%64->(dec (e' 6)).getD i 0=b.getD (64*(n/64)+i) 0:=by rw [u6];exact hw
 have q0:dec (e' 0)=b:=by rw [he0 0 (by decide)];exact hb.symm
 have q1:e' 1=(b.length:Int):=(he0 1 (by decide)).trans v1
 clear hus hs hw u5 u6
 intro a9 k9
 have b9:=c_lt a9
 simp only [ev_var,ev_lit,ev_limb] at b9
 clear a9 k9
 refine ⟨fun h=>?_,fun h=>?_⟩
 ·have c9:=yes_ h b9
  clear h
  clear b9
  intro a10 k10
  have v10:e' 10=((dec (e' 0)).length:Int):=a10
  clear a10 k10
  first | rw [q0] at v10 | skip
  intro a11 k11
  have b11:=c_le a11
  simp only [ev_var,ev_lit,ev_limb] at b11
  clear a11 k11
  intro a12 k12
  have b12:=c_lt a12
  simp only [ev_var,ev_lit,ev_limb] at b12
  clear a12 k12
  refine ⟨nz_ b11 (by omega),?_⟩
  refine ⟨nz_ b12 (by omega),?_⟩
  clear b11 b12
  intro a13 k13
  have v13:e' 13=(dec (e' 0)).getD (e' 4).toNat 0:=a13
  clear a13 k13
  first | rw [q0,v4,Int.toNat_natCast] at v13 | skip
  intro a254 k254
  have v254:e' 254=binE .rem .i64 (e' 7) 64:=a254
  clear a254 k254
  have w254:e' 254=((n%64:Nat):Int):=by rw [v254,v7];show ((n:Int)).tmod 64=_;rw [Int.tmod_eq_emod_of_nonneg (by omega)];omega
  intro a446 k446
  have b446:=c_le a446
  simp only [ev_var,ev_lit,ev_limb] at b446
  clear a446 k446
  intro a447 k447
  have b447:=c_lt a447
  simp only [ev_var,ev_lit,ev_limb] at b447
  clear k447
  first | (have w447:e' 447=((b.length%64:Nat):Int):=a447.trans (by rw [<- l444];rfl)) | skip
  refine ⟨nz_ b446 (by omega),?_⟩
  refine ⟨nz_ b447 (by omega),?_⟩
  clear b446
  intro a494 k494
  have d494:dec (e' 494)=((dec (e' 6)).take (64:Int).toNat).drop ((0:Int)).toNat:=(congrArg dec (show e' 494=enc (((dec (e' 6)).take (64:Int).toNat).drop ((0:Int)).toNat) from a494)).trans (dec_enc _)
  try simp only [List.nil_append] at d494
  first | rw [t64 (by first | exact sch_len _ _ | (simp only [List.length_set];exact sch_len _ _) | exact run_len _ H0_len _ | exact l6 | (simp only [List.length_set];exact l6))] at d494 | skip
  clear a494 k494
  intro a495 k495
  have d495:dec (e' 495)=(dec (e' 494)).set (e' 254).toNat (e' 13):=(congrArg dec (show e' 495=enc ((dec (e' 494)).set (e' 254).toNat (e' 13)) from a495)).trans (dec_enc _)
  rw [d494] at d495
  try simp only [List.nil_append] at d495
  clear a495 k495
  rw [w254,Int.toNat_natCast,v13] at d495
  have l495:(dec (e' 495)).length=64:=by rw [d495,List.length_set];exact l6
  have z495:∀ i,i<n%64+1->(dec (e' 495)).getD i 0=b.getD (64*(n/64)+i) 0:=fun i hi=>by
   rw [d495]
   rcases Nat.lt_or_ge i (n%64) with h | h
   ·rw [List.getD_eq_getElem?_getD,List.getElem?_set_ne (by omega),<- List.getD_eq_getElem?_getD];exact z6 i h
   ·rw [show i=n%64 by omega,getset (by rw [l6];omega)];congr 1;omega
  intro a542 k542
  have v542:e' 542=(e' 7)+1:=by
   have h:e' 542=binE .add .i64 (e' 7) 1:=a542
   rw [h];simp only [binE,wr];omega
  clear a542 k542
  intro a543 k543
  have v543:e' 543=binE .rem .i64 (e' 542) 64:=a543
  clear a543 k543
  first | (have w543:e' 543=(((n+1)%64:Nat):Int):=by rw [v543,show e' 542=((n+1:Nat):Int) by omega];show (((n+1:Nat):Int)).tmod 64=_;rw [Int.tmod_eq_emod_of_nonneg (by omega)];omega) | skip
  intro a544 k544
  have b544:=c_eq a544
  simp only [ev_var,ev_lit,ev_limb] at b544
  clear a544 k544
  refine ⟨fun h=>?_,fun h=>?_⟩
  ·have c544:=yes_ h b544
   clear h
   intro a929 k929
   have d929:dec (e' 929)=dec (0)++[0,0,0,0,0,0,0,0,0,0,0,0,0,0,0,0,0,0,0,0,0,0,0,0,0,0,0,0,0,0,0,0,0,0,0,0,0,0,0,0,0,0,0,0,0,0,0,0,0,0,0,0,0,0,0,0,0,0,0,0,0,0,0,0]:=(congrArg dec (show e' 929=enc (dec (0)++[0,0,0,0,0,0,0,0,0,0,0,0,0,0,0,0,0,0,0,0,0,0,0,0,0,0,0,0,0,0,0,0,0,0,0,0,0,0,0,0,0,0,0,0,0,0,0,0,0,0,0,0,0,0,0,0,0,0,0,0,0,0,0,0]) from a929)).trans (dec_enc _)
   rw [dec_zero] at d929
   try simp only [List.nil_append] at d929
   clear a929 k929
   refine ⟨fun us=>∃ (t:Nat) (x:Int),t<=64/\us=[(t:Int),x]/\dec x=sch (fun i=>(dec (e' 495)).getD i 0) t,fun us=>(64-us.headD 0).toNat,⟨0,e' 929,by omega,rfl,by rw [d929];rfl⟩,fun e'' he1 hkk1 hI1=>?_⟩
   obtain ⟨t,x,ht,hus,hx⟩:=hI1
   have v930:e'' 930=(t:Int):=(List.cons.inj hus).1
   have v931:e'' 931=x:=(List.cons.inj (List.cons.inj hus).2).1
   have d931:dec (e'' 931)=sch (fun i=>(dec (e' 495)).getD i 0) t:=by rw [v931];exact hx
   have q495:dec (e'' 495)=dec (e' 495):=congrArg dec (he1 495 (by decide))
   clear hus hkk1 v931 hx
   intro a932 k932
   have b932:=c_lt a932
   simp only [ev_var,ev_lit,ev_limb] at b932
   clear a932 k932
   refine ⟨fun h=>?_,fun h=>?_⟩
   ·have c932:=yes_ h b932
    clear h
    clear b932
    intro a933 k933
    have b933:=c_lt a933
    simp only [ev_var,ev_lit,ev_limb] at b933
    clear a933 k933
    refine ⟨fun h=>?_,fun h=>?_⟩
    ·have c933:=yes_ h b933
     clear h
     intro a1078 k1078
     have v1078:e'' 1078=4*(e'' 930):=by
      have h:e'' 1078=binE .mul .i64 4 (e'' 930):=a1078
      rw [h];simp only [binE,wr];omega
     clear a1078 k1078
     intro a1126 k1126
     have b1126:=c_le a1126
     simp only [ev_var,ev_lit,ev_limb] at b1126
     clear a1126 k1126
     intro a1127 k1127
     have b1127:=c_lt a1127
     simp only [ev_var,ev_lit,ev_limb] at b1127
     clear a1127 k1127
     refine ⟨nz_ b1126 (by omega),?_⟩
     refine ⟨nz_ b1127 (by omega),?_⟩
     clear b1126 b1127
     intro a1174 k1174
     have v1174:e'' 1174=(dec (e'' 495)).getD (e'' 1078).toNat 0:=a1174
     clear a1174 k1174
     intro a1270 k1270
     have v1270:e'' 1270=binE .shl .u32 (e'' 1174) 24:=a1270
     clear a1270 k1270
     intro a1414 k1414
     have v1414:e'' 1414=4*(e'' 930):=by
      have h:e'' 1414=binE .mul .i64 4 (e'' 930):=a1414
      rw [h];simp only [binE,wr];omega
     clear a1414 k1414
     intro a1462 k1462
     have v1462:e'' 1462=(e'' 1414)+1:=by
      have h:e'' 1462=binE .add .i64 (e'' 1414) 1:=a1462
      rw [h];simp only [binE,wr];omega
     clear a1462 k1462
     intro a1510 k1510
     have b1510:=c_le a1510
     simp only [ev_var,ev_lit,ev_limb] at b1510
     clear a1510 k1510
     intro a1511 k1511
     have b1511:=c_lt a1511
     simp only [ev_var,ev_lit,ev_limb] at b1511
     clear a1511 k1511
     refine ⟨nz_ b1510 (by omega),?_⟩
     refine ⟨nz_ b1511 (by omega),?_⟩
     clear b1511
     intro a1558 k1558
     have v1558:e'' 1558=(dec (e'' 495)).getD (e'' 1462).toNat 0:=a1558
     clear a1558 k1558
     intro a1654 k1654
     have v1654:e'' 1654=binE .shl .u32 (e'' 1558) 16:=a1654
     clear a1654 k1654
     intro a1702 k1702
     have v1702:e'' 1702=binE .or .u32 (e'' 1270) (e'' 1654):=a1702
     clear a1702 k1702
     intro a1846 k1846
     have v1846:e'' 1846=4*(e'' 930):=by
      have h:e'' 1846=binE .mul .i64 4 (e'' 930):=a1846
      rw [h];simp only [binE,wr];omega
     clear a1846 k1846
     intro a1894 k1894
     have v1894:e'' 1894=(e'' 1846)+2:=by
      have h:e'' 1894=binE .add .i64 (e'' 1846) 2:=a1894
      rw [h];simp only [binE,wr];omega
     clear a1894 k1894
     intro a1942 k1942
     have b1942:=c_le a1942
     simp only [ev_var,ev_lit,ev_limb] at b1942
     clear a1942 k1942
     intro a1943 k1943
     have b1943:=c_lt a1943
     simp only [ev_var,ev_lit,ev_limb] at b1943
     clear a1943 k1943
     refine ⟨nz_ b1942 (by omega),?_⟩
     refine ⟨nz_ b1943 (by omega),?_⟩
     clear b1942 b1943
     intro a1990 k1990
     have v1990:e'' 1990=(dec (e'' 495)).getD (e'' 1894).toNat 0:=a1990
     clear a1990 k1990
     intro a2086 k2086
     have v2086:e'' 2086=binE .shl .u32 (e'' 1990) 8:=a2086
     clear a2086 k2086
     intro a2134 k2134
     have v2134:e'' 2134=binE .or .u32 (e'' 1702) (e'' 2086):=a2134
     clear a2134 k2134
     intro a2278 k2278
     have v2278:e'' 2278=4*(e'' 930):=by
      have h:e'' 2278=binE .mul .i64 4 (e'' 930):=a2278
      rw [h];simp only [binE,wr];omega
     clear a2278 k2278
     intro a2326 k2326
     have v2326:e'' 2326=(e'' 2278)+3:=by
      have h:e'' 2326=binE .add .i64 (e'' 2278) 3:=a2326
      rw [h];simp only [binE,wr];omega
     clear a2326 k2326
     intro a2374 k2374
     have b2374:=c_le a2374
     simp only [ev_var,ev_lit,ev_limb] at b2374
     clear a2374 k2374
     intro a2375 k2375
     have b2375:=c_lt a2375
     simp only [ev_var,ev_lit,ev_limb] at b2375
     clear a2375 k2375
     refine ⟨nz_ b2374 (by omega),?_⟩
     refine ⟨nz_ b2375 (by omega),?_⟩
     clear b2375
     intro a2422 k2422
     have v2422:e'' 2422=(dec (e'' 495)).getD (e'' 2326).toNat 0:=a2422
     clear a2422 k2422
     intro a2518 k2518
     have v2518:e'' 2518=binE .or .u32 (e'' 2134) (e'' 2422):=a2518
     clear a2518 k2518
     intro a2566 k2566
     have b2566:=c_le a2566
     simp only [ev_var,ev_lit,ev_limb] at b2566
     clear a2566 k2566
     intro a2567 k2567
     have b2567:=c_lt a2567
     simp only [ev_var,ev_lit,ev_limb] at b2567
     clear a2567 k2567
     refine ⟨nz_ b2566 (by omega),?_⟩
     refine ⟨nz_ b2567 (by omega),?_⟩
     clear b2567
     intro a2614 k2614
     have d2614:dec (e'' 2614)=((dec (e'' 931)).take (64:Int).toNat).drop ((0:Int)).toNat:=(congrArg dec (show e'' 2614=enc (((dec (e'' 931)).take (64:Int).toNat).drop ((0:Int)).toNat) from a2614)).trans (dec_enc _)
     rw [d931] at d2614
     try simp only [List.nil_append] at d2614
     first | rw [t64 (by first | exact sch_len _ _ | (simp only [List.length_set];exact sch_len _ _) | exact run_len _ H0_len _ | exact l6 | (simp only [List.length_set];exact l6))] at d2614 | skip
     clear a2614 k2614
     intro a2615 k2615
     have d2615:dec (e'' 2615)=(dec (e'' 2614)).set (e'' 930).toNat (e'' 2518):=(congrArg dec (show e'' 2615=enc ((dec (e'' 2614)).set (e'' 930).toNat (e'' 2518)) from a2615)).trans (dec_enc _)
     rw [d2614] at d2615
     try simp only [List.nil_append] at d2615
     clear a2615 k2615
     intro a2662 k2662
     have v2662:e'' 2662=(e'' 930)+1:=by
      have h:e'' 2662=binE .add .i64 (e'' 930) 1:=a2662
      rw [h];simp only [binE,wr];omega
     clear a2662 k2662
     intro a2663 k2663
     have d2663:dec (e'' 2663)=((dec (e'' 2615)).take (64:Int).toNat).drop ((0:Int)).toNat:=(congrArg dec (show e'' 2663=enc (((dec (e'' 2615)).take (64:Int).toNat).drop ((0:Int)).toNat) from a2663)).trans (dec_enc _)
     rw [d2615] at d2663
     try simp only [List.nil_append] at d2663
     first | rw [t64 (by first | exact sch_len _ _ | (simp only [List.length_set];exact sch_len _ _) | exact run_len _ H0_len _ | exact l6 | (simp only [List.length_set];exact l6))] at d2663 | skip
     clear a2663 k2663
     have hc:t<16:=by omega
     have vt:e'' 2662=((t+1:Nat):Int):=by omega
     have j0:(4*(t:Int)).toNat=4*t:=by omega
     have j1:(4*(t:Int)+1).toNat=4*t+1:=by omega
     have j2:(4*(t:Int)+2).toNat=4*t+2:=by omega
     have j3:(4*(t:Int)+3).toNat=4*t+3:=by omega
     have key:e'' 2518=sch1 (fun i=>(dec (e' 495)).getD i 0) (sch (fun i=>(dec (e' 495)).getD i 0) t) t:=by
      unfold sch1
      rw [if_pos hc]
      simp only [v1078,v1174,v1270,v1414,v1462,v1558,v1654,v1702,v1846,v1894,v1990,v2086,v2134,v2278,v2326,v2422,v2518,v2662,v930,j0,j1,j2,j3,q495]
      rfl
     refine ⟨⟨t+1,e'' 2663,by omega,?_,?_⟩,?_⟩
     ·show [e'' 2662,e'' 2663]=_;rw [vt]
     ·rw [d2663,key,v930];rfl
     ·show (64-e'' 2662).toNat<(64-e'' 930).toNat;omega
    ·have c933:=no_ h b933
     clear h
     intro a982 k982
     have v982:e'' 982=(e'' 930)-15:=by
      have h:e'' 982=binE .sub .i64 (e'' 930) 15:=a982
      rw [h];simp only [binE,wr];omega
     clear a982 k982
     intro a1030 k1030
     have b1030:=c_le a1030
     simp only [ev_var,ev_lit,ev_limb] at b1030
     clear a1030 k1030
     intro a1031 k1031
     have b1031:=c_lt a1031
     simp only [ev_var,ev_lit,ev_limb] at b1031
     clear a1031 k1031
     refine ⟨nz_ b1030 (by omega),?_⟩
     refine ⟨nz_ b1031 (by omega),?_⟩
     clear b1030 b1031
     intro a1078 k1078
     have v1078:e'' 1078=(dec (e'' 931)).getD (e'' 982).toNat 0:=a1078
     rw [d931] at v1078
     clear a1078 k1078
     intro a1174 k1174
     have v1174:e'' 1174=(e'' 930)-2:=by
      have h:e'' 1174=binE .sub .i64 (e'' 930) 2:=a1174
      rw [h];simp only [binE,wr];omega
     clear a1174 k1174
     intro a1222 k1222
     have b1222:=c_le a1222
     simp only [ev_var,ev_lit,ev_limb] at b1222
     clear a1222 k1222
     intro a1223 k1223
     have b1223:=c_lt a1223
     simp only [ev_var,ev_lit,ev_limb] at b1223
     clear a1223 k1223
     refine ⟨nz_ b1222 (by omega),?_⟩
     refine ⟨nz_ b1223 (by omega),?_⟩
     clear b1222 b1223
     intro a1270 k1270
     have v1270:e'' 1270=(dec (e'' 931)).getD (e'' 1174).toNat 0:=a1270
     rw [d931] at v1270
     clear a1270 k1270
     refine ⟨(show (1:Int)<=17/\(17:Int)<=31 by decide),?_⟩
     intro a1510 k1510
     have v1510:e'' 1510=rot (e'' 1270) 17:=a1510
     clear a1510 k1510
     refine ⟨(show (1:Int)<=19/\(19:Int)<=31 by decide),?_⟩
     intro a1606 k1606
     have v1606:e'' 1606=rot (e'' 1270) 19:=a1606
     clear a1606 k1606
     intro a1654 k1654
     have v1654:e'' 1654=binE .xor .u32 (e'' 1510) (e'' 1606):=a1654
     clear a1654 k1654
     intro a1750 k1750
     have v1750:e'' 1750=binE .shr .u32 (e'' 1270) 10:=a1750
     clear a1750 k1750
     intro a1798 k1798
     have v1798:e'' 1798=binE .xor .u32 (e'' 1654) (e'' 1750):=a1798
     clear a1798 k1798
     intro a1894 k1894
     have v1894:e'' 1894=(e'' 930)-7:=by
      have h:e'' 1894=binE .sub .i64 (e'' 930) 7:=a1894
      rw [h];simp only [binE,wr];omega
     clear a1894 k1894
     intro a1942 k1942
     have b1942:=c_le a1942
     simp only [ev_var,ev_lit,ev_limb] at b1942
     clear a1942 k1942
     intro a1943 k1943
     have b1943:=c_lt a1943
     simp only [ev_var,ev_lit,ev_limb] at b1943
     clear a1943 k1943
     refine ⟨nz_ b1942 (by omega),?_⟩
     refine ⟨nz_ b1943 (by omega),?_⟩
     clear b1942 b1943
     intro a1990 k1990
     have v1990:e'' 1990=(dec (e'' 931)).getD (e'' 1894).toNat 0:=a1990
     rw [d931] at v1990
     clear a1990 k1990
     intro a2038 k2038
     have v2038:e'' 2038=binE .add .u32 (e'' 1798) (e'' 1990):=a2038
     clear a2038 k2038
     refine ⟨(show (1:Int)<=7/\(7:Int)<=31 by decide),?_⟩
     intro a2134 k2134
     have v2134:e'' 2134=rot (e'' 1078) 7:=a2134
     clear a2134 k2134
     refine ⟨(show (1:Int)<=18/\(18:Int)<=31 by decide),?_⟩
     intro a2230 k2230
     have v2230:e'' 2230=rot (e'' 1078) 18:=a2230
     clear a2230 k2230
     intro a2278 k2278
     have v2278:e'' 2278=binE .xor .u32 (e'' 2134) (e'' 2230):=a2278
     clear a2278 k2278
     intro a2374 k2374
     have v2374:e'' 2374=binE .shr .u32 (e'' 1078) 3:=a2374
     clear a2374 k2374
     intro a2422 k2422
     have v2422:e'' 2422=binE .xor .u32 (e'' 2278) (e'' 2374):=a2422
     clear a2422 k2422
     intro a2470 k2470
     have v2470:e'' 2470=binE .add .u32 (e'' 2038) (e'' 2422):=a2470
     clear a2470 k2470
     intro a2566 k2566
     have v2566:e'' 2566=(e'' 930)-16:=by
      have h:e'' 2566=binE .sub .i64 (e'' 930) 16:=a2566
      rw [h];simp only [binE,wr];omega
     clear a2566 k2566
     intro a2614 k2614
     have b2614:=c_le a2614
     simp only [ev_var,ev_lit,ev_limb] at b2614
     clear a2614 k2614
     intro a2615 k2615
     have b2615:=c_lt a2615
     simp only [ev_var,ev_lit,ev_limb] at b2615
     clear a2615 k2615
     refine ⟨nz_ b2614 (by omega),?_⟩
     refine ⟨nz_ b2615 (by omega),?_⟩
     clear b2614 b2615
     intro a2662 k2662
     have v2662:e'' 2662=(dec (e'' 931)).getD (e'' 2566).toNat 0:=a2662
     rw [d931] at v2662
     clear a2662 k2662
     intro a2710 k2710
     have v2710:e'' 2710=binE .add .u32 (e'' 2470) (e'' 2662):=a2710
     clear a2710 k2710
     intro a2758 k2758
     have b2758:=c_le a2758
     simp only [ev_var,ev_lit,ev_limb] at b2758
     clear a2758 k2758
     intro a2759 k2759
     have b2759:=c_lt a2759
     simp only [ev_var,ev_lit,ev_limb] at b2759
     clear a2759 k2759
     refine ⟨nz_ b2758 (by omega),?_⟩
     refine ⟨nz_ b2759 (by omega),?_⟩
     clear b2758 b2759
     intro a2806 k2806
     have d2806:dec (e'' 2806)=((dec (e'' 931)).take (64:Int).toNat).drop ((0:Int)).toNat:=(congrArg dec (show e'' 2806=enc (((dec (e'' 931)).take (64:Int).toNat).drop ((0:Int)).toNat) from a2806)).trans (dec_enc _)
     rw [d931] at d2806
     try simp only [List.nil_append] at d2806
     first | rw [t64 (by first | exact sch_len _ _ | (simp only [List.length_set];exact sch_len _ _) | exact run_len _ H0_len _ | exact l6 | (simp only [List.length_set];exact l6))] at d2806 | skip
     clear a2806 k2806
     intro a2807 k2807
     have d2807:dec (e'' 2807)=(dec (e'' 2806)).set (e'' 930).toNat (e'' 2710):=(congrArg dec (show e'' 2807=enc ((dec (e'' 2806)).set (e'' 930).toNat (e'' 2710)) from a2807)).trans (dec_enc _)
     rw [d2806] at d2807
     try simp only [List.nil_append] at d2807
     clear a2807 k2807
     intro a2854 k2854
     have v2854:e'' 2854=(e'' 930)+1:=by
      have h:e'' 2854=binE .add .i64 (e'' 930) 1:=a2854
      rw [h];simp only [binE,wr];omega
     clear a2854 k2854
     intro a2855 k2855
     have d2855:dec (e'' 2855)=((dec (e'' 2807)).take (64:Int).toNat).drop ((0:Int)).toNat:=(congrArg dec (show e'' 2855=enc (((dec (e'' 2807)).take (64:Int).toNat).drop ((0:Int)).toNat) from a2855)).trans (dec_enc _)
     rw [d2807] at d2855
     try simp only [List.nil_append] at d2855
     first | rw [t64 (by first | exact sch_len _ _ | (simp only [List.length_set];exact sch_len _ _) | exact run_len _ H0_len _ | exact l6 | (simp only [List.length_set];exact l6))] at d2855 | skip
     clear a2855 k2855
     have hc:¬ t<16:=by omega
     have vt:e'' 2854=((t+1:Nat):Int):=by omega
     have i15:((t:Int)-15).toNat=t-15:=by omega
     have i2:((t:Int)-2).toNat=t-2:=by omega
     have i7:((t:Int)-7).toNat=t-7:=by omega
     have i16:((t:Int)-16).toNat=t-16:=by omega
     have key:e'' 2710=sch1 (fun i=>(dec (e' 495)).getD i 0) (sch (fun i=>(dec (e' 495)).getD i 0) t) t:=by
      unfold sch1
      rw [if_neg hc]
      simp only [v982,v1078,v1174,v1270,v1510,v1606,v1654,v1750,v1798,v1894,v1990,v2038,v2134,v2230,v2278,v2374,v2422,v2470,v2566,v2662,v2710,v2854,v930,i15,i2,i7,i16]
      rfl
     refine ⟨⟨t+1,e'' 2855,by omega,?_,?_⟩,?_⟩
     ·show [e'' 2854,e'' 2855]=_;rw [vt]
     ·rw [d2855,key,v930];rfl
     ·show (64-e'' 2854).toNat<(64-e'' 930).toNat;omega
   ·have c932:=no_ h b932
    clear h
    clear b932
    intro a933 k933
    have d933:dec (e'' 933)=((dec (e'' 5)).take (8:Int).toNat).drop ((0:Int)).toNat:=(congrArg dec (show e'' 933=enc (((dec (e'' 5)).take (8:Int).toNat).drop ((0:Int)).toNat) from a933)).trans (dec_enc _)
    try simp only [List.nil_append] at d933
    first | rw [t8 (by first | exact sch_len _ _ | (simp only [List.length_set];exact sch_len _ _) | exact run_len _ H0_len _ | exact l6 | (simp only [List.length_set];exact l6))] at d933 | skip
    clear a933 k933
    have ht64:t=64:=by omega
    subst ht64
    have d5'':dec (e'' 5)=dec (e' 5):=congrArg dec (he1 5 (by decide))
    have l933:dec (e'' 933)=dec (e' 5):=by
     rw [show dec (e'' 933)=((dec (e'' 5)).take (8:Int).toNat).drop (0:Int).toNat from d933,d5'',t8 (by rw [d5];exact run_len _ H0_len _)]
    refine ⟨fun us=>∃ (u:Nat) (x:Int),u<=64/\us=[(u:Int),x]/\dec x=rnds K0 (sch (fun i=>(dec (e' 495)).getD i 0) 64) (dec (e' 5)) u,fun us=>(64-us.headD 0).toNat,⟨0,e'' 933,by omega,rfl,l933⟩,fun e''' he2 hkk2 hI2=>?_⟩
    obtain ⟨u,x,hu,hus,hx⟩:=hI2
    have v934:e''' 934=(u:Int):=(List.cons.inj hus).1
    have v935:e''' 935=x:=(List.cons.inj (List.cons.inj hus).2).1
    have z935:dec (e''' 935)=rnds K0 (sch (fun i=>(dec (e' 495)).getD i 0) 64) (dec (e' 5)) u:=by rw [v935];exact hx
    have z931:dec (e''' 931)=sch (fun i=>(dec (e' 495)).getD i 0) 64:=(congrArg dec (he2 931 (by decide))).trans d931
    clear hus hkk2 v935 hx
    intro a936 k936
    have b936:=c_lt a936
    simp only [ev_var,ev_lit,ev_limb] at b936
    clear a936 k936
    refine ⟨fun h=>?_,fun h=>?_⟩
    ·have c936:=yes_ h b936
     clear h
     clear b936
     refine ⟨(show (1:Int)<=6/\(6:Int)<=31 by decide),?_⟩
     intro a1369 k1369
     have v1369:e''' 1369=rot ((dec (e''' 935)).getD 4 0) 6:=a1369
     clear a1369 k1369
     refine ⟨(show (1:Int)<=11/\(11:Int)<=31 by decide),?_⟩
     intro a1465 k1465
     have v1465:e''' 1465=rot ((dec (e''' 935)).getD 4 0) 11:=a1465
     clear a1465 k1465
     intro a1513 k1513
     have v1513:e''' 1513=binE .xor .u32 (e''' 1369) (e''' 1465):=a1513
     clear a1513 k1513
     refine ⟨(show (1:Int)<=25/\(25:Int)<=31 by decide),?_⟩
     intro a1609 k1609
     have v1609:e''' 1609=rot ((dec (e''' 935)).getD 4 0) 25:=a1609
     clear a1609 k1609
     intro a1657 k1657
     have v1657:e''' 1657=binE .xor .u32 (e''' 1513) (e''' 1609):=a1657
     clear a1657 k1657
     intro a1705 k1705
     have v1705:e''' 1705=binE .add .u32 ((dec (e''' 935)).getD 7 0) (e''' 1657):=a1705
     clear a1705 k1705
     intro a1897 k1897
     have v1897:e''' 1897=binE .and .u32 ((dec (e''' 935)).getD 4 0) ((dec (e''' 935)).getD 5 0):=a1897
     clear a1897 k1897
     intro a1993 k1993
     have v1993:e''' 1993=binE .xor .u32 4294967295 ((dec (e''' 935)).getD 4 0):=a1993
     clear a1993 k1993
     intro a2137 k2137
     have v2137:e''' 2137=binE .and .u32 (e''' 1993) ((dec (e''' 935)).getD 6 0):=a2137
     clear a2137 k2137
     intro a2185 k2185
     have v2185:e''' 2185=binE .xor .u32 (e''' 1897) (e''' 2137):=a2185
     clear a2185 k2185
     intro a2233 k2233
     have v2233:e''' 2233=binE .add .u32 (e''' 1705) (e''' 2185):=a2233
     clear a2233 k2233
     intro a2329 k2329
     have b2329:=c_le a2329
     simp only [ev_var,ev_lit,ev_limb] at b2329
     clear a2329 k2329
     intro a2330 k2330
     have b2330:=c_lt a2330
     simp only [ev_var,ev_lit,ev_limb] at b2330
     clear a2330 k2330
     refine ⟨nz_ b2329 (by omega),?_⟩
     refine ⟨nz_ b2330 (by omega),?_⟩
     clear b2329 b2330
     intro a2377 k2377
     have v2377:e''' 2377=(K0).getD (e''' 934).toNat 0:=a2377
     clear a2377 k2377
     intro a2425 k2425
     have v2425:e''' 2425=binE .add .u32 (e''' 2233) (e''' 2377):=a2425
     clear a2425 k2425
     intro a2521 k2521
     have b2521:=c_le a2521
     simp only [ev_var,ev_lit,ev_limb] at b2521
     clear a2521 k2521
     intro a2522 k2522
     have b2522:=c_lt a2522
     simp only [ev_var,ev_lit,ev_limb] at b2522
     clear a2522 k2522
     refine ⟨nz_ b2521 (by omega),?_⟩
     refine ⟨nz_ b2522 (by omega),?_⟩
     clear b2521 b2522
     intro a2569 k2569
     have v2569:e''' 2569=(dec (e''' 931)).getD (e''' 934).toNat 0:=a2569
     clear a2569 k2569
     intro a2617 k2617
     have v2617:e''' 2617=binE .add .u32 (e''' 2425) (e''' 2569):=a2617
     clear a2617 k2617
     refine ⟨(show (1:Int)<=2/\(2:Int)<=31 by decide),?_⟩
     intro a2761 k2761
     have v2761:e''' 2761=rot ((dec (e''' 935)).getD 0 0) 2:=a2761
     clear a2761 k2761
     refine ⟨(show (1:Int)<=13/\(13:Int)<=31 by decide),?_⟩
     intro a2857 k2857
     have v2857:e''' 2857=rot ((dec (e''' 935)).getD 0 0) 13:=a2857
     clear a2857 k2857
     intro a2905 k2905
     have v2905:e''' 2905=binE .xor .u32 (e''' 2761) (e''' 2857):=a2905
     clear a2905 k2905
     refine ⟨(show (1:Int)<=22/\(22:Int)<=31 by decide),?_⟩
     intro a3001 k3001
     have v3001:e''' 3001=rot ((dec (e''' 935)).getD 0 0) 22:=a3001
     clear a3001 k3001
     intro a3049 k3049
     have v3049:e''' 3049=binE .xor .u32 (e''' 2905) (e''' 3001):=a3049
     clear a3049 k3049
     intro a3241 k3241
     have v3241:e''' 3241=binE .and .u32 ((dec (e''' 935)).getD 0 0) ((dec (e''' 935)).getD 1 0):=a3241
     clear a3241 k3241
     intro a3433 k3433
     have v3433:e''' 3433=binE .and .u32 ((dec (e''' 935)).getD 0 0) ((dec (e''' 935)).getD 2 0):=a3433
     clear a3433 k3433
     intro a3481 k3481
     have v3481:e''' 3481=binE .xor .u32 (e''' 3241) (e''' 3433):=a3481
     clear a3481 k3481
     intro a3721 k3721
     have v3721:e''' 3721=binE .and .u32 ((dec (e''' 935)).getD 1 0) ((dec (e''' 935)).getD 2 0):=a3721
     clear a3721 k3721
     intro a3769 k3769
     have v3769:e''' 3769=binE .xor .u32 (e''' 3481) (e''' 3721):=a3769
     clear a3769 k3769
     intro a3817 k3817
     have v3817:e''' 3817=binE .add .u32 (e''' 3049) (e''' 3769):=a3817
     clear a3817 k3817
     intro a3913 k3913
     have v3913:e''' 3913=binE .add .u32 (e''' 2617) (e''' 3817):=a3913
     clear a3913 k3913
     intro a3914 k3914
     have v3914:e''' 3914=binE .add .u32 ((dec (e''' 935)).getD 3 0) (e''' 2617):=a3914
     clear a3914 k3914
     intro a3915 k3915
     have v3915:e''' 3915=(e''' 934)+1:=by
      have h:e''' 3915=binE .add .i64 (e''' 934) 1:=a3915
      rw [h];simp only [binE,wr];omega
     clear a3915 k3915
     intro a3916 k3916
     have d3916:dec (e''' 3916)=dec (0)++[e''' 3913,(dec (e''' 935)).getD 0 0,(dec (e''' 935)).getD 1 0,(dec (e''' 935)).getD 2 0,e''' 3914,(dec (e''' 935)).getD 4 0,(dec (e''' 935)).getD 5 0,(dec (e''' 935)).getD 6 0]:=(congrArg dec (show e''' 3916=enc (dec (0)++[e''' 3913,(dec (e''' 935)).getD 0 0,(dec (e''' 935)).getD 1 0,(dec (e''' 935)).getD 2 0,e''' 3914,(dec (e''' 935)).getD 4 0,(dec (e''' 935)).getD 5 0,(dec (e''' 935)).getD 6 0]) from a3916)).trans (dec_enc _)
     rw [dec_zero] at d3916
     try simp only [List.nil_append] at d3916
     clear a3916 k3916
     have vu:e''' 3915=((u+1:Nat):Int):=by omega
     refine ⟨⟨u+1,e''' 3916,by omega,?_,?_⟩,?_⟩
     ·show [e''' 3915,e''' 3916]=_;rw [vu]
     ·rw [d3916]
      show _=rnd (K0.getD u 0) ((sch (fun i=>(dec (e' 495)).getD i 0) 64).getD u 0) (rnds K0 (sch (fun i=>(dec (e' 495)).getD i 0) 64) (dec (e' 5)) u)
      simp only [v1369,v1465,v1513,v1609,v1657,v1705,v1897,v1993,v2137,v2185,v2233,v2377,v2425,v2569,v2617,v2761,v2857,v2905,v3001,v3049,v3241,v3433,v3481,v3721,v3769,v3817,v3913,v3914,v3915,v934,z931,Int.toNat_natCast,z935]
      rfl
     ·show (64-e''' 3915).toNat<(64-e''' 934).toNat;omega
    ·have c936:=no_ h b936
     clear h
     have hu64:u=64:=by omega
     subst hu64
     have w4:e''' 4=(n:Int):=(he2 4 (by decide)).trans ((he1 4 (by decide)).trans v4)
     have w542:e''' 542=((n+1:Nat):Int):=(he2 542 (by decide)).trans ((he1 542 (by decide)).trans (by omega))
     have w8:e''' 8=1:=(he2 8 (by decide)).trans ((he1 8 (by decide)).trans v8)
     have z5:dec (e''' 5)=dec (e' 5):=congrArg dec ((he2 5 (by decide)).trans (he1 5 (by decide)))
     have y495:dec (e''' 495)=dec (e' 495):=congrArg dec ((he2 495 (by decide)).trans (he1 495 (by decide)))
     clear b936
     intro a1321 k1321
     have v1321:e''' 1321=binE .add .u32 ((dec (e''' 5)).getD 0 0) ((dec (e''' 935)).getD 0 0):=a1321
     clear a1321 k1321
     intro a1897 k1897
     have v1897:e''' 1897=binE .add .u32 ((dec (e''' 5)).getD 1 0) ((dec (e''' 935)).getD 1 0):=a1897
     clear a1897 k1897
     intro a2473 k2473
     have v2473:e''' 2473=binE .add .u32 ((dec (e''' 5)).getD 2 0) ((dec (e''' 935)).getD 2 0):=a2473
     clear a2473 k2473
     intro a3049 k3049
     have v3049:e''' 3049=binE .add .u32 ((dec (e''' 5)).getD 3 0) ((dec (e''' 935)).getD 3 0):=a3049
     clear a3049 k3049
     intro a3625 k3625
     have v3625:e''' 3625=binE .add .u32 ((dec (e''' 5)).getD 4 0) ((dec (e''' 935)).getD 4 0):=a3625
     clear a3625 k3625
     intro a4201 k4201
     have v4201:e''' 4201=binE .add .u32 ((dec (e''' 5)).getD 5 0) ((dec (e''' 935)).getD 5 0):=a4201
     clear a4201 k4201
     intro a4777 k4777
     have v4777:e''' 4777=binE .add .u32 ((dec (e''' 5)).getD 6 0) ((dec (e''' 935)).getD 6 0):=a4777
     clear a4777 k4777
     intro a5353 k5353
     have v5353:e''' 5353=binE .add .u32 ((dec (e''' 5)).getD 7 0) ((dec (e''' 935)).getD 7 0):=a5353
     clear a5353 k5353
     intro a5545 k5545
     have v5545:e''' 5545=(e''' 4)+1:=by
      have h:e''' 5545=binE .add .i64 (e''' 4) 1:=a5545
      rw [h];simp only [binE,wr];omega
     clear a5545 k5545
     intro a5546 k5546
     have d5546:dec (e''' 5546)=dec (0)++[e''' 1321,e''' 1897,e''' 2473,e''' 3049,e''' 3625,e''' 4201,e''' 4777,e''' 5353]:=(congrArg dec (show e''' 5546=enc (dec (0)++[e''' 1321,e''' 1897,e''' 2473,e''' 3049,e''' 3625,e''' 4201,e''' 4777,e''' 5353]) from a5546)).trans (dec_enc _)
     rw [dec_zero] at d5546
     try simp only [List.nil_append] at d5546
     clear a5546 k5546
     intro a5547 k5547
     have d5547:dec (e''' 5547)=((dec (e''' 495)).take (64:Int).toNat).drop ((0:Int)).toNat:=(congrArg dec (show e''' 5547=enc (((dec (e''' 495)).take (64:Int).toNat).drop ((0:Int)).toNat) from a5547)).trans (dec_enc _)
     try simp only [List.nil_append] at d5547
     first | rw [t64 (by first | exact sch_len _ _ | (simp only [List.length_set];exact sch_len _ _) | exact run_len _ H0_len _ | exact l6 | (simp only [List.length_set];exact l6))] at d5547 | skip
     clear a5547 k5547
     have hm:(n+1)%64=0:=by omega
     refine ⟨⟨n+1,e''' 5546,e''' 5547,?_,by omega,?_,fun i hi=>by omega⟩,?_⟩
     ·show [e''' 5545,e''' 5546,e''' 5547,e''' 542,e''' 8]=_;rw [show e''' 5545=((n+1:Nat):Int) by omega,w542,w8]
     ·rw [d5546,show (n+1)/64=n/64+1 by omega]
      show _=blk K0 (Sha.run K0 H0 (fun k=>b.getD k 0) (n/64)) fun i=>b.getD (64*(n/64)+i) 0
      rw [<- blk_congr (b:=fun i=>(dec (e' 495)).getD i 0) (fun i hi=>z495 i (by omega)),<- d5]
      simp only [v1321,v1897,v2473,v3049,v3625,v4201,v4777,v5353,v5545,z5,z935]
      rfl
     ·show (((b.length:Int))-e''' 5545).toNat<((b.length:Int)-e' 4).toNat;omega
  ·have c544:=no_ h b544
   clear h
   intro a545 k545
   have v545:e' 545=(e' 4)+1:=by
    have h:e' 545=binE .add .i64 (e' 4) 1:=a545
    rw [h];simp only [binE,wr];omega
   clear a545 k545
   intro a546 k546
   have d546:dec (e' 546)=((dec (e' 5)).take (8:Int).toNat).drop ((0:Int)).toNat:=(congrArg dec (show e' 546=enc (((dec (e' 5)).take (8:Int).toNat).drop ((0:Int)).toNat) from a546)).trans (dec_enc _)
   rw [d5] at d546
   try simp only [List.nil_append] at d546
   first | rw [t8 (by first | exact sch_len _ _ | (simp only [List.length_set];exact sch_len _ _) | exact run_len _ H0_len _ | exact l6 | (simp only [List.length_set];exact l6))] at d546 | skip
   clear a546 k546
   intro a547 k547
   have d547:dec (e' 547)=((dec (e' 495)).take (64:Int).toNat).drop ((0:Int)).toNat:=(congrArg dec (show e' 547=enc (((dec (e' 495)).take (64:Int).toNat).drop ((0:Int)).toNat) from a547)).trans (dec_enc _)
   rw [d495] at d547
   try simp only [List.nil_append] at d547
   first | rw [t64 (by first | exact sch_len _ _ | (simp only [List.length_set];exact sch_len _ _) | exact run_len _ H0_len _ | exact l6 | (simp only [List.length_set];exact l6))] at d547 | skip
   clear a547 k547
   refine ⟨⟨n+1,e' 546,e' 547,?_,by omega,?_,?_⟩,?_⟩
   ·show [e' 545,e' 546,e' 547,e' 542,e' 8]=_;rw [show e' 545=((n+1:Nat):Int) by omega,show e' 542=((n+1:Nat):Int) by omega,v8]
   ·rw [d546,show (n+1)/64=n/64 by omega]
   ·intro i hi
    rw [show dec (e' 547)=dec (e' 495) from d547.trans d495.symm,z495 i (by omega),show (n+1)/64=n/64 by omega]
   ·show (((b.length:Int))-e' 545).toNat<((b.length:Int)-e' 4).toNat;omega
 ·have c9:=no_ h b9
  clear h
  have hnL:n=b.length:=by omega
  clear b9
  intro a10 k10
  have b10:=c_not a10
  simp only [ev_var,ev_lit] at b10
  clear a10 k10
  first | rw [q0] at v10 | skip
  refine ⟨fun h=>?_,fun h=>?_⟩
  ·have c10:=yes_ h b10
   clear h
   intro a11 k11
   have d11:dec (e' 11)=dec (0)++[0,0,0,0,0,0,0,0,0,0,0,0,0,0,0,0,0,0,0,0,0,0,0,0,0,0,0,0,0,0,0,0]:=(congrArg dec (show e' 11=enc (dec (0)++[0,0,0,0,0,0,0,0,0,0,0,0,0,0,0,0,0,0,0,0,0,0,0,0,0,0,0,0,0,0,0,0]) from a11)).trans (dec_enc _)
   rw [dec_zero] at d11
   try simp only [List.nil_append] at d11
   clear a11 k11
   show [e' 11]=_
   exact absurd c10 (by omega)
  ·have c10:=no_ h b10
   clear h
   intro a347 k347
   have v347:e' 347=binE .rem .i64 (e' 7) 64:=a347
   clear a347 k347
   have w347:e' 347=((b.length%64:Nat):Int):=by rw [v347,v7,hnL];show ((b.length:Int)).tmod 64=_;rw [Int.tmod_eq_emod_of_nonneg (by omega)];omega
   intro a395 k395
   have b395:=c_le a395
   simp only [ev_var,ev_lit,ev_limb] at b395
   clear a395 k395
   intro a396 k396
   have b396:=c_le a396
   simp only [ev_var,ev_lit,ev_limb] at b396
   clear a396 k396
   refine ⟨nz_ b395 (by omega),?_⟩
   refine ⟨nz_ b396 (by omega),?_⟩
   clear b395 b396
   intro a443 k443
   have d443:dec (e' 443)=dec (0)++[(dec (e' 6)).getD 0 0,(dec (e' 6)).getD 1 0,(dec (e' 6)).getD 2 0,(dec (e' 6)).getD 3 0,(dec (e' 6)).getD 4 0,(dec (e' 6)).getD 5 0,(dec (e' 6)).getD 6 0,(dec (e' 6)).getD 7 0,(dec (e' 6)).getD 8 0,(dec (e' 6)).getD 9 0,(dec (e' 6)).getD 10 0,(dec (e' 6)).getD 11 0,(dec (e' 6)).getD 12 0,(dec (e' 6)).getD 13 0,(dec (e' 6)).getD 14 0,(dec (e' 6)).getD 15 0,(dec (e' 6)).getD 16 0,(dec (e' 6)).getD 17 0,(dec (e' 6)).getD 18 0,(dec (e' 6)).getD 19 0,(dec (e' 6)).getD 20 0,(dec (e' 6)).getD 21 0,(dec (e' 6)).getD 22 0,(dec (e' 6)).getD 23 0,(dec (e' 6)).getD 24 0,(dec (e' 6)).getD 25 0,(dec (e' 6)).getD 26 0,(dec (e' 6)).getD 27 0,(dec (e' 6)).getD 28 0,(dec (e' 6)).getD 29 0,(dec (e' 6)).getD 30 0,(dec (e' 6)).getD 31 0,(dec (e' 6)).getD 32 0,(dec (e' 6)).getD 33 0,(dec (e' 6)).getD 34 0,(dec (e' 6)).getD 35 0,(dec (e' 6)).getD 36 0,(dec (e' 6)).getD 37 0,(dec (e' 6)).getD 38 0,(dec (e' 6)).getD 39 0,(dec (e' 6)).getD 40 0,(dec (e' 6)).getD 41 0,(dec (e' 6)).getD 42 0,(dec (e' 6)).getD 43 0,(dec (e' 6)).getD 44 0,(dec (e' 6)).getD 45 0,(dec (e' 6)).getD 46 0,(dec (e' 6)).getD 47 0,(dec (e' 6)).getD 48 0,(dec (e' 6)).getD 49 0,(dec (e' 6)).getD 50 0,(dec (e' 6)).getD 51 0,(dec (e' 6)).getD 52 0,(dec (e' 6)).getD 53 0,(dec (e' 6)).getD 54 0,(dec (e' 6)).getD 55 0,(dec (e' 6)).getD 56 0,(dec (e' 6)).getD 57 0,(dec (e' 6)).getD 58 0,(dec (e' 6)).getD 59 0,(dec (e' 6)).getD 60 0,(dec (e' 6)).getD 61 0,(dec (e' 6)).getD 62 0,(dec (e' 6)).getD 63 0]:=(congrArg dec (show e' 443=enc (dec (0)++[(dec (e' 6)).getD 0 0,(dec (e' 6)).getD 1 0,(dec (e' 6)).getD 2 0,(dec (e' 6)).getD 3 0,(dec (e' 6)).getD 4 0,(dec (e' 6)).getD 5 0,(dec (e' 6)).getD 6 0,(dec (e' 6)).getD 7 0,(dec (e' 6)).getD 8 0,(dec (e' 6)).getD 9 0,(dec (e' 6)).getD 10 0,(dec (e' 6)).getD 11 0,(dec (e' 6)).getD 12 0,(dec (e' 6)).getD 13 0,(dec (e' 6)).getD 14 0,(dec (e' 6)).getD 15 0,(dec (e' 6)).getD 16 0,(dec (e' 6)).getD 17 0,(dec (e' 6)).getD 18 0,(dec (e' 6)).getD 19 0,(dec (e' 6)).getD 20 0,(dec (e' 6)).getD 21 0,(dec (e' 6)).getD 22 0,(dec (e' 6)).getD 23 0,(dec (e' 6)).getD 24 0,(dec (e' 6)).getD 25 0,(dec (e' 6)).getD 26 0,(dec (e' 6)).getD 27 0,(dec (e' 6)).getD 28 0,(dec (e' 6)).getD 29 0,(dec (e' 6)).getD 30 0,(dec (e' 6)).getD 31 0,(dec (e' 6)).getD 32 0,(dec (e' 6)).getD 33 0,(dec (e' 6)).getD 34 0,(dec (e' 6)).getD 35 0,(dec (e' 6)).getD 36 0,(dec (e' 6)).getD 37 0,(dec (e' 6)).getD 38 0,(dec (e' 6)).getD 39 0,(dec (e' 6)).getD 40 0,(dec (e' 6)).getD 41 0,(dec (e' 6)).getD 42 0,(dec (e' 6)).getD 43 0,(dec (e' 6)).getD 44 0,(dec (e' 6)).getD 45 0,(dec (e' 6)).getD 46 0,(dec (e' 6)).getD 47 0,(dec (e' 6)).getD 48 0,(dec (e' 6)).getD 49 0,(dec (e' 6)).getD 50 0,(dec (e' 6)).getD 51 0,(dec (e' 6)).getD 52 0,(dec (e' 6)).getD 53 0,(dec (e' 6)).getD 54 0,(dec (e' 6)).getD 55 0,(dec (e' 6)).getD 56 0,(dec (e' 6)).getD 57 0,(dec (e' 6)).getD 58 0,(dec (e' 6)).getD 59 0,(dec (e' 6)).getD 60 0,(dec (e' 6)).getD 61 0,(dec (e' 6)).getD 62 0,(dec (e' 6)).getD 63 0]) from a443)).trans (dec_enc _)
   rw [dec_zero] at d443
   try simp only [List.nil_append] at d443
   clear a443 k443
   replace d443:dec (e' 443)=dec (e' 6):=d443.trans (range64 l6)
   intro a444 k444
   have d444:dec (e' 444)=((dec (e' 443)).take (e' 347).toNat).drop ((0:Int)).toNat:=(congrArg dec (show e' 444=enc (((dec (e' 443)).take (e' 347).toNat).drop ((0:Int)).toNat) from a444)).trans (dec_enc _)
   rw [d443] at d444
   try simp only [List.nil_append] at d444
   clear a444 k444
   rw [w347,Int.toNat_natCast] at d444
   have l444:(dec (e' 444)).length=b.length%64:=by rw [d444];simp only [List.length_drop,List.length_take,l6,Int.toNat_zero];omega
   intro a445 k445
   have v445:e' 445=((dec (0)).length:Int):=a445
   rw [dec_zero] at v445
   try simp only [List.length_append,List.length_nil,List.length_cons,List.length_map,List.length_take,List.length_drop,Int.natCast_add,Int.natCast_zero,Int.natCast_one] at v445
   clear a445 k445
   intro a446 k446
   have b446:=c_lt a446
   simp only [ev_var,ev_lit,ev_limb] at b446
   clear a446 k446
   intro a447 k447
   have v447:e' 447=((dec (e' 444)).length:Int):=a447
   rw [d444] at v447
   try simp only [List.length_append,List.length_nil,List.length_cons,List.length_map,List.length_take,List.length_drop,Int.natCast_add,Int.natCast_zero,Int.natCast_one] at v447
   clear k447
   first | (have w447:e' 447=((b.length%64:Nat):Int):=a447.trans (by rw [<- l444];rfl)) | skip
   intro a448 k448
   have b448:=c_lt a448
   simp only [ev_var,ev_lit,ev_limb] at b448
   clear a448 k448
   refine ⟨nz_ b446 (by omega),?_⟩
   refine ⟨nz_ b448 (by omega),?_⟩
   clear v445 b446 b448
   intro a449 k449
   have d449:dec (e' 449)=dec (0)++dec (e' 444):=(congrArg dec (show e' 449=enc (dec (0)++dec (e' 444)) from a449)).trans (dec_enc _)
   rw [dec_zero] at d449
   rw [d444] at d449
   try simp only [List.nil_append] at d449
   clear a449 k449
   intro a539 k539
   have d539:dec (e' 539)=dec (0)++[128]:=(congrArg dec (show e' 539=enc (dec (0)++[128]) from a539)).trans (dec_enc _)
   rw [dec_zero] at d539
   try simp only [List.nil_append] at d539
   clear a539 k539
   intro a540 k540
   have v540:e' 540=((dec (e' 449)).length:Int):=a540
   rw [d449] at v540
   try simp only [List.length_append,List.length_nil,List.length_cons,List.length_map,List.length_take,List.length_drop,Int.natCast_add,Int.natCast_zero,Int.natCast_one] at v540
   clear a540 k540
   intro a541 k541
   have b541:=c_lt a541
   simp only [ev_var,ev_lit,ev_limb] at b541
   clear a541 k541
   intro a542 k542
   have v542:e' 542=((dec (e' 539)).length:Int):=a542
   rw [d539] at v542
   try simp only [List.length_append,List.length_nil,List.length_cons,List.length_map,List.length_take,List.length_drop,Int.natCast_add,Int.natCast_zero,Int.natCast_one] at v542
   clear a542 k542
   intro a543 k543
   have b543:=c_lt a543
   simp only [ev_var,ev_lit,ev_limb] at b543
   clear a543 k543
   first | (have w543:e' 543=(((n+1)%64:Nat):Int):=by rw [v543,show e' 542=((n+1:Nat):Int) by omega];show (((n+1:Nat):Int)).tmod 64=_;rw [Int.tmod_eq_emod_of_nonneg (by omega)];omega) | skip
   refine ⟨nz_ b541 (by omega),?_⟩
   refine ⟨nz_ b543 (by omega),?_⟩
   clear v540 b541
   intro a544 k544
   have d544:dec (e' 544)=dec (e' 449)++dec (e' 539):=(congrArg dec (show e' 544=enc (dec (e' 449)++dec (e' 539)) from a544)).trans (dec_enc _)
   rw [d449] at d544
   rw [d539] at d544
   try simp only [List.nil_append] at d544
   clear a544 k544
   obtain ⟨T,hT⟩:∃ T:List Int,T=b.drop (64*(b.length/64)):=⟨_,rfl⟩
   have lT:T.length=b.length%64:=by rw [hT,List.length_drop];omega
   have dT:dec (e' 444)=T:=by
    rw [d444,hT,show (0:Int).toNat=0 from rfl,List.drop_zero]
    refine List.ext_getElem (by rw [List.length_take,l6,List.length_drop];omega) fun i h1 h2=>?_
    have hi:i<n%64:=by rw [List.length_take,l6] at h1;omega
    have:=z6 i hi
    rw [List.getD_eq_getElem?_getD,List.getD_eq_getElem?_getD,List.getElem?_eq_getElem (by omega),List.getElem?_eq_getElem (by omega)] at this
    simp only [Option.getD_some] at this
    rw [List.getElem_take,List.getElem_drop,this]
    congr 1;omega
   replace d544:dec (e' 544)=T++[128]:=by rw [d544,<- d444,dT]
   refine ⟨fun us=>∃ (j:Nat) (x:Int),us=[x]/\dec x=(T++[128])++List.replicate j 0/\j<=(120-(b.length+1)%64)%64,fun us=>b.length+200-(dec (us.headD 0)).length,⟨0,e' 544,rfl,by rw [d544];simp,by omega⟩,fun e'''' he3 hkk3 hI3=>?_⟩
   obtain ⟨j,x,hus,hx,hj⟩:=hI3
   have v635:e'''' 635=x:=(List.cons.inj hus).1
   have d635:dec (e'''' 635)=(T++[128])++List.replicate j 0:=by rw [v635];exact hx
   have y7:e'''' 7=(b.length:Int):=(he3 7 (by decide)).trans (by omega)
   have y5:dec (e'''' 5)=Sha.run K0 H0 (fun k=>b.getD k 0) (b.length/64):=by rw [he3 5 (by decide),d5,hnL]
   clear hus hx hkk3 v635
   intro a636 k636
   have v636:e'''' 636=((dec (e'''' 635)).length:Int):=a636
   rw [d635] at v636
   try simp only [List.length_replicate,lT,List.length_append,List.length_nil,List.length_cons,List.length_map,List.length_take,List.length_drop,Int.natCast_add,Int.natCast_zero,Int.natCast_one] at v636
   clear a636 k636
   intro a637 k637
   have v637:e'''' 637=binE .rem .i64 (e'''' 636) 64:=a637
   clear a637 k637
   have w637:e'''' 637=e'''' 636%64:=by rw [v637];show (e'''' 636).tmod 64=_;exact Int.tmod_eq_emod_of_nonneg (by omega)
   intro a638 k638
   have b638:=c_ne a638
   simp only [ev_var,ev_lit,ev_limb] at b638
   clear a638 k638
   refine ⟨fun h=>?_,fun h=>?_⟩
   ·have c638:=yes_ h b638
    clear h
    clear b638
    intro a639 k639
    have v639:e'''' 639=((dec (e'''' 635)).length:Int):=a639
    rw [d635] at v639
    try simp only [List.length_replicate,lT,List.length_append,List.length_nil,List.length_cons,List.length_map,List.length_take,List.length_drop,Int.natCast_add,Int.natCast_zero,Int.natCast_one] at v639
    clear a639 k639
    intro a640 k640
    have b640:=c_lt a640
    simp only [ev_var,ev_lit,ev_limb] at b640
    clear a640 k640
    refine ⟨nz_ b640 (by omega),?_⟩
    intro a641 k641
    have d641:dec (e'''' 641)=dec (e'''' 635)++[0]:=(congrArg dec (show e'''' 641=enc (dec (e'''' 635)++[0]) from a641)).trans (dec_enc _)
    rw [d635] at d641
    try simp only [List.nil_append] at d641
    clear a641 k641
    refine ⟨⟨j+1,e'''' 641,rfl,?_,by omega⟩,?_⟩
    ·rw [d641,List.replicate_succ',List.append_assoc]
    ·show b.length+200-(dec (e'''' 641)).length<b.length+200-(dec (e'''' 635)).length
     rw [d641,d635];simp only [List.length_append,List.length_replicate,List.length_cons,List.length_nil,lT];omega
   ·have c638:=no_ h b638
    clear h
    have hj2:j=(120-(b.length+1)%64)%64:=by omega
    clear b638
    intro a639 k639
    have v639:e'''' 639=wr .u64 (e'''' 7):=a639
    clear a639 k639
    intro a640 k640
    have v640:e'''' 640=binE .shl .u64 (e'''' 639) 3:=a640
    clear a640 k640
    intro a641 k641
    have v641:e'''' 641=binE .shr .u64 (e'''' 640) 56:=a641
    clear a641 k641
    intro a642 k642
    have v642:e'''' 642=wr .u8 (e'''' 641):=a642
    clear a642 k642
    intro a643 k643
    have v643:e'''' 643=((dec (e'''' 635)).length:Int):=a643
    rw [d635] at v643
    try simp only [List.length_replicate,lT,List.length_append,List.length_nil,List.length_cons,List.length_map,List.length_take,List.length_drop,Int.natCast_add,Int.natCast_zero,Int.natCast_one] at v643
    clear a643 k643
    intro a644 k644
    have b644:=c_lt a644
    simp only [ev_var,ev_lit,ev_limb] at b644
    clear a644 k644
    refine ⟨nz_ b644 (by omega),?_⟩
    clear v643 b644
    intro a645 k645
    have d645:dec (e'''' 645)=dec (e'''' 635)++[e'''' 642]:=(congrArg dec (show e'''' 645=enc (dec (e'''' 635)++[e'''' 642]) from a645)).trans (dec_enc _)
    rw [d635] at d645
    try simp only [List.nil_append] at d645
    clear a645 k645
    intro a646 k646
    have v646:e'''' 646=wr .u64 (e'''' 7):=a646
    clear a646 k646
    intro a647 k647
    have v647:e'''' 647=binE .shl .u64 (e'''' 646) 3:=a647
    clear a647 k647
    intro a648 k648
    have v648:e'''' 648=binE .shr .u64 (e'''' 647) 48:=a648
    clear a648 k648
    intro a649 k649
    have v649:e'''' 649=wr .u8 (e'''' 648):=a649
    clear a649 k649
    intro a650 k650
    have v650:e'''' 650=((dec (e'''' 645)).length:Int):=a650
    rw [d645] at v650
    try simp only [List.length_replicate,lT,List.length_append,List.length_nil,List.length_cons,List.length_map,List.length_take,List.length_drop,Int.natCast_add,Int.natCast_zero,Int.natCast_one] at v650
    clear a650 k650
    intro a651 k651
    have b651:=c_lt a651
    simp only [ev_var,ev_lit,ev_limb] at b651
    clear a651 k651
    refine ⟨nz_ b651 (by omega),?_⟩
    clear v650 b651
    intro a652 k652
    have d652:dec (e'''' 652)=dec (e'''' 645)++[e'''' 649]:=(congrArg dec (show e'''' 652=enc (dec (e'''' 645)++[e'''' 649]) from a652)).trans (dec_enc _)
    rw [d645] at d652
    try simp only [List.nil_append] at d652
    clear a652 k652
    intro a653 k653
    have v653:e'''' 653=wr .u64 (e'''' 7):=a653
    clear a653 k653
    intro a654 k654
    have v654:e'''' 654=binE .shl .u64 (e'''' 653) 3:=a654
    clear a654 k654
    intro a655 k655
    have v655:e'''' 655=binE .shr .u64 (e'''' 654) 40:=a655
    clear a655 k655
    intro a656 k656
    have v656:e'''' 656=wr .u8 (e'''' 655):=a656
    clear a656 k656
    intro a657 k657
    have v657:e'''' 657=((dec (e'''' 652)).length:Int):=a657
    rw [d652] at v657
    try simp only [List.length_replicate,lT,List.length_append,List.length_nil,List.length_cons,List.length_map,List.length_take,List.length_drop,Int.natCast_add,Int.natCast_zero,Int.natCast_one] at v657
    clear a657 k657
    intro a658 k658
    have b658:=c_lt a658
    simp only [ev_var,ev_lit,ev_limb] at b658
    clear a658 k658
    refine ⟨nz_ b658 (by omega),?_⟩
    clear v657 b658
    intro a659 k659
    have d659:dec (e'''' 659)=dec (e'''' 652)++[e'''' 656]:=(congrArg dec (show e'''' 659=enc (dec (e'''' 652)++[e'''' 656]) from a659)).trans (dec_enc _)
    rw [d652] at d659
    try simp only [List.nil_append] at d659
    clear a659 k659
    intro a660 k660
    have v660:e'''' 660=wr .u64 (e'''' 7):=a660
    clear a660 k660
    intro a661 k661
    have v661:e'''' 661=binE .shl .u64 (e'''' 660) 3:=a661
    clear a661 k661
    intro a662 k662
    have v662:e'''' 662=binE .shr .u64 (e'''' 661) 32:=a662
    clear a662 k662
    intro a663 k663
    have v663:e'''' 663=wr .u8 (e'''' 662):=a663
    clear a663 k663
    intro a664 k664
    have v664:e'''' 664=((dec (e'''' 659)).length:Int):=a664
    rw [d659] at v664
    try simp only [List.length_replicate,lT,List.length_append,List.length_nil,List.length_cons,List.length_map,List.length_take,List.length_drop,Int.natCast_add,Int.natCast_zero,Int.natCast_one] at v664
    clear a664 k664
    intro a665 k665
    have b665:=c_lt a665
    simp only [ev_var,ev_lit,ev_limb] at b665
    clear a665 k665
    refine ⟨nz_ b665 (by omega),?_⟩
    clear v664 b665
    intro a666 k666
    have d666:dec (e'''' 666)=dec (e'''' 659)++[e'''' 663]:=(congrArg dec (show e'''' 666=enc (dec (e'''' 659)++[e'''' 663]) from a666)).trans (dec_enc _)
    rw [d659] at d666
    try simp only [List.nil_append] at d666
    clear a666 k666
    intro a667 k667
    have v667:e'''' 667=wr .u64 (e'''' 7):=a667
    clear a667 k667
    intro a668 k668
    have v668:e'''' 668=binE .shl .u64 (e'''' 667) 3:=a668
    clear a668 k668
    intro a669 k669
    have v669:e'''' 669=binE .shr .u64 (e'''' 668) 24:=a669
    clear a669 k669
    intro a670 k670
    have v670:e'''' 670=wr .u8 (e'''' 669):=a670
    clear a670 k670
    intro a671 k671
    have v671:e'''' 671=((dec (e'''' 666)).length:Int):=a671
    rw [d666] at v671
    try simp only [List.length_replicate,lT,List.length_append,List.length_nil,List.length_cons,List.length_map,List.length_take,List.length_drop,Int.natCast_add,Int.natCast_zero,Int.natCast_one] at v671
    clear a671 k671
    intro a672 k672
    have b672:=c_lt a672
    simp only [ev_var,ev_lit,ev_limb] at b672
    clear a672 k672
    refine ⟨nz_ b672 (by omega),?_⟩
    clear v671 b672
    intro a673 k673
    have d673:dec (e'''' 673)=dec (e'''' 666)++[e'''' 670]:=(congrArg dec (show e'''' 673=enc (dec (e'''' 666)++[e'''' 670]) from a673)).trans (dec_enc _)
    rw [d666] at d673
    try simp only [List.nil_append] at d673
    clear a673 k673
    intro a674 k674
    have v674:e'''' 674=wr .u64 (e'''' 7):=a674
    clear a674 k674
    intro a675 k675
    have v675:e'''' 675=binE .shl .u64 (e'''' 674) 3:=a675
    clear a675 k675
    intro a676 k676
    have v676:e'''' 676=binE .shr .u64 (e'''' 675) 16:=a676
    clear a676 k676
    intro a677 k677
    have v677:e'''' 677=wr .u8 (e'''' 676):=a677
    clear a677 k677
    intro a678 k678
    have v678:e'''' 678=((dec (e'''' 673)).length:Int):=a678
    rw [d673] at v678
    try simp only [List.length_replicate,lT,List.length_append,List.length_nil,List.length_cons,List.length_map,List.length_take,List.length_drop,Int.natCast_add,Int.natCast_zero,Int.natCast_one] at v678
    clear a678 k678
    intro a679 k679
    have b679:=c_lt a679
    simp only [ev_var,ev_lit,ev_limb] at b679
    clear a679 k679
    refine ⟨nz_ b679 (by omega),?_⟩
    clear v678 b679
    intro a680 k680
    have d680:dec (e'''' 680)=dec (e'''' 673)++[e'''' 677]:=(congrArg dec (show e'''' 680=enc (dec (e'''' 673)++[e'''' 677]) from a680)).trans (dec_enc _)
    rw [d673] at d680
    try simp only [List.nil_append] at d680
    clear a680 k680
    intro a681 k681
    have v681:e'''' 681=wr .u64 (e'''' 7):=a681
    clear a681 k681
    intro a682 k682
    have v682:e'''' 682=binE .shl .u64 (e'''' 681) 3:=a682
    clear a682 k682
    intro a683 k683
    have v683:e'''' 683=binE .shr .u64 (e'''' 682) 8:=a683
    clear a683 k683
    intro a684 k684
    have v684:e'''' 684=wr .u8 (e'''' 683):=a684
    clear a684 k684
    intro a685 k685
    have v685:e'''' 685=((dec (e'''' 680)).length:Int):=a685
    rw [d680] at v685
    try simp only [List.length_replicate,lT,List.length_append,List.length_nil,List.length_cons,List.length_map,List.length_take,List.length_drop,Int.natCast_add,Int.natCast_zero,Int.natCast_one] at v685
    clear a685 k685
    intro a686 k686
    have b686:=c_lt a686
    simp only [ev_var,ev_lit,ev_limb] at b686
    clear a686 k686
    refine ⟨nz_ b686 (by omega),?_⟩
    clear v685 b686
    intro a687 k687
    have d687:dec (e'''' 687)=dec (e'''' 680)++[e'''' 684]:=(congrArg dec (show e'''' 687=enc (dec (e'''' 680)++[e'''' 684]) from a687)).trans (dec_enc _)
    rw [d680] at d687
    try simp only [List.nil_append] at d687
    clear a687 k687
    intro a688 k688
    have v688:e'''' 688=wr .u64 (e'''' 7):=a688
    clear a688 k688
    intro a689 k689
    have v689:e'''' 689=binE .shl .u64 (e'''' 688) 3:=a689
    clear a689 k689
    intro a690 k690
    have v690:e'''' 690=binE .shr .u64 (e'''' 689) 0:=a690
    clear a690 k690
    intro a691 k691
    have v691:e'''' 691=wr .u8 (e'''' 690):=a691
    clear a691 k691
    intro a692 k692
    have v692:e'''' 692=((dec (e'''' 687)).length:Int):=a692
    rw [d687] at v692
    try simp only [List.length_replicate,lT,List.length_append,List.length_nil,List.length_cons,List.length_map,List.length_take,List.length_drop,Int.natCast_add,Int.natCast_zero,Int.natCast_one] at v692
    clear a692 k692
    intro a693 k693
    have b693:=c_lt a693
    simp only [ev_var,ev_lit,ev_limb] at b693
    clear a693 k693
    refine ⟨nz_ b693 (by omega),?_⟩
    clear v692 b693
    intro a694 k694
    have d694:dec (e'''' 694)=dec (e'''' 687)++[e'''' 691]:=(congrArg dec (show e'''' 694=enc (dec (e'''' 687)++[e'''' 691]) from a694)).trans (dec_enc _)
    rw [d687] at d694
    try simp only [List.nil_append] at d694
    clear a694 k694
    intro a695 k695
    have v695:e'''' 695=((dec (e'''' 694)).length:Int):=a695
    rw [d694] at v695
    try simp only [List.length_replicate,lT,List.length_append,List.length_nil,List.length_cons,List.length_map,List.length_take,List.length_drop,Int.natCast_add,Int.natCast_zero,Int.natCast_one] at v695
    clear a695 k695
    intro a696 k696
    have d696:dec (e'''' 696)=((dec (e'''' 5)).take (8:Int).toNat).drop ((0:Int)).toNat:=(congrArg dec (show e'''' 696=enc (((dec (e'''' 5)).take (8:Int).toNat).drop ((0:Int)).toNat) from a696)).trans (dec_enc _)
    try simp only [List.nil_append] at d696
    first | rw [t8 (by first | exact sch_len _ _ | (simp only [List.length_set];exact sch_len _ _) | exact run_len _ H0_len _ | exact l6 | (simp only [List.length_set];exact l6))] at d696 | skip
    clear a696 k696
    obtain ⟨R,hR⟩:∃ R:List Int,R=(T++[128])++List.replicate j 0++eight (8*(b.length:Int)):=⟨_,rfl⟩
    have hsh:binE .shl .u64 (wr .u64 (b.length:Int)) 3=8*(b.length:Int):=by
     show wr .u64 (wr .u64 (b.length:Int)*8)=_
     simp only [wr];omega
    have dR:dec (e'''' 694)=R:=by
     rw [d694,hR]
     simp only [List.append_assoc,v642,v641,v640,v639,v649,v648,v647,v646,v656,v655,v654,v653,v663,v662,v661,v660,v670,v669,v668,v667,v677,v676,v675,v674,v684,v683,v682,v681,v691,v690,v689,v688,y7,hsh]
     rfl
    have lR:R.length=b.length%64+1+j+8:=by rw [hR];simp only [List.length_append,List.length_replicate,List.length_cons,List.length_nil,lT,eight_len]
    have hpad:padded b=b.take (64*(b.length/64))++R:=by
     rw [hR,hT,hj2]
     simp only [padded,zpad,<- List.append_assoc,List.take_append_drop,List.length_append,List.length_cons,List.length_nil,Nat.zero_add]
    have hRm:R.length%64=0:=by rw [lR,hj2];omega
    have w695:e'''' 695=(R.length:Int):=by rw [lR];omega
    have ltk:(b.take (64*(b.length/64))).length=64*(b.length/64):=by rw [List.length_take];omega
    have pget:∀ k,(padded b).getD (64*(b.length/64)+k) 0=R.getD k 0:=fun k=>by
     rw [hpad,List.getD_eq_getElem?_getD,List.getElem?_append_right (by omega),ltk,Nat.add_sub_cancel_left,<- List.getD_eq_getElem?_getD]
    have plow:∀ k,k<64*(b.length/64)->b.getD k 0=(padded b).getD k 0:=fun k hk=>by
     rw [hpad,List.getD_eq_getElem?_getD,List.getD_eq_getElem?_getD,List.getElem?_append_left (by omega),List.getElem?_take,if_pos hk]
    have s0:dec (e'''' 696)=Sha.run K0 H0 (fun k=>(padded b).getD k 0) (b.length/64):=by
     rw [show dec (e'''' 696)=((dec (e'''' 5)).take (8:Int).toNat).drop (0:Int).toNat from d696,y5,t8 (run_len _ H0_len _)]
     exact run_congr _ plow
    refine ⟨fun us=>∃ (i:Nat) (x:Int),us=[((64*i:Nat):Int),x]/\dec x=Sha.run K0 H0 (fun k=>(padded b).getD k 0) (b.length/64+i)/\64*i<=R.length,fun us=>(R.length-us.headD 0).toNat,⟨0,e'''' 696,rfl,s0,by omega⟩,fun e''''' he4 hkk4 hI4=>?_⟩
    obtain ⟨i,x,hus,hx,hi⟩:=hI4
    have v697:e''''' 697=((64*i:Nat):Int):=(List.cons.inj hus).1
    have u698:e''''' 698=x:=(List.cons.inj (List.cons.inj hus).2).1
    have d698:dec (e''''' 698)=Sha.run K0 H0 (fun k=>(padded b).getD k 0) (b.length/64+i):=by rw [u698];exact hx
    have y694:dec (e''''' 694)=R:=(congrArg dec (he4 694 (by decide))).trans dR
    have y695:e''''' 695=(R.length:Int):=(he4 695 (by decide)).trans w695
    clear hus hx hkk4 u698
    intro a699 k699
    have v699:e''''' 699=(e''''' 695)-(e''''' 697):=by
     have h:e''''' 699=binE .sub .i64 (e''''' 695) (e''''' 697):=a699
     rw [h];simp only [binE,wr];omega
    clear a699 k699
    intro a700 k700
    have b700:=c_gt a700
    simp only [ev_var,ev_lit,ev_limb] at b700
    clear a700 k700
    refine ⟨fun h=>?_,fun h=>?_⟩
    ·have c700:=yes_ h b700
     clear h
     clear b700
     intro a701 k701
     have v701:e''''' 701=((dec (e''''' 694)).length:Int):=a701
     clear a701 k701
     first | rw [y694] at v701 | skip
     intro a702 k702
     have v702:e''''' 702=(e''''' 701)-(e''''' 697):=by
      have h:e''''' 702=binE .sub .i64 (e''''' 701) (e''''' 697):=a702
      rw [h];simp only [binE,wr];omega
     clear a702 k702
     intro a703 k703
     have v703:e''''' 703=(e''''' 695)-(e''''' 697):=by
      have h:e''''' 703=binE .sub .i64 (e''''' 695) (e''''' 697):=a703
      rw [h];simp only [binE,wr];omega
     clear a703 k703
     intro a704 k704
     have b704:=c_le a704
     simp only [ev_var,ev_lit,ev_limb] at b704
     clear a704 k704
     intro a705 k705
     have b705:=c_le a705
     simp only [ev_var,ev_lit,ev_limb] at b705
     clear a705 k705
     intro a706 k706
     have b706:=c_le a706
     simp only [ev_var,ev_lit,ev_limb] at b706
     clear a706 k706
     intro a707 k707
     have v707:e''''' 707=(e''''' 697)+0:=by
      have h:e''''' 707=binE .add .i64 (e''''' 697) 0:=a707
      rw [h];simp only [binE,wr];omega
     clear a707 k707
     intro a708 k708
     have v708:e''''' 708=(e''''' 697)+64:=by
      have h:e''''' 708=binE .add .i64 (e''''' 697) 64:=a708
      rw [h];simp only [binE,wr];omega
     clear a708 k708
     refine ⟨nz_ b704 (by omega),?_⟩
     refine ⟨nz_ b705 (by omega),?_⟩
     refine ⟨nz_ b706 (by omega),?_⟩
     intro a709 k709
     have d709:dec (e''''' 709)=dec (0)++[0,0,0,0,0,0,0,0,0,0,0,0,0,0,0,0,0,0,0,0,0,0,0,0,0,0,0,0,0,0,0,0,0,0,0,0,0,0,0,0,0,0,0,0,0,0,0,0,0,0,0,0,0,0,0,0,0,0,0,0,0,0,0,0]:=(congrArg dec (show e''''' 709=enc (dec (0)++[0,0,0,0,0,0,0,0,0,0,0,0,0,0,0,0,0,0,0,0,0,0,0,0,0,0,0,0,0,0,0,0,0,0,0,0,0,0,0,0,0,0,0,0,0,0,0,0,0,0,0,0,0,0,0,0,0,0,0,0,0,0,0,0]) from a709)).trans (dec_enc _)
     rw [dec_zero] at d709
     try simp only [List.nil_append] at d709
     clear a709 k709
     refine ⟨fun us=>∃ (t:Nat) (x:Int),t<=64/\us=[(t:Int),x]/\dec x=sch (fun k=>R.getD (64*i+k) 0) t,fun us=>(64-us.headD 0).toNat,⟨0,e''''' 709,by omega,rfl,by rw [d709];rfl⟩,fun e'''''' he5 hkk5 hI5=>?_⟩
     obtain ⟨t,x,ht,hus,hx⟩:=hI5
     have v710:e'''''' 710=(t:Int):=(List.cons.inj hus).1
     have v711:e'''''' 711=x:=(List.cons.inj (List.cons.inj hus).2).1
     have d711:dec (e'''''' 711)=sch (fun k=>R.getD (64*i+k) 0) t:=by rw [v711];exact hx
     have q694:dec (e'''''' 694)=R:=(congrArg dec (he5 694 (by decide))).trans y694
     have w707:e'''''' 707=((64*i:Nat):Int):=(he5 707 (by decide)).trans (by omega)
     have w708:e'''''' 708=((64*i:Nat):Int)+64:=(he5 708 (by decide)).trans (by omega)
     clear hus hkk5 v711 hx
     intro a712 k712
     have b712:=c_lt a712
     simp only [ev_var,ev_lit,ev_limb] at b712
     clear a712 k712
     refine ⟨fun h=>?_,fun h=>?_⟩
     ·have c712:=yes_ h b712
      clear h
      intro a713 k713
      have b713:=c_lt a713
      simp only [ev_var,ev_lit,ev_limb] at b713
      clear a713 k713
      refine ⟨fun h=>?_,fun h=>?_⟩
      ·have c713:=yes_ h b713
       clear h
       intro a858 k858
       have v858:e'''''' 858=4*(e'''''' 710):=by
        have h:e'''''' 858=binE .mul .i64 4 (e'''''' 710):=a858
        rw [h];simp only [binE,wr];omega
       clear a858 k858
       intro a906 k906
       have v906:e'''''' 906=(e'''''' 708)-(e'''''' 707):=by
        have h:e'''''' 906=binE .sub .i64 (e'''''' 708) (e'''''' 707):=a906
        rw [h];simp only [binE,wr];omega
       clear a906 k906
       intro a907 k907
       have b907:=c_le a907
       simp only [ev_var,ev_lit,ev_limb] at b907
       clear a907 k907
       intro a908 k908
       have b908:=c_lt a908
       simp only [ev_var,ev_lit,ev_limb] at b908
       clear a908 k908
       intro a909 k909
       have v909:e'''''' 909=(e'''''' 707)+(e'''''' 858):=by
        have h:e'''''' 909=binE .add .i64 (e'''''' 707) (e'''''' 858):=a909
        rw [h];simp only [binE,wr];omega
       clear a909 k909
       refine ⟨nz_ b907 (by omega),?_⟩
       refine ⟨nz_ b908 (by omega),?_⟩
       clear b907 b908
       intro a954 k954
       have v954:e'''''' 954=(dec (e'''''' 694)).getD (e'''''' 909).toNat 0:=a954
       clear a954 k954
       intro a1050 k1050
       have v1050:e'''''' 1050=binE .shl .u32 (e'''''' 954) 24:=a1050
       clear a1050 k1050
       intro a1194 k1194
       have v1194:e'''''' 1194=4*(e'''''' 710):=by
        have h:e'''''' 1194=binE .mul .i64 4 (e'''''' 710):=a1194
        rw [h];simp only [binE,wr];omega
       clear a1194 k1194
       intro a1242 k1242
       have v1242:e'''''' 1242=(e'''''' 1194)+1:=by
        have h:e'''''' 1242=binE .add .i64 (e'''''' 1194) 1:=a1242
        rw [h];simp only [binE,wr];omega
       clear a1242 k1242
       intro a1290 k1290
       have v1290:e'''''' 1290=(e'''''' 708)-(e'''''' 707):=by
        have h:e'''''' 1290=binE .sub .i64 (e'''''' 708) (e'''''' 707):=a1290
        rw [h];simp only [binE,wr];omega
       clear a1290 k1290
       intro a1291 k1291
       have b1291:=c_le a1291
       simp only [ev_var,ev_lit,ev_limb] at b1291
       clear a1291 k1291
       intro a1292 k1292
       have b1292:=c_lt a1292
       simp only [ev_var,ev_lit,ev_limb] at b1292
       clear a1292 k1292
       intro a1293 k1293
       have v1293:e'''''' 1293=(e'''''' 707)+(e'''''' 1242):=by
        have h:e'''''' 1293=binE .add .i64 (e'''''' 707) (e'''''' 1242):=a1293
        rw [h];simp only [binE,wr];omega
       clear a1293 k1293
       refine ⟨nz_ b1291 (by omega),?_⟩
       refine ⟨nz_ b1292 (by omega),?_⟩
       clear b1291 b1292
       intro a1338 k1338
       have v1338:e'''''' 1338=(dec (e'''''' 694)).getD (e'''''' 1293).toNat 0:=a1338
       clear a1338 k1338
       intro a1434 k1434
       have v1434:e'''''' 1434=binE .shl .u32 (e'''''' 1338) 16:=a1434
       clear a1434 k1434
       intro a1482 k1482
       have v1482:e'''''' 1482=binE .or .u32 (e'''''' 1050) (e'''''' 1434):=a1482
       clear a1482 k1482
       intro a1626 k1626
       have v1626:e'''''' 1626=4*(e'''''' 710):=by
        have h:e'''''' 1626=binE .mul .i64 4 (e'''''' 710):=a1626
        rw [h];simp only [binE,wr];omega
       clear a1626 k1626
       intro a1674 k1674
       have v1674:e'''''' 1674=(e'''''' 1626)+2:=by
        have h:e'''''' 1674=binE .add .i64 (e'''''' 1626) 2:=a1674
        rw [h];simp only [binE,wr];omega
       clear a1674 k1674
       intro a1722 k1722
       have v1722:e'''''' 1722=(e'''''' 708)-(e'''''' 707):=by
        have h:e'''''' 1722=binE .sub .i64 (e'''''' 708) (e'''''' 707):=a1722
        rw [h];simp only [binE,wr];omega
       clear a1722 k1722
       intro a1723 k1723
       have b1723:=c_le a1723
       simp only [ev_var,ev_lit,ev_limb] at b1723
       clear a1723 k1723
       intro a1724 k1724
       have b1724:=c_lt a1724
       simp only [ev_var,ev_lit,ev_limb] at b1724
       clear a1724 k1724
       intro a1725 k1725
       have v1725:e'''''' 1725=(e'''''' 707)+(e'''''' 1674):=by
        have h:e'''''' 1725=binE .add .i64 (e'''''' 707) (e'''''' 1674):=a1725
        rw [h];simp only [binE,wr];omega
       clear a1725 k1725
       refine ⟨nz_ b1723 (by omega),?_⟩
       refine ⟨nz_ b1724 (by omega),?_⟩
       clear b1723 b1724
       intro a1770 k1770
       have v1770:e'''''' 1770=(dec (e'''''' 694)).getD (e'''''' 1725).toNat 0:=a1770
       clear a1770 k1770
       intro a1866 k1866
       have v1866:e'''''' 1866=binE .shl .u32 (e'''''' 1770) 8:=a1866
       clear a1866 k1866
       intro a1914 k1914
       have v1914:e'''''' 1914=binE .or .u32 (e'''''' 1482) (e'''''' 1866):=a1914
       clear a1914 k1914
       intro a2058 k2058
       have v2058:e'''''' 2058=4*(e'''''' 710):=by
        have h:e'''''' 2058=binE .mul .i64 4 (e'''''' 710):=a2058
        rw [h];simp only [binE,wr];omega
       clear a2058 k2058
       intro a2106 k2106
       have v2106:e'''''' 2106=(e'''''' 2058)+3:=by
        have h:e'''''' 2106=binE .add .i64 (e'''''' 2058) 3:=a2106
        rw [h];simp only [binE,wr];omega
       clear a2106 k2106
       intro a2154 k2154
       have v2154:e'''''' 2154=(e'''''' 708)-(e'''''' 707):=by
        have h:e'''''' 2154=binE .sub .i64 (e'''''' 708) (e'''''' 707):=a2154
        rw [h];simp only [binE,wr];omega
       clear a2154 k2154
       intro a2155 k2155
       have b2155:=c_le a2155
       simp only [ev_var,ev_lit,ev_limb] at b2155
       clear a2155 k2155
       intro a2156 k2156
       have b2156:=c_lt a2156
       simp only [ev_var,ev_lit,ev_limb] at b2156
       clear a2156 k2156
       intro a2157 k2157
       have v2157:e'''''' 2157=(e'''''' 707)+(e'''''' 2106):=by
        have h:e'''''' 2157=binE .add .i64 (e'''''' 707) (e'''''' 2106):=a2157
        rw [h];simp only [binE,wr];omega
       clear a2157 k2157
       refine ⟨nz_ b2155 (by omega),?_⟩
       refine ⟨nz_ b2156 (by omega),?_⟩
       clear b2155 b2156
       intro a2202 k2202
       have v2202:e'''''' 2202=(dec (e'''''' 694)).getD (e'''''' 2157).toNat 0:=a2202
       clear a2202 k2202
       intro a2298 k2298
       have v2298:e'''''' 2298=binE .or .u32 (e'''''' 1914) (e'''''' 2202):=a2298
       clear a2298 k2298
       intro a2346 k2346
       have b2346:=c_le a2346
       simp only [ev_var,ev_lit,ev_limb] at b2346
       clear a2346 k2346
       intro a2347 k2347
       have b2347:=c_lt a2347
       simp only [ev_var,ev_lit,ev_limb] at b2347
       clear a2347 k2347
       refine ⟨nz_ b2346 (by omega),?_⟩
       refine ⟨nz_ b2347 (by omega),?_⟩
       clear b2347
       intro a2394 k2394
       have d2394:dec (e'''''' 2394)=((dec (e'''''' 711)).take (64:Int).toNat).drop ((0:Int)).toNat:=(congrArg dec (show e'''''' 2394=enc (((dec (e'''''' 711)).take (64:Int).toNat).drop ((0:Int)).toNat) from a2394)).trans (dec_enc _)
       rw [d711] at d2394
       try simp only [List.nil_append] at d2394
       first | rw [t64 (by first | exact sch_len _ _ | (simp only [List.length_set];exact sch_len _ _) | exact run_len _ H0_len _ | exact l6 | (simp only [List.length_set];exact l6))] at d2394 | skip
       clear a2394 k2394
       intro a2395 k2395
       have d2395:dec (e'''''' 2395)=(dec (e'''''' 2394)).set (e'''''' 710).toNat (e'''''' 2298):=(congrArg dec (show e'''''' 2395=enc ((dec (e'''''' 2394)).set (e'''''' 710).toNat (e'''''' 2298)) from a2395)).trans (dec_enc _)
       rw [d2394] at d2395
       try simp only [List.nil_append] at d2395
       clear a2395 k2395
       intro a2442 k2442
       have v2442:e'''''' 2442=(e'''''' 710)+1:=by
        have h:e'''''' 2442=binE .add .i64 (e'''''' 710) 1:=a2442
        rw [h];simp only [binE,wr];omega
       clear a2442 k2442
       intro a2443 k2443
       have d2443:dec (e'''''' 2443)=((dec (e'''''' 2395)).take (64:Int).toNat).drop ((0:Int)).toNat:=(congrArg dec (show e'''''' 2443=enc (((dec (e'''''' 2395)).take (64:Int).toNat).drop ((0:Int)).toNat) from a2443)).trans (dec_enc _)
       rw [d2395] at d2443
       try simp only [List.nil_append] at d2443
       first | rw [t64 (by first | exact sch_len _ _ | (simp only [List.length_set];exact sch_len _ _) | exact run_len _ H0_len _ | exact l6 | (simp only [List.length_set];exact l6))] at d2443 | skip
       clear a2443 k2443
       have hc:t<16:=by omega
       have vt:e'''''' 2442=((t+1:Nat):Int):=by omega
       have j0:(((64*i:Nat):Int)+4*(t:Int)).toNat=64*i+4*t:=by omega
       have j1:(((64*i:Nat):Int)+(4*(t:Int)+1)).toNat=64*i+(4*t+1):=by omega
       have j2:(((64*i:Nat):Int)+(4*(t:Int)+2)).toNat=64*i+(4*t+2):=by omega
       have j3:(((64*i:Nat):Int)+(4*(t:Int)+3)).toNat=64*i+(4*t+3):=by omega
       have key:e'''''' 2298=sch1 (fun k=>R.getD (64*i+k) 0) (sch (fun k=>R.getD (64*i+k) 0) t) t:=by
        unfold sch1
        rw [if_pos hc]
        simp only [v858,v906,v909,v954,v1050,v1194,v1242,v1290,v1293,v1338,v1434,v1482,v1626,v1674,v1722,v1725,v1770,v1866,v1914,v2058,v2106,v2154,v2157,v2202,v2298,v2442,v710,j0,j1,j2,j3,q694,w707]
        rfl
       refine ⟨⟨t+1,e'''''' 2443,by omega,?_,?_⟩,?_⟩
       ·show [e'''''' 2442,e'''''' 2443]=_;rw [vt]
       ·rw [d2443,key,v710];rfl
       ·show (64-e'''''' 2442).toNat<(64-e'''''' 710).toNat;omega
      ·have c713:=no_ h b713
       clear h
       intro a762 k762
       have v762:e'''''' 762=(e'''''' 710)-15:=by
        have h:e'''''' 762=binE .sub .i64 (e'''''' 710) 15:=a762
        rw [h];simp only [binE,wr];omega
       clear a762 k762
       intro a810 k810
       have b810:=c_le a810
       simp only [ev_var,ev_lit,ev_limb] at b810
       clear a810 k810
       intro a811 k811
       have b811:=c_lt a811
       simp only [ev_var,ev_lit,ev_limb] at b811
       clear a811 k811
       refine ⟨nz_ b810 (by omega),?_⟩
       refine ⟨nz_ b811 (by omega),?_⟩
       clear b810 b811
       intro a858 k858
       have v858:e'''''' 858=(dec (e'''''' 711)).getD (e'''''' 762).toNat 0:=a858
       rw [d711] at v858
       clear a858 k858
       intro a954 k954
       have v954:e'''''' 954=(e'''''' 710)-2:=by
        have h:e'''''' 954=binE .sub .i64 (e'''''' 710) 2:=a954
        rw [h];simp only [binE,wr];omega
       clear a954 k954
       intro a1002 k1002
       have b1002:=c_le a1002
       simp only [ev_var,ev_lit,ev_limb] at b1002
       clear a1002 k1002
       intro a1003 k1003
       have b1003:=c_lt a1003
       simp only [ev_var,ev_lit,ev_limb] at b1003
       clear a1003 k1003
       refine ⟨nz_ b1002 (by omega),?_⟩
       refine ⟨nz_ b1003 (by omega),?_⟩
       clear b1002 b1003
       intro a1050 k1050
       have v1050:e'''''' 1050=(dec (e'''''' 711)).getD (e'''''' 954).toNat 0:=a1050
       rw [d711] at v1050
       clear a1050 k1050
       refine ⟨(show (1:Int)<=17/\(17:Int)<=31 by decide),?_⟩
       intro a1290 k1290
       have v1290:e'''''' 1290=rot (e'''''' 1050) 17:=a1290
       clear a1290 k1290
       refine ⟨(show (1:Int)<=19/\(19:Int)<=31 by decide),?_⟩
       intro a1386 k1386
       have v1386:e'''''' 1386=rot (e'''''' 1050) 19:=a1386
       clear a1386 k1386
       intro a1434 k1434
       have v1434:e'''''' 1434=binE .xor .u32 (e'''''' 1290) (e'''''' 1386):=a1434
       clear a1434 k1434
       intro a1530 k1530
       have v1530:e'''''' 1530=binE .shr .u32 (e'''''' 1050) 10:=a1530
       clear a1530 k1530
       intro a1578 k1578
       have v1578:e'''''' 1578=binE .xor .u32 (e'''''' 1434) (e'''''' 1530):=a1578
       clear a1578 k1578
       intro a1674 k1674
       have v1674:e'''''' 1674=(e'''''' 710)-7:=by
        have h:e'''''' 1674=binE .sub .i64 (e'''''' 710) 7:=a1674
        rw [h];simp only [binE,wr];omega
       clear a1674 k1674
       intro a1722 k1722
       have b1722:=c_le a1722
       simp only [ev_var,ev_lit,ev_limb] at b1722
       clear a1722 k1722
       intro a1723 k1723
       have b1723:=c_lt a1723
       simp only [ev_var,ev_lit,ev_limb] at b1723
       clear a1723 k1723
       refine ⟨nz_ b1722 (by omega),?_⟩
       refine ⟨nz_ b1723 (by omega),?_⟩
       clear b1723
       intro a1770 k1770
       have v1770:e'''''' 1770=(dec (e'''''' 711)).getD (e'''''' 1674).toNat 0:=a1770
       rw [d711] at v1770
       clear a1770 k1770
       intro a1818 k1818
       have v1818:e'''''' 1818=binE .add .u32 (e'''''' 1578) (e'''''' 1770):=a1818
       clear a1818 k1818
       refine ⟨(show (1:Int)<=7/\(7:Int)<=31 by decide),?_⟩
       intro a1914 k1914
       have v1914:e'''''' 1914=rot (e'''''' 858) 7:=a1914
       clear a1914 k1914
       refine ⟨(show (1:Int)<=18/\(18:Int)<=31 by decide),?_⟩
       intro a2010 k2010
       have v2010:e'''''' 2010=rot (e'''''' 858) 18:=a2010
       clear a2010 k2010
       intro a2058 k2058
       have v2058:e'''''' 2058=binE .xor .u32 (e'''''' 1914) (e'''''' 2010):=a2058
       clear a2058 k2058
       intro a2154 k2154
       have v2154:e'''''' 2154=binE .shr .u32 (e'''''' 858) 3:=a2154
       clear a2154 k2154
       intro a2202 k2202
       have v2202:e'''''' 2202=binE .xor .u32 (e'''''' 2058) (e'''''' 2154):=a2202
       clear a2202 k2202
       intro a2250 k2250
       have v2250:e'''''' 2250=binE .add .u32 (e'''''' 1818) (e'''''' 2202):=a2250
       clear a2250 k2250
       intro a2346 k2346
       have v2346:e'''''' 2346=(e'''''' 710)-16:=by
        have h:e'''''' 2346=binE .sub .i64 (e'''''' 710) 16:=a2346
        rw [h];simp only [binE,wr];omega
       clear a2346 k2346
       intro a2394 k2394
       have b2394:=c_le a2394
       simp only [ev_var,ev_lit,ev_limb] at b2394
       clear a2394 k2394
       intro a2395 k2395
       have b2395:=c_lt a2395
       simp only [ev_var,ev_lit,ev_limb] at b2395
       clear a2395 k2395
       refine ⟨nz_ b2394 (by omega),?_⟩
       refine ⟨nz_ b2395 (by omega),?_⟩
       clear b2394 b2395
       intro a2442 k2442
       have v2442:e'''''' 2442=(dec (e'''''' 711)).getD (e'''''' 2346).toNat 0:=a2442
       rw [d711] at v2442
       clear a2442 k2442
       intro a2490 k2490
       have v2490:e'''''' 2490=binE .add .u32 (e'''''' 2250) (e'''''' 2442):=a2490
       clear a2490 k2490
       intro a2538 k2538
       have b2538:=c_le a2538
       simp only [ev_var,ev_lit,ev_limb] at b2538
       clear a2538 k2538
       intro a2539 k2539
       have b2539:=c_lt a2539
       simp only [ev_var,ev_lit,ev_limb] at b2539
       clear a2539 k2539
       refine ⟨nz_ b2538 (by omega),?_⟩
       refine ⟨nz_ b2539 (by omega),?_⟩
       clear b2538 b2539
       intro a2586 k2586
       have d2586:dec (e'''''' 2586)=((dec (e'''''' 711)).take (64:Int).toNat).drop ((0:Int)).toNat:=(congrArg dec (show e'''''' 2586=enc (((dec (e'''''' 711)).take (64:Int).toNat).drop ((0:Int)).toNat) from a2586)).trans (dec_enc _)
       rw [d711] at d2586
       try simp only [List.nil_append] at d2586
       first | rw [t64 (by first | exact sch_len _ _ | (simp only [List.length_set];exact sch_len _ _) | exact run_len _ H0_len _ | exact l6 | (simp only [List.length_set];exact l6))] at d2586 | skip
       clear a2586 k2586
       intro a2587 k2587
       have d2587:dec (e'''''' 2587)=(dec (e'''''' 2586)).set (e'''''' 710).toNat (e'''''' 2490):=(congrArg dec (show e'''''' 2587=enc ((dec (e'''''' 2586)).set (e'''''' 710).toNat (e'''''' 2490)) from a2587)).trans (dec_enc _)
       rw [d2586] at d2587
       try simp only [List.nil_append] at d2587
       clear a2587 k2587
       intro a2634 k2634
       have v2634:e'''''' 2634=(e'''''' 710)+1:=by
        have h:e'''''' 2634=binE .add .i64 (e'''''' 710) 1:=a2634
        rw [h];simp only [binE,wr];omega
       clear a2634 k2634
       intro a2635 k2635
       have d2635:dec (e'''''' 2635)=((dec (e'''''' 2587)).take (64:Int).toNat).drop ((0:Int)).toNat:=(congrArg dec (show e'''''' 2635=enc (((dec (e'''''' 2587)).take (64:Int).toNat).drop ((0:Int)).toNat) from a2635)).trans (dec_enc _)
       rw [d2587] at d2635
       try simp only [List.nil_append] at d2635
       first | rw [t64 (by first | exact sch_len _ _ | (simp only [List.length_set];exact sch_len _ _) | exact run_len _ H0_len _ | exact l6 | (simp only [List.length_set];exact l6))] at d2635 | skip
       clear a2635 k2635
       have hc:¬ t<16:=by omega
       have vt:e'''''' 2634=((t+1:Nat):Int):=by omega
       have i15:((t:Int)-15).toNat=t-15:=by omega
       have i2:((t:Int)-2).toNat=t-2:=by omega
       have i7:((t:Int)-7).toNat=t-7:=by omega
       have i16:((t:Int)-16).toNat=t-16:=by omega
       have key:e'''''' 2490=sch1 (fun k=>R.getD (64*i+k) 0) (sch (fun k=>R.getD (64*i+k) 0) t) t:=by
        unfold sch1
        rw [if_neg hc]
        simp only [v762,v858,v954,v1050,v1290,v1386,v1434,v1530,v1578,v1674,v1770,v1818,v1914,v2010,v2058,v2154,v2202,v2250,v2346,v2442,v2490,v2634,v710,i15,i2,i7,i16]
        rfl
       refine ⟨⟨t+1,e'''''' 2635,by omega,?_,?_⟩,?_⟩
       ·show [e'''''' 2634,e'''''' 2635]=_;rw [vt]
       ·rw [d2635,key,v710];rfl
       ·show (64-e'''''' 2634).toNat<(64-e'''''' 710).toNat;omega
     ·have c712:=no_ h b712
      clear h
      intro a713 k713
      have d713:dec (e'''''' 713)=((dec (e'''''' 698)).take (8:Int).toNat).drop ((0:Int)).toNat:=(congrArg dec (show e'''''' 713=enc (((dec (e'''''' 698)).take (8:Int).toNat).drop ((0:Int)).toNat) from a713)).trans (dec_enc _)
      try simp only [List.nil_append] at d713
      first | rw [t8 (by first | exact sch_len _ _ | (simp only [List.length_set];exact sch_len _ _) | exact run_len _ H0_len _ | exact l6 | (simp only [List.length_set];exact l6))] at d713 | skip
      clear a713 k713
      have ht64:t=64:=by omega
      subst ht64
      have q698:dec (e'''''' 698)=dec (e''''' 698):=congrArg dec (he5 698 (by decide))
      have l713:dec (e'''''' 713)=dec (e''''' 698):=by
       rw [show dec (e'''''' 713)=((dec (e'''''' 698)).take (8:Int).toNat).drop (0:Int).toNat from d713,q698,t8 (by rw [d698];exact run_len _ H0_len _)]
      refine ⟨fun us=>∃ (u:Nat) (x:Int),u<=64/\us=[(u:Int),x]/\dec x=rnds K0 (sch (fun k=>R.getD (64*i+k) 0) 64) (dec (e''''' 698)) u,fun us=>(64-us.headD 0).toNat,⟨0,e'''''' 713,by omega,rfl,l713⟩,fun e''''''' he6 hkk6 hI6=>?_⟩
      obtain ⟨u,x,hu,hus,hx⟩:=hI6
      have v714:e''''''' 714=(u:Int):=(List.cons.inj hus).1
      have v715:e''''''' 715=x:=(List.cons.inj (List.cons.inj hus).2).1
      have z715:dec (e''''''' 715)=rnds K0 (sch (fun k=>R.getD (64*i+k) 0) 64) (dec (e''''' 698)) u:=by rw [v715];exact hx
      have z711:dec (e''''''' 711)=sch (fun k=>R.getD (64*i+k) 0) 64:=(congrArg dec (he6 711 (by decide))).trans d711
      clear hus hkk6 v715 hx
      intro a716 k716
      have b716:=c_lt a716
      simp only [ev_var,ev_lit,ev_limb] at b716
      clear a716 k716
      refine ⟨fun h=>?_,fun h=>?_⟩
      ·have c716:=yes_ h b716
       clear h
       refine ⟨(show (1:Int)<=6/\(6:Int)<=31 by decide),?_⟩
       intro a1149 k1149
       have v1149:e''''''' 1149=rot ((dec (e''''''' 715)).getD 4 0) 6:=a1149
       clear a1149 k1149
       refine ⟨(show (1:Int)<=11/\(11:Int)<=31 by decide),?_⟩
       intro a1245 k1245
       have v1245:e''''''' 1245=rot ((dec (e''''''' 715)).getD 4 0) 11:=a1245
       clear a1245 k1245
       intro a1293 k1293
       have v1293:e''''''' 1293=binE .xor .u32 (e''''''' 1149) (e''''''' 1245):=a1293
       clear a1293 k1293
       refine ⟨(show (1:Int)<=25/\(25:Int)<=31 by decide),?_⟩
       intro a1389 k1389
       have v1389:e''''''' 1389=rot ((dec (e''''''' 715)).getD 4 0) 25:=a1389
       clear a1389 k1389
       intro a1437 k1437
       have v1437:e''''''' 1437=binE .xor .u32 (e''''''' 1293) (e''''''' 1389):=a1437
       clear a1437 k1437
       intro a1485 k1485
       have v1485:e''''''' 1485=binE .add .u32 ((dec (e''''''' 715)).getD 7 0) (e''''''' 1437):=a1485
       clear a1485 k1485
       intro a1677 k1677
       have v1677:e''''''' 1677=binE .and .u32 ((dec (e''''''' 715)).getD 4 0) ((dec (e''''''' 715)).getD 5 0):=a1677
       clear a1677 k1677
       intro a1773 k1773
       have v1773:e''''''' 1773=binE .xor .u32 4294967295 ((dec (e''''''' 715)).getD 4 0):=a1773
       clear a1773 k1773
       intro a1917 k1917
       have v1917:e''''''' 1917=binE .and .u32 (e''''''' 1773) ((dec (e''''''' 715)).getD 6 0):=a1917
       clear a1917 k1917
       intro a1965 k1965
       have v1965:e''''''' 1965=binE .xor .u32 (e''''''' 1677) (e''''''' 1917):=a1965
       clear a1965 k1965
       intro a2013 k2013
       have v2013:e''''''' 2013=binE .add .u32 (e''''''' 1485) (e''''''' 1965):=a2013
       clear a2013 k2013
       intro a2109 k2109
       have b2109:=c_le a2109
       simp only [ev_var,ev_lit,ev_limb] at b2109
       clear a2109 k2109
       intro a2110 k2110
       have b2110:=c_lt a2110
       simp only [ev_var,ev_lit,ev_limb] at b2110
       clear a2110 k2110
       refine ⟨nz_ b2109 (by omega),?_⟩
       refine ⟨nz_ b2110 (by omega),?_⟩
       clear b2109 b2110
       intro a2157 k2157
       have v2157:e''''''' 2157=(K0).getD (e''''''' 714).toNat 0:=a2157
       clear a2157 k2157
       intro a2205 k2205
       have v2205:e''''''' 2205=binE .add .u32 (e''''''' 2013) (e''''''' 2157):=a2205
       clear a2205 k2205
       intro a2301 k2301
       have b2301:=c_le a2301
       simp only [ev_var,ev_lit,ev_limb] at b2301
       clear a2301 k2301
       intro a2302 k2302
       have b2302:=c_lt a2302
       simp only [ev_var,ev_lit,ev_limb] at b2302
       clear a2302 k2302
       refine ⟨nz_ b2301 (by omega),?_⟩
       refine ⟨nz_ b2302 (by omega),?_⟩
       clear b2301 b2302
       intro a2349 k2349
       have v2349:e''''''' 2349=(dec (e''''''' 711)).getD (e''''''' 714).toNat 0:=a2349
       clear a2349 k2349
       intro a2397 k2397
       have v2397:e''''''' 2397=binE .add .u32 (e''''''' 2205) (e''''''' 2349):=a2397
       clear a2397 k2397
       refine ⟨(show (1:Int)<=2/\(2:Int)<=31 by decide),?_⟩
       intro a2541 k2541
       have v2541:e''''''' 2541=rot ((dec (e''''''' 715)).getD 0 0) 2:=a2541
       clear a2541 k2541
       refine ⟨(show (1:Int)<=13/\(13:Int)<=31 by decide),?_⟩
       intro a2637 k2637
       have v2637:e''''''' 2637=rot ((dec (e''''''' 715)).getD 0 0) 13:=a2637
       clear a2637 k2637
       intro a2685 k2685
       have v2685:e''''''' 2685=binE .xor .u32 (e''''''' 2541) (e''''''' 2637):=a2685
       clear a2685 k2685
       refine ⟨(show (1:Int)<=22/\(22:Int)<=31 by decide),?_⟩
       intro a2781 k2781
       have v2781:e''''''' 2781=rot ((dec (e''''''' 715)).getD 0 0) 22:=a2781
       clear a2781 k2781
       intro a2829 k2829
       have v2829:e''''''' 2829=binE .xor .u32 (e''''''' 2685) (e''''''' 2781):=a2829
       clear a2829 k2829
       intro a3021 k3021
       have v3021:e''''''' 3021=binE .and .u32 ((dec (e''''''' 715)).getD 0 0) ((dec (e''''''' 715)).getD 1 0):=a3021
       clear a3021 k3021
       intro a3213 k3213
       have v3213:e''''''' 3213=binE .and .u32 ((dec (e''''''' 715)).getD 0 0) ((dec (e''''''' 715)).getD 2 0):=a3213
       clear a3213 k3213
       intro a3261 k3261
       have v3261:e''''''' 3261=binE .xor .u32 (e''''''' 3021) (e''''''' 3213):=a3261
       clear a3261 k3261
       intro a3501 k3501
       have v3501:e''''''' 3501=binE .and .u32 ((dec (e''''''' 715)).getD 1 0) ((dec (e''''''' 715)).getD 2 0):=a3501
       clear a3501 k3501
       intro a3549 k3549
       have v3549:e''''''' 3549=binE .xor .u32 (e''''''' 3261) (e''''''' 3501):=a3549
       clear a3549 k3549
       intro a3597 k3597
       have v3597:e''''''' 3597=binE .add .u32 (e''''''' 2829) (e''''''' 3549):=a3597
       clear a3597 k3597
       intro a3693 k3693
       have v3693:e''''''' 3693=binE .add .u32 (e''''''' 2397) (e''''''' 3597):=a3693
       clear a3693 k3693
       intro a3694 k3694
       have v3694:e''''''' 3694=binE .add .u32 ((dec (e''''''' 715)).getD 3 0) (e''''''' 2397):=a3694
       clear a3694 k3694
       intro a3695 k3695
       have v3695:e''''''' 3695=(e''''''' 714)+1:=by
        have h:e''''''' 3695=binE .add .i64 (e''''''' 714) 1:=a3695
        rw [h];simp only [binE,wr];omega
       clear a3695 k3695
       intro a3696 k3696
       have d3696:dec (e''''''' 3696)=dec (0)++[e''''''' 3693,(dec (e''''''' 715)).getD 0 0,(dec (e''''''' 715)).getD 1 0,(dec (e''''''' 715)).getD 2 0,e''''''' 3694,(dec (e''''''' 715)).getD 4 0,(dec (e''''''' 715)).getD 5 0,(dec (e''''''' 715)).getD 6 0]:=(congrArg dec (show e''''''' 3696=enc (dec (0)++[e''''''' 3693,(dec (e''''''' 715)).getD 0 0,(dec (e''''''' 715)).getD 1 0,(dec (e''''''' 715)).getD 2 0,e''''''' 3694,(dec (e''''''' 715)).getD 4 0,(dec (e''''''' 715)).getD 5 0,(dec (e''''''' 715)).getD 6 0]) from a3696)).trans (dec_enc _)
       rw [dec_zero] at d3696
       try simp only [List.nil_append] at d3696
       clear a3696 k3696
       have vu:e''''''' 3695=((u+1:Nat):Int):=by omega
       refine ⟨⟨u+1,e''''''' 3696,by omega,?_,?_⟩,?_⟩
       ·show [e''''''' 3695,e''''''' 3696]=_;rw [vu]
       ·rw [d3696]
        show _=rnd (K0.getD u 0) ((sch (fun k=>R.getD (64*i+k) 0) 64).getD u 0) (rnds K0 (sch (fun k=>R.getD (64*i+k) 0) 64) (dec (e''''' 698)) u)
        simp only [v1149,v1245,v1293,v1389,v1437,v1485,v1677,v1773,v1917,v1965,v2013,v2157,v2205,v2349,v2397,v2541,v2637,v2685,v2781,v2829,v3021,v3213,v3261,v3501,v3549,v3597,v3693,v3694,v3695,v714,z711,Int.toNat_natCast,z715]
        rfl
       ·show (64-e''''''' 3695).toNat<(64-e''''''' 714).toNat;omega
      ·have c716:=no_ h b716
       clear h
       have hu64:u=64:=by omega
       subst hu64
       have x697:e''''''' 697=((64*i:Nat):Int):=(he6 697 (by decide)).trans ((he5 697 (by decide)).trans v697)
       have x695:e''''''' 695=(R.length:Int):=(he6 695 (by decide)).trans ((he5 695 (by decide)).trans y695)
       have x694:dec (e''''''' 694)=R:=congrArg dec ((he6 694 (by decide)).trans (he5 694 (by decide))) |>.trans y694
       have x698:dec (e''''''' 698)=dec (e''''' 698):=congrArg dec ((he6 698 (by decide)).trans (he5 698 (by decide)))
       intro a1101 k1101
       have v1101:e''''''' 1101=binE .add .u32 ((dec (e''''''' 698)).getD 0 0) ((dec (e''''''' 715)).getD 0 0):=a1101
       clear a1101 k1101
       intro a1677 k1677
       have v1677:e''''''' 1677=binE .add .u32 ((dec (e''''''' 698)).getD 1 0) ((dec (e''''''' 715)).getD 1 0):=a1677
       clear a1677 k1677
       intro a2253 k2253
       have v2253:e''''''' 2253=binE .add .u32 ((dec (e''''''' 698)).getD 2 0) ((dec (e''''''' 715)).getD 2 0):=a2253
       clear a2253 k2253
       intro a2829 k2829
       have v2829:e''''''' 2829=binE .add .u32 ((dec (e''''''' 698)).getD 3 0) ((dec (e''''''' 715)).getD 3 0):=a2829
       clear a2829 k2829
       intro a3405 k3405
       have v3405:e''''''' 3405=binE .add .u32 ((dec (e''''''' 698)).getD 4 0) ((dec (e''''''' 715)).getD 4 0):=a3405
       clear a3405 k3405
       intro a3981 k3981
       have v3981:e''''''' 3981=binE .add .u32 ((dec (e''''''' 698)).getD 5 0) ((dec (e''''''' 715)).getD 5 0):=a3981
       clear a3981 k3981
       intro a4557 k4557
       have v4557:e''''''' 4557=binE .add .u32 ((dec (e''''''' 698)).getD 6 0) ((dec (e''''''' 715)).getD 6 0):=a4557
       clear a4557 k4557
       intro a5133 k5133
       have v5133:e''''''' 5133=binE .add .u32 ((dec (e''''''' 698)).getD 7 0) ((dec (e''''''' 715)).getD 7 0):=a5133
       clear a5133 k5133
       intro a5325 k5325
       have v5325:e''''''' 5325=((dec (e''''''' 694)).length:Int):=a5325
       clear a5325 k5325
       rw [x694] at v5325
       intro a5326 k5326
       have v5326:e''''''' 5326=(e''''''' 5325)-(e''''''' 697):=by
        have h:e''''''' 5326=binE .sub .i64 (e''''''' 5325) (e''''''' 697):=a5326
        rw [h];simp only [binE,wr];omega
       clear a5326 k5326
       intro a5327 k5327
       have v5327:e''''''' 5327=(e''''''' 695)-(e''''''' 697):=by
        have h:e''''''' 5327=binE .sub .i64 (e''''''' 695) (e''''''' 697):=a5327
        rw [h];simp only [binE,wr];omega
       clear a5327 k5327
       intro a5328 k5328
       have b5328:=c_le a5328
       simp only [ev_var,ev_lit,ev_limb] at b5328
       clear a5328 k5328
       intro a5329 k5329
       have b5329:=c_le a5329
       simp only [ev_var,ev_lit,ev_limb] at b5329
       clear a5329 k5329
       intro a5330 k5330
       have b5330:=c_le a5330
       simp only [ev_var,ev_lit,ev_limb] at b5330
       clear a5330 k5330
       intro a5331 k5331
       have v5331:e''''''' 5331=(e''''''' 697)+64:=by
        have h:e''''''' 5331=binE .add .i64 (e''''''' 697) 64:=a5331
        rw [h];simp only [binE,wr];omega
       clear a5331 k5331
       intro a5332 k5332
       have v5332:e''''''' 5332=(e''''''' 697)+(e''''''' 5327):=by
        have h:e''''''' 5332=binE .add .i64 (e''''''' 697) (e''''''' 5327):=a5332
        rw [h];simp only [binE,wr];omega
       clear a5332 k5332
       refine ⟨nz_ b5328 (by omega),?_⟩
       refine ⟨nz_ b5329 (by omega),?_⟩
       refine ⟨nz_ b5330 (by omega),?_⟩
       clear v5326 v5327 b5328 b5329 b5330 v5332
       intro a5333 k5333
       have d5333:dec (e''''''' 5333)=dec (0)++[e''''''' 1101,e''''''' 1677,e''''''' 2253,e''''''' 2829,e''''''' 3405,e''''''' 3981,e''''''' 4557,e''''''' 5133]:=(congrArg dec (show e''''''' 5333=enc (dec (0)++[e''''''' 1101,e''''''' 1677,e''''''' 2253,e''''''' 2829,e''''''' 3405,e''''''' 3981,e''''''' 4557,e''''''' 5133]) from a5333)).trans (dec_enc _)
       rw [dec_zero] at d5333
       try simp only [List.nil_append] at d5333
       clear a5333 k5333
       refine ⟨⟨i+1,e''''''' 5333,?_,?_,by omega⟩,?_⟩
       ·show [e''''''' 5331,e''''''' 5333]=_;rw [show e''''''' 5331=((64*(i+1):Nat):Int) by omega]
       ·rw [d5333]
        show _=blk K0 (Sha.run K0 H0 (fun k=>(padded b).getD k 0) (b.length/64+i)) fun k=>(padded b).getD (64*(b.length/64+i)+k) 0
        rw [blk_congr (c:=fun k=>R.getD (64*i+k) 0) (fun k hk=>by rw [<- pget];congr 1;omega),<- d698]
        simp only [v1101,v1677,v2253,v2829,v3405,v3981,v4557,v5133,x698,z715]
        rfl
       ·show ((R.length:Int)-e''''''' 5331).toNat<((R.length:Int)-e''''' 697).toNat;omega
    ·have c700:=no_ h b700
     clear h
     clear b700
     intro a701 k701
     have v701:e''''' 701=binE .shr .u32 ((dec (e''''' 698)).getD 0 0) 24:=a701
     clear a701 k701
     first | rw [y694] at v701 | skip
     intro a702 k702
     have v702:e''''' 702=wr .u8 (e''''' 701):=a702
     clear a702 k702
     intro a703 k703
     have v703:e''''' 703=binE .shr .u32 ((dec (e''''' 698)).getD 0 0) 16:=a703
     clear a703 k703
     intro a704 k704
     have v704:e''''' 704=wr .u8 (e''''' 703):=a704
     clear a704 k704
     intro a705 k705
     have v705:e''''' 705=binE .shr .u32 ((dec (e''''' 698)).getD 0 0) 8:=a705
     clear a705 k705
     intro a706 k706
     have v706:e''''' 706=wr .u8 (e''''' 705):=a706
     clear a706 k706
     intro a707 k707
     have v707:e''''' 707=wr .u8 ((dec (e''''' 698)).getD 0 0):=a707
     clear a707 k707
     intro a708 k708
     have v708:e''''' 708=binE .shr .u32 ((dec (e''''' 698)).getD 1 0) 24:=a708
     clear a708 k708
     intro a709 k709
     have v709:e''''' 709=wr .u8 (e''''' 708):=a709
     clear a709 k709
     intro a710 k710
     have v710:e''''' 710=binE .shr .u32 ((dec (e''''' 698)).getD 1 0) 16:=a710
     clear a710 k710
     intro a711 k711
     have v711:e''''' 711=wr .u8 (e''''' 710):=a711
     clear a711 k711
     intro a712 k712
     have v712:e''''' 712=binE .shr .u32 ((dec (e''''' 698)).getD 1 0) 8:=a712
     clear a712 k712
     intro a713 k713
     have v713:e''''' 713=wr .u8 (e''''' 712):=a713
     clear a713 k713
     intro a714 k714
     have v714:e''''' 714=wr .u8 ((dec (e''''' 698)).getD 1 0):=a714
     clear a714 k714
     intro a715 k715
     have v715:e''''' 715=binE .shr .u32 ((dec (e''''' 698)).getD 2 0) 24:=a715
     clear a715 k715
     intro a716 k716
     have v716:e''''' 716=wr .u8 (e''''' 715):=a716
     clear a716 k716
     intro a717 k717
     have v717:e''''' 717=binE .shr .u32 ((dec (e''''' 698)).getD 2 0) 16:=a717
     clear a717 k717
     intro a718 k718
     have v718:e''''' 718=wr .u8 (e''''' 717):=a718
     clear a718 k718
     intro a719 k719
     have v719:e''''' 719=binE .shr .u32 ((dec (e''''' 698)).getD 2 0) 8:=a719
     clear a719 k719
     intro a720 k720
     have v720:e''''' 720=wr .u8 (e''''' 719):=a720
     clear a720 k720
     intro a721 k721
     have v721:e''''' 721=wr .u8 ((dec (e''''' 698)).getD 2 0):=a721
     clear a721 k721
     intro a722 k722
     have v722:e''''' 722=binE .shr .u32 ((dec (e''''' 698)).getD 3 0) 24:=a722
     clear a722 k722
     intro a723 k723
     have v723:e''''' 723=wr .u8 (e''''' 722):=a723
     clear a723 k723
     intro a724 k724
     have v724:e''''' 724=binE .shr .u32 ((dec (e''''' 698)).getD 3 0) 16:=a724
     clear a724 k724
     intro a725 k725
     have v725:e''''' 725=wr .u8 (e''''' 724):=a725
     clear a725 k725
     intro a726 k726
     have v726:e''''' 726=binE .shr .u32 ((dec (e''''' 698)).getD 3 0) 8:=a726
     clear a726 k726
     intro a727 k727
     have v727:e''''' 727=wr .u8 (e''''' 726):=a727
     clear a727 k727
     intro a728 k728
     have v728:e''''' 728=wr .u8 ((dec (e''''' 698)).getD 3 0):=a728
     clear a728 k728
     intro a729 k729
     have v729:e''''' 729=binE .shr .u32 ((dec (e''''' 698)).getD 4 0) 24:=a729
     clear a729 k729
     intro a730 k730
     have v730:e''''' 730=wr .u8 (e''''' 729):=a730
     clear a730 k730
     intro a731 k731
     have v731:e''''' 731=binE .shr .u32 ((dec (e''''' 698)).getD 4 0) 16:=a731
     clear a731 k731
     intro a732 k732
     have v732:e''''' 732=wr .u8 (e''''' 731):=a732
     clear a732 k732
     intro a733 k733
     have v733:e''''' 733=binE .shr .u32 ((dec (e''''' 698)).getD 4 0) 8:=a733
     clear a733 k733
     intro a734 k734
     have v734:e''''' 734=wr .u8 (e''''' 733):=a734
     clear a734 k734
     intro a735 k735
     have v735:e''''' 735=wr .u8 ((dec (e''''' 698)).getD 4 0):=a735
     clear a735 k735
     intro a736 k736
     have v736:e''''' 736=binE .shr .u32 ((dec (e''''' 698)).getD 5 0) 24:=a736
     clear a736 k736
     intro a737 k737
     have v737:e''''' 737=wr .u8 (e''''' 736):=a737
     clear a737 k737
     intro a738 k738
     have v738:e''''' 738=binE .shr .u32 ((dec (e''''' 698)).getD 5 0) 16:=a738
     clear a738 k738
     intro a739 k739
     have v739:e''''' 739=wr .u8 (e''''' 738):=a739
     clear a739 k739
     intro a740 k740
     have v740:e''''' 740=binE .shr .u32 ((dec (e''''' 698)).getD 5 0) 8:=a740
     clear a740 k740
     intro a741 k741
     have v741:e''''' 741=wr .u8 (e''''' 740):=a741
     clear a741 k741
     intro a742 k742
     have v742:e''''' 742=wr .u8 ((dec (e''''' 698)).getD 5 0):=a742
     clear a742 k742
     intro a743 k743
     have v743:e''''' 743=binE .shr .u32 ((dec (e''''' 698)).getD 6 0) 24:=a743
     clear a743 k743
     intro a744 k744
     have v744:e''''' 744=wr .u8 (e''''' 743):=a744
     clear a744 k744
     intro a745 k745
     have v745:e''''' 745=binE .shr .u32 ((dec (e''''' 698)).getD 6 0) 16:=a745
     clear a745 k745
     intro a746 k746
     have v746:e''''' 746=wr .u8 (e''''' 745):=a746
     clear a746 k746
     intro a747 k747
     have v747:e''''' 747=binE .shr .u32 ((dec (e''''' 698)).getD 6 0) 8:=a747
     clear a747 k747
     intro a748 k748
     have v748:e''''' 748=wr .u8 (e''''' 747):=a748
     clear a748 k748
     intro a749 k749
     have v749:e''''' 749=wr .u8 ((dec (e''''' 698)).getD 6 0):=a749
     clear a749 k749
     intro a750 k750
     have v750:e''''' 750=binE .shr .u32 ((dec (e''''' 698)).getD 7 0) 24:=a750
     clear a750 k750
     intro a751 k751
     have v751:e''''' 751=wr .u8 (e''''' 750):=a751
     clear a751 k751
     intro a752 k752
     have v752:e''''' 752=binE .shr .u32 ((dec (e''''' 698)).getD 7 0) 16:=a752
     clear a752 k752
     intro a753 k753
     have v753:e''''' 753=wr .u8 (e''''' 752):=a753
     clear a753 k753
     intro a754 k754
     have v754:e''''' 754=binE .shr .u32 ((dec (e''''' 698)).getD 7 0) 8:=a754
     clear a754 k754
     intro a755 k755
     have v755:e''''' 755=wr .u8 (e''''' 754):=a755
     clear a755 k755
     intro a756 k756
     have v756:e''''' 756=wr .u8 ((dec (e''''' 698)).getD 7 0):=a756
     clear a756 k756
     intro a757 k757
     have d757:dec (e''''' 757)=dec (0)++[e''''' 702,e''''' 704,e''''' 706,e''''' 707,e''''' 709,e''''' 711,e''''' 713,e''''' 714,e''''' 716,e''''' 718,e''''' 720,e''''' 721,e''''' 723,e''''' 725,e''''' 727,e''''' 728,e''''' 730,e''''' 732,e''''' 734,e''''' 735,e''''' 737,e''''' 739,e''''' 741,e''''' 742,e''''' 744,e''''' 746,e''''' 748,e''''' 749,e''''' 751,e''''' 753,e''''' 755,e''''' 756]:=(congrArg dec (show e''''' 757=enc (dec (0)++[e''''' 702,e''''' 704,e''''' 706,e''''' 707,e''''' 709,e''''' 711,e''''' 713,e''''' 714,e''''' 716,e''''' 718,e''''' 720,e''''' 721,e''''' 723,e''''' 725,e''''' 727,e''''' 728,e''''' 730,e''''' 732,e''''' 734,e''''' 735,e''''' 737,e''''' 739,e''''' 741,e''''' 742,e''''' 744,e''''' 746,e''''' 748,e''''' 749,e''''' 751,e''''' 753,e''''' 755,e''''' 756]) from a757)).trans (dec_enc _)
     rw [dec_zero] at d757
     try simp only [List.nil_append] at d757
     clear k757
     show [e''''' 757]=_
     have hpl:(padded b).length/64=b.length/64+i:=by rw [hpad,List.length_append,ltk];omega
     show [e''''' 757]=[enc (out8 (Sha.run K0 H0 (fun k=>(padded b).getD k 0) ((padded b).length/64)))]
     rw [hpl,<- d698,show e''''' 757=enc (dec 0++[e''''' 702,e''''' 704,e''''' 706,e''''' 707,e''''' 709,e''''' 711,e''''' 713,e''''' 714,e''''' 716,e''''' 718,e''''' 720,e''''' 721,e''''' 723,e''''' 725,e''''' 727,e''''' 728,e''''' 730,e''''' 732,e''''' 734,e''''' 735,e''''' 737,e''''' 739,e''''' 741,e''''' 742,e''''' 744,e''''' 746,e''''' 748,e''''' 749,e''''' 751,e''''' 753,e''''' 755,e''''' 756]) from a757,dec_zero,out8_eq]
     simp only [v702,v701,v704,v703,v706,v705,v707,v709,v708,v711,v710,v713,v712,v714,v716,v715,v718,v717,v720,v719,v721,v723,v722,v725,v724,v727,v726,v728,v730,v729,v732,v731,v734,v733,v735,v737,v736,v739,v738,v741,v740,v742,v744,v743,v746,v745,v748,v747,v749,v751,v750,v753,v752,v755,v754,v756]
     rfl
end Sha
end Go.Sx
