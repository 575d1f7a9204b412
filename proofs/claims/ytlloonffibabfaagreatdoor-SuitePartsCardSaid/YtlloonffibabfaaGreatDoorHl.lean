/- Part Hl of the proof. -/
import Derived.Test.YtlloonffibabfaaGreatDoorHk
set_option linter.unusedVariables false
set_option linter.unusedSimpArgs false
namespace Go.Sx
open Go Go.RowKit
set_option maxRecDepth 100000
namespace Sha
theorem Zy0(x:Int):Qm .shr .u32 x 0=x:=Int.fdiv_one x
theorem Zoo(h:List Int):Zm2 h=[0,1,2,3,4,5,6,7].flatMap fun j=>[wr .u8 (Qm .shr .u32 (h.getD j 0) 24),wr .u8 (Qm .shr .u32 (h.getD j 0) 16),wr .u8 (Qm .shr .u32 (h.getD j 0) 8),wr .u8 (h.getD j 0)]:=by
 simp only[Zm2,Mn,M7,Zy0]
theorem Zmy{l:List Int}(h:l.length=64):(List.range 64).map (fun i=>l.getD i 0)=l:=by
 refine List.ext_getElem (by simp[h]) fun i h1 h2=>?_
 simp[Ou,h2]
def tDSum:Qq:=(.l 1 kI (.llen (.v 0))
(.l 2 (.arr .u32 8) (.lapp (.n 0) [.n 1779033703,.n 3144134277,.n 1013904242,.n 2773480762,.n 1359893119,.n 2600822924,.n 528734635,.n 1541459225])
(.l 3 (.arr .u8 64) (.lapp (.n 0) [.n 0,.n 0,.n 0,.n 0,.n 0,.n 0,.n 0,.n 0,.n 0,.n 0,.n 0,.n 0,.n 0,.n 0,.n 0,.n 0,.n 0,.n 0,.n 0,.n 0,.n 0,.n 0,.n 0,.n 0,.n 0,.n 0,.n 0,.n 0,.n 0,.n 0,.n 0,.n 0,.n 0,.n 0,.n 0,.n 0,.n 0,.n 0,.n 0,.n 0,.n 0,.n 0,.n 0,.n 0,.n 0,.n 0,.n 0,.n 0,.n 0,.n 0,.n 0,.n 0,.n 0,.n 0,.n 0,.n 0,.n 0,.n 0,.n 0,.n 0,.n 0,.n 0,.n 0,.n 0])
(.loop [.n 0,.v 2,.v 3,.n 0,.n 1] [kI,(.arr .u32 8),(.arr .u8 64),kI,.bit] 4
(.l 9 .bit (.c .lss (.v 4) (.v 1))
(.split 9
(.l 10 kI (.llen (.v 0))
(.l 11 .bit (.c .leq (.n 0) (.v 4))
(.l 12 .bit (.c .lss (.v 4) (.v 10))
(.nz (.v 11)
(.nz (.v 12)
(.l 13 kB (.lget (.v 0) (.v 4))
(.l 254 kI (.b .rem .i64 (.v 7) (.n 64))
(.l 446 .bit (.c .leq (.n 0) (.v 254))
(.l 447 .bit (.c .lss (.v 254) (.n 64))
(.nz (.v 446)
(.nz (.v 447)
(.l 494 (.arr .u8 64) (.lsub (.v 6) (.n 0) (.n 64))
(.l 495 (.arr .u8 64) (.lput (.v 494) (.v 254) (.v 13))
(.l 542 kI (.b .add .i64 (.v 7) (.n 1))
(.l 543 kI (.b .rem .i64 (.v 542) (.n 64))
(.l 544 .bit (.c .eql (.v 543) (.n 0))
(.split 544
(.l 929 (.arr .u32 64) (.lapp (.n 0) [.n 0,.n 0,.n 0,.n 0,.n 0,.n 0,.n 0,.n 0,.n 0,.n 0,.n 0,.n 0,.n 0,.n 0,.n 0,.n 0,.n 0,.n 0,.n 0,.n 0,.n 0,.n 0,.n 0,.n 0,.n 0,.n 0,.n 0,.n 0,.n 0,.n 0,.n 0,.n 0,.n 0,.n 0,.n 0,.n 0,.n 0,.n 0,.n 0,.n 0,.n 0,.n 0,.n 0,.n 0,.n 0,.n 0,.n 0,.n 0,.n 0,.n 0,.n 0,.n 0,.n 0,.n 0,.n 0,.n 0,.n 0,.n 0,.n 0,.n 0,.n 0,.n 0,.n 0,.n 0])
(.loop [.n 0,.v 929] [kI,(.arr .u32 64)] 930
(.l 932 .bit (.c .lss (.v 930) (.n 64))
(.split 932
(.l 933 .bit (.c .lss (.v 930) (.n 16))
(.split 933
(.l 1078 kI (.b .mul .i64 (.n 4) (.v 930))
(.l 1126 .bit (.c .leq (.n 0) (.v 1078))
(.l 1127 .bit (.c .lss (.v 1078) (.n 64))
(.nz (.v 1126)
(.nz (.v 1127)
(.l 1174 kB (.lget (.v 495) (.v 1078))
(.l 1270 kW (.b .shl .u32 (.v 1174) (.n 24))
(.l 1414 kI (.b .mul .i64 (.n 4) (.v 930))
(.l 1462 kI (.b .add .i64 (.v 1414) (.n 1))
(.l 1510 .bit (.c .leq (.n 0) (.v 1462))
(.l 1511 .bit (.c .lss (.v 1462) (.n 64))
(.nz (.v 1510)
(.nz (.v 1511)
(.l 1558 kB (.lget (.v 495) (.v 1462))
(.l 1654 kW (.b .shl .u32 (.v 1558) (.n 16))
(.l 1702 kW (.b .or .u32 (.v 1270) (.v 1654))
(.l 1846 kI (.b .mul .i64 (.n 4) (.v 930))
(.l 1894 kI (.b .add .i64 (.v 1846) (.n 2))
(.l 1942 .bit (.c .leq (.n 0) (.v 1894))
(.l 1943 .bit (.c .lss (.v 1894) (.n 64))
(.nz (.v 1942)
(.nz (.v 1943)
(.l 1990 kB (.lget (.v 495) (.v 1894))
(.l 2086 kW (.b .shl .u32 (.v 1990) (.n 8))
(.l 2134 kW (.b .or .u32 (.v 1702) (.v 2086))
(.l 2278 kI (.b .mul .i64 (.n 4) (.v 930))
(.l 2326 kI (.b .add .i64 (.v 2278) (.n 3))
(.l 2374 .bit (.c .leq (.n 0) (.v 2326))
(.l 2375 .bit (.c .lss (.v 2326) (.n 64))
(.nz (.v 2374)
(.nz (.v 2375)
(.l 2422 kB (.lget (.v 495) (.v 2326))
(.l 2518 kW (.b .or .u32 (.v 2134) (.v 2422))
(.l 2566 .bit (.c .leq (.n 0) (.v 930))
(.l 2567 .bit (.c .lss (.v 930) (.n 64))
(.nz (.v 2566)
(.nz (.v 2567)
(.l 2614 (.arr .u32 64) (.lsub (.v 931) (.n 0) (.n 64))
(.l 2615 (.arr .u32 64) (.lput (.v 2614) (.v 930) (.v 2518))
(.l 2662 kI (.b .add .i64 (.v 930) (.n 1))
(.l 2663 (.arr .u32 64) (.lsub (.v 2615) (.n 0) (.n 64))
(.back 1 [.v 2662,.v 2663]))))))))))))))))))))))))))))))))))))))))))
(.l 982 kI (.b .sub .i64 (.v 930) (.n 15))
(.l 1030 .bit (.c .leq (.n 0) (.v 982))
(.l 1031 .bit (.c .lss (.v 982) (.n 64))
(.nz (.v 1030)
(.nz (.v 1031)
(.l 1078 kW (.lget (.v 931) (.v 982))
(.l 1174 kI (.b .sub .i64 (.v 930) (.n 2))
(.l 1222 .bit (.c .leq (.n 0) (.v 1174))
(.l 1223 .bit (.c .lss (.v 1174) (.n 64))
(.nz (.v 1222)
(.nz (.v 1223)
(.l 1270 kW (.lget (.v 931) (.v 1174))
(xw 0 [.v 1270,.n 17] 1510 [kW]
(xw 0 [.v 1270,.n 19] 1606 [kW]
(.l 1654 kW (.b .xor .u32 (.v 1510) (.v 1606))
(.l 1750 kW (.b .shr .u32 (.v 1270) (.n 10))
(.l 1798 kW (.b .xor .u32 (.v 1654) (.v 1750))
(.l 1894 kI (.b .sub .i64 (.v 930) (.n 7))
(.l 1942 .bit (.c .leq (.n 0) (.v 1894))
(.l 1943 .bit (.c .lss (.v 1894) (.n 64))
(.nz (.v 1942)
(.nz (.v 1943)
(.l 1990 kW (.lget (.v 931) (.v 1894))
(.l 2038 kW (.b .add .u32 (.v 1798) (.v 1990))
(xw 0 [.v 1078,.n 7] 2134 [kW]
(xw 0 [.v 1078,.n 18] 2230 [kW]
(.l 2278 kW (.b .xor .u32 (.v 2134) (.v 2230))
(.l 2374 kW (.b .shr .u32 (.v 1078) (.n 3))
(.l 2422 kW (.b .xor .u32 (.v 2278) (.v 2374))
(.l 2470 kW (.b .add .u32 (.v 2038) (.v 2422))
(.l 2566 kI (.b .sub .i64 (.v 930) (.n 16))
(.l 2614 .bit (.c .leq (.n 0) (.v 2566))
(.l 2615 .bit (.c .lss (.v 2566) (.n 64))
(.nz (.v 2614)
(.nz (.v 2615)
(.l 2662 kW (.lget (.v 931) (.v 2566))
(.l 2710 kW (.b .add .u32 (.v 2470) (.v 2662))
(.l 2758 .bit (.c .leq (.n 0) (.v 930))
(.l 2759 .bit (.c .lss (.v 930) (.n 64))
(.nz (.v 2758)
(.nz (.v 2759)
(.l 2806 (.arr .u32 64) (.lsub (.v 931) (.n 0) (.n 64))
(.l 2807 (.arr .u32 64) (.lput (.v 2806) (.v 930) (.v 2710))
(.l 2854 kI (.b .add .i64 (.v 930) (.n 1))
(.l 2855 (.arr .u32 64) (.lsub (.v 2807) (.n 0) (.n 64))
(.back 1 [.v 2854,.v 2855]))))))))))))))))))))))))))))))))))))))))))))))))
(.l 933 (.arr .u32 8) (.lsub (.v 5) (.n 0) (.n 8))
(.loop [.n 0,.v 933] [kI,(.arr .u32 8)] 934
(.l 936 .bit (.c .lss (.v 934) (.n 64))
(.split 936
(xw 0 [(.elt .u32 935 4),.n 6] 1369 [kW]
(xw 0 [(.elt .u32 935 4),.n 11] 1465 [kW]
(.l 1513 kW (.b .xor .u32 (.v 1369) (.v 1465))
(xw 0 [(.elt .u32 935 4),.n 25] 1609 [kW]
(.l 1657 kW (.b .xor .u32 (.v 1513) (.v 1609))
(.l 1705 kW (.b .add .u32 (.elt .u32 935 7) (.v 1657))
(.l 1897 kW (.b .and .u32 (.elt .u32 935 4) (.elt .u32 935 5))
(.l 1993 kW (.b .xor .u32 (.n 4294967295) (.elt .u32 935 4))
(.l 2137 kW (.b .and .u32 (.v 1993) (.elt .u32 935 6))
(.l 2185 kW (.b .xor .u32 (.v 1897) (.v 2137))
(.l 2233 kW (.b .add .u32 (.v 1705) (.v 2185))
(.l 2329 .bit (.c .leq (.n 0) (.v 934))
(.l 2330 .bit (.c .lss (.v 934) (.n 64))
(.nz (.v 2329)
(.nz (.v 2330)
(.l 2377 kW (.sel (.v 934) [.n 1116352408,.n 1899447441,.n 3049323471,.n 3921009573,.n 961987163,.n 1508970993,.n 2453635748,.n 2870763221,.n 3624381080,.n 310598401,.n 607225278,.n 1426881987,.n 1925078388,.n 2162078206,.n 2614888103,.n 3248222580,.n 3835390401,.n 4022224774,.n 264347078,.n 604807628,.n 770255983,.n 1249150122,.n 1555081692,.n 1996064986,.n 2554220882,.n 2821834349,.n 2952996808,.n 3210313671,.n 3336571891,.n 3584528711,.n 113926993,.n 338241895,.n 666307205,.n 773529912,.n 1294757372,.n 1396182291,.n 1695183700,.n 1986661051,.n 2177026350,.n 2456956037,.n 2730485921,.n 2820302411,.n 3259730800,.n 3345764771,.n 3516065817,.n 3600352804,.n 4094571909,.n 275423344,.n 430227734,.n 506948616,.n 659060556,.n 883997877,.n 958139571,.n 1322822218,.n 1537002063,.n 1747873779,.n 1955562222,.n 2024104815,.n 2227730452,.n 2361852424,.n 2428436474,.n 2756734187,.n 3204031479,.n 3329325298])
(.l 2425 kW (.b .add .u32 (.v 2233) (.v 2377))
(.l 2521 .bit (.c .leq (.n 0) (.v 934))
(.l 2522 .bit (.c .lss (.v 934) (.n 64))
(.nz (.v 2521)
(.nz (.v 2522)
(.l 2569 kW (.lget (.v 931) (.v 934))
(.l 2617 kW (.b .add .u32 (.v 2425) (.v 2569))
(xw 0 [(.elt .u32 935 0),.n 2] 2761 [kW]
(xw 0 [(.elt .u32 935 0),.n 13] 2857 [kW]
(.l 2905 kW (.b .xor .u32 (.v 2761) (.v 2857))
(xw 0 [(.elt .u32 935 0),.n 22] 3001 [kW]
(.l 3049 kW (.b .xor .u32 (.v 2905) (.v 3001))
(.l 3241 kW (.b .and .u32 (.elt .u32 935 0) (.elt .u32 935 1))
(.l 3433 kW (.b .and .u32 (.elt .u32 935 0) (.elt .u32 935 2))
(.l 3481 kW (.b .xor .u32 (.v 3241) (.v 3433))
(.l 3721 kW (.b .and .u32 (.elt .u32 935 1) (.elt .u32 935 2))
(.l 3769 kW (.b .xor .u32 (.v 3481) (.v 3721))
(.l 3817 kW (.b .add .u32 (.v 3049) (.v 3769))
(.l 3913 kW (.b .add .u32 (.v 2617) (.v 3817))
(.l 3914 kW (.b .add .u32 (.elt .u32 935 3) (.v 2617))
(.l 3915 kI (.b .add .i64 (.v 934) (.n 1))
(.l 3916 (.arr .u32 8) (.lapp (.n 0) [.v 3913,(.elt .u32 935 0),(.elt .u32 935 1),(.elt .u32 935 2),.v 3914,(.elt .u32 935 4),(.elt .u32 935 5),(.elt .u32 935 6)])
(.back 2 [.v 3915,.v 3916])))))))))))))))))))))))))))))))))))))))
(.l 1321 kW (.b .add .u32 (.elt .u32 5 0) (.elt .u32 935 0))
(.l 1897 kW (.b .add .u32 (.elt .u32 5 1) (.elt .u32 935 1))
(.l 2473 kW (.b .add .u32 (.elt .u32 5 2) (.elt .u32 935 2))
(.l 3049 kW (.b .add .u32 (.elt .u32 5 3) (.elt .u32 935 3))
(.l 3625 kW (.b .add .u32 (.elt .u32 5 4) (.elt .u32 935 4))
(.l 4201 kW (.b .add .u32 (.elt .u32 5 5) (.elt .u32 935 5))
(.l 4777 kW (.b .add .u32 (.elt .u32 5 6) (.elt .u32 935 6))
(.l 5353 kW (.b .add .u32 (.elt .u32 5 7) (.elt .u32 935 7))
(.l 5545 kI (.b .add .i64 (.v 4) (.n 1))
(.l 5546 (.arr .u32 8) (.lapp (.n 0) [.v 1321,.v 1897,.v 2473,.v 3049,.v 3625,.v 4201,.v 4777,.v 5353])
(.l 5547 (.arr .u8 64) (.lsub (.v 495) (.n 0) (.n 64))
(.back 0 [.v 5545,.v 5546,.v 5547,.v 542,.v 8]))))))))))))))))))))
(.l 545 kI (.b .add .i64 (.v 4) (.n 1))
(.l 546 (.arr .u32 8) (.lsub (.v 5) (.n 0) (.n 8))
(.l 547 (.arr .u8 64) (.lsub (.v 495) (.n 0) (.n 64))
(.back 0 [.v 545,.v 546,.v 547,.v 542,.v 8])))))))))))))))))))))
(.l 10 .bit (.not (.v 8))
(.split 10
(.l 11 (.arr .u8 32) (.lapp (.n 0) [.n 0,.n 0,.n 0,.n 0,.n 0,.n 0,.n 0,.n 0,.n 0,.n 0,.n 0,.n 0,.n 0,.n 0,.n 0,.n 0,.n 0,.n 0,.n 0,.n 0,.n 0,.n 0,.n 0,.n 0,.n 0,.n 0,.n 0,.n 0,.n 0,.n 0,.n 0,.n 0])
(.ret [.v 11]))
(.l 347 kI (.b .rem .i64 (.v 7) (.n 64))
(.l 395 .bit (.c .leq (.n 0) (.v 347))
(.l 396 .bit (.c .leq (.v 347) (.n 64))
(.nz (.v 395)
(.nz (.v 396)
(.l 443 (.lst (.int .u8)) (.lapp (.n 0) [(.elt .u8 6 0),(.elt .u8 6 1),(.elt .u8 6 2),(.elt .u8 6 3),(.elt .u8 6 4),(.elt .u8 6 5),(.elt .u8 6 6),(.elt .u8 6 7),(.elt .u8 6 8),(.elt .u8 6 9),(.elt .u8 6 10),(.elt .u8 6 11),(.elt .u8 6 12),(.elt .u8 6 13),(.elt .u8 6 14),(.elt .u8 6 15),(.elt .u8 6 16),(.elt .u8 6 17),(.elt .u8 6 18),(.elt .u8 6 19),(.elt .u8 6 20),(.elt .u8 6 21),(.elt .u8 6 22),(.elt .u8 6 23),(.elt .u8 6 24),(.elt .u8 6 25),(.elt .u8 6 26),(.elt .u8 6 27),(.elt .u8 6 28),(.elt .u8 6 29),(.elt .u8 6 30),(.elt .u8 6 31),(.elt .u8 6 32),(.elt .u8 6 33),(.elt .u8 6 34),(.elt .u8 6 35),(.elt .u8 6 36),(.elt .u8 6 37),(.elt .u8 6 38),(.elt .u8 6 39),(.elt .u8 6 40),(.elt .u8 6 41),(.elt .u8 6 42),(.elt .u8 6 43),(.elt .u8 6 44),(.elt .u8 6 45),(.elt .u8 6 46),(.elt .u8 6 47),(.elt .u8 6 48),(.elt .u8 6 49),(.elt .u8 6 50),(.elt .u8 6 51),(.elt .u8 6 52),(.elt .u8 6 53),(.elt .u8 6 54),(.elt .u8 6 55),(.elt .u8 6 56),(.elt .u8 6 57),(.elt .u8 6 58),(.elt .u8 6 59),(.elt .u8 6 60),(.elt .u8 6 61),(.elt .u8 6 62),(.elt .u8 6 63)])
(.l 444 (.lst (.int .u8)) (.lsub (.v 443) (.n 0) (.v 347))
(.l 445 kI (.llen (.n 0))
(.l 446 .bit (.c .lss (.v 445) (.n 2147483648))
(.l 447 kI (.llen (.v 444))
(.l 448 .bit (.c .lss (.v 447) (.n 2147483648))
(.nz (.v 446)
(.nz (.v 448)
(.l 449 (.lst (.int .u8)) (.lcat (.n 0) (.v 444))
(.l 539 (.lst (.int .u8)) (.lapp (.n 0) [.n 128])
(.l 540 kI (.llen (.v 449))
(.l 541 .bit (.c .lss (.v 540) (.n 2147483648))
(.l 542 kI (.llen (.v 539))
(.l 543 .bit (.c .lss (.v 542) (.n 2147483648))
(.nz (.v 541)
(.nz (.v 543)
(.l 544 (.lst (.int .u8)) (.lcat (.v 449) (.v 539))
(.loop [.v 544] [(.lst (.int .u8))] 635
(.l 636 kI (.llen (.v 635))
(.l 637 kI (.b .rem .i64 (.v 636) (.n 64))
(.l 638 .bit (.c .neq (.v 637) (.n 56))
(.split 638
(.l 639 kI (.llen (.v 635))
(.l 640 .bit (.c .lss (.v 639) (.n 4294967296))
(.nz (.v 640)
(.l 641 (.lst (.int .u8)) (.lapp (.v 635) [.n 0])
(.back 1 [.v 641])))))
(.l 639 kU (.conv .u64 (.v 7))
(.l 640 kU (.b .shl .u64 (.v 639) (.n 3))
(.l 641 kU (.b .shr .u64 (.v 640) (.n 56))
(.l 642 kB (.conv .u8 (.v 641))
(.l 643 kI (.llen (.v 635))
(.l 644 .bit (.c .lss (.v 643) (.n 4294967296))
(.nz (.v 644)
(.l 645 (.lst (.int .u8)) (.lapp (.v 635) [.v 642])
(.l 646 kU (.conv .u64 (.v 7))
(.l 647 kU (.b .shl .u64 (.v 646) (.n 3))
(.l 648 kU (.b .shr .u64 (.v 647) (.n 48))
(.l 649 kB (.conv .u8 (.v 648))
(.l 650 kI (.llen (.v 645))
(.l 651 .bit (.c .lss (.v 650) (.n 4294967296))
(.nz (.v 651)
(.l 652 (.lst (.int .u8)) (.lapp (.v 645) [.v 649])
(.l 653 kU (.conv .u64 (.v 7))
(.l 654 kU (.b .shl .u64 (.v 653) (.n 3))
(.l 655 kU (.b .shr .u64 (.v 654) (.n 40))
(.l 656 kB (.conv .u8 (.v 655))
(.l 657 kI (.llen (.v 652))
(.l 658 .bit (.c .lss (.v 657) (.n 4294967296))
(.nz (.v 658)
(.l 659 (.lst (.int .u8)) (.lapp (.v 652) [.v 656])
(.l 660 kU (.conv .u64 (.v 7))
(.l 661 kU (.b .shl .u64 (.v 660) (.n 3))
(.l 662 kU (.b .shr .u64 (.v 661) (.n 32))
(.l 663 kB (.conv .u8 (.v 662))
(.l 664 kI (.llen (.v 659))
(.l 665 .bit (.c .lss (.v 664) (.n 4294967296))
(.nz (.v 665)
(.l 666 (.lst (.int .u8)) (.lapp (.v 659) [.v 663])
(.l 667 kU (.conv .u64 (.v 7))
(.l 668 kU (.b .shl .u64 (.v 667) (.n 3))
(.l 669 kU (.b .shr .u64 (.v 668) (.n 24))
(.l 670 kB (.conv .u8 (.v 669))
(.l 671 kI (.llen (.v 666))
(.l 672 .bit (.c .lss (.v 671) (.n 4294967296))
(.nz (.v 672)
(.l 673 (.lst (.int .u8)) (.lapp (.v 666) [.v 670])
(.l 674 kU (.conv .u64 (.v 7))
(.l 675 kU (.b .shl .u64 (.v 674) (.n 3))
(.l 676 kU (.b .shr .u64 (.v 675) (.n 16))
(.l 677 kB (.conv .u8 (.v 676))
(.l 678 kI (.llen (.v 673))
(.l 679 .bit (.c .lss (.v 678) (.n 4294967296))
(.nz (.v 679)
(.l 680 (.lst (.int .u8)) (.lapp (.v 673) [.v 677])
(.l 681 kU (.conv .u64 (.v 7))
(.l 682 kU (.b .shl .u64 (.v 681) (.n 3))
(.l 683 kU (.b .shr .u64 (.v 682) (.n 8))
(.l 684 kB (.conv .u8 (.v 683))
(.l 685 kI (.llen (.v 680))
(.l 686 .bit (.c .lss (.v 685) (.n 4294967296))
(.nz (.v 686)
(.l 687 (.lst (.int .u8)) (.lapp (.v 680) [.v 684])
(.l 688 kU (.conv .u64 (.v 7))
(.l 689 kU (.b .shl .u64 (.v 688) (.n 3))
(.l 690 kU (.b .shr .u64 (.v 689) (.n 0))
(.l 691 kB (.conv .u8 (.v 690))
(.l 692 kI (.llen (.v 687))
(.l 693 .bit (.c .lss (.v 692) (.n 4294967296))
(.nz (.v 693)
(.l 694 (.lst (.int .u8)) (.lapp (.v 687) [.v 691])
(.l 695 kI (.llen (.v 694))
(.l 696 (.arr .u32 8) (.lsub (.v 5) (.n 0) (.n 8))
(.loop [.n 0,.v 696] [kI,(.arr .u32 8)] 697
(.l 699 kI (.b .sub .i64 (.v 695) (.v 697))
(.l 700 .bit (.c .gtr (.v 699) (.n 0))
(.split 700
(.l 701 kI (.llen (.v 694))
(.l 702 kI (.b .sub .i64 (.v 701) (.v 697))
(.l 703 kI (.b .sub .i64 (.v 695) (.v 697))
(.l 704 .bit (.c .leq (.n 0) (.n 0))
(.l 705 .bit (.c .leq (.n 0) (.n 64))
(.l 706 .bit (.c .leq (.n 64) (.v 702))
(.l 707 kI (.b .add .i64 (.v 697) (.n 0))
(.l 708 kI (.b .add .i64 (.v 697) (.n 64))
(.nz (.v 704)
(.nz (.v 705)
(.nz (.v 706)
(.l 709 (.arr .u32 64) (.lapp (.n 0) [.n 0,.n 0,.n 0,.n 0,.n 0,.n 0,.n 0,.n 0,.n 0,.n 0,.n 0,.n 0,.n 0,.n 0,.n 0,.n 0,.n 0,.n 0,.n 0,.n 0,.n 0,.n 0,.n 0,.n 0,.n 0,.n 0,.n 0,.n 0,.n 0,.n 0,.n 0,.n 0,.n 0,.n 0,.n 0,.n 0,.n 0,.n 0,.n 0,.n 0,.n 0,.n 0,.n 0,.n 0,.n 0,.n 0,.n 0,.n 0,.n 0,.n 0,.n 0,.n 0,.n 0,.n 0,.n 0,.n 0,.n 0,.n 0,.n 0,.n 0,.n 0,.n 0,.n 0,.n 0])
(.loop [.n 0,.v 709] [kI,(.arr .u32 64)] 710
(.l 712 .bit (.c .lss (.v 710) (.n 64))
(.split 712
(.l 713 .bit (.c .lss (.v 710) (.n 16))
(.split 713
(.l 858 kI (.b .mul .i64 (.n 4) (.v 710))
(.l 906 kI (.b .sub .i64 (.v 708) (.v 707))
(.l 907 .bit (.c .leq (.n 0) (.v 858))
(.l 908 .bit (.c .lss (.v 858) (.v 906))
(.l 909 kI (.b .add .i64 (.v 707) (.v 858))
(.nz (.v 907)
(.nz (.v 908)
(.l 954 kB (.lget (.v 694) (.v 909))
(.l 1050 kW (.b .shl .u32 (.v 954) (.n 24))
(.l 1194 kI (.b .mul .i64 (.n 4) (.v 710))
(.l 1242 kI (.b .add .i64 (.v 1194) (.n 1))
(.l 1290 kI (.b .sub .i64 (.v 708) (.v 707))
(.l 1291 .bit (.c .leq (.n 0) (.v 1242))
(.l 1292 .bit (.c .lss (.v 1242) (.v 1290))
(.l 1293 kI (.b .add .i64 (.v 707) (.v 1242))
(.nz (.v 1291)
(.nz (.v 1292)
(.l 1338 kB (.lget (.v 694) (.v 1293))
(.l 1434 kW (.b .shl .u32 (.v 1338) (.n 16))
(.l 1482 kW (.b .or .u32 (.v 1050) (.v 1434))
(.l 1626 kI (.b .mul .i64 (.n 4) (.v 710))
(.l 1674 kI (.b .add .i64 (.v 1626) (.n 2))
(.l 1722 kI (.b .sub .i64 (.v 708) (.v 707))
(.l 1723 .bit (.c .leq (.n 0) (.v 1674))
(.l 1724 .bit (.c .lss (.v 1674) (.v 1722))
(.l 1725 kI (.b .add .i64 (.v 707) (.v 1674))
(.nz (.v 1723)
(.nz (.v 1724)
(.l 1770 kB (.lget (.v 694) (.v 1725))
(.l 1866 kW (.b .shl .u32 (.v 1770) (.n 8))
(.l 1914 kW (.b .or .u32 (.v 1482) (.v 1866))
(.l 2058 kI (.b .mul .i64 (.n 4) (.v 710))
(.l 2106 kI (.b .add .i64 (.v 2058) (.n 3))
(.l 2154 kI (.b .sub .i64 (.v 708) (.v 707))
(.l 2155 .bit (.c .leq (.n 0) (.v 2106))
(.l 2156 .bit (.c .lss (.v 2106) (.v 2154))
(.l 2157 kI (.b .add .i64 (.v 707) (.v 2106))
(.nz (.v 2155)
(.nz (.v 2156)
(.l 2202 kB (.lget (.v 694) (.v 2157))
(.l 2298 kW (.b .or .u32 (.v 1914) (.v 2202))
(.l 2346 .bit (.c .leq (.n 0) (.v 710))
(.l 2347 .bit (.c .lss (.v 710) (.n 64))
(.nz (.v 2346)
(.nz (.v 2347)
(.l 2394 (.arr .u32 64) (.lsub (.v 711) (.n 0) (.n 64))
(.l 2395 (.arr .u32 64) (.lput (.v 2394) (.v 710) (.v 2298))
(.l 2442 kI (.b .add .i64 (.v 710) (.n 1))
(.l 2443 (.arr .u32 64) (.lsub (.v 2395) (.n 0) (.n 64))
(.back 3 [.v 2442,.v 2443]))))))))))))))))))))))))))))))))))))))))))))))))))
(.l 762 kI (.b .sub .i64 (.v 710) (.n 15))
(.l 810 .bit (.c .leq (.n 0) (.v 762))
(.l 811 .bit (.c .lss (.v 762) (.n 64))
(.nz (.v 810)
(.nz (.v 811)
(.l 858 kW (.lget (.v 711) (.v 762))
(.l 954 kI (.b .sub .i64 (.v 710) (.n 2))
(.l 1002 .bit (.c .leq (.n 0) (.v 954))
(.l 1003 .bit (.c .lss (.v 954) (.n 64))
(.nz (.v 1002)
(.nz (.v 1003)
(.l 1050 kW (.lget (.v 711) (.v 954))
(xw 0 [.v 1050,.n 17] 1290 [kW]
(xw 0 [.v 1050,.n 19] 1386 [kW]
(.l 1434 kW (.b .xor .u32 (.v 1290) (.v 1386))
(.l 1530 kW (.b .shr .u32 (.v 1050) (.n 10))
(.l 1578 kW (.b .xor .u32 (.v 1434) (.v 1530))
(.l 1674 kI (.b .sub .i64 (.v 710) (.n 7))
(.l 1722 .bit (.c .leq (.n 0) (.v 1674))
(.l 1723 .bit (.c .lss (.v 1674) (.n 64))
(.nz (.v 1722)
(.nz (.v 1723)
(.l 1770 kW (.lget (.v 711) (.v 1674))
(.l 1818 kW (.b .add .u32 (.v 1578) (.v 1770))
(xw 0 [.v 858,.n 7] 1914 [kW]
(xw 0 [.v 858,.n 18] 2010 [kW]
(.l 2058 kW (.b .xor .u32 (.v 1914) (.v 2010))
(.l 2154 kW (.b .shr .u32 (.v 858) (.n 3))
(.l 2202 kW (.b .xor .u32 (.v 2058) (.v 2154))
(.l 2250 kW (.b .add .u32 (.v 1818) (.v 2202))
(.l 2346 kI (.b .sub .i64 (.v 710) (.n 16))
(.l 2394 .bit (.c .leq (.n 0) (.v 2346))
(.l 2395 .bit (.c .lss (.v 2346) (.n 64))
(.nz (.v 2394)
(.nz (.v 2395)
(.l 2442 kW (.lget (.v 711) (.v 2346))
(.l 2490 kW (.b .add .u32 (.v 2250) (.v 2442))
(.l 2538 .bit (.c .leq (.n 0) (.v 710))
(.l 2539 .bit (.c .lss (.v 710) (.n 64))
(.nz (.v 2538)
(.nz (.v 2539)
(.l 2586 (.arr .u32 64) (.lsub (.v 711) (.n 0) (.n 64))
(.l 2587 (.arr .u32 64) (.lput (.v 2586) (.v 710) (.v 2490))
(.l 2634 kI (.b .add .i64 (.v 710) (.n 1))
(.l 2635 (.arr .u32 64) (.lsub (.v 2587) (.n 0) (.n 64))
(.back 3 [.v 2634,.v 2635]))))))))))))))))))))))))))))))))))))))))))))))))
(.l 713 (.arr .u32 8) (.lsub (.v 698) (.n 0) (.n 8))
(.loop [.n 0,.v 713] [kI,(.arr .u32 8)] 714
(.l 716 .bit (.c .lss (.v 714) (.n 64))
(.split 716
(xw 0 [(.elt .u32 715 4),.n 6] 1149 [kW]
(xw 0 [(.elt .u32 715 4),.n 11] 1245 [kW]
(.l 1293 kW (.b .xor .u32 (.v 1149) (.v 1245))
(xw 0 [(.elt .u32 715 4),.n 25] 1389 [kW]
(.l 1437 kW (.b .xor .u32 (.v 1293) (.v 1389))
(.l 1485 kW (.b .add .u32 (.elt .u32 715 7) (.v 1437))
(.l 1677 kW (.b .and .u32 (.elt .u32 715 4) (.elt .u32 715 5))
(.l 1773 kW (.b .xor .u32 (.n 4294967295) (.elt .u32 715 4))
(.l 1917 kW (.b .and .u32 (.v 1773) (.elt .u32 715 6))
(.l 1965 kW (.b .xor .u32 (.v 1677) (.v 1917))
(.l 2013 kW (.b .add .u32 (.v 1485) (.v 1965))
(.l 2109 .bit (.c .leq (.n 0) (.v 714))
(.l 2110 .bit (.c .lss (.v 714) (.n 64))
(.nz (.v 2109)
(.nz (.v 2110)
(.l 2157 kW (.sel (.v 714) [.n 1116352408,.n 1899447441,.n 3049323471,.n 3921009573,.n 961987163,.n 1508970993,.n 2453635748,.n 2870763221,.n 3624381080,.n 310598401,.n 607225278,.n 1426881987,.n 1925078388,.n 2162078206,.n 2614888103,.n 3248222580,.n 3835390401,.n 4022224774,.n 264347078,.n 604807628,.n 770255983,.n 1249150122,.n 1555081692,.n 1996064986,.n 2554220882,.n 2821834349,.n 2952996808,.n 3210313671,.n 3336571891,.n 3584528711,.n 113926993,.n 338241895,.n 666307205,.n 773529912,.n 1294757372,.n 1396182291,.n 1695183700,.n 1986661051,.n 2177026350,.n 2456956037,.n 2730485921,.n 2820302411,.n 3259730800,.n 3345764771,.n 3516065817,.n 3600352804,.n 4094571909,.n 275423344,.n 430227734,.n 506948616,.n 659060556,.n 883997877,.n 958139571,.n 1322822218,.n 1537002063,.n 1747873779,.n 1955562222,.n 2024104815,.n 2227730452,.n 2361852424,.n 2428436474,.n 2756734187,.n 3204031479,.n 3329325298])
(.l 2205 kW (.b .add .u32 (.v 2013) (.v 2157))
(.l 2301 .bit (.c .leq (.n 0) (.v 714))
(.l 2302 .bit (.c .lss (.v 714) (.n 64))
(.nz (.v 2301)
(.nz (.v 2302)
(.l 2349 kW (.lget (.v 711) (.v 714))
(.l 2397 kW (.b .add .u32 (.v 2205) (.v 2349))
(xw 0 [(.elt .u32 715 0),.n 2] 2541 [kW]
(xw 0 [(.elt .u32 715 0),.n 13] 2637 [kW]
(.l 2685 kW (.b .xor .u32 (.v 2541) (.v 2637))
(xw 0 [(.elt .u32 715 0),.n 22] 2781 [kW]
(.l 2829 kW (.b .xor .u32 (.v 2685) (.v 2781))
(.l 3021 kW (.b .and .u32 (.elt .u32 715 0) (.elt .u32 715 1))
(.l 3213 kW (.b .and .u32 (.elt .u32 715 0) (.elt .u32 715 2))
(.l 3261 kW (.b .xor .u32 (.v 3021) (.v 3213))
(.l 3501 kW (.b .and .u32 (.elt .u32 715 1) (.elt .u32 715 2))
(.l 3549 kW (.b .xor .u32 (.v 3261) (.v 3501))
(.l 3597 kW (.b .add .u32 (.v 2829) (.v 3549))
(.l 3693 kW (.b .add .u32 (.v 2397) (.v 3597))
(.l 3694 kW (.b .add .u32 (.elt .u32 715 3) (.v 2397))
(.l 3695 kI (.b .add .i64 (.v 714) (.n 1))
(.l 3696 (.arr .u32 8) (.lapp (.n 0) [.v 3693,(.elt .u32 715 0),(.elt .u32 715 1),(.elt .u32 715 2),.v 3694,(.elt .u32 715 4),(.elt .u32 715 5),(.elt .u32 715 6)])
(.back 4 [.v 3695,.v 3696])))))))))))))))))))))))))))))))))))))))
(.l 1101 kW (.b .add .u32 (.elt .u32 698 0) (.elt .u32 715 0))
(.l 1677 kW (.b .add .u32 (.elt .u32 698 1) (.elt .u32 715 1))
(.l 2253 kW (.b .add .u32 (.elt .u32 698 2) (.elt .u32 715 2))
(.l 2829 kW (.b .add .u32 (.elt .u32 698 3) (.elt .u32 715 3))
(.l 3405 kW (.b .add .u32 (.elt .u32 698 4) (.elt .u32 715 4))
(.l 3981 kW (.b .add .u32 (.elt .u32 698 5) (.elt .u32 715 5))
(.l 4557 kW (.b .add .u32 (.elt .u32 698 6) (.elt .u32 715 6))
(.l 5133 kW (.b .add .u32 (.elt .u32 698 7) (.elt .u32 715 7))
(.l 5325 kI (.llen (.v 694))
(.l 5326 kI (.b .sub .i64 (.v 5325) (.v 697))
(.l 5327 kI (.b .sub .i64 (.v 695) (.v 697))
(.l 5328 .bit (.c .leq (.n 0) (.n 64))
(.l 5329 .bit (.c .leq (.n 64) (.v 5327))
(.l 5330 .bit (.c .leq (.v 5327) (.v 5326))
(.l 5331 kI (.b .add .i64 (.v 697) (.n 64))
(.l 5332 kI (.b .add .i64 (.v 697) (.v 5327))
(.nz (.v 5328)
(.nz (.v 5329)
(.nz (.v 5330)
(.l 5333 (.arr .u32 8) (.lapp (.n 0) [.v 1101,.v 1677,.v 2253,.v 2829,.v 3405,.v 3981,.v 4557,.v 5133])
(.back 2 [.v 5331,.v 5333]))))))))))))))))))))))))))))))))))))))))
(.l 701 kW (.b .shr .u32 (.elt .u32 698 0) (.n 24))
(.l 702 kB (.conv .u8 (.v 701))
(.l 703 kW (.b .shr .u32 (.elt .u32 698 0) (.n 16))
(.l 704 kB (.conv .u8 (.v 703))
(.l 705 kW (.b .shr .u32 (.elt .u32 698 0) (.n 8))
(.l 706 kB (.conv .u8 (.v 705))
(.l 707 kB (.conv .u8 (.elt .u32 698 0))
(.l 708 kW (.b .shr .u32 (.elt .u32 698 1) (.n 24))
(.l 709 kB (.conv .u8 (.v 708))
(.l 710 kW (.b .shr .u32 (.elt .u32 698 1) (.n 16))
(.l 711 kB (.conv .u8 (.v 710))
(.l 712 kW (.b .shr .u32 (.elt .u32 698 1) (.n 8))
(.l 713 kB (.conv .u8 (.v 712))
(.l 714 kB (.conv .u8 (.elt .u32 698 1))
(.l 715 kW (.b .shr .u32 (.elt .u32 698 2) (.n 24))
(.l 716 kB (.conv .u8 (.v 715))
(.l 717 kW (.b .shr .u32 (.elt .u32 698 2) (.n 16))
(.l 718 kB (.conv .u8 (.v 717))
(.l 719 kW (.b .shr .u32 (.elt .u32 698 2) (.n 8))
(.l 720 kB (.conv .u8 (.v 719))
(.l 721 kB (.conv .u8 (.elt .u32 698 2))
(.l 722 kW (.b .shr .u32 (.elt .u32 698 3) (.n 24))
(.l 723 kB (.conv .u8 (.v 722))
(.l 724 kW (.b .shr .u32 (.elt .u32 698 3) (.n 16))
(.l 725 kB (.conv .u8 (.v 724))
(.l 726 kW (.b .shr .u32 (.elt .u32 698 3) (.n 8))
(.l 727 kB (.conv .u8 (.v 726))
(.l 728 kB (.conv .u8 (.elt .u32 698 3))
(.l 729 kW (.b .shr .u32 (.elt .u32 698 4) (.n 24))
(.l 730 kB (.conv .u8 (.v 729))
(.l 731 kW (.b .shr .u32 (.elt .u32 698 4) (.n 16))
(.l 732 kB (.conv .u8 (.v 731))
(.l 733 kW (.b .shr .u32 (.elt .u32 698 4) (.n 8))
(.l 734 kB (.conv .u8 (.v 733))
(.l 735 kB (.conv .u8 (.elt .u32 698 4))
(.l 736 kW (.b .shr .u32 (.elt .u32 698 5) (.n 24))
(.l 737 kB (.conv .u8 (.v 736))
(.l 738 kW (.b .shr .u32 (.elt .u32 698 5) (.n 16))
(.l 739 kB (.conv .u8 (.v 738))
(.l 740 kW (.b .shr .u32 (.elt .u32 698 5) (.n 8))
(.l 741 kB (.conv .u8 (.v 740))
(.l 742 kB (.conv .u8 (.elt .u32 698 5))
(.l 743 kW (.b .shr .u32 (.elt .u32 698 6) (.n 24))
(.l 744 kB (.conv .u8 (.v 743))
(.l 745 kW (.b .shr .u32 (.elt .u32 698 6) (.n 16))
(.l 746 kB (.conv .u8 (.v 745))
(.l 747 kW (.b .shr .u32 (.elt .u32 698 6) (.n 8))
(.l 748 kB (.conv .u8 (.v 747))
(.l 749 kB (.conv .u8 (.elt .u32 698 6))
(.l 750 kW (.b .shr .u32 (.elt .u32 698 7) (.n 24))
(.l 751 kB (.conv .u8 (.v 750))
(.l 752 kW (.b .shr .u32 (.elt .u32 698 7) (.n 16))
(.l 753 kB (.conv .u8 (.v 752))
(.l 754 kW (.b .shr .u32 (.elt .u32 698 7) (.n 8))
(.l 755 kB (.conv .u8 (.v 754))
(.l 756 kB (.conv .u8 (.elt .u32 698 7))
(.l 757 (.arr .u8 32) (.lapp (.n 0) [.v 702,.v 704,.v 706,.v 707,.v 709,.v 711,.v 713,.v 714,.v 716,.v 718,.v 720,.v 721,.v 723,.v 725,.v 727,.v 728,.v 730,.v 732,.v 734,.v 735,.v 737,.v 739,.v 741,.v 742,.v 744,.v 746,.v 748,.v 749,.v 751,.v 753,.v 755,.v 756])
(.ret [.v 757])))))))))))))))))))))))))))))))))))))))))))))))))))))))))))))))))))))))))))))))))))))))))))))))))))))))))))))))))))))))))))))))))))))))))))))))))))))))))))))))))))
set_option maxHeartbeats 8000000 in
theorem law_dsum(f1 f:FuncId)(e:Nat->Int)(hp:(kSum f).pre [e 0]):tDSum.Xat [kRot f1] ⟨fun ys=>ys=(kSum f).sem [e 0],[]⟩ e:=by
 have hL:(dec (e 0)).length<1073741824:=hp;clear hp;show tDSum.Xat _ ⟨fun ys=>ys=[enc (sha (dec (e 0)))],[]⟩ e;obtain⟨b,hb⟩:∃b:List Int,b=dec (e 0):=⟨_,rfl⟩
 rw[<- hb]at hL ⊢;intro(v1:e 1=((dec (e 0)).length:Int)) k;clear k;rw[<- hb]at v1;intro a k;have d2:dec (e 2)=dec (0)++[1779033703,3144134277,1013904242,2773480762,1359893119,2600822924,528734635,1541459225]:=dQ a;clear a k;rw[Qv]at d2;try simp only[Ox]at d2
 intro a k;have d3:dec (e 3)=dec (0)++[0,0,0,0,0,0,0,0,0,0,0,0,0,0,0,0,0,0,0,0,0,0,0,0,0,0,0,0,0,0,0,0,0,0,0,0,0,0,0,0,0,0,0,0,0,0,0,0,0,0,0,0,0,0,0,0,0,0,0,0,0,0,0,0]:=dQ a;clear a k;rw[Qv]at d3;try simp only[Ox]at d3
 refine⟨fun us=>∃(n:Nat) (s w:Int),us=[(n:Int),s,w,(n:Int),1]/\n<=b.length/\dec s=Sha.run K0 H0 (fun k=>b.getD k 0) (n/64)/\(∀i,i<n%64->(dec w).getD i 0=b.getD (64*(n/64)+i) 0),fun us=>(b.length-us.headD 0).toNat,⟨0,e 2,e 3,rfl,by omega,by rw[d2];rfl,fun i hi=>by omega⟩,fun e' he0 hkk0 hI0=>?_⟩;obtain⟨n,s,w,hus,hn,hs,hw⟩:=hI0;have v4:e' 4=(n:Int):=(List.cons.inj hus).1;have u5:e' 5=s:=(List.cons.inj (List.cons.inj hus).2).1;have u6:e' 6=w:=(List.cons.inj (List.cons.inj (List.cons.inj hus).2).2).1;have v7:e' 7=(n:Int):=(List.cons.inj (List.cons.inj (List.cons.inj (List.cons.inj hus).2).2).2).1;have v8:e' 8=1:=(List.cons.inj (List.cons.inj (List.cons.inj (List.cons.inj (List.cons.inj hus).2).2).2).2).1;have l6:(dec (e' 6)).length=64:=hkk0.2.2.1.2;have d5:dec (e' 5)=Sha.run K0 H0 (fun k=>b.getD k 0) (n/64):=by rw[u5];exact hs
 have z6:∀i,i<n%64->(dec (e' 6)).getD i 0=b.getD (64*(n/64)+i) 0:=by rw[u6];exact hw
 have q0:dec (e' 0)=b:=by rw[he0 0 (by decide)];exact hb.symm
 have q1:e' 1=(b.length:Int):=(he0 1 (by decide)).trans v1;clear hus hs hw u5 u6;intro a k;have b9:=Zj a;simp only[Ql,Qn,Qp]at b9;clear a k;refine⟨fun h=>?_,fun h=>?_⟩
 ·have c9:=Qi9 h b9;clear h;clear b9;intro(v10:e' 10=((dec (e' 0)).length:Int)) k;clear k;first|rw[q0]at v10|skip
  intro a k;have b11:=Yv a;simp only[Ql,Qn,Qp]at b11;clear a k;intro a k;have b12:=Zj a;simp only[Ql,Qn,Qp]at b12;clear a k;refine⟨Y2 b11 (by omega),?_⟩;refine⟨Y2 b12 (by omega),?_⟩;clear b11 b12;intro(v13:e' 13=(dec (e' 0)).getD (e' 4).toNat 0) k;clear k;first|rw[q0,v4,Mi]at v13|skip
  intro(v254:e' 254=Qm .rem .i64 (e' 7) 64) k;clear k;have w254:e' 254=((n%64:Nat):Int):=by rw[v254,v7];show((n:Int)).tmod 64=_;rw[Mt (by omega)];omega
  intro a k;have b446:=Yv a;simp only[Ql,Qn,Qp]at b446;clear a k;intro a447 k447;have b447:=Zj a447;simp only[Ql,Qn,Qp]at b447;clear k447;first|(have w447:e' 447=((b.length%64:Nat):Int):=a447.trans (by rw[<- l444];rfl))|skip
  refine⟨Y2 b446 (by omega),?_⟩;refine⟨Y2 b447 (by omega),?_⟩;clear b446;intro a494 k494;have d494:dec (e' 494)=((dec (e' 6)).take (64:Int).toNat).drop ((0:Int)).toNat:=dQ a494;try simp only[Ox]at d494
  first|rw[t64 (by first|exact Ze _ _|(simp only[Md];exact Ze _ _)|exact Xw _ Yw _|exact l6|(simp only[Md];exact l6))]at d494|skip
  clear a494 k494;intro a495 k495;have d495:dec (e' 495)=(dec (e' 494)).set (e' 254).toNat (e' 13):=dQ a495;rw[d494]at d495;try simp only[Ox]at d495
  clear a495 k495;rw[w254,Mi,v13]at d495;have l495:(dec (e' 495)).length=64:=by rw[d495,Md];exact l6
  have z495:∀i,i<n%64+1->(dec (e' 495)).getD i 0=b.getD (64*(n/64)+i) 0:=fun i hi=>by
   rw[d495];rcases Ha i (n%64)with h|h
   ·rw[Ou,O7 (by omega),<- Ou];exact z6 i h
   ·rw[show i=n%64 by omega,Zsq (by rw[l6];omega)];congr 1;omega
  intro a542 k542;have v542:e' 542=(e' 7)+1:=by
   have h:e' 542=Qm .add .i64 (e' 7) 1:=a542;rw[h];simp only[Qm,wr];omega
  clear a542 k542;intro(v543:e' 543=Qm .rem .i64 (e' 542) 64) k;clear k;first|(have w543:e' 543=(((n+1)%64:Nat):Int):=by rw[v543,show e' 542=((n+1:Nat):Int) by omega];show(((n+1:Nat):Int)).tmod 64=_;rw[Mt (by omega)];omega)|skip
  intro a k;have b544:=Zy a;simp only[Ql,Qn,Qp]at b544;clear a k;refine⟨fun h=>?_,fun h=>?_⟩
  ·have c544:=Qi9 h b544;clear h;intro a k;have d929:dec (e' 929)=dec (0)++[0,0,0,0,0,0,0,0,0,0,0,0,0,0,0,0,0,0,0,0,0,0,0,0,0,0,0,0,0,0,0,0,0,0,0,0,0,0,0,0,0,0,0,0,0,0,0,0,0,0,0,0,0,0,0,0,0,0,0,0,0,0,0,0]:=dQ a;clear a k;rw[Qv]at d929;try simp only[Ox]at d929
   refine⟨fun us=>∃(t:Nat) (x:Int),t<=64/\us=[(t:Int),x]/\dec x=sch (fun i=>(dec (e' 495)).getD i 0) t,fun us=>(64-us.headD 0).toNat,⟨0,e' 929,by omega,rfl,by rw[d929];rfl⟩,fun e'' he1 hkk1 hI1=>?_⟩;obtain⟨t,x,ht,hus,hx⟩:=hI1;have v930:e'' 930=(t:Int):=(List.cons.inj hus).1;have v931:e'' 931=x:=(List.cons.inj (List.cons.inj hus).2).1;have d931:dec (e'' 931)=sch (fun i=>(dec (e' 495)).getD i 0) t:=by rw[v931];exact hx
   have q495:dec (e'' 495)=dec (e' 495):=congrArg dec (he1 495 (by decide));clear hus hkk1 v931 hx;intro a k;have b932:=Zj a;simp only[Ql,Qn,Qp]at b932;clear a k;refine⟨fun h=>?_,fun h=>?_⟩
   ·have c932:=Qi9 h b932;clear h;clear b932;intro a k;have b933:=Zj a;simp only[Ql,Qn,Qp]at b933;clear a k;refine⟨fun h=>?_,fun h=>?_⟩
    ·have c933:=Qi9 h b933;clear h;intro a1078 k1078;have v1078:e'' 1078=4*(e'' 930):=by
      have h:e'' 1078=Qm .mul .i64 4 (e'' 930):=a1078;rw[h];simp only[Qm,wr];omega
     clear a1078 k1078;intro a k;have b1126:=Yv a;simp only[Ql,Qn,Qp]at b1126;clear a k;intro a k;have b1127:=Zj a;simp only[Ql,Qn,Qp]at b1127;clear a k;refine⟨Y2 b1126 (by omega),?_⟩;refine⟨Y2 b1127 (by omega),?_⟩;clear b1126 b1127;intro(v1174:e'' 1174=(dec (e'' 495)).getD (e'' 1078).toNat 0) k;clear k;intro(v1270:e'' 1270=Qm .shl .u32 (e'' 1174) 24) k;clear k;intro a1414 k1414;have v1414:e'' 1414=4*(e'' 930):=by
      have h:e'' 1414=Qm .mul .i64 4 (e'' 930):=a1414;rw[h];simp only[Qm,wr];omega
     clear a1414 k1414;intro a1462 k1462;have v1462:e'' 1462=(e'' 1414)+1:=by
      have h:e'' 1462=Qm .add .i64 (e'' 1414) 1:=a1462;rw[h];simp only[Qm,wr];omega
     clear a1462 k1462;intro a k;have b1510:=Yv a;simp only[Ql,Qn,Qp]at b1510;clear a k;intro a k;have b1511:=Zj a;simp only[Ql,Qn,Qp]at b1511;clear a k;refine⟨Y2 b1510 (by omega),?_⟩;refine⟨Y2 b1511 (by omega),?_⟩;clear b1511;intro(v1558:e'' 1558=(dec (e'' 495)).getD (e'' 1462).toNat 0) k;clear k;intro(v1654:e'' 1654=Qm .shl .u32 (e'' 1558) 16) k;clear k;intro(v1702:e'' 1702=Qm .or .u32 (e'' 1270) (e'' 1654)) k;clear k;intro a1846 k1846;have v1846:e'' 1846=4*(e'' 930):=by
      have h:e'' 1846=Qm .mul .i64 4 (e'' 930):=a1846;rw[h];simp only[Qm,wr];omega
     clear a1846 k1846;intro a1894 k1894;have v1894:e'' 1894=(e'' 1846)+2:=by
      have h:e'' 1894=Qm .add .i64 (e'' 1846) 2:=a1894;rw[h];simp only[Qm,wr];omega
     clear a1894 k1894;intro a k;have b1942:=Yv a;simp only[Ql,Qn,Qp]at b1942;clear a k;intro a k;have b1943:=Zj a;simp only[Ql,Qn,Qp]at b1943;clear a k;refine⟨Y2 b1942 (by omega),?_⟩;refine⟨Y2 b1943 (by omega),?_⟩;clear b1942 b1943;intro(v1990:e'' 1990=(dec (e'' 495)).getD (e'' 1894).toNat 0) k;clear k;intro(v2086:e'' 2086=Qm .shl .u32 (e'' 1990) 8) k;clear k;intro(v2134:e'' 2134=Qm .or .u32 (e'' 1702) (e'' 2086)) k;clear k;intro a2278 k2278;have v2278:e'' 2278=4*(e'' 930):=by
      have h:e'' 2278=Qm .mul .i64 4 (e'' 930):=a2278;rw[h];simp only[Qm,wr];omega
     clear a2278 k2278;intro a2326 k2326;have v2326:e'' 2326=(e'' 2278)+3:=by
      have h:e'' 2326=Qm .add .i64 (e'' 2278) 3:=a2326;rw[h];simp only[Qm,wr];omega
     clear a2326 k2326;intro a k;have b2374:=Yv a;simp only[Ql,Qn,Qp]at b2374;clear a k;intro a k;have b2375:=Zj a;simp only[Ql,Qn,Qp]at b2375;clear a k;refine⟨Y2 b2374 (by omega),?_⟩;refine⟨Y2 b2375 (by omega),?_⟩;clear b2375;intro(v2422:e'' 2422=(dec (e'' 495)).getD (e'' 2326).toNat 0) k;clear k;intro(v2518:e'' 2518=Qm .or .u32 (e'' 2134) (e'' 2422)) k;clear k;intro a k;have b2566:=Yv a;simp only[Ql,Qn,Qp]at b2566;clear a k;intro a k;have b2567:=Zj a;simp only[Ql,Qn,Qp]at b2567;clear a k;refine⟨Y2 b2566 (by omega),?_⟩;refine⟨Y2 b2567 (by omega),?_⟩;clear b2567;intro a2614 k2614;have d2614:dec (e'' 2614)=((dec (e'' 931)).take (64:Int).toNat).drop ((0:Int)).toNat:=dQ a2614;rw[d931]at d2614;try simp only[Ox]at d2614
     first|rw[t64 (by first|exact Ze _ _|(simp only[Md];exact Ze _ _)|exact Xw _ Yw _|exact l6|(simp only[Md];exact l6))]at d2614|skip
     clear a2614 k2614;intro a2615 k2615;have d2615:dec (e'' 2615)=(dec (e'' 2614)).set (e'' 930).toNat (e'' 2518):=dQ a2615;rw[d2614]at d2615;try simp only[Ox]at d2615
     clear a2615 k2615;intro a2662 k2662;have v2662:e'' 2662=(e'' 930)+1:=by
      have h:e'' 2662=Qm .add .i64 (e'' 930) 1:=a2662;rw[h];simp only[Qm,wr];omega
     clear a2662 k2662;intro a2663 k2663;have d2663:dec (e'' 2663)=((dec (e'' 2615)).take (64:Int).toNat).drop ((0:Int)).toNat:=dQ a2663;rw[d2615]at d2663;try simp only[Ox]at d2663
     first|rw[t64 (by first|exact Ze _ _|(simp only[Md];exact Ze _ _)|exact Xw _ Yw _|exact l6|(simp only[Md];exact l6))]at d2663|skip
     clear a2663 k2663;have hc:t<16:=by omega
     have vt:e'' 2662=((t+1:Nat):Int):=by omega
     have j0:(4*(t:Int)).toNat=4*t:=by omega
     have j1:(4*(t:Int)+1).toNat=4*t+1:=by omega
     have j2:(4*(t:Int)+2).toNat=4*t+2:=by omega
     have j3:(4*(t:Int)+3).toNat=4*t+3:=by omega
     have key:e'' 2518=Qlw (fun i=>(dec (e' 495)).getD i 0) (sch (fun i=>(dec (e' 495)).getD i 0) t) t:=by
      unfold Qlw;rw[if_pos hc];simp only[v1078,v1174,v1270,v1414,v1462,v1558,v1654,v1702,v1846,v1894,v1990,v2086,v2134,v2278,v2326,v2422,v2518,v2662,v930,j0,j1,j2,j3,q495];rfl
     refine⟨⟨t+1,e'' 2663,by omega,?_,?_⟩,?_⟩
     ·show[e'' 2662,e'' 2663]=_;rw[vt]
     ·rw[d2663,key,v930];rfl
     ·show(64-e'' 2662).toNat<(64-e'' 930).toNat;omega
    ·have c933:=no_ h b933;clear h;intro a982 k982;have v982:e'' 982=(e'' 930)-15:=by
      have h:e'' 982=Qm .sub .i64 (e'' 930) 15:=a982;rw[h];simp only[Qm,wr];omega
     clear a982 k982;intro a k;have b1030:=Yv a;simp only[Ql,Qn,Qp]at b1030;clear a k;intro a k;have b1031:=Zj a;simp only[Ql,Qn,Qp]at b1031;clear a k;refine⟨Y2 b1030 (by omega),?_⟩;refine⟨Y2 b1031 (by omega),?_⟩;clear b1030 b1031;intro a1078 k1078;have v1078:e'' 1078=(dec (e'' 931)).getD (e'' 982).toNat 0:=a1078;rw[d931]at v1078;clear a1078 k1078;intro a1174 k1174;have v1174:e'' 1174=(e'' 930)-2:=by
      have h:e'' 1174=Qm .sub .i64 (e'' 930) 2:=a1174;rw[h];simp only[Qm,wr];omega
     clear a1174 k1174;intro a k;have b1222:=Yv a;simp only[Ql,Qn,Qp]at b1222;clear a k;intro a k;have b1223:=Zj a;simp only[Ql,Qn,Qp]at b1223;clear a k;refine⟨Y2 b1222 (by omega),?_⟩;refine⟨Y2 b1223 (by omega),?_⟩;clear b1222 b1223;intro a1270 k1270;have v1270:e'' 1270=(dec (e'' 931)).getD (e'' 1174).toNat 0:=a1270;rw[d931]at v1270;clear a1270 k1270;refine⟨(show(1:Int)<=17/\(17:Int)<=31 by decide),?_⟩;intro(v1510:e'' 1510=rot (e'' 1270) 17) k;clear k;refine⟨(show(1:Int)<=19/\(19:Int)<=31 by decide),?_⟩;intro(v1606:e'' 1606=rot (e'' 1270) 19) k;clear k;intro(v1654:e'' 1654=Qm .xor .u32 (e'' 1510) (e'' 1606)) k;clear k;intro(v1750:e'' 1750=Qm .shr .u32 (e'' 1270) 10) k;clear k;intro(v1798:e'' 1798=Qm .xor .u32 (e'' 1654) (e'' 1750)) k;clear k;intro a1894 k1894;have v1894:e'' 1894=(e'' 930)-7:=by
      have h:e'' 1894=Qm .sub .i64 (e'' 930) 7:=a1894;rw[h];simp only[Qm,wr];omega
     clear a1894 k1894;intro a k;have b1942:=Yv a;simp only[Ql,Qn,Qp]at b1942;clear a k;intro a k;have b1943:=Zj a;simp only[Ql,Qn,Qp]at b1943;clear a k;refine⟨Y2 b1942 (by omega),?_⟩;refine⟨Y2 b1943 (by omega),?_⟩;clear b1942 b1943;intro a1990 k1990;have v1990:e'' 1990=(dec (e'' 931)).getD (e'' 1894).toNat 0:=a1990;rw[d931]at v1990;clear a1990 k1990;intro(v2038:e'' 2038=Qm .add .u32 (e'' 1798) (e'' 1990)) k;clear k;refine⟨(show(1:Int)<=7/\(7:Int)<=31 by decide),?_⟩;intro(v2134:e'' 2134=rot (e'' 1078) 7) k;clear k;refine⟨(show(1:Int)<=18/\(18:Int)<=31 by decide),?_⟩;intro(v2230:e'' 2230=rot (e'' 1078) 18) k;clear k;intro(v2278:e'' 2278=Qm .xor .u32 (e'' 2134) (e'' 2230)) k;clear k;intro(v2374:e'' 2374=Qm .shr .u32 (e'' 1078) 3) k;clear k;intro(v2422:e'' 2422=Qm .xor .u32 (e'' 2278) (e'' 2374)) k;clear k;intro(v2470:e'' 2470=Qm .add .u32 (e'' 2038) (e'' 2422)) k;clear k;intro a2566 k2566;have v2566:e'' 2566=(e'' 930)-16:=by
      have h:e'' 2566=Qm .sub .i64 (e'' 930) 16:=a2566;rw[h];simp only[Qm,wr];omega
     clear a2566 k2566;intro a k;have b2614:=Yv a;simp only[Ql,Qn,Qp]at b2614;clear a k;intro a k;have b2615:=Zj a;simp only[Ql,Qn,Qp]at b2615;clear a k;refine⟨Y2 b2614 (by omega),?_⟩;refine⟨Y2 b2615 (by omega),?_⟩;clear b2614 b2615;intro a2662 k2662;have v2662:e'' 2662=(dec (e'' 931)).getD (e'' 2566).toNat 0:=a2662;rw[d931]at v2662;clear a2662 k2662;intro(v2710:e'' 2710=Qm .add .u32 (e'' 2470) (e'' 2662)) k;clear k;intro a k;have b2758:=Yv a;simp only[Ql,Qn,Qp]at b2758;clear a k;intro a k;have b2759:=Zj a;simp only[Ql,Qn,Qp]at b2759;clear a k;refine⟨Y2 b2758 (by omega),?_⟩;refine⟨Y2 b2759 (by omega),?_⟩;clear b2758 b2759;intro a2806 k2806;have d2806:dec (e'' 2806)=((dec (e'' 931)).take (64:Int).toNat).drop ((0:Int)).toNat:=dQ a2806;rw[d931]at d2806;try simp only[Ox]at d2806
     first|rw[t64 (by first|exact Ze _ _|(simp only[Md];exact Ze _ _)|exact Xw _ Yw _|exact l6|(simp only[Md];exact l6))]at d2806|skip
     clear a2806 k2806;intro a2807 k2807;have d2807:dec (e'' 2807)=(dec (e'' 2806)).set (e'' 930).toNat (e'' 2710):=dQ a2807;rw[d2806]at d2807;try simp only[Ox]at d2807
     clear a2807 k2807;intro a2854 k2854;have v2854:e'' 2854=(e'' 930)+1:=by
      have h:e'' 2854=Qm .add .i64 (e'' 930) 1:=a2854;rw[h];simp only[Qm,wr];omega
     clear a2854 k2854;intro a2855 k2855;have d2855:dec (e'' 2855)=((dec (e'' 2807)).take (64:Int).toNat).drop ((0:Int)).toNat:=dQ a2855;rw[d2807]at d2855;try simp only[Ox]at d2855
     first|rw[t64 (by first|exact Ze _ _|(simp only[Md];exact Ze _ _)|exact Xw _ Yw _|exact l6|(simp only[Md];exact l6))]at d2855|skip
     clear a2855 k2855;have hc:¬t<16:=by omega
     have vt:e'' 2854=((t+1:Nat):Int):=by omega
     have i15:((t:Int)-15).toNat=t-15:=by omega
     have i2:((t:Int)-2).toNat=t-2:=by omega
     have i7:((t:Int)-7).toNat=t-7:=by omega
     have i16:((t:Int)-16).toNat=t-16:=by omega
     have key:e'' 2710=Qlw (fun i=>(dec (e' 495)).getD i 0) (sch (fun i=>(dec (e' 495)).getD i 0) t) t:=by
      unfold Qlw;rw[if_neg hc];simp only[v982,v1078,v1174,v1270,v1510,v1606,v1654,v1750,v1798,v1894,v1990,v2038,v2134,v2230,v2278,v2374,v2422,v2470,v2566,v2662,v2710,v2854,v930,i15,i2,i7,i16];rfl
     refine⟨⟨t+1,e'' 2855,by omega,?_,?_⟩,?_⟩
     ·show[e'' 2854,e'' 2855]=_;rw[vt]
     ·rw[d2855,key,v930];rfl
     ·show(64-e'' 2854).toNat<(64-e'' 930).toNat;omega
   ·have c932:=no_ h b932;clear h;clear b932;intro a933 k933;have d933:dec (e'' 933)=((dec (e'' 5)).take (8:Int).toNat).drop ((0:Int)).toNat:=dQ a933;try simp only[Ox]at d933
    first|rw[t8 (by first|exact Ze _ _|(simp only[Md];exact Ze _ _)|exact Xw _ Yw _|exact l6|(simp only[Md];exact l6))]at d933|skip
    clear a933 k933;have ht64:t=64:=by omega
    subst ht64;have d5'':dec (e'' 5)=dec (e' 5):=congrArg dec (he1 5 (by decide));have l933:dec (e'' 933)=dec (e' 5):=by
     rw[show dec (e'' 933)=((dec (e'' 5)).take (8:Int).toNat).drop (0:Int).toNat from d933,d5'',t8 (by rw[d5];exact Xw _ Yw _)]
    refine⟨fun us=>∃(u:Nat) (x:Int),u<=64/\us=[(u:Int),x]/\dec x=Qrz K0 (sch (fun i=>(dec (e' 495)).getD i 0) 64) (dec (e' 5)) u,fun us=>(64-us.headD 0).toNat,⟨0,e'' 933,by omega,rfl,l933⟩,fun e''' he2 hkk2 hI2=>?_⟩;obtain⟨u,x,hu,hus,hx⟩:=hI2;have v934:e''' 934=(u:Int):=(List.cons.inj hus).1;have v935:e''' 935=x:=(List.cons.inj (List.cons.inj hus).2).1;have z935:dec (e''' 935)=Qrz K0 (sch (fun i=>(dec (e' 495)).getD i 0) 64) (dec (e' 5)) u:=by rw[v935];exact hx
    have z931:dec (e''' 931)=sch (fun i=>(dec (e' 495)).getD i 0) 64:=(congrArg dec (he2 931 (by decide))).trans d931;clear hus hkk2 v935 hx;intro a k;have b936:=Zj a;simp only[Ql,Qn,Qp]at b936;clear a k;refine⟨fun h=>?_,fun h=>?_⟩
    ·have c936:=Qi9 h b936;clear h;clear b936;refine⟨(show(1:Int)<=6/\(6:Int)<=31 by decide),?_⟩;intro(v1369:e''' 1369=rot ((dec (e''' 935)).getD 4 0) 6) k;clear k;refine⟨(show(1:Int)<=11/\(11:Int)<=31 by decide),?_⟩;intro(v1465:e''' 1465=rot ((dec (e''' 935)).getD 4 0) 11) k;clear k;intro(v1513:e''' 1513=Qm .xor .u32 (e''' 1369) (e''' 1465)) k;clear k;refine⟨(show(1:Int)<=25/\(25:Int)<=31 by decide),?_⟩;intro(v1609:e''' 1609=rot ((dec (e''' 935)).getD 4 0) 25) k;clear k;intro(v1657:e''' 1657=Qm .xor .u32 (e''' 1513) (e''' 1609)) k;clear k;intro(v1705:e''' 1705=Qm .add .u32 ((dec (e''' 935)).getD 7 0) (e''' 1657)) k;clear k;intro(v1897:e''' 1897=Qm .and .u32 ((dec (e''' 935)).getD 4 0) ((dec (e''' 935)).getD 5 0)) k;clear k;intro(v1993:e''' 1993=Qm .xor .u32 4294967295 ((dec (e''' 935)).getD 4 0)) k;clear k;intro(v2137:e''' 2137=Qm .and .u32 (e''' 1993) ((dec (e''' 935)).getD 6 0)) k;clear k;intro(v2185:e''' 2185=Qm .xor .u32 (e''' 1897) (e''' 2137)) k;clear k;intro(v2233:e''' 2233=Qm .add .u32 (e''' 1705) (e''' 2185)) k;clear k;intro a k;have b2329:=Yv a;simp only[Ql,Qn,Qp]at b2329;clear a k;intro a k;have b2330:=Zj a;simp only[Ql,Qn,Qp]at b2330;clear a k;refine⟨Y2 b2329 (by omega),?_⟩;refine⟨Y2 b2330 (by omega),?_⟩;clear b2329 b2330;intro(v2377:e''' 2377=(K0).getD (e''' 934).toNat 0) k;clear k;intro(v2425:e''' 2425=Qm .add .u32 (e''' 2233) (e''' 2377)) k;clear k;intro a k;have b2521:=Yv a;simp only[Ql,Qn,Qp]at b2521;clear a k;intro a k;have b2522:=Zj a;simp only[Ql,Qn,Qp]at b2522;clear a k;refine⟨Y2 b2521 (by omega),?_⟩;refine⟨Y2 b2522 (by omega),?_⟩;clear b2521 b2522;intro(v2569:e''' 2569=(dec (e''' 931)).getD (e''' 934).toNat 0) k;clear k;intro(v2617:e''' 2617=Qm .add .u32 (e''' 2425) (e''' 2569)) k;clear k;refine⟨(show(1:Int)<=2/\(2:Int)<=31 by decide),?_⟩;intro(v2761:e''' 2761=rot ((dec (e''' 935)).getD 0 0) 2) k;clear k;refine⟨(show(1:Int)<=13/\(13:Int)<=31 by decide),?_⟩;intro(v2857:e''' 2857=rot ((dec (e''' 935)).getD 0 0) 13) k;clear k;intro(v2905:e''' 2905=Qm .xor .u32 (e''' 2761) (e''' 2857)) k;clear k;refine⟨(show(1:Int)<=22/\(22:Int)<=31 by decide),?_⟩;intro(v3001:e''' 3001=rot ((dec (e''' 935)).getD 0 0) 22) k;clear k;intro(v3049:e''' 3049=Qm .xor .u32 (e''' 2905) (e''' 3001)) k;clear k;intro(v3241:e''' 3241=Qm .and .u32 ((dec (e''' 935)).getD 0 0) ((dec (e''' 935)).getD 1 0)) k;clear k;intro(v3433:e''' 3433=Qm .and .u32 ((dec (e''' 935)).getD 0 0) ((dec (e''' 935)).getD 2 0)) k;clear k;intro(v3481:e''' 3481=Qm .xor .u32 (e''' 3241) (e''' 3433)) k;clear k;intro(v3721:e''' 3721=Qm .and .u32 ((dec (e''' 935)).getD 1 0) ((dec (e''' 935)).getD 2 0)) k;clear k;intro(v3769:e''' 3769=Qm .xor .u32 (e''' 3481) (e''' 3721)) k;clear k;intro(v3817:e''' 3817=Qm .add .u32 (e''' 3049) (e''' 3769)) k;clear k;intro(v3913:e''' 3913=Qm .add .u32 (e''' 2617) (e''' 3817)) k;clear k;intro(v3914:e''' 3914=Qm .add .u32 ((dec (e''' 935)).getD 3 0) (e''' 2617)) k;clear k;intro a3915 k3915;have v3915:e''' 3915=(e''' 934)+1:=by
      have h:e''' 3915=Qm .add .i64 (e''' 934) 1:=a3915;rw[h];simp only[Qm,wr];omega
     clear a3915 k3915;intro a k;have d3916:dec (e''' 3916)=dec (0)++[e''' 3913,(dec (e''' 935)).getD 0 0,(dec (e''' 935)).getD 1 0,(dec (e''' 935)).getD 2 0,e''' 3914,(dec (e''' 935)).getD 4 0,(dec (e''' 935)).getD 5 0,(dec (e''' 935)).getD 6 0]:=dQ a;clear a k;rw[Qv]at d3916;try simp only[Ox]at d3916
     have vu:e''' 3915=((u+1:Nat):Int):=by omega
     refine⟨⟨u+1,e''' 3916,by omega,?_,?_⟩,?_⟩
     ·show[e''' 3915,e''' 3916]=_;rw[vu]
     ·rw[d3916];show _=rnd (K0.getD u 0) ((sch (fun i=>(dec (e' 495)).getD i 0) 64).getD u 0) (Qrz K0 (sch (fun i=>(dec (e' 495)).getD i 0) 64) (dec (e' 5)) u);simp only[v1369,v1465,v1513,v1609,v1657,v1705,v1897,v1993,v2137,v2185,v2233,v2377,v2425,v2569,v2617,v2761,v2857,v2905,v3001,v3049,v3241,v3433,v3481,v3721,v3769,v3817,v3913,v3914,v3915,v934,z931,Mi,z935];rfl
     ·show(64-e''' 3915).toNat<(64-e''' 934).toNat;omega
    ·have c936:=no_ h b936;clear h;have hu64:u=64:=by omega
     subst hu64;have w4:e''' 4=(n:Int):=(he2 4 (by decide)).trans ((he1 4 (by decide)).trans v4);have w542:e''' 542=((n+1:Nat):Int):=(he2 542 (by decide)).trans ((he1 542 (by decide)).trans (by omega));have w8:e''' 8=1:=(he2 8 (by decide)).trans ((he1 8 (by decide)).trans v8);have z5:dec (e''' 5)=dec (e' 5):=congrArg dec ((he2 5 (by decide)).trans (he1 5 (by decide)));have y495:dec (e''' 495)=dec (e' 495):=congrArg dec ((he2 495 (by decide)).trans (he1 495 (by decide)));clear b936;intro(v1321:e''' 1321=Qm .add .u32 ((dec (e''' 5)).getD 0 0) ((dec (e''' 935)).getD 0 0)) k;clear k;intro(v1897:e''' 1897=Qm .add .u32 ((dec (e''' 5)).getD 1 0) ((dec (e''' 935)).getD 1 0)) k;clear k;intro(v2473:e''' 2473=Qm .add .u32 ((dec (e''' 5)).getD 2 0) ((dec (e''' 935)).getD 2 0)) k;clear k;intro(v3049:e''' 3049=Qm .add .u32 ((dec (e''' 5)).getD 3 0) ((dec (e''' 935)).getD 3 0)) k;clear k;intro(v3625:e''' 3625=Qm .add .u32 ((dec (e''' 5)).getD 4 0) ((dec (e''' 935)).getD 4 0)) k;clear k;intro(v4201:e''' 4201=Qm .add .u32 ((dec (e''' 5)).getD 5 0) ((dec (e''' 935)).getD 5 0)) k;clear k;intro(v4777:e''' 4777=Qm .add .u32 ((dec (e''' 5)).getD 6 0) ((dec (e''' 935)).getD 6 0)) k;clear k;intro(v5353:e''' 5353=Qm .add .u32 ((dec (e''' 5)).getD 7 0) ((dec (e''' 935)).getD 7 0)) k;clear k;intro a5545 k5545;have v5545:e''' 5545=(e''' 4)+1:=by
      have h:e''' 5545=Qm .add .i64 (e''' 4) 1:=a5545;rw[h];simp only[Qm,wr];omega
     clear a5545 k5545;intro a k;have d5546:dec (e''' 5546)=dec (0)++[e''' 1321,e''' 1897,e''' 2473,e''' 3049,e''' 3625,e''' 4201,e''' 4777,e''' 5353]:=dQ a;clear a k;rw[Qv]at d5546;try simp only[Ox]at d5546
     intro a5547 k5547;have d5547:dec (e''' 5547)=((dec (e''' 495)).take (64:Int).toNat).drop ((0:Int)).toNat:=dQ a5547;try simp only[Ox]at d5547
     first|rw[t64 (by first|exact Ze _ _|(simp only[Md];exact Ze _ _)|exact Xw _ Yw _|exact l6|(simp only[Md];exact l6))]at d5547|skip
     clear a5547 k5547;have hm:(n+1)%64=0:=by omega
     refine⟨⟨n+1,e''' 5546,e''' 5547,?_,by omega,?_,fun i hi=>by omega⟩,?_⟩
     ·show[e''' 5545,e''' 5546,e''' 5547,e''' 542,e''' 8]=_;rw[show e''' 5545=((n+1:Nat):Int) by omega,w542,w8]
     ·rw[d5546,show(n+1)/64=n/64+1 by omega];show _=blk K0 (Sha.run K0 H0 (fun k=>b.getD k 0) (n/64)) fun i=>b.getD (64*(n/64)+i) 0
      rw[<- Qgc (b:=fun i=>(dec (e' 495)).getD i 0) (fun i hi=>z495 i (by omega)),<- d5];simp only[v1321,v1897,v2473,v3049,v3625,v4201,v4777,v5353,v5545,z5,z935];rfl
     ·show(((b.length:Int))-e''' 5545).toNat<((b.length:Int)-e' 4).toNat;omega
  ·have c544:=no_ h b544;clear h;intro a545 k545;have v545:e' 545=(e' 4)+1:=by
    have h:e' 545=Qm .add .i64 (e' 4) 1:=a545;rw[h];simp only[Qm,wr];omega
   clear a545 k545;intro a546 k546;have d546:dec (e' 546)=((dec (e' 5)).take (8:Int).toNat).drop ((0:Int)).toNat:=dQ a546;rw[d5]at d546;try simp only[Ox]at d546
   first|rw[t8 (by first|exact Ze _ _|(simp only[Md];exact Ze _ _)|exact Xw _ Yw _|exact l6|(simp only[Md];exact l6))]at d546|skip
   clear a546 k546;intro a547 k547;have d547:dec (e' 547)=((dec (e' 495)).take (64:Int).toNat).drop ((0:Int)).toNat:=dQ a547;rw[d495]at d547;try simp only[Ox]at d547
   first|rw[t64 (by first|exact Ze _ _|(simp only[Md];exact Ze _ _)|exact Xw _ Yw _|exact l6|(simp only[Md];exact l6))]at d547|skip
   clear a547 k547;refine⟨⟨n+1,e' 546,e' 547,?_,by omega,?_,?_⟩,?_⟩
   ·show[e' 545,e' 546,e' 547,e' 542,e' 8]=_;rw[show e' 545=((n+1:Nat):Int) by omega,show e' 542=((n+1:Nat):Int) by omega,v8]
   ·rw[d546,show(n+1)/64=n/64 by omega]
   ·intro i hi;rw[show dec (e' 547)=dec (e' 495)from d547.trans d495.symm,z495 i (by omega),show(n+1)/64=n/64 by omega]
   ·show(((b.length:Int))-e' 545).toNat<((b.length:Int)-e' 4).toNat;omega
 ·have c9:=no_ h b9;clear h;have hnL:n=b.length:=by omega
  clear b9;intro a10 k10;have b10:=Ju a10;simp only[Ql,Qn]at b10;clear a10 k10;first|rw[q0]at v10|skip
  refine⟨fun h=>?_,fun h=>?_⟩
  ·have c10:=Qi9 h b10;clear h;intro a k;have d11:dec (e' 11)=dec (0)++[0,0,0,0,0,0,0,0,0,0,0,0,0,0,0,0,0,0,0,0,0,0,0,0,0,0,0,0,0,0,0,0]:=dQ a;clear a k;rw[Qv]at d11;try simp only[Ox]at d11
   show[e' 11]=_;exact absurd c10 (by omega)
  ·have c10:=no_ h b10;clear h;intro(v347:e' 347=Qm .rem .i64 (e' 7) 64) k;clear k;have w347:e' 347=((b.length%64:Nat):Int):=by rw[v347,v7,hnL];show((b.length:Int)).tmod 64=_;rw[Mt (by omega)];omega
   intro a k;have b395:=Yv a;simp only[Ql,Qn,Qp]at b395;clear a k;intro a k;have b396:=Yv a;simp only[Ql,Qn,Qp]at b396;clear a k;refine⟨Y2 b395 (by omega),?_⟩;refine⟨Y2 b396 (by omega),?_⟩;clear b395 b396;intro a k;have d443:dec (e' 443)=dec (0)++[(dec (e' 6)).getD 0 0,(dec (e' 6)).getD 1 0,(dec (e' 6)).getD 2 0,(dec (e' 6)).getD 3 0,(dec (e' 6)).getD 4 0,(dec (e' 6)).getD 5 0,(dec (e' 6)).getD 6 0,(dec (e' 6)).getD 7 0,(dec (e' 6)).getD 8 0,(dec (e' 6)).getD 9 0,(dec (e' 6)).getD 10 0,(dec (e' 6)).getD 11 0,(dec (e' 6)).getD 12 0,(dec (e' 6)).getD 13 0,(dec (e' 6)).getD 14 0,(dec (e' 6)).getD 15 0,(dec (e' 6)).getD 16 0,(dec (e' 6)).getD 17 0,(dec (e' 6)).getD 18 0,(dec (e' 6)).getD 19 0,(dec (e' 6)).getD 20 0,(dec (e' 6)).getD 21 0,(dec (e' 6)).getD 22 0,(dec (e' 6)).getD 23 0,(dec (e' 6)).getD 24 0,(dec (e' 6)).getD 25 0,(dec (e' 6)).getD 26 0,(dec (e' 6)).getD 27 0,(dec (e' 6)).getD 28 0,(dec (e' 6)).getD 29 0,(dec (e' 6)).getD 30 0,(dec (e' 6)).getD 31 0,(dec (e' 6)).getD 32 0,(dec (e' 6)).getD 33 0,(dec (e' 6)).getD 34 0,(dec (e' 6)).getD 35 0,(dec (e' 6)).getD 36 0,(dec (e' 6)).getD 37 0,(dec (e' 6)).getD 38 0,(dec (e' 6)).getD 39 0,(dec (e' 6)).getD 40 0,(dec (e' 6)).getD 41 0,(dec (e' 6)).getD 42 0,(dec (e' 6)).getD 43 0,(dec (e' 6)).getD 44 0,(dec (e' 6)).getD 45 0,(dec (e' 6)).getD 46 0,(dec (e' 6)).getD 47 0,(dec (e' 6)).getD 48 0,(dec (e' 6)).getD 49 0,(dec (e' 6)).getD 50 0,(dec (e' 6)).getD 51 0,(dec (e' 6)).getD 52 0,(dec (e' 6)).getD 53 0,(dec (e' 6)).getD 54 0,(dec (e' 6)).getD 55 0,(dec (e' 6)).getD 56 0,(dec (e' 6)).getD 57 0,(dec (e' 6)).getD 58 0,(dec (e' 6)).getD 59 0,(dec (e' 6)).getD 60 0,(dec (e' 6)).getD 61 0,(dec (e' 6)).getD 62 0,(dec (e' 6)).getD 63 0]:=dQ a;clear a k;rw[Qv]at d443;try simp only[Ox]at d443
   replace d443:dec (e' 443)=dec (e' 6):=d443.trans (Zmy l6)
   intro a444 k444;have d444:dec (e' 444)=((dec (e' 443)).take (e' 347).toNat).drop ((0:Int)).toNat:=dQ a444;rw[d443]at d444;try simp only[Ox]at d444
   clear a444 k444;rw[w347,Mi]at d444;have l444:(dec (e' 444)).length=b.length%64:=by rw[d444];simp only[Mp,O6,l6,H8];omega
   intro a445 k445;have v445:e' 445=((dec (0)).length:Int):=a445;rw[Qv]at v445;try simp only[O2,O5,Ov,O8,O6,Mp,L6,L0,L8]at v445
   clear a445 k445;intro a k;have b446:=Zj a;simp only[Ql,Qn,Qp]at b446;clear a k;intro a447 k447;have v447:e' 447=((dec (e' 444)).length:Int):=a447;rw[d444]at v447;try simp only[O2,O5,Ov,O8,O6,Mp,L6,L0,L8]at v447
   clear k447;first|(have w447:e' 447=((b.length%64:Nat):Int):=a447.trans (by rw[<- l444];rfl))|skip
   intro a k;have b448:=Zj a;simp only[Ql,Qn,Qp]at b448;clear a k;refine⟨Y2 b446 (by omega),?_⟩;refine⟨Y2 b448 (by omega),?_⟩;clear v445 b446 b448;intro a449 k449;have d449:dec (e' 449)=dec (0)++dec (e' 444):=dQ a449;rw[Qv]at d449;rw[d444]at d449;try simp only[Ox]at d449
   clear a449 k449;intro a k;have d539:dec (e' 539)=dec (0)++[128]:=dQ a;clear a k;rw[Qv]at d539;try simp only[Ox]at d539
   intro a540 k540;have v540:e' 540=((dec (e' 449)).length:Int):=a540;rw[d449]at v540;try simp only[O2,O5,Ov,O8,O6,Mp,L6,L0,L8]at v540
   clear a540 k540;intro a k;have b541:=Zj a;simp only[Ql,Qn,Qp]at b541;clear a k;intro a542 k542;have v542:e' 542=((dec (e' 539)).length:Int):=a542;rw[d539]at v542;try simp only[O2,O5,Ov,O8,O6,Mp,L6,L0,L8]at v542
   clear a542 k542;intro a k;have b543:=Zj a;simp only[Ql,Qn,Qp]at b543;clear a k;first|(have w543:e' 543=(((n+1)%64:Nat):Int):=by rw[v543,show e' 542=((n+1:Nat):Int) by omega];show(((n+1:Nat):Int)).tmod 64=_;rw[Mt (by omega)];omega)|skip
   refine⟨Y2 b541 (by omega),?_⟩;refine⟨Y2 b543 (by omega),?_⟩;clear v540 b541;intro a544 k544;have d544:dec (e' 544)=dec (e' 449)++dec (e' 539):=dQ a544;rw[d449]at d544;rw[d539]at d544;try simp only[Ox]at d544
   clear a544 k544;obtain⟨T,hT⟩:∃T:List Int,T=b.drop (64*(b.length/64)):=⟨_,rfl⟩
   have lT:T.length=b.length%64:=by rw[hT,Mp];omega
   have dT:dec (e' 444)=T:=by
    rw[d444,hT,show(0:Int).toNat=0 from rfl,K3];refine List.ext_getElem (by rw[O6,l6,Mp];omega) fun i h1 h2=>?_
    have hi:i<n%64:=by rw[O6,l6]at h1;omega
    have:=z6 i hi;rw[Ou,Ou,O1 (by omega),O1 (by omega)]at this;simp only[Kh]at this;rw[List.getElem_take,List.getElem_drop,this];congr 1;omega
   replace d544:dec (e' 544)=T++[128]:=by rw[d544,<- d444,dT]
   refine⟨fun us=>∃(j:Nat) (x:Int),us=[x]/\dec x=(T++[128])++List.replicate j 0/\j<=(120-(b.length+1)%64)%64,fun us=>b.length+200-(dec (us.headD 0)).length,⟨0,e' 544,rfl,by rw[d544];simp,by omega⟩,fun e'''' he3 hkk3 hI3=>?_⟩;obtain⟨j,x,hus,hx,hj⟩:=hI3;have v635:e'''' 635=x:=(List.cons.inj hus).1;have d635:dec (e'''' 635)=(T++[128])++List.replicate j 0:=by rw[v635];exact hx
   have y7:e'''' 7=(b.length:Int):=(he3 7 (by decide)).trans (by omega);have y5:dec (e'''' 5)=Sha.run K0 H0 (fun k=>b.getD k 0) (b.length/64):=by rw[he3 5 (by decide),d5,hnL]
   clear hus hx hkk3 v635;intro a636 k636;have v636:e'''' 636=((dec (e'''' 635)).length:Int):=a636;rw[d635]at v636;try simp only[Mz,lT,O2,O5,Ov,O8,O6,Mp,L6,L0,L8]at v636
   clear a636 k636;intro(v637:e'''' 637=Qm .rem .i64 (e'''' 636) 64) k;clear k;have w637:e'''' 637=e'''' 636%64:=by rw[v637];show(e'''' 636).tmod 64=_;exact Mt (by omega)
   intro a k;have b638:=Qfl a;simp only[Ql,Qn,Qp]at b638;clear a k;refine⟨fun h=>?_,fun h=>?_⟩
   ·have c638:=Qi9 h b638;clear h;clear b638;intro a639 k639;have v639:e'''' 639=((dec (e'''' 635)).length:Int):=a639;rw[d635]at v639;try simp only[Mz,lT,O2,O5,Ov,O8,O6,Mp,L6,L0,L8]at v639
    clear a639 k639;intro a k;have b640:=Zj a;simp only[Ql,Qn,Qp]at b640;clear a k;refine⟨Y2 b640 (by omega),?_⟩;intro a641 k641;have d641:dec (e'''' 641)=dec (e'''' 635)++[0]:=dQ a641;rw[d635]at d641;try simp only[Ox]at d641
    clear a641 k641;refine⟨⟨j+1,e'''' 641,rfl,?_,by omega⟩,?_⟩
    ·rw[d641,List.replicate_succ',M8]
    ·show b.length+200-(dec (e'''' 641)).length<b.length+200-(dec (e'''' 635)).length;rw[d641,d635];simp only[O2,Mz,Ov,O5,lT];omega
   ·have c638:=no_ h b638;clear h;have hj2:j=(120-(b.length+1)%64)%64:=by omega
    clear b638;intro(v639:e'''' 639=wr .u64 (e'''' 7)) k;clear k;intro(v640:e'''' 640=Qm .shl .u64 (e'''' 639) 3) k;clear k;intro(v641:e'''' 641=Qm .shr .u64 (e'''' 640) 56) k;clear k;intro(v642:e'''' 642=wr .u8 (e'''' 641)) k;clear k;intro a643 k643;have v643:e'''' 643=((dec (e'''' 635)).length:Int):=a643;rw[d635]at v643;try simp only[Mz,lT,O2,O5,Ov,O8,O6,Mp,L6,L0,L8]at v643
    clear a643 k643;intro a k;have b644:=Zj a;simp only[Ql,Qn,Qp]at b644;clear a k;refine⟨Y2 b644 (by omega),?_⟩;clear v643 b644;intro a645 k645;have d645:dec (e'''' 645)=dec (e'''' 635)++[e'''' 642]:=dQ a645;rw[d635]at d645;try simp only[Ox]at d645
    clear a645 k645;intro(v646:e'''' 646=wr .u64 (e'''' 7)) k;clear k;intro(v647:e'''' 647=Qm .shl .u64 (e'''' 646) 3) k;clear k;intro(v648:e'''' 648=Qm .shr .u64 (e'''' 647) 48) k;clear k;intro(v649:e'''' 649=wr .u8 (e'''' 648)) k;clear k;intro a650 k650;have v650:e'''' 650=((dec (e'''' 645)).length:Int):=a650;rw[d645]at v650;try simp only[Mz,lT,O2,O5,Ov,O8,O6,Mp,L6,L0,L8]at v650
    clear a650 k650;intro a k;have b651:=Zj a;simp only[Ql,Qn,Qp]at b651;clear a k;refine⟨Y2 b651 (by omega),?_⟩;clear v650 b651;intro a652 k652;have d652:dec (e'''' 652)=dec (e'''' 645)++[e'''' 649]:=dQ a652;rw[d645]at d652;try simp only[Ox]at d652
    clear a652 k652;intro(v653:e'''' 653=wr .u64 (e'''' 7)) k;clear k;intro(v654:e'''' 654=Qm .shl .u64 (e'''' 653) 3) k;clear k;intro(v655:e'''' 655=Qm .shr .u64 (e'''' 654) 40) k;clear k;intro(v656:e'''' 656=wr .u8 (e'''' 655)) k;clear k;intro a657 k657;have v657:e'''' 657=((dec (e'''' 652)).length:Int):=a657;rw[d652]at v657;try simp only[Mz,lT,O2,O5,Ov,O8,O6,Mp,L6,L0,L8]at v657
    clear a657 k657;intro a k;have b658:=Zj a;simp only[Ql,Qn,Qp]at b658;clear a k;refine⟨Y2 b658 (by omega),?_⟩;clear v657 b658;intro a659 k659;have d659:dec (e'''' 659)=dec (e'''' 652)++[e'''' 656]:=dQ a659;rw[d652]at d659;try simp only[Ox]at d659
    clear a659 k659;intro(v660:e'''' 660=wr .u64 (e'''' 7)) k;clear k;intro(v661:e'''' 661=Qm .shl .u64 (e'''' 660) 3) k;clear k;intro(v662:e'''' 662=Qm .shr .u64 (e'''' 661) 32) k;clear k;intro(v663:e'''' 663=wr .u8 (e'''' 662)) k;clear k;intro a664 k664;have v664:e'''' 664=((dec (e'''' 659)).length:Int):=a664;rw[d659]at v664;try simp only[Mz,lT,O2,O5,Ov,O8,O6,Mp,L6,L0,L8]at v664
    clear a664 k664;intro a k;have b665:=Zj a;simp only[Ql,Qn,Qp]at b665;clear a k;refine⟨Y2 b665 (by omega),?_⟩;clear v664 b665;intro a666 k666;have d666:dec (e'''' 666)=dec (e'''' 659)++[e'''' 663]:=dQ a666;rw[d659]at d666;try simp only[Ox]at d666
    clear a666 k666;intro(v667:e'''' 667=wr .u64 (e'''' 7)) k;clear k;intro(v668:e'''' 668=Qm .shl .u64 (e'''' 667) 3) k;clear k;intro(v669:e'''' 669=Qm .shr .u64 (e'''' 668) 24) k;clear k;intro(v670:e'''' 670=wr .u8 (e'''' 669)) k;clear k;intro a671 k671;have v671:e'''' 671=((dec (e'''' 666)).length:Int):=a671;rw[d666]at v671;try simp only[Mz,lT,O2,O5,Ov,O8,O6,Mp,L6,L0,L8]at v671
    clear a671 k671;intro a k;have b672:=Zj a;simp only[Ql,Qn,Qp]at b672;clear a k;refine⟨Y2 b672 (by omega),?_⟩;clear v671 b672;intro a673 k673;have d673:dec (e'''' 673)=dec (e'''' 666)++[e'''' 670]:=dQ a673;rw[d666]at d673;try simp only[Ox]at d673
    clear a673 k673;intro(v674:e'''' 674=wr .u64 (e'''' 7)) k;clear k;intro(v675:e'''' 675=Qm .shl .u64 (e'''' 674) 3) k;clear k;intro(v676:e'''' 676=Qm .shr .u64 (e'''' 675) 16) k;clear k;intro(v677:e'''' 677=wr .u8 (e'''' 676)) k;clear k;intro a678 k678;have v678:e'''' 678=((dec (e'''' 673)).length:Int):=a678;rw[d673]at v678;try simp only[Mz,lT,O2,O5,Ov,O8,O6,Mp,L6,L0,L8]at v678
    clear a678 k678;intro a k;have b679:=Zj a;simp only[Ql,Qn,Qp]at b679;clear a k;refine⟨Y2 b679 (by omega),?_⟩;clear v678 b679;intro a680 k680;have d680:dec (e'''' 680)=dec (e'''' 673)++[e'''' 677]:=dQ a680;rw[d673]at d680;try simp only[Ox]at d680
    clear a680 k680;intro(v681:e'''' 681=wr .u64 (e'''' 7)) k;clear k;intro(v682:e'''' 682=Qm .shl .u64 (e'''' 681) 3) k;clear k;intro(v683:e'''' 683=Qm .shr .u64 (e'''' 682) 8) k;clear k;intro(v684:e'''' 684=wr .u8 (e'''' 683)) k;clear k;intro a685 k685;have v685:e'''' 685=((dec (e'''' 680)).length:Int):=a685;rw[d680]at v685;try simp only[Mz,lT,O2,O5,Ov,O8,O6,Mp,L6,L0,L8]at v685
    clear a685 k685;intro a k;have b686:=Zj a;simp only[Ql,Qn,Qp]at b686;clear a k;refine⟨Y2 b686 (by omega),?_⟩;clear v685 b686;intro a687 k687;have d687:dec (e'''' 687)=dec (e'''' 680)++[e'''' 684]:=dQ a687;rw[d680]at d687;try simp only[Ox]at d687
    clear a687 k687;intro(v688:e'''' 688=wr .u64 (e'''' 7)) k;clear k;intro(v689:e'''' 689=Qm .shl .u64 (e'''' 688) 3) k;clear k;intro(v690:e'''' 690=Qm .shr .u64 (e'''' 689) 0) k;clear k;intro(v691:e'''' 691=wr .u8 (e'''' 690)) k;clear k;intro a692 k692;have v692:e'''' 692=((dec (e'''' 687)).length:Int):=a692;rw[d687]at v692;try simp only[Mz,lT,O2,O5,Ov,O8,O6,Mp,L6,L0,L8]at v692
    clear a692 k692;intro a k;have b693:=Zj a;simp only[Ql,Qn,Qp]at b693;clear a k;refine⟨Y2 b693 (by omega),?_⟩;clear v692 b693;intro a694 k694;have d694:dec (e'''' 694)=dec (e'''' 687)++[e'''' 691]:=dQ a694;rw[d687]at d694;try simp only[Ox]at d694
    clear a694 k694;intro a695 k695;have v695:e'''' 695=((dec (e'''' 694)).length:Int):=a695;rw[d694]at v695;try simp only[Mz,lT,O2,O5,Ov,O8,O6,Mp,L6,L0,L8]at v695
    clear a695 k695;intro a696 k696;have d696:dec (e'''' 696)=((dec (e'''' 5)).take (8:Int).toNat).drop ((0:Int)).toNat:=dQ a696;try simp only[Ox]at d696
    first|rw[t8 (by first|exact Ze _ _|(simp only[Md];exact Ze _ _)|exact Xw _ Yw _|exact l6|(simp only[Md];exact l6))]at d696|skip
    clear a696 k696;obtain⟨R,hR⟩:∃R:List Int,R=(T++[128])++List.replicate j 0++eight (8*(b.length:Int)):=⟨_,rfl⟩
    have hsh:Qm .shl .u64 (wr .u64 (b.length:Int)) 3=8*(b.length:Int):=by
     show wr .u64 (wr .u64 (b.length:Int)*8)=_;simp only[wr];omega
    have dR:dec (e'''' 694)=R:=by
     rw[d694,hR];simp only[M8,v642,v641,v640,v639,v649,v648,v647,v646,v656,v655,v654,v653,v663,v662,v661,v660,v670,v669,v668,v667,v677,v676,v675,v674,v684,v683,v682,v681,v691,v690,v689,v688,y7,hsh];rfl
    have lR:R.length=b.length%64+1+j+8:=by rw[hR];simp only[O2,Mz,Ov,O5,lT,Zba]
    have hpad:Vk b=b.take (64*(b.length/64))++R:=by
     rw[hR,hT,hj2];simp only[Vk,Zwp,<- M8,Hs,O2,Ov,O5,M5]
    have hRm:R.length%64=0:=by rw[lR,hj2];omega
    have w695:e'''' 695=(R.length:Int):=by rw[lR];omega
    have ltk:(b.take (64*(b.length/64))).length=64*(b.length/64):=by rw[O6];omega
    have pget:∀k,(Vk b).getD (64*(b.length/64)+k) 0=R.getD k 0:=fun k=>by
     rw[hpad,Ou,Mf (by omega),ltk,Nat.add_sub_cancel_left,<- Ou]
    have plow:∀k,k<64*(b.length/64)->b.getD k 0=(Vk b).getD k 0:=fun k hk=>by
     rw[hpad,Ou,Ou,Mm (by omega),Ku,if_pos hk]
    have s0:dec (e'''' 696)=Sha.run K0 H0 (fun k=>(Vk b).getD k 0) (b.length/64):=by
     rw[show dec (e'''' 696)=((dec (e'''' 5)).take (8:Int).toNat).drop (0:Int).toNat from d696,y5,t8 (Xw _ Yw _)];exact Qnv _ plow
    refine⟨fun us=>∃(i:Nat) (x:Int),us=[((64*i:Nat):Int),x]/\dec x=Sha.run K0 H0 (fun k=>(Vk b).getD k 0) (b.length/64+i)/\64*i<=R.length,fun us=>(R.length-us.headD 0).toNat,⟨0,e'''' 696,rfl,s0,by omega⟩,fun e''''' he4 hkk4 hI4=>?_⟩;obtain⟨i,x,hus,hx,hi⟩:=hI4;have v697:e''''' 697=((64*i:Nat):Int):=(List.cons.inj hus).1;have u698:e''''' 698=x:=(List.cons.inj (List.cons.inj hus).2).1;have d698:dec (e''''' 698)=Sha.run K0 H0 (fun k=>(Vk b).getD k 0) (b.length/64+i):=by rw[u698];exact hx
    have y694:dec (e''''' 694)=R:=(congrArg dec (he4 694 (by decide))).trans dR;have y695:e''''' 695=(R.length:Int):=(he4 695 (by decide)).trans w695;clear hus hx hkk4 u698;intro a699 k699;have v699:e''''' 699=(e''''' 695)-(e''''' 697):=by
     have h:e''''' 699=Qm .sub .i64 (e''''' 695) (e''''' 697):=a699;rw[h];simp only[Qm,wr];omega
    clear a699 k699;intro a k;have b700:=Qeq a;simp only[Ql,Qn,Qp]at b700;clear a k;refine⟨fun h=>?_,fun h=>?_⟩
    ·have c700:=Qi9 h b700;clear h;clear b700;intro(v701:e''''' 701=((dec (e''''' 694)).length:Int)) k;clear k;first|rw[y694]at v701|skip
     intro a702 k702;have v702:e''''' 702=(e''''' 701)-(e''''' 697):=by
      have h:e''''' 702=Qm .sub .i64 (e''''' 701) (e''''' 697):=a702;rw[h];simp only[Qm,wr];omega
     clear a702 k702;intro a703 k703;have v703:e''''' 703=(e''''' 695)-(e''''' 697):=by
      have h:e''''' 703=Qm .sub .i64 (e''''' 695) (e''''' 697):=a703;rw[h];simp only[Qm,wr];omega
     clear a703 k703;intro a k;have b704:=Yv a;simp only[Ql,Qn,Qp]at b704;clear a k;intro a k;have b705:=Yv a;simp only[Ql,Qn,Qp]at b705;clear a k;intro a k;have b706:=Yv a;simp only[Ql,Qn,Qp]at b706;clear a k;intro a707 k707;have v707:e''''' 707=(e''''' 697)+0:=by
      have h:e''''' 707=Qm .add .i64 (e''''' 697) 0:=a707;rw[h];simp only[Qm,wr];omega
     clear a707 k707;intro a708 k708;have v708:e''''' 708=(e''''' 697)+64:=by
      have h:e''''' 708=Qm .add .i64 (e''''' 697) 64:=a708;rw[h];simp only[Qm,wr];omega
     clear a708 k708;refine⟨Y2 b704 (by omega),?_⟩;refine⟨Y2 b705 (by omega),?_⟩;refine⟨Y2 b706 (by omega),?_⟩;intro a k;have d709:dec (e''''' 709)=dec (0)++[0,0,0,0,0,0,0,0,0,0,0,0,0,0,0,0,0,0,0,0,0,0,0,0,0,0,0,0,0,0,0,0,0,0,0,0,0,0,0,0,0,0,0,0,0,0,0,0,0,0,0,0,0,0,0,0,0,0,0,0,0,0,0,0]:=dQ a;clear a k;rw[Qv]at d709;try simp only[Ox]at d709
     refine⟨fun us=>∃(t:Nat) (x:Int),t<=64/\us=[(t:Int),x]/\dec x=sch (fun k=>R.getD (64*i+k) 0) t,fun us=>(64-us.headD 0).toNat,⟨0,e''''' 709,by omega,rfl,by rw[d709];rfl⟩,fun e'''''' he5 hkk5 hI5=>?_⟩;obtain⟨t,x,ht,hus,hx⟩:=hI5;have v710:e'''''' 710=(t:Int):=(List.cons.inj hus).1;have v711:e'''''' 711=x:=(List.cons.inj (List.cons.inj hus).2).1;have d711:dec (e'''''' 711)=sch (fun k=>R.getD (64*i+k) 0) t:=by rw[v711];exact hx
     have q694:dec (e'''''' 694)=R:=(congrArg dec (he5 694 (by decide))).trans y694;have w707:e'''''' 707=((64*i:Nat):Int):=(he5 707 (by decide)).trans (by omega);have w708:e'''''' 708=((64*i:Nat):Int)+64:=(he5 708 (by decide)).trans (by omega);clear hus hkk5 v711 hx;intro a k;have b712:=Zj a;simp only[Ql,Qn,Qp]at b712;clear a k;refine⟨fun h=>?_,fun h=>?_⟩
     ·have c712:=Qi9 h b712;clear h;intro a k;have b713:=Zj a;simp only[Ql,Qn,Qp]at b713;clear a k;refine⟨fun h=>?_,fun h=>?_⟩
      ·have c713:=Qi9 h b713;clear h;intro a858 k858;have v858:e'''''' 858=4*(e'''''' 710):=by
        have h:e'''''' 858=Qm .mul .i64 4 (e'''''' 710):=a858;rw[h];simp only[Qm,wr];omega
       clear a858 k858;intro a906 k906;have v906:e'''''' 906=(e'''''' 708)-(e'''''' 707):=by
        have h:e'''''' 906=Qm .sub .i64 (e'''''' 708) (e'''''' 707):=a906;rw[h];simp only[Qm,wr];omega
       clear a906 k906;intro a k;have b907:=Yv a;simp only[Ql,Qn,Qp]at b907;clear a k;intro a k;have b908:=Zj a;simp only[Ql,Qn,Qp]at b908;clear a k;intro a909 k909;have v909:e'''''' 909=(e'''''' 707)+(e'''''' 858):=by
        have h:e'''''' 909=Qm .add .i64 (e'''''' 707) (e'''''' 858):=a909;rw[h];simp only[Qm,wr];omega
       clear a909 k909;refine⟨Y2 b907 (by omega),?_⟩;refine⟨Y2 b908 (by omega),?_⟩;clear b907 b908;intro(v954:e'''''' 954=(dec (e'''''' 694)).getD (e'''''' 909).toNat 0) k;clear k;intro(v1050:e'''''' 1050=Qm .shl .u32 (e'''''' 954) 24) k;clear k;intro a1194 k1194;have v1194:e'''''' 1194=4*(e'''''' 710):=by
        have h:e'''''' 1194=Qm .mul .i64 4 (e'''''' 710):=a1194;rw[h];simp only[Qm,wr];omega
       clear a1194 k1194;intro a1242 k1242;have v1242:e'''''' 1242=(e'''''' 1194)+1:=by
        have h:e'''''' 1242=Qm .add .i64 (e'''''' 1194) 1:=a1242;rw[h];simp only[Qm,wr];omega
       clear a1242 k1242;intro a1290 k1290;have v1290:e'''''' 1290=(e'''''' 708)-(e'''''' 707):=by
        have h:e'''''' 1290=Qm .sub .i64 (e'''''' 708) (e'''''' 707):=a1290;rw[h];simp only[Qm,wr];omega
       clear a1290 k1290;intro a k;have b1291:=Yv a;simp only[Ql,Qn,Qp]at b1291;clear a k;intro a k;have b1292:=Zj a;simp only[Ql,Qn,Qp]at b1292;clear a k;intro a1293 k1293;have v1293:e'''''' 1293=(e'''''' 707)+(e'''''' 1242):=by
        have h:e'''''' 1293=Qm .add .i64 (e'''''' 707) (e'''''' 1242):=a1293;rw[h];simp only[Qm,wr];omega
       clear a1293 k1293;refine⟨Y2 b1291 (by omega),?_⟩;refine⟨Y2 b1292 (by omega),?_⟩;clear b1291 b1292;intro(v1338:e'''''' 1338=(dec (e'''''' 694)).getD (e'''''' 1293).toNat 0) k;clear k;intro(v1434:e'''''' 1434=Qm .shl .u32 (e'''''' 1338) 16) k;clear k;intro(v1482:e'''''' 1482=Qm .or .u32 (e'''''' 1050) (e'''''' 1434)) k;clear k;intro a1626 k1626;have v1626:e'''''' 1626=4*(e'''''' 710):=by
        have h:e'''''' 1626=Qm .mul .i64 4 (e'''''' 710):=a1626;rw[h];simp only[Qm,wr];omega
       clear a1626 k1626;intro a1674 k1674;have v1674:e'''''' 1674=(e'''''' 1626)+2:=by
        have h:e'''''' 1674=Qm .add .i64 (e'''''' 1626) 2:=a1674;rw[h];simp only[Qm,wr];omega
       clear a1674 k1674;intro a1722 k1722;have v1722:e'''''' 1722=(e'''''' 708)-(e'''''' 707):=by
        have h:e'''''' 1722=Qm .sub .i64 (e'''''' 708) (e'''''' 707):=a1722;rw[h];simp only[Qm,wr];omega
       clear a1722 k1722;intro a k;have b1723:=Yv a;simp only[Ql,Qn,Qp]at b1723;clear a k;intro a k;have b1724:=Zj a;simp only[Ql,Qn,Qp]at b1724;clear a k;intro a1725 k1725;have v1725:e'''''' 1725=(e'''''' 707)+(e'''''' 1674):=by
        have h:e'''''' 1725=Qm .add .i64 (e'''''' 707) (e'''''' 1674):=a1725;rw[h];simp only[Qm,wr];omega
       clear a1725 k1725;refine⟨Y2 b1723 (by omega),?_⟩;refine⟨Y2 b1724 (by omega),?_⟩;clear b1723 b1724;intro(v1770:e'''''' 1770=(dec (e'''''' 694)).getD (e'''''' 1725).toNat 0) k;clear k;intro(v1866:e'''''' 1866=Qm .shl .u32 (e'''''' 1770) 8) k;clear k;intro(v1914:e'''''' 1914=Qm .or .u32 (e'''''' 1482) (e'''''' 1866)) k;clear k;intro a2058 k2058;have v2058:e'''''' 2058=4*(e'''''' 710):=by
        have h:e'''''' 2058=Qm .mul .i64 4 (e'''''' 710):=a2058;rw[h];simp only[Qm,wr];omega
       clear a2058 k2058;intro a2106 k2106;have v2106:e'''''' 2106=(e'''''' 2058)+3:=by
        have h:e'''''' 2106=Qm .add .i64 (e'''''' 2058) 3:=a2106;rw[h];simp only[Qm,wr];omega
       clear a2106 k2106;intro a2154 k2154;have v2154:e'''''' 2154=(e'''''' 708)-(e'''''' 707):=by
        have h:e'''''' 2154=Qm .sub .i64 (e'''''' 708) (e'''''' 707):=a2154;rw[h];simp only[Qm,wr];omega
       clear a2154 k2154;intro a k;have b2155:=Yv a;simp only[Ql,Qn,Qp]at b2155;clear a k;intro a k;have b2156:=Zj a;simp only[Ql,Qn,Qp]at b2156;clear a k;intro a2157 k2157;have v2157:e'''''' 2157=(e'''''' 707)+(e'''''' 2106):=by
        have h:e'''''' 2157=Qm .add .i64 (e'''''' 707) (e'''''' 2106):=a2157;rw[h];simp only[Qm,wr];omega
       clear a2157 k2157;refine⟨Y2 b2155 (by omega),?_⟩;refine⟨Y2 b2156 (by omega),?_⟩;clear b2155 b2156;intro(v2202:e'''''' 2202=(dec (e'''''' 694)).getD (e'''''' 2157).toNat 0) k;clear k;intro(v2298:e'''''' 2298=Qm .or .u32 (e'''''' 1914) (e'''''' 2202)) k;clear k;intro a k;have b2346:=Yv a;simp only[Ql,Qn,Qp]at b2346;clear a k;intro a k;have b2347:=Zj a;simp only[Ql,Qn,Qp]at b2347;clear a k;refine⟨Y2 b2346 (by omega),?_⟩;refine⟨Y2 b2347 (by omega),?_⟩;clear b2347;intro a2394 k2394;have d2394:dec (e'''''' 2394)=((dec (e'''''' 711)).take (64:Int).toNat).drop ((0:Int)).toNat:=dQ a2394;rw[d711]at d2394;try simp only[Ox]at d2394
       first|rw[t64 (by first|exact Ze _ _|(simp only[Md];exact Ze _ _)|exact Xw _ Yw _|exact l6|(simp only[Md];exact l6))]at d2394|skip
       clear a2394 k2394;intro a2395 k2395;have d2395:dec (e'''''' 2395)=(dec (e'''''' 2394)).set (e'''''' 710).toNat (e'''''' 2298):=dQ a2395;rw[d2394]at d2395;try simp only[Ox]at d2395
       clear a2395 k2395;intro a2442 k2442;have v2442:e'''''' 2442=(e'''''' 710)+1:=by
        have h:e'''''' 2442=Qm .add .i64 (e'''''' 710) 1:=a2442;rw[h];simp only[Qm,wr];omega
       clear a2442 k2442;intro a2443 k2443;have d2443:dec (e'''''' 2443)=((dec (e'''''' 2395)).take (64:Int).toNat).drop ((0:Int)).toNat:=dQ a2443;rw[d2395]at d2443;try simp only[Ox]at d2443
       first|rw[t64 (by first|exact Ze _ _|(simp only[Md];exact Ze _ _)|exact Xw _ Yw _|exact l6|(simp only[Md];exact l6))]at d2443|skip
       clear a2443 k2443;have hc:t<16:=by omega
       have vt:e'''''' 2442=((t+1:Nat):Int):=by omega
       have j0:(((64*i:Nat):Int)+4*(t:Int)).toNat=64*i+4*t:=by omega
       have j1:(((64*i:Nat):Int)+(4*(t:Int)+1)).toNat=64*i+(4*t+1):=by omega
       have j2:(((64*i:Nat):Int)+(4*(t:Int)+2)).toNat=64*i+(4*t+2):=by omega
       have j3:(((64*i:Nat):Int)+(4*(t:Int)+3)).toNat=64*i+(4*t+3):=by omega
       have key:e'''''' 2298=Qlw (fun k=>R.getD (64*i+k) 0) (sch (fun k=>R.getD (64*i+k) 0) t) t:=by
        unfold Qlw;rw[if_pos hc];simp only[v858,v906,v909,v954,v1050,v1194,v1242,v1290,v1293,v1338,v1434,v1482,v1626,v1674,v1722,v1725,v1770,v1866,v1914,v2058,v2106,v2154,v2157,v2202,v2298,v2442,v710,j0,j1,j2,j3,q694,w707];rfl
       refine⟨⟨t+1,e'''''' 2443,by omega,?_,?_⟩,?_⟩
       ·show[e'''''' 2442,e'''''' 2443]=_;rw[vt]
       ·rw[d2443,key,v710];rfl
       ·show(64-e'''''' 2442).toNat<(64-e'''''' 710).toNat;omega
      ·have c713:=no_ h b713;clear h;intro a762 k762;have v762:e'''''' 762=(e'''''' 710)-15:=by
        have h:e'''''' 762=Qm .sub .i64 (e'''''' 710) 15:=a762;rw[h];simp only[Qm,wr];omega
       clear a762 k762;intro a k;have b810:=Yv a;simp only[Ql,Qn,Qp]at b810;clear a k;intro a k;have b811:=Zj a;simp only[Ql,Qn,Qp]at b811;clear a k;refine⟨Y2 b810 (by omega),?_⟩;refine⟨Y2 b811 (by omega),?_⟩;clear b810 b811;intro a858 k858;have v858:e'''''' 858=(dec (e'''''' 711)).getD (e'''''' 762).toNat 0:=a858;rw[d711]at v858;clear a858 k858;intro a954 k954;have v954:e'''''' 954=(e'''''' 710)-2:=by
        have h:e'''''' 954=Qm .sub .i64 (e'''''' 710) 2:=a954;rw[h];simp only[Qm,wr];omega
       clear a954 k954;intro a k;have b1002:=Yv a;simp only[Ql,Qn,Qp]at b1002;clear a k;intro a k;have b1003:=Zj a;simp only[Ql,Qn,Qp]at b1003;clear a k;refine⟨Y2 b1002 (by omega),?_⟩;refine⟨Y2 b1003 (by omega),?_⟩;clear b1002 b1003;intro a1050 k1050;have v1050:e'''''' 1050=(dec (e'''''' 711)).getD (e'''''' 954).toNat 0:=a1050;rw[d711]at v1050;clear a1050 k1050;refine⟨(show(1:Int)<=17/\(17:Int)<=31 by decide),?_⟩;intro(v1290:e'''''' 1290=rot (e'''''' 1050) 17) k;clear k;refine⟨(show(1:Int)<=19/\(19:Int)<=31 by decide),?_⟩;intro(v1386:e'''''' 1386=rot (e'''''' 1050) 19) k;clear k;intro(v1434:e'''''' 1434=Qm .xor .u32 (e'''''' 1290) (e'''''' 1386)) k;clear k;intro(v1530:e'''''' 1530=Qm .shr .u32 (e'''''' 1050) 10) k;clear k;intro(v1578:e'''''' 1578=Qm .xor .u32 (e'''''' 1434) (e'''''' 1530)) k;clear k;intro a1674 k1674;have v1674:e'''''' 1674=(e'''''' 710)-7:=by
        have h:e'''''' 1674=Qm .sub .i64 (e'''''' 710) 7:=a1674;rw[h];simp only[Qm,wr];omega
       clear a1674 k1674;intro a k;have b1722:=Yv a;simp only[Ql,Qn,Qp]at b1722;clear a k;intro a k;have b1723:=Zj a;simp only[Ql,Qn,Qp]at b1723;clear a k;refine⟨Y2 b1722 (by omega),?_⟩;refine⟨Y2 b1723 (by omega),?_⟩;clear b1723;intro a1770 k1770;have v1770:e'''''' 1770=(dec (e'''''' 711)).getD (e'''''' 1674).toNat 0:=a1770;rw[d711]at v1770;clear a1770 k1770;intro(v1818:e'''''' 1818=Qm .add .u32 (e'''''' 1578) (e'''''' 1770)) k;clear k;refine⟨(show(1:Int)<=7/\(7:Int)<=31 by decide),?_⟩;intro(v1914:e'''''' 1914=rot (e'''''' 858) 7) k;clear k;refine⟨(show(1:Int)<=18/\(18:Int)<=31 by decide),?_⟩;intro(v2010:e'''''' 2010=rot (e'''''' 858) 18) k;clear k;intro(v2058:e'''''' 2058=Qm .xor .u32 (e'''''' 1914) (e'''''' 2010)) k;clear k;intro(v2154:e'''''' 2154=Qm .shr .u32 (e'''''' 858) 3) k;clear k;intro(v2202:e'''''' 2202=Qm .xor .u32 (e'''''' 2058) (e'''''' 2154)) k;clear k;intro(v2250:e'''''' 2250=Qm .add .u32 (e'''''' 1818) (e'''''' 2202)) k;clear k;intro a2346 k2346;have v2346:e'''''' 2346=(e'''''' 710)-16:=by
        have h:e'''''' 2346=Qm .sub .i64 (e'''''' 710) 16:=a2346;rw[h];simp only[Qm,wr];omega
       clear a2346 k2346;intro a k;have b2394:=Yv a;simp only[Ql,Qn,Qp]at b2394;clear a k;intro a k;have b2395:=Zj a;simp only[Ql,Qn,Qp]at b2395;clear a k;refine⟨Y2 b2394 (by omega),?_⟩;refine⟨Y2 b2395 (by omega),?_⟩;clear b2394 b2395;intro a2442 k2442;have v2442:e'''''' 2442=(dec (e'''''' 711)).getD (e'''''' 2346).toNat 0:=a2442;rw[d711]at v2442;clear a2442 k2442;intro(v2490:e'''''' 2490=Qm .add .u32 (e'''''' 2250) (e'''''' 2442)) k;clear k;intro a k;have b2538:=Yv a;simp only[Ql,Qn,Qp]at b2538;clear a k;intro a k;have b2539:=Zj a;simp only[Ql,Qn,Qp]at b2539;clear a k;refine⟨Y2 b2538 (by omega),?_⟩;refine⟨Y2 b2539 (by omega),?_⟩;clear b2538 b2539;intro a2586 k2586;have d2586:dec (e'''''' 2586)=((dec (e'''''' 711)).take (64:Int).toNat).drop ((0:Int)).toNat:=dQ a2586;rw[d711]at d2586;try simp only[Ox]at d2586
       first|rw[t64 (by first|exact Ze _ _|(simp only[Md];exact Ze _ _)|exact Xw _ Yw _|exact l6|(simp only[Md];exact l6))]at d2586|skip
       clear a2586 k2586;intro a2587 k2587;have d2587:dec (e'''''' 2587)=(dec (e'''''' 2586)).set (e'''''' 710).toNat (e'''''' 2490):=dQ a2587;rw[d2586]at d2587;try simp only[Ox]at d2587
       clear a2587 k2587;intro a2634 k2634;have v2634:e'''''' 2634=(e'''''' 710)+1:=by
        have h:e'''''' 2634=Qm .add .i64 (e'''''' 710) 1:=a2634;rw[h];simp only[Qm,wr];omega
       clear a2634 k2634;intro a2635 k2635;have d2635:dec (e'''''' 2635)=((dec (e'''''' 2587)).take (64:Int).toNat).drop ((0:Int)).toNat:=dQ a2635;rw[d2587]at d2635;try simp only[Ox]at d2635
       first|rw[t64 (by first|exact Ze _ _|(simp only[Md];exact Ze _ _)|exact Xw _ Yw _|exact l6|(simp only[Md];exact l6))]at d2635|skip
       clear a2635 k2635;have hc:¬t<16:=by omega
       have vt:e'''''' 2634=((t+1:Nat):Int):=by omega
       have i15:((t:Int)-15).toNat=t-15:=by omega
       have i2:((t:Int)-2).toNat=t-2:=by omega
       have i7:((t:Int)-7).toNat=t-7:=by omega
       have i16:((t:Int)-16).toNat=t-16:=by omega
       have key:e'''''' 2490=Qlw (fun k=>R.getD (64*i+k) 0) (sch (fun k=>R.getD (64*i+k) 0) t) t:=by
        unfold Qlw;rw[if_neg hc];simp only[v762,v858,v954,v1050,v1290,v1386,v1434,v1530,v1578,v1674,v1770,v1818,v1914,v2010,v2058,v2154,v2202,v2250,v2346,v2442,v2490,v2634,v710,i15,i2,i7,i16];rfl
       refine⟨⟨t+1,e'''''' 2635,by omega,?_,?_⟩,?_⟩
       ·show[e'''''' 2634,e'''''' 2635]=_;rw[vt]
       ·rw[d2635,key,v710];rfl
       ·show(64-e'''''' 2634).toNat<(64-e'''''' 710).toNat;omega
     ·have c712:=no_ h b712;clear h;intro a713 k713;have d713:dec (e'''''' 713)=((dec (e'''''' 698)).take (8:Int).toNat).drop ((0:Int)).toNat:=dQ a713;try simp only[Ox]at d713
      first|rw[t8 (by first|exact Ze _ _|(simp only[Md];exact Ze _ _)|exact Xw _ Yw _|exact l6|(simp only[Md];exact l6))]at d713|skip
      clear a713 k713;have ht64:t=64:=by omega
      subst ht64;have q698:dec (e'''''' 698)=dec (e''''' 698):=congrArg dec (he5 698 (by decide));have l713:dec (e'''''' 713)=dec (e''''' 698):=by
       rw[show dec (e'''''' 713)=((dec (e'''''' 698)).take (8:Int).toNat).drop (0:Int).toNat from d713,q698,t8 (by rw[d698];exact Xw _ Yw _)]
      refine⟨fun us=>∃(u:Nat) (x:Int),u<=64/\us=[(u:Int),x]/\dec x=Qrz K0 (sch (fun k=>R.getD (64*i+k) 0) 64) (dec (e''''' 698)) u,fun us=>(64-us.headD 0).toNat,⟨0,e'''''' 713,by omega,rfl,l713⟩,fun e''''''' he6 hkk6 hI6=>?_⟩;obtain⟨u,x,hu,hus,hx⟩:=hI6;have v714:e''''''' 714=(u:Int):=(List.cons.inj hus).1;have v715:e''''''' 715=x:=(List.cons.inj (List.cons.inj hus).2).1;have z715:dec (e''''''' 715)=Qrz K0 (sch (fun k=>R.getD (64*i+k) 0) 64) (dec (e''''' 698)) u:=by rw[v715];exact hx
      have z711:dec (e''''''' 711)=sch (fun k=>R.getD (64*i+k) 0) 64:=(congrArg dec (he6 711 (by decide))).trans d711;clear hus hkk6 v715 hx;intro a k;have b716:=Zj a;simp only[Ql,Qn,Qp]at b716;clear a k;refine⟨fun h=>?_,fun h=>?_⟩
      ·have c716:=Qi9 h b716;clear h;refine⟨(show(1:Int)<=6/\(6:Int)<=31 by decide),?_⟩;intro(v1149:e''''''' 1149=rot ((dec (e''''''' 715)).getD 4 0) 6) k;clear k;refine⟨(show(1:Int)<=11/\(11:Int)<=31 by decide),?_⟩;intro(v1245:e''''''' 1245=rot ((dec (e''''''' 715)).getD 4 0) 11) k;clear k;intro(v1293:e''''''' 1293=Qm .xor .u32 (e''''''' 1149) (e''''''' 1245)) k;clear k;refine⟨(show(1:Int)<=25/\(25:Int)<=31 by decide),?_⟩;intro(v1389:e''''''' 1389=rot ((dec (e''''''' 715)).getD 4 0) 25) k;clear k;intro(v1437:e''''''' 1437=Qm .xor .u32 (e''''''' 1293) (e''''''' 1389)) k;clear k;intro(v1485:e''''''' 1485=Qm .add .u32 ((dec (e''''''' 715)).getD 7 0) (e''''''' 1437)) k;clear k;intro(v1677:e''''''' 1677=Qm .and .u32 ((dec (e''''''' 715)).getD 4 0) ((dec (e''''''' 715)).getD 5 0)) k;clear k;intro(v1773:e''''''' 1773=Qm .xor .u32 4294967295 ((dec (e''''''' 715)).getD 4 0)) k;clear k;intro(v1917:e''''''' 1917=Qm .and .u32 (e''''''' 1773) ((dec (e''''''' 715)).getD 6 0)) k;clear k;intro(v1965:e''''''' 1965=Qm .xor .u32 (e''''''' 1677) (e''''''' 1917)) k;clear k;intro(v2013:e''''''' 2013=Qm .add .u32 (e''''''' 1485) (e''''''' 1965)) k;clear k;intro a k;have b2109:=Yv a;simp only[Ql,Qn,Qp]at b2109;clear a k;intro a k;have b2110:=Zj a;simp only[Ql,Qn,Qp]at b2110;clear a k;refine⟨Y2 b2109 (by omega),?_⟩;refine⟨Y2 b2110 (by omega),?_⟩;clear b2109 b2110;intro(v2157:e''''''' 2157=(K0).getD (e''''''' 714).toNat 0) k;clear k;intro(v2205:e''''''' 2205=Qm .add .u32 (e''''''' 2013) (e''''''' 2157)) k;clear k;intro a k;have b2301:=Yv a;simp only[Ql,Qn,Qp]at b2301;clear a k;intro a k;have b2302:=Zj a;simp only[Ql,Qn,Qp]at b2302;clear a k;refine⟨Y2 b2301 (by omega),?_⟩;refine⟨Y2 b2302 (by omega),?_⟩;clear b2301 b2302;intro(v2349:e''''''' 2349=(dec (e''''''' 711)).getD (e''''''' 714).toNat 0) k;clear k;intro(v2397:e''''''' 2397=Qm .add .u32 (e''''''' 2205) (e''''''' 2349)) k;clear k;refine⟨(show(1:Int)<=2/\(2:Int)<=31 by decide),?_⟩;intro(v2541:e''''''' 2541=rot ((dec (e''''''' 715)).getD 0 0) 2) k;clear k;refine⟨(show(1:Int)<=13/\(13:Int)<=31 by decide),?_⟩;intro(v2637:e''''''' 2637=rot ((dec (e''''''' 715)).getD 0 0) 13) k;clear k;intro(v2685:e''''''' 2685=Qm .xor .u32 (e''''''' 2541) (e''''''' 2637)) k;clear k;refine⟨(show(1:Int)<=22/\(22:Int)<=31 by decide),?_⟩;intro(v2781:e''''''' 2781=rot ((dec (e''''''' 715)).getD 0 0) 22) k;clear k;intro(v2829:e''''''' 2829=Qm .xor .u32 (e''''''' 2685) (e''''''' 2781)) k;clear k;intro(v3021:e''''''' 3021=Qm .and .u32 ((dec (e''''''' 715)).getD 0 0) ((dec (e''''''' 715)).getD 1 0)) k;clear k;intro(v3213:e''''''' 3213=Qm .and .u32 ((dec (e''''''' 715)).getD 0 0) ((dec (e''''''' 715)).getD 2 0)) k;clear k;intro(v3261:e''''''' 3261=Qm .xor .u32 (e''''''' 3021) (e''''''' 3213)) k;clear k;intro(v3501:e''''''' 3501=Qm .and .u32 ((dec (e''''''' 715)).getD 1 0) ((dec (e''''''' 715)).getD 2 0)) k;clear k;intro(v3549:e''''''' 3549=Qm .xor .u32 (e''''''' 3261) (e''''''' 3501)) k;clear k;intro(v3597:e''''''' 3597=Qm .add .u32 (e''''''' 2829) (e''''''' 3549)) k;clear k;intro(v3693:e''''''' 3693=Qm .add .u32 (e''''''' 2397) (e''''''' 3597)) k;clear k;intro(v3694:e''''''' 3694=Qm .add .u32 ((dec (e''''''' 715)).getD 3 0) (e''''''' 2397)) k;clear k;intro a3695 k3695;have v3695:e''''''' 3695=(e''''''' 714)+1:=by
        have h:e''''''' 3695=Qm .add .i64 (e''''''' 714) 1:=a3695;rw[h];simp only[Qm,wr];omega
       clear a3695 k3695;intro a k;have d3696:dec (e''''''' 3696)=dec (0)++[e''''''' 3693,(dec (e''''''' 715)).getD 0 0,(dec (e''''''' 715)).getD 1 0,(dec (e''''''' 715)).getD 2 0,e''''''' 3694,(dec (e''''''' 715)).getD 4 0,(dec (e''''''' 715)).getD 5 0,(dec (e''''''' 715)).getD 6 0]:=dQ a;clear a k;rw[Qv]at d3696;try simp only[Ox]at d3696
       have vu:e''''''' 3695=((u+1:Nat):Int):=by omega
       refine⟨⟨u+1,e''''''' 3696,by omega,?_,?_⟩,?_⟩
       ·show[e''''''' 3695,e''''''' 3696]=_;rw[vu]
       ·rw[d3696];show _=rnd (K0.getD u 0) ((sch (fun k=>R.getD (64*i+k) 0) 64).getD u 0) (Qrz K0 (sch (fun k=>R.getD (64*i+k) 0) 64) (dec (e''''' 698)) u);simp only[v1149,v1245,v1293,v1389,v1437,v1485,v1677,v1773,v1917,v1965,v2013,v2157,v2205,v2349,v2397,v2541,v2637,v2685,v2781,v2829,v3021,v3213,v3261,v3501,v3549,v3597,v3693,v3694,v3695,v714,z711,Mi,z715];rfl
       ·show(64-e''''''' 3695).toNat<(64-e''''''' 714).toNat;omega
      ·have c716:=no_ h b716;clear h;have hu64:u=64:=by omega
       subst hu64;have x697:e''''''' 697=((64*i:Nat):Int):=(he6 697 (by decide)).trans ((he5 697 (by decide)).trans v697);have x695:e''''''' 695=(R.length:Int):=(he6 695 (by decide)).trans ((he5 695 (by decide)).trans y695);have x694:dec (e''''''' 694)=R:=congrArg dec ((he6 694 (by decide)).trans (he5 694 (by decide))) |>.trans y694
       have x698:dec (e''''''' 698)=dec (e''''' 698):=congrArg dec ((he6 698 (by decide)).trans (he5 698 (by decide)));intro(v1101:e''''''' 1101=Qm .add .u32 ((dec (e''''''' 698)).getD 0 0) ((dec (e''''''' 715)).getD 0 0)) k;clear k;intro(v1677:e''''''' 1677=Qm .add .u32 ((dec (e''''''' 698)).getD 1 0) ((dec (e''''''' 715)).getD 1 0)) k;clear k;intro(v2253:e''''''' 2253=Qm .add .u32 ((dec (e''''''' 698)).getD 2 0) ((dec (e''''''' 715)).getD 2 0)) k;clear k;intro(v2829:e''''''' 2829=Qm .add .u32 ((dec (e''''''' 698)).getD 3 0) ((dec (e''''''' 715)).getD 3 0)) k;clear k;intro(v3405:e''''''' 3405=Qm .add .u32 ((dec (e''''''' 698)).getD 4 0) ((dec (e''''''' 715)).getD 4 0)) k;clear k;intro(v3981:e''''''' 3981=Qm .add .u32 ((dec (e''''''' 698)).getD 5 0) ((dec (e''''''' 715)).getD 5 0)) k;clear k;intro(v4557:e''''''' 4557=Qm .add .u32 ((dec (e''''''' 698)).getD 6 0) ((dec (e''''''' 715)).getD 6 0)) k;clear k;intro(v5133:e''''''' 5133=Qm .add .u32 ((dec (e''''''' 698)).getD 7 0) ((dec (e''''''' 715)).getD 7 0)) k;clear k;intro(v5325:e''''''' 5325=((dec (e''''''' 694)).length:Int)) k;clear k;rw[x694]at v5325;intro a5326 k5326;have v5326:e''''''' 5326=(e''''''' 5325)-(e''''''' 697):=by
        have h:e''''''' 5326=Qm .sub .i64 (e''''''' 5325) (e''''''' 697):=a5326;rw[h];simp only[Qm,wr];omega
       clear a5326 k5326;intro a5327 k5327;have v5327:e''''''' 5327=(e''''''' 695)-(e''''''' 697):=by
        have h:e''''''' 5327=Qm .sub .i64 (e''''''' 695) (e''''''' 697):=a5327;rw[h];simp only[Qm,wr];omega
       clear a5327 k5327;intro a k;have b5328:=Yv a;simp only[Ql,Qn,Qp]at b5328;clear a k;intro a k;have b5329:=Yv a;simp only[Ql,Qn,Qp]at b5329;clear a k;intro a k;have b5330:=Yv a;simp only[Ql,Qn,Qp]at b5330;clear a k;intro a5331 k5331;have v5331:e''''''' 5331=(e''''''' 697)+64:=by
        have h:e''''''' 5331=Qm .add .i64 (e''''''' 697) 64:=a5331;rw[h];simp only[Qm,wr];omega
       clear a5331 k5331;intro a5332 k5332;have v5332:e''''''' 5332=(e''''''' 697)+(e''''''' 5327):=by
        have h:e''''''' 5332=Qm .add .i64 (e''''''' 697) (e''''''' 5327):=a5332;rw[h];simp only[Qm,wr];omega
       clear a5332 k5332;refine⟨Y2 b5328 (by omega),?_⟩;refine⟨Y2 b5329 (by omega),?_⟩;refine⟨Y2 b5330 (by omega),?_⟩;clear v5326 v5327 b5328 b5329 b5330 v5332;intro a k;have d5333:dec (e''''''' 5333)=dec (0)++[e''''''' 1101,e''''''' 1677,e''''''' 2253,e''''''' 2829,e''''''' 3405,e''''''' 3981,e''''''' 4557,e''''''' 5133]:=dQ a;clear a k;rw[Qv]at d5333;try simp only[Ox]at d5333
       refine⟨⟨i+1,e''''''' 5333,?_,?_,by omega⟩,?_⟩
       ·show[e''''''' 5331,e''''''' 5333]=_;rw[show e''''''' 5331=((64*(i+1):Nat):Int) by omega]
       ·rw[d5333];show _=blk K0 (Sha.run K0 H0 (fun k=>(Vk b).getD k 0) (b.length/64+i)) fun k=>(Vk b).getD (64*(b.length/64+i)+k) 0
        rw[Qgc (c:=fun k=>R.getD (64*i+k) 0) (fun k hk=>by rw[<- pget];congr 1;omega),<- d698];simp only[v1101,v1677,v2253,v2829,v3405,v3981,v4557,v5133,x698,z715];rfl
       ·show((R.length:Int)-e''''''' 5331).toNat<((R.length:Int)-e''''' 697).toNat;omega
    ·have c700:=no_ h b700;clear h;clear b700;intro(v701:e''''' 701=Qm .shr .u32 ((dec (e''''' 698)).getD 0 0) 24) k;clear k;first|rw[y694]at v701|skip
     intro(v702:e''''' 702=wr .u8 (e''''' 701)) k;clear k;intro(v703:e''''' 703=Qm .shr .u32 ((dec (e''''' 698)).getD 0 0) 16) k;clear k;intro(v704:e''''' 704=wr .u8 (e''''' 703)) k;clear k;intro(v705:e''''' 705=Qm .shr .u32 ((dec (e''''' 698)).getD 0 0) 8) k;clear k;intro(v706:e''''' 706=wr .u8 (e''''' 705)) k;clear k;intro(v707:e''''' 707=wr .u8 ((dec (e''''' 698)).getD 0 0)) k;clear k;intro(v708:e''''' 708=Qm .shr .u32 ((dec (e''''' 698)).getD 1 0) 24) k;clear k;intro(v709:e''''' 709=wr .u8 (e''''' 708)) k;clear k;intro(v710:e''''' 710=Qm .shr .u32 ((dec (e''''' 698)).getD 1 0) 16) k;clear k;intro(v711:e''''' 711=wr .u8 (e''''' 710)) k;clear k;intro(v712:e''''' 712=Qm .shr .u32 ((dec (e''''' 698)).getD 1 0) 8) k;clear k;intro(v713:e''''' 713=wr .u8 (e''''' 712)) k;clear k;intro(v714:e''''' 714=wr .u8 ((dec (e''''' 698)).getD 1 0)) k;clear k;intro(v715:e''''' 715=Qm .shr .u32 ((dec (e''''' 698)).getD 2 0) 24) k;clear k;intro(v716:e''''' 716=wr .u8 (e''''' 715)) k;clear k;intro(v717:e''''' 717=Qm .shr .u32 ((dec (e''''' 698)).getD 2 0) 16) k;clear k;intro(v718:e''''' 718=wr .u8 (e''''' 717)) k;clear k;intro(v719:e''''' 719=Qm .shr .u32 ((dec (e''''' 698)).getD 2 0) 8) k;clear k;intro(v720:e''''' 720=wr .u8 (e''''' 719)) k;clear k;intro(v721:e''''' 721=wr .u8 ((dec (e''''' 698)).getD 2 0)) k;clear k;intro(v722:e''''' 722=Qm .shr .u32 ((dec (e''''' 698)).getD 3 0) 24) k;clear k;intro(v723:e''''' 723=wr .u8 (e''''' 722)) k;clear k;intro(v724:e''''' 724=Qm .shr .u32 ((dec (e''''' 698)).getD 3 0) 16) k;clear k;intro(v725:e''''' 725=wr .u8 (e''''' 724)) k;clear k;intro(v726:e''''' 726=Qm .shr .u32 ((dec (e''''' 698)).getD 3 0) 8) k;clear k;intro(v727:e''''' 727=wr .u8 (e''''' 726)) k;clear k;intro(v728:e''''' 728=wr .u8 ((dec (e''''' 698)).getD 3 0)) k;clear k;intro(v729:e''''' 729=Qm .shr .u32 ((dec (e''''' 698)).getD 4 0) 24) k;clear k;intro(v730:e''''' 730=wr .u8 (e''''' 729)) k;clear k;intro(v731:e''''' 731=Qm .shr .u32 ((dec (e''''' 698)).getD 4 0) 16) k;clear k;intro(v732:e''''' 732=wr .u8 (e''''' 731)) k;clear k;intro(v733:e''''' 733=Qm .shr .u32 ((dec (e''''' 698)).getD 4 0) 8) k;clear k;intro(v734:e''''' 734=wr .u8 (e''''' 733)) k;clear k;intro(v735:e''''' 735=wr .u8 ((dec (e''''' 698)).getD 4 0)) k;clear k;intro(v736:e''''' 736=Qm .shr .u32 ((dec (e''''' 698)).getD 5 0) 24) k;clear k;intro(v737:e''''' 737=wr .u8 (e''''' 736)) k;clear k;intro(v738:e''''' 738=Qm .shr .u32 ((dec (e''''' 698)).getD 5 0) 16) k;clear k;intro(v739:e''''' 739=wr .u8 (e''''' 738)) k;clear k;intro(v740:e''''' 740=Qm .shr .u32 ((dec (e''''' 698)).getD 5 0) 8) k;clear k;intro(v741:e''''' 741=wr .u8 (e''''' 740)) k;clear k;intro(v742:e''''' 742=wr .u8 ((dec (e''''' 698)).getD 5 0)) k;clear k;intro(v743:e''''' 743=Qm .shr .u32 ((dec (e''''' 698)).getD 6 0) 24) k;clear k;intro(v744:e''''' 744=wr .u8 (e''''' 743)) k;clear k;intro(v745:e''''' 745=Qm .shr .u32 ((dec (e''''' 698)).getD 6 0) 16) k;clear k;intro(v746:e''''' 746=wr .u8 (e''''' 745)) k;clear k;intro(v747:e''''' 747=Qm .shr .u32 ((dec (e''''' 698)).getD 6 0) 8) k;clear k;intro(v748:e''''' 748=wr .u8 (e''''' 747)) k;clear k;intro(v749:e''''' 749=wr .u8 ((dec (e''''' 698)).getD 6 0)) k;clear k;intro(v750:e''''' 750=Qm .shr .u32 ((dec (e''''' 698)).getD 7 0) 24) k;clear k;intro(v751:e''''' 751=wr .u8 (e''''' 750)) k;clear k;intro(v752:e''''' 752=Qm .shr .u32 ((dec (e''''' 698)).getD 7 0) 16) k;clear k;intro(v753:e''''' 753=wr .u8 (e''''' 752)) k;clear k;intro(v754:e''''' 754=Qm .shr .u32 ((dec (e''''' 698)).getD 7 0) 8) k;clear k;intro(v755:e''''' 755=wr .u8 (e''''' 754)) k;clear k;intro(v756:e''''' 756=wr .u8 ((dec (e''''' 698)).getD 7 0)) k;clear k;intro a757 k757;have d757:dec (e''''' 757)=dec (0)++[e''''' 702,e''''' 704,e''''' 706,e''''' 707,e''''' 709,e''''' 711,e''''' 713,e''''' 714,e''''' 716,e''''' 718,e''''' 720,e''''' 721,e''''' 723,e''''' 725,e''''' 727,e''''' 728,e''''' 730,e''''' 732,e''''' 734,e''''' 735,e''''' 737,e''''' 739,e''''' 741,e''''' 742,e''''' 744,e''''' 746,e''''' 748,e''''' 749,e''''' 751,e''''' 753,e''''' 755,e''''' 756]:=dQ a757;rw[Qv]at d757;try simp only[Ox]at d757
     clear k757;show[e''''' 757]=_;have hpl:(Vk b).length/64=b.length/64+i:=by rw[hpad,O2,ltk];omega
     show[e''''' 757]=[enc (Zm2 (Sha.run K0 H0 (fun k=>(Vk b).getD k 0) ((Vk b).length/64)))]
     rw[hpl,<- d698,show e''''' 757=enc (dec 0++[e''''' 702,e''''' 704,e''''' 706,e''''' 707,e''''' 709,e''''' 711,e''''' 713,e''''' 714,e''''' 716,e''''' 718,e''''' 720,e''''' 721,e''''' 723,e''''' 725,e''''' 727,e''''' 728,e''''' 730,e''''' 732,e''''' 734,e''''' 735,e''''' 737,e''''' 739,e''''' 741,e''''' 742,e''''' 744,e''''' 746,e''''' 748,e''''' 749,e''''' 751,e''''' 753,e''''' 755,e''''' 756])from a757,Qv,Zoo];simp only[v702,v701,v704,v703,v706,v705,v707,v709,v708,v711,v710,v713,v712,v714,v716,v715,v718,v717,v720,v719,v721,v723,v722,v725,v724,v727,v726,v728,v730,v729,v732,v731,v734,v733,v735,v737,v736,v739,v738,v741,v740,v742,v744,v743,v746,v745,v748,v747,v749,v751,v750,v753,v752,v755,v754,v756];rfl
end Sha
theorem Zd2{n a:Int}(h:n%2=1):Yp n a (Xc n)=a*Qw%n:=by
 obtain⟨z,hz⟩:=RR1 h;show a*Xc n*Zm n^384%n=_;refine md (a*z) ?_;have:a*(Xc n*Zm n^384)=a*(Qw+n*z):=by rw[hz]
 grind
def Qk2(f:FuncId):K:={fn:=f,ext:=false,ins:=[iM,iN,iN],outs:=[oN],pre:=fun|[n,low,w,_,_]=>Qa0 n low w|_=>False,sem:=fun|[n,_,_,a,b]=>[(a+b*Qw)%n]|_=>[] }
def Zjx:Qq:=(.l 5 .bit (.c .eql (.v 1) (.n 0))
(.split 5
(.ret [.n 0])
(xw 1 [.v 0,.v 1,.v 2,.v 4,.v 2] 390 Z7
(xw 0 [.v 0,.v 1,.v 2,.v 3,.v 390] 438 Z7
(.ret [.v 438])))))
theorem Za2(f1 f2 f:FuncId)(e:Nat->Int)(hp:(Qk2 f).pre [e 0,e 1,e 2,e 3,e 4]):Zjx.Xat [Qnl f1,Qms f2] ⟨fun ys=>ys=(Qk2 f).sem [e 0,e 1,e 2,e 3,e 4],[]⟩ e:=by
 have hp:Qa0 (e 0) (e 1) (e 2):=hp;have hm:=hp.1;have hw:=hp.2;have hn3:=hm.2.1;have hwl:=Qo5 (n:=e 0) (by omega);show Zjx.Xat _ ⟨fun ys=>ys=[(e 3+e 4*Qw)%e 0],[]⟩ e;intro a5 _;have b5:=Zy a5;simp only[Ql,Qn]at b5;refine⟨fun h=>?_,fun h=>?_⟩
 ·exact absurd (Xn b5 h) hm.Xbl
 refine⟨⟨hm,.inr (by show e 2<e 0;rw[hw];exact hwl.2)⟩,fun a390 _=>⟨hp,fun a438 _=>?_⟩⟩;have v390:e 390=Yp (e 0) (e 4) (e 2):=a390;have v438:e 438=(e 3+e 390)%e 0:=a438;show[e 438]=_;rw[v438,v390,hw,Zd2 hm.odd,Int.add_emod_emod]
def Qxh(tag:Int)(t:List Int):List Int:=Sha.sha (tag::0::t)++Sha.sha (tag::1::t)
def Y8(n tag:Int)(t:List Int):Int:=(Xr ((Qxh tag t).drop 16)+Xr ((Qxh tag t).take 16)*Qw)%n
noncomputable def Qq6(Q:Int->List Int->Prop)(f:FuncId):K:={Sha.kSum f with pre:=fun|[x]=>∃tag t,Q tag t/\(x=enc (tag::0::t)∨x=enc (tag::1::t))|_=>False }
noncomputable def Qe9(Q:Int->List Int->Prop)(f:FuncId):K:={fn:=f,ext:=false,ins:=[iN,.one (.int .u8),.lst (.int .u8)],outs:=[oN],pre:=fun|[n,g,t]=>(n%2=1/\3<=n/\n<2^382)/\(dec t).length<=65536/\Q g (dec t)|_=>False,sem:=fun|[n,tag,t]=>[Y8 n tag (dec t)]|_=>[] }
theorem Ztg{l:List Int}(h:l.length=32):(List.range 32).map (fun j=>l.getD j 0)=l:=by
 apply Oai;intro i;rw[M2];rcases Ha i 32 with hi|hi
 ·rw[List.getElem?_range hi,L4,Ou,O1 (by omega)];rfl
 ·rw[My (by simpa using hi),My (by omega)];rfl
theorem Zrv{v x:Int}(h:(dec x).length=32)(hv:v=enc (dec 0++(List.range 32).map (fun j=>(dec x).getD j 0))):dec v=dec x:=by rw[hv,Qu,Qv,Ox,Ztg h]
theorem Zdf{n:Int}(h1:n%2=1)(h2:3<=n)(h3:n<2^382):Qa0 n (Qgv n) (Xc n):=Qis h1 h2 h3
def Zhk:Qq:=(.l 3 (.lst (.int .u8)) (.lapp (.n 0) [.v 1,.n 0])
(.l 4 kI (.llen (.v 3))
(.l 5 .bit (.c .lss (.v 4) (.n 2147483648))
(.l 6 kI (.llen (.v 2))
(.l 7 .bit (.c .lss (.v 6) (.n 2147483648))
(.nz (.v 5)
(.nz (.v 7)
(.l 8 (.lst (.int .u8)) (.lcat (.v 3) (.v 2))
(xw 0 [.v 8] 9 [(.arr .u8 32)]
(.l 10 (.lst (.int .u8)) (.lapp (.n 0) [(.elt .u8 9 0),(.elt .u8 9 1),(.elt .u8 9 2),(.elt .u8 9 3),(.elt .u8 9 4),(.elt .u8 9 5),(.elt .u8 9 6),(.elt .u8 9 7),(.elt .u8 9 8),(.elt .u8 9 9),(.elt .u8 9 10),(.elt .u8 9 11),(.elt .u8 9 12),(.elt .u8 9 13),(.elt .u8 9 14),(.elt .u8 9 15),(.elt .u8 9 16),(.elt .u8 9 17),(.elt .u8 9 18),(.elt .u8 9 19),(.elt .u8 9 20),(.elt .u8 9 21),(.elt .u8 9 22),(.elt .u8 9 23),(.elt .u8 9 24),(.elt .u8 9 25),(.elt .u8 9 26),(.elt .u8 9 27),(.elt .u8 9 28),(.elt .u8 9 29),(.elt .u8 9 30),(.elt .u8 9 31)])
(.l 11 kI (.llen (.n 0))
(.l 12 .bit (.c .lss (.v 11) (.n 2147483648))
(.l 13 kI (.llen (.v 10))
(.l 14 .bit (.c .lss (.v 13) (.n 2147483648))
(.nz (.v 12)
(.nz (.v 14)
(.l 15 (.lst (.int .u8)) (.lcat (.n 0) (.v 10))
(.l 16 (.lst (.int .u8)) (.lapp (.n 0) [.v 1,.n 1])
(.l 17 kI (.llen (.v 16))
(.l 18 .bit (.c .lss (.v 17) (.n 2147483648))
(.l 19 kI (.llen (.v 2))
(.l 20 .bit (.c .lss (.v 19) (.n 2147483648))
(.nz (.v 18)
(.nz (.v 20)
(.l 21 (.lst (.int .u8)) (.lcat (.v 16) (.v 2))
(xw 0 [.v 21] 22 [(.arr .u8 32)]
(.l 23 (.lst (.int .u8)) (.lapp (.n 0) [(.elt .u8 22 0),(.elt .u8 22 1),(.elt .u8 22 2),(.elt .u8 22 3),(.elt .u8 22 4),(.elt .u8 22 5),(.elt .u8 22 6),(.elt .u8 22 7),(.elt .u8 22 8),(.elt .u8 22 9),(.elt .u8 22 10),(.elt .u8 22 11),(.elt .u8 22 12),(.elt .u8 22 13),(.elt .u8 22 14),(.elt .u8 22 15),(.elt .u8 22 16),(.elt .u8 22 17),(.elt .u8 22 18),(.elt .u8 22 19),(.elt .u8 22 20),(.elt .u8 22 21),(.elt .u8 22 22),(.elt .u8 22 23),(.elt .u8 22 24),(.elt .u8 22 25),(.elt .u8 22 26),(.elt .u8 22 27),(.elt .u8 22 28),(.elt .u8 22 29),(.elt .u8 22 30),(.elt .u8 22 31)])
(.l 24 kI (.llen (.v 15))
(.l 25 .bit (.c .lss (.v 24) (.n 2147483648))
(.l 26 kI (.llen (.v 23))
(.l 27 .bit (.c .lss (.v 26) (.n 2147483648))
(.nz (.v 25)
(.nz (.v 27)
(.l 28 (.lst (.int .u8)) (.lcat (.v 15) (.v 23))
(.l 29 kI (.llen (.v 28))
(.l 30 .bit (.c .leq (.n 0) (.n 0))
(.l 31 .bit (.c .leq (.n 0) (.n 16))
(.l 32 .bit (.c .leq (.n 16) (.v 29))
(.nz (.v 30)
(.nz (.v 31)
(.nz (.v 32)
(.l 33 (.lst (.int .u8)) (.lsub (.v 28) (.n 0) (.n 16))
(xw 1 [.v 33] 34 qla
(.l 36 kI (.llen (.v 28))
(.l 37 .bit (.c .leq (.n 0) (.n 16))
(.l 38 .bit (.c .leq (.n 16) (.v 36))
(.l 39 .bit (.c .leq (.v 36) (.v 36))
(.nz (.v 37)
(.nz (.v 38)
(.nz (.v 39)
(.l 40 (.lst (.int .u8)) (.lsub (.v 28) (.n 16) (.v 36))
(xw 1 [.v 40] 41 qla
(xw 2 [.v 0] 43 [.num,kU,.num]
(xw 3 [.v 43,.v 44,.v 45,.v 41,.v 34] 46 Z7
(.ret [.v 46])))))))))))))))))))))))))))))))))))))))))))))))))))))))
theorem Zke(Q:Int->List Int->Prop)(te:TypeId)(f0 f1 f2 f3 f:FuncId)(e:Nat->Int)(hp:(Qe9 Q f).pre [e 0,e 1,e 2]):Zhk.Xat [Qq6 Q f0,Qph f1,Qhk f2 te,Qk2 f3] ⟨fun ys=>ys=(Qe9 Q f).sem [e 0,e 1,e 2],[]⟩ e:=by
 obtain⟨hn,ht,hq⟩:(e 0%2=1/\3<=e 0/\e 0<2^382)/\(dec (e 2)).length<=65536/\Q (e 1) (dec (e 2)):=hp;show Zhk.Xat _ ⟨fun ys=>ys=[Y8 (e 0) (e 1) (dec (e 2))],[]⟩ e;intro a3 _ a4 _ a5 _ a6 _ a7 _;have d3:dec (e 3)=[e 1,0]:=by rw[show e 3=enc (dec 0++[e 1,0])from a3,Qu,Qv];rfl
 have v4:e 4=2:=by rw[show e 4=((dec (e 3)).length:Int)from a4,d3];rfl
 have v6:e 6=((dec (e 2)).length:Int):=a6;refine⟨Xi a5 (by show e 4<2147483648;omega),Xi a7 (by show e 6<2147483648;omega),fun a8 _=>?_⟩;have d8:dec (e 8)=e 1::0::dec (e 2):=by rw[show e 8=enc (dec (e 3)++dec (e 2))from a8,Qu,d3];rfl
 refine⟨⟨e 1,dec (e 2),hq,.inl (by show e 8=_;rw[show e 8=enc (dec (e 3)++dec (e 2))from a8,d3];rfl)⟩,fun a9 k9 a10 _ a11 _ a12 _ a13 _ a14 _=>?_⟩;have l9:(dec (e 9)).length=32:=k9.2;have d9:dec (e 9)=Sha.sha (e 1::0::dec (e 2)):=by rw[show e 9=enc (Sha.sha (dec (e 8)))from a9,Qu,d8]
 have d10:dec (e 10)=dec (e 9):=Zrv l9 a10;have v11:e 11=0:=by rw[show e 11=((dec 0).length:Int)from a11,Qv];rfl
 have v13:e 13=32:=by rw[show e 13=((dec (e 10)).length:Int)from a13,d10,l9];rfl
 refine⟨Xi a12 (by show e 11<2147483648;omega),Xi a14 (by show e 13<2147483648;omega),fun a15 _ a16 _ a17 _ a18 _ a19 _ a20 _=>?_⟩;have d15:dec (e 15)=dec (e 9):=by rw[show e 15=enc (dec 0++dec (e 10))from a15,Qu,Qv,d10];rfl
 have d16:dec (e 16)=[e 1,1]:=by rw[show e 16=enc (dec 0++[e 1,1])from a16,Qu,Qv];rfl
 have v17:e 17=2:=by rw[show e 17=((dec (e 16)).length:Int)from a17,d16];rfl
 have v19:e 19=((dec (e 2)).length:Int):=a19;refine⟨Xi a18 (by show e 17<2147483648;omega),Xi a20 (by show e 19<2147483648;omega),fun a21 _=>?_⟩;have d21:dec (e 21)=e 1::1::dec (e 2):=by rw[show e 21=enc (dec (e 16)++dec (e 2))from a21,Qu,d16];rfl
 refine⟨⟨e 1,dec (e 2),hq,.inr (by show e 21=_;rw[show e 21=enc (dec (e 16)++dec (e 2))from a21,d16];rfl)⟩,fun a22 k22 a23 _ a24 _ a25 _ a26 _ a27 _=>?_⟩;have l22:(dec (e 22)).length=32:=k22.2;have d22:dec (e 22)=Sha.sha (e 1::1::dec (e 2)):=by rw[show e 22=enc (Sha.sha (dec (e 21)))from a22,Qu,d21]
 have d23:dec (e 23)=dec (e 22):=Zrv l22 a23;have v24:e 24=32:=by rw[show e 24=((dec (e 15)).length:Int)from a24,d15,l9];rfl
 have v26:e 26=32:=by rw[show e 26=((dec (e 23)).length:Int)from a26,d23,l22];rfl
 refine⟨Xi a25 (by show e 24<2147483648;omega),Xi a27 (by show e 26<2147483648;omega),fun a28 _ a29 _ a30 _ a31 _ a32 _=>?_⟩;have d28:dec (e 28)=Qxh (e 1) (dec (e 2)):=by rw[show e 28=enc (dec (e 15)++dec (e 23))from a28,Qu,d15,d23,d9,d22];rfl
 have l28:(dec (e 28)).length=64:=by rw[show e 28=enc (dec (e 15)++dec (e 23))from a28,Qu,d15,d23,O2,l9,l22]
 have v29:e 29=64:=by rw[show e 29=((dec (e 28)).length:Int)from a29,l28];rfl
 refine⟨Qmu a30 (show(0:Int)<=0 by decide),Qmu a31 (show(0:Int)<=16 by decide),Qmu a32 (by show 16<=e 29;omega),fun a33 _=>⟨trivial,fun a34 _ a35 _ a36 _ a37 _ a38 _ a39 _=>?_⟩⟩;have d33:dec (e 33)=(dec (e 28)).take 16:=by rw[show e 33=enc (((dec (e 28)).take 16).drop 0)from a33,Qu];rfl
 have v34:e 34=Xr ((dec (e 28)).take 16):=by
  have h:e 34=((if(dec (e 33)).length<=48 then[Xr (dec (e 33)),0]else[0,3]):List Int).getD 0 0:=a34;rw[h,d33,if_pos (by rw[O6,l28];decide)];rfl
 have v36:e 36=64:=by rw[show e 36=((dec (e 28)).length:Int)from a36,l28];rfl
 refine⟨Qmu a37 (show(0:Int)<=16 by decide),Qmu a38 (by show 16<=e 36;omega),Qmu a39 (Int.le_refl _),fun a40 _=>⟨trivial,fun a41 _ a42 _=>?_⟩⟩;have d40:dec (e 40)=(dec (e 28)).drop 16:=by
  rw[show e 40=enc (((dec (e 28)).take (e 36).toNat).drop 16)from a40,Qu,v36,Mg (by rw[l28];decide)]
 have v41:e 41=Xr ((dec (e 28)).drop 16):=by
  have h:e 41=((if(dec (e 40)).length<=48 then[Xr (dec (e 40)),0]else[0,3]):List Int).getD 0 0:=a41;rw[h,d40,if_pos (by rw[Mp,l28];decide)];rfl
 refine⟨hn,fun a43 _ a44 _ a45 _=>?_⟩;have v43:e 43=e 0:=a43;have v44:e 44=Qgv (e 0):=a44;have v45:e 45=Xc (e 0):=a45;refine⟨by show Qa0 (e 43) (e 44) (e 45);rw[v43,v44,v45];exact Zdf hn.1 hn.2.1 hn.2.2,fun a46 _=>?_⟩;have v46:e 46=(e 41+e 34*Qw)%e 43:=a46;show[e 46]=_;rw[v46,v43,v41,v34,d28];rfl
def Bc(s:Int):Int:=if s=0 then bP else pL s
def Qp2(f:FuncId):K:={fn:=f,ext:=false,ins:=[iI],outs:=[.one (.int .u64),oI],pre:=fun|[s]=>B5 s|_=>False,sem:=fun|[s]=>[pL s,0]|_=>[] }
def Qfe(f:FuncId):K:={fn:=f,ext:=false,ins:=[iI],outs:=[oN],pre:=fun|[s]=>Vf s|_=>False,sem:=fun|[s]=>[Bc s]|_=>[] }
def Qxx:Qq:=(xw 0 [.v 0] 1 qja
(.l 8 .bit (.not (.v 7))
(.split 8
(.ret [.n 0,.n 2])
(.ret [.v 1,.n 0]))))
theorem Qvw(f1 f:FuncId)(e:Nat->Int)(hp:B5 (e 0)):Qxx.Xat [Zbj f1] ⟨fun ys=>ys=(Qp2 f).sem [e 0],[]⟩ e:=by
 show Qxx.Xat _ ⟨fun ys=>ys=[pL (e 0),0],[]⟩ e;refine⟨trivial,fun a1 _ a2 _ a3 _ a4 _ a5 _ a6 _ a7 _ a8 _=>?_⟩;have v1:e 1=(cvL (e 0)).getD 0 0:=a1;have v7:e 7=(cvL (e 0)).getD 6 0:=a7;have b8:=Ju a8;simp only[Ql]at b8;have h7:e 7=1:=by rcases hp with h|h <;> rw[v7,h] <;> rfl
 have h1:e 1=pL (e 0):=by rcases hp with h|h <;> rw[v1,h] <;> rfl
 refine⟨fun h=>?_,fun h=>?_⟩
 ·omega
 ·show[e 1,0]=_;rw[h1]
def Ze1:Qq:=(.l 1 .bit (.c .eql (.v 0) (.n 0))
(.split 1
(xw 0 [] 2 Z7
(.ret [.v 2]))
(xw 1 [.v 0] 2 [kU,kI]
(xw 2 [.v 2] 4 Z7
(.ret [.v 4])))))
theorem Zc3(f1 f2 f3 f:FuncId)(e:Nat->Int)(hp:Vf (e 0)):Ze1.Xat [Qjs f1,Qp2 f2,kOf f3] ⟨fun ys=>ys=(Qfe f).sem [e 0],[]⟩ e:=by
 show Ze1.Xat _ ⟨fun ys=>ys=[Bc (e 0)],[]⟩ e;intro a1 _;have b1:=Zy a1;simp only[Ql,Qn]at b1;refine⟨fun h=>⟨trivial,fun a2 _=>?_⟩,fun h=>?_⟩
 ·have:=Xn b1 h;show[e 2]=_;rw[show e 2=bP from a2,Bc,if_pos this]
 ·have h0:=Wc b1 h;refine⟨by show B5 (e 0);unfold Vf at hp;unfold B5;omega,fun a2 _ a3 _=>⟨trivial,fun a4 _=>?_⟩⟩;show[e 4]=_;rw[show e 4=e 2 from a4,show e 2=pL (e 0)from a2,Bc,if_neg h0]
end Go.Sx
