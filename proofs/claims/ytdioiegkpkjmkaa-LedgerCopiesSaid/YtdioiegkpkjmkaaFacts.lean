/-
  The facts about the program's types that the reckoning needs.
-/
import Derived.Test.YtdioiegkpkjmkaaChecked
import Derived.Test.YtdioiegkpkjmkaaAbsC
namespace Go.Proofs
open Go.Pa
instance globTable : GTab := ⟨fun _ => []⟩
theorem Try.mixed : Try.prog.follows .mixedOrders = true := by kernel_rfl
theorem Try.cs0 : Try.prog.cellsOf 0 = 1 := by kernel_rfl
theorem Try.bt0 : Try.prog.bytesOf 0 = 0 := by kernel_rfl
theorem Try.cs1 : Try.prog.cellsOf 1 = 1 := by kernel_rfl
theorem Try.bt1 : Try.prog.bytesOf 1 = 8 := by kernel_rfl
theorem Try.pa1 (c : AV) (cs : List AV) : partA Try.prog 1 (c :: cs) = some c := by simp only [partA, Try.underlying1]
theorem Try.ty1 : tyOk Try.prog 1 = true := by kernel_rfl
theorem Try.zr1 : zeroA Try.prog 1 = some [.nilf] := by kernel_rfl
theorem Try.cs2 : Try.prog.cellsOf 2 = 1 := by kernel_rfl
theorem Try.bt2 : Try.prog.bytesOf 2 = 8 := by kernel_rfl
theorem Try.pa2 (c : AV) (cs : List AV) : partA Try.prog 2 (c :: cs) = some c := by simp only [partA, Try.underlying2]
theorem Try.zr2 : zeroA Try.prog 2 = some [.int .i64 0] := by kernel_rfl
theorem Try.cs3 : Try.prog.cellsOf 3 = 1 := by kernel_rfl
theorem Try.bt3 : Try.prog.bytesOf 3 = 8 := by kernel_rfl
theorem Try.pa3 (c : AV) (cs : List AV) : partA Try.prog 3 (c :: cs) = some c := by simp only [partA, Try.underlying3]
theorem Try.zr3 : zeroA Try.prog 3 = some [.int .i64 0] := by kernel_rfl
theorem Try.cs4 : Try.prog.cellsOf 4 = 1 := by kernel_rfl
theorem Try.bt4 : Try.prog.bytesOf 4 = 1 := by kernel_rfl
theorem Try.pa4 (c : AV) (cs : List AV) : partA Try.prog 4 (c :: cs) = some c := by simp only [partA, Try.underlying4]
theorem Try.ty4 : tyOk Try.prog 4 = true := by kernel_rfl
theorem Try.zr4 : zeroA Try.prog 4 = some [.bool false] := by kernel_rfl
theorem Try.cs5 : Try.prog.cellsOf 5 = 1 := by kernel_rfl
theorem Try.bt5 : Try.prog.bytesOf 5 = 1 := by kernel_rfl
theorem Try.pa5 (c : AV) (cs : List AV) : partA Try.prog 5 (c :: cs) = some c := by simp only [partA, Try.underlying5]
theorem Try.zr5 : zeroA Try.prog 5 = some [.int .u8 0] := by kernel_rfl
theorem Try.cs6 : Try.prog.cellsOf 6 = 1 := by kernel_rfl
theorem Try.bt6 : Try.prog.bytesOf 6 = 1 := by kernel_rfl
theorem Try.pa6 (c : AV) (cs : List AV) : partA Try.prog 6 (c :: cs) = some c := by simp only [partA, Try.underlying6]
theorem Try.zr6 : zeroA Try.prog 6 = some [.int .u8 0] := by kernel_rfl
theorem Try.cs7 : Try.prog.cellsOf 7 = 4 := by kernel_rfl
theorem Try.bt7 : Try.prog.bytesOf 7 = 24 := by kernel_rfl
theorem Try.pa7 (cs : List AV) : partA Try.prog 7 cs = if (cs.take 4).length = 4 then some (.agg (cs.take 4)) else none := by simp only [partA, Try.underlying7, Try.cs7]; simp
theorem Try.ty7 : tyOk Try.prog 7 = true := by kernel_rfl
theorem Try.zr7 : zeroA Try.prog 7 = some [.int .i64 0, .int .i64 0, .bool false, .int .u8 0] := by kernel_rfl
theorem Try.fd7_0 : fieldOff Try.prog 7 0 = some (0, 2) := by kernel_rfl
theorem Try.fd7_1 : fieldOff Try.prog 7 1 = some (1, 3) := by kernel_rfl
theorem Try.fd7_2 : fieldOff Try.prog 7 2 = some (2, 4) := by kernel_rfl
theorem Try.fd7_3 : fieldOff Try.prog 7 3 = some (3, 6) := by kernel_rfl
theorem Try.pl7 : placesA Try.prog 7 = some [(0, 1), (1, 1), (2, 1), (3, 1)] := by kernel_rfl
theorem Try.cs8 : Try.prog.cellsOf 8 = 4 := by kernel_rfl
theorem Try.bt8 : Try.prog.bytesOf 8 = 24 := by kernel_rfl
theorem Try.pa8 (cs : List AV) : partA Try.prog 8 cs = if (cs.take 4).length = 4 then some (.agg (cs.take 4)) else none := by simp only [partA, Try.underlying8, Try.cs8]; simp
theorem Try.ty8 : tyOk Try.prog 8 = true := by kernel_rfl
theorem Try.zr8 : zeroA Try.prog 8 = some [.int .i64 0, .int .i64 0, .bool false, .int .u8 0] := by kernel_rfl
theorem Try.fd8_0 : fieldOff Try.prog 8 0 = some (0, 2) := by kernel_rfl
theorem Try.fd8_1 : fieldOff Try.prog 8 1 = some (1, 3) := by kernel_rfl
theorem Try.fd8_2 : fieldOff Try.prog 8 2 = some (2, 4) := by kernel_rfl
theorem Try.fd8_3 : fieldOff Try.prog 8 3 = some (3, 6) := by kernel_rfl
theorem Try.pl8 : placesA Try.prog 8 = some [(0, 1), (1, 1), (2, 1), (3, 1)] := by kernel_rfl
theorem Try.cs9 : Try.prog.cellsOf 9 = 1 := by kernel_rfl
theorem Try.bt9 : Try.prog.bytesOf 9 = 16 := by kernel_rfl
theorem Try.pa9 (c : AV) (cs : List AV) : partA Try.prog 9 (c :: cs) = some c := by simp only [partA, Try.underlying9]
theorem Try.ty9 : tyOk Try.prog 9 = true := by kernel_rfl
theorem Try.zr9 : zeroA Try.prog 9 = some [.str []] := by kernel_rfl
theorem Try.cs10 : Try.prog.cellsOf 10 = 1 := by kernel_rfl
theorem Try.bt10 : Try.prog.bytesOf 10 = 16 := by kernel_rfl
theorem Try.pa10 (c : AV) (cs : List AV) : partA Try.prog 10 (c :: cs) = some c := by simp only [partA, Try.underlying10]
theorem Try.ty10 : tyOk Try.prog 10 = true := by kernel_rfl
theorem Try.zr10 : zeroA Try.prog 10 = some [.str []] := by kernel_rfl
theorem Try.cs11 : Try.prog.cellsOf 11 = 1 := by kernel_rfl
theorem Try.bt11 : Try.prog.bytesOf 11 = 16 := by kernel_rfl
theorem Try.pa11 (c : AV) (cs : List AV) : partA Try.prog 11 (c :: cs) = some c := by simp only [partA, Try.underlying11]
theorem Try.ty11 : tyOk Try.prog 11 = true := by kernel_rfl
theorem Try.zr11 : zeroA Try.prog 11 = some [.str []] := by kernel_rfl
theorem Try.cs12 : Try.prog.cellsOf 12 = 1 := by kernel_rfl
theorem Try.bt12 : Try.prog.bytesOf 12 = 8 := by kernel_rfl
theorem Try.pa12 (c : AV) (cs : List AV) : partA Try.prog 12 (c :: cs) = some c := by simp only [partA, Try.underlying12]
theorem Try.zr12 : zeroA Try.prog 12 = some [.int .u64 0] := by kernel_rfl
theorem Try.cs13 : Try.prog.cellsOf 13 = 2 := by kernel_rfl
theorem Try.bt13 : Try.prog.bytesOf 13 = 24 := by kernel_rfl
theorem Try.pa13 (cs : List AV) : partA Try.prog 13 cs = if (cs.take 2).length = 2 then some (.agg (cs.take 2)) else none := by simp only [partA, Try.underlying13, Try.cs13]; simp
theorem Try.ty13 : tyOk Try.prog 13 = true := by kernel_rfl
theorem Try.zr13 : zeroA Try.prog 13 = some [.str [], .int .u64 0] := by kernel_rfl
theorem Try.fd13_0 : fieldOff Try.prog 13 0 = some (0, 9) := by kernel_rfl
theorem Try.fd13_1 : fieldOff Try.prog 13 1 = some (1, 12) := by kernel_rfl
theorem Try.pl13 : placesA Try.prog 13 = some [(0, 1), (1, 1)] := by kernel_rfl
theorem Try.cs14 : Try.prog.cellsOf 14 = 2 := by kernel_rfl
theorem Try.bt14 : Try.prog.bytesOf 14 = 24 := by kernel_rfl
theorem Try.pa14 (cs : List AV) : partA Try.prog 14 cs = if (cs.take 2).length = 2 then some (.agg (cs.take 2)) else none := by simp only [partA, Try.underlying14, Try.cs14]; simp
theorem Try.ty14 : tyOk Try.prog 14 = true := by kernel_rfl
theorem Try.zr14 : zeroA Try.prog 14 = some [.str [], .int .u64 0] := by kernel_rfl
theorem Try.fd14_0 : fieldOff Try.prog 14 0 = some (0, 9) := by kernel_rfl
theorem Try.fd14_1 : fieldOff Try.prog 14 1 = some (1, 12) := by kernel_rfl
theorem Try.pl14 : placesA Try.prog 14 = some [(0, 1), (1, 1)] := by kernel_rfl
theorem Try.cs15 : Try.prog.cellsOf 15 = 1 := by kernel_rfl
theorem Try.bt15 : Try.prog.bytesOf 15 = 8 := by kernel_rfl
theorem Try.pa15 (c : AV) (cs : List AV) : partA Try.prog 15 (c :: cs) = some c := by simp only [partA, Try.underlying15]
theorem Try.ty15 : tyOk Try.prog 15 = true := by kernel_rfl
theorem Try.zr15 : zeroA Try.prog 15 = some [.nilp] := by kernel_rfl
theorem Try.cs16 : Try.prog.cellsOf 16 = 1 := by kernel_rfl
theorem Try.bt16 : Try.prog.bytesOf 16 = 8 := by kernel_rfl
theorem Try.pa16 (c : AV) (cs : List AV) : partA Try.prog 16 (c :: cs) = some c := by simp only [partA, Try.underlying16]
theorem Try.ty16 : tyOk Try.prog 16 = true := by kernel_rfl
theorem Try.zr16 : zeroA Try.prog 16 = some [.nilp] := by kernel_rfl
theorem Try.cs17 : Try.prog.cellsOf 17 = 1 := by kernel_rfl
theorem Try.bt17 : Try.prog.bytesOf 17 = 8 := by kernel_rfl
theorem Try.pa17 (c : AV) (cs : List AV) : partA Try.prog 17 (c :: cs) = some c := by simp only [partA, Try.underlying17]
theorem Try.ty17 : tyOk Try.prog 17 = true := by kernel_rfl
theorem Try.zr17 : zeroA Try.prog 17 = some [.nilp] := by kernel_rfl
theorem Try.cs18 : Try.prog.cellsOf 18 = 1 := by kernel_rfl
theorem Try.bt18 : Try.prog.bytesOf 18 = 8 := by kernel_rfl
theorem Try.pa18 (cs : List AV) : partA Try.prog 18 cs = if (cs.take 1).length = 1 then some (.agg (cs.take 1)) else none := by simp only [partA, Try.underlying18, Try.cs18]; simp
theorem Try.ty18 : tyOk Try.prog 18 = true := by kernel_rfl
theorem Try.zr18 : zeroA Try.prog 18 = some [.nilp] := by kernel_rfl
theorem Try.fd18_0 : fieldOff Try.prog 18 0 = some (0, 17) := by kernel_rfl
theorem Try.pl18 : placesA Try.prog 18 = some [(0, 1)] := by kernel_rfl
theorem Try.cs19 : Try.prog.cellsOf 19 = 1 := by kernel_rfl
theorem Try.bt19 : Try.prog.bytesOf 19 = 8 := by kernel_rfl
theorem Try.pa19 (cs : List AV) : partA Try.prog 19 cs = if (cs.take 1).length = 1 then some (.agg (cs.take 1)) else none := by simp only [partA, Try.underlying19, Try.cs19]; simp
theorem Try.ty19 : tyOk Try.prog 19 = true := by kernel_rfl
theorem Try.zr19 : zeroA Try.prog 19 = some [.nilp] := by kernel_rfl
theorem Try.fd19_0 : fieldOff Try.prog 19 0 = some (0, 17) := by kernel_rfl
theorem Try.pl19 : placesA Try.prog 19 = some [(0, 1)] := by kernel_rfl
theorem Try.cs20 : Try.prog.cellsOf 20 = 1 := by kernel_rfl
theorem Try.bt20 : Try.prog.bytesOf 20 = 16 := by kernel_rfl
theorem Try.pa20 (c : AV) (cs : List AV) : partA Try.prog 20 (c :: cs) = some c := by simp only [partA, Try.underlying20]
theorem Try.cs21 : Try.prog.cellsOf 21 = 1 := by kernel_rfl
theorem Try.bt21 : Try.prog.bytesOf 21 = 4 := by kernel_rfl
theorem Try.pa21 (c : AV) (cs : List AV) : partA Try.prog 21 (c :: cs) = some c := by simp only [partA, Try.underlying21]
theorem Try.zr21 : zeroA Try.prog 21 = some [.int .i32 0] := by kernel_rfl
theorem Try.cs22 : Try.prog.cellsOf 22 = 1 := by kernel_rfl
theorem Try.bt22 : Try.prog.bytesOf 22 = 24 := by kernel_rfl
theorem Try.pa22 (c : AV) (cs : List AV) : partA Try.prog 22 (c :: cs) = some c := by simp only [partA, Try.underlying22]
theorem Try.ty22 : tyOk Try.prog 22 = true := by kernel_rfl
theorem Try.sl22 : sliceElem Try.prog 22 = some (3, 1) := by kernel_rfl
theorem Try.zr22 : zeroA Try.prog 22 = some [.nils] := by kernel_rfl
theorem Try.cs23 : Try.prog.cellsOf 23 = 1 := by kernel_rfl
theorem Try.bt23 : Try.prog.bytesOf 23 = 8 := by kernel_rfl
theorem Try.pa23 (c : AV) (cs : List AV) : partA Try.prog 23 (c :: cs) = some c := by simp only [partA, Try.underlying23]
theorem Try.ty23 : tyOk Try.prog 23 = true := by kernel_rfl
theorem Try.zr23 : zeroA Try.prog 23 = some [.nilp] := by kernel_rfl
theorem Try.cs24 : Try.prog.cellsOf 24 = 1 := by kernel_rfl
theorem Try.bt24 : Try.prog.bytesOf 24 = 8 := by kernel_rfl
theorem Try.pa24 (c : AV) (cs : List AV) : partA Try.prog 24 (c :: cs) = some c := by simp only [partA, Try.underlying24]
theorem Try.ty24 : tyOk Try.prog 24 = true := by kernel_rfl
theorem Try.zr24 : zeroA Try.prog 24 = some [.nilf] := by kernel_rfl
theorem Try.cs25 : Try.prog.cellsOf 25 = 1 := by kernel_rfl
theorem Try.bt25 : Try.prog.bytesOf 25 = 24 := by kernel_rfl
theorem Try.pa25 (c : AV) (cs : List AV) : partA Try.prog 25 (c :: cs) = some c := by simp only [partA, Try.underlying25]
theorem Try.ty25 : tyOk Try.prog 25 = true := by kernel_rfl
theorem Try.sl25 : sliceElem Try.prog 25 = some (33, 3) := by kernel_rfl
theorem Try.zr25 : zeroA Try.prog 25 = some [.nils] := by kernel_rfl
theorem Try.cs26 : Try.prog.cellsOf 26 = 1 := by kernel_rfl
theorem Try.bt26 : Try.prog.bytesOf 26 = 8 := by kernel_rfl
theorem Try.pa26 (c : AV) (cs : List AV) : partA Try.prog 26 (c :: cs) = some c := by simp only [partA, Try.underlying26]
theorem Try.ty26 : tyOk Try.prog 26 = true := by kernel_rfl
theorem Try.zr26 : zeroA Try.prog 26 = some [.nilf] := by kernel_rfl
theorem Try.cs27 : Try.prog.cellsOf 27 = 1 := by kernel_rfl
theorem Try.bt27 : Try.prog.bytesOf 27 = 8 := by kernel_rfl
theorem Try.pa27 (c : AV) (cs : List AV) : partA Try.prog 27 (c :: cs) = some c := by simp only [partA, Try.underlying27]
theorem Try.zr27 : zeroA Try.prog 27 = some [.int .i64 0] := by kernel_rfl
theorem Try.cs28 : Try.prog.cellsOf 28 = 1 := by kernel_rfl
theorem Try.bt28 : Try.prog.bytesOf 28 = 8 := by kernel_rfl
theorem Try.pa28 (c : AV) (cs : List AV) : partA Try.prog 28 (c :: cs) = some c := by simp only [partA, Try.underlying28]
theorem Try.ty28 : tyOk Try.prog 28 = true := by kernel_rfl
theorem Try.zr28 : zeroA Try.prog 28 = some [.nilf] := by kernel_rfl
theorem Try.cs29 : Try.prog.cellsOf 29 = 1 := by kernel_rfl
theorem Try.bt29 : Try.prog.bytesOf 29 = 24 := by kernel_rfl
theorem Try.pa29 (c : AV) (cs : List AV) : partA Try.prog 29 (c :: cs) = some c := by simp only [partA, Try.underlying29]
theorem Try.ty29 : tyOk Try.prog 29 = true := by kernel_rfl
theorem Try.sl29 : sliceElem Try.prog 29 = some (37, 6) := by kernel_rfl
theorem Try.zr29 : zeroA Try.prog 29 = some [.nils] := by kernel_rfl
theorem Try.cs30 : Try.prog.cellsOf 30 = 1 := by kernel_rfl
theorem Try.bt30 : Try.prog.bytesOf 30 = 8 := by kernel_rfl
theorem Try.pa30 (c : AV) (cs : List AV) : partA Try.prog 30 (c :: cs) = some c := by simp only [partA, Try.underlying30]
theorem Try.ty30 : tyOk Try.prog 30 = true := by kernel_rfl
theorem Try.zr30 : zeroA Try.prog 30 = some [.nilf] := by kernel_rfl
theorem Try.cs31 : Try.prog.cellsOf 31 = 1 := by kernel_rfl
theorem Try.bt31 : Try.prog.bytesOf 31 = 24 := by kernel_rfl
theorem Try.pa31 (c : AV) (cs : List AV) : partA Try.prog 31 (c :: cs) = some c := by simp only [partA, Try.underlying31]
theorem Try.ty31 : tyOk Try.prog 31 = true := by kernel_rfl
theorem Try.sl31 : sliceElem Try.prog 31 = some (36, 6) := by kernel_rfl
theorem Try.zr31 : zeroA Try.prog 31 = some [.nils] := by kernel_rfl
theorem Try.cs32 : Try.prog.cellsOf 32 = 3 := by kernel_rfl
theorem Try.bt32 : Try.prog.bytesOf 32 = 40 := by kernel_rfl
theorem Try.pa32 (cs : List AV) : partA Try.prog 32 cs = if (cs.take 3).length = 3 then some (.agg (cs.take 3)) else none := by simp only [partA, Try.underlying32, Try.cs32]; simp
theorem Try.ty32 : tyOk Try.prog 32 = true := by kernel_rfl
theorem Try.zr32 : zeroA Try.prog 32 = some [.nils, .int .i64 0, .int .i64 0] := by kernel_rfl
theorem Try.fd32_0 : fieldOff Try.prog 32 0 = some (0, 31) := by kernel_rfl
theorem Try.fd32_1 : fieldOff Try.prog 32 1 = some (1, 3) := by kernel_rfl
theorem Try.fd32_2 : fieldOff Try.prog 32 2 = some (2, 3) := by kernel_rfl
theorem Try.pl32 : placesA Try.prog 32 = some [(0, 1), (1, 1), (2, 1)] := by kernel_rfl
theorem Try.cs33 : Try.prog.cellsOf 33 = 3 := by kernel_rfl
theorem Try.bt33 : Try.prog.bytesOf 33 = 40 := by kernel_rfl
theorem Try.pa33 (cs : List AV) : partA Try.prog 33 cs = if (cs.take 3).length = 3 then some (.agg (cs.take 3)) else none := by simp only [partA, Try.underlying33, Try.cs33]; simp
theorem Try.ty33 : tyOk Try.prog 33 = true := by kernel_rfl
theorem Try.zr33 : zeroA Try.prog 33 = some [.nils, .int .i64 0, .int .i64 0] := by kernel_rfl
theorem Try.fd33_0 : fieldOff Try.prog 33 0 = some (0, 31) := by kernel_rfl
theorem Try.fd33_1 : fieldOff Try.prog 33 1 = some (1, 3) := by kernel_rfl
theorem Try.fd33_2 : fieldOff Try.prog 33 2 = some (2, 3) := by kernel_rfl
theorem Try.pl33 : placesA Try.prog 33 = some [(0, 1), (1, 1), (2, 1)] := by kernel_rfl
theorem Try.cs34 : Try.prog.cellsOf 34 = 1 := by kernel_rfl
theorem Try.bt34 : Try.prog.bytesOf 34 = 8 := by kernel_rfl
theorem Try.pa34 (c : AV) (cs : List AV) : partA Try.prog 34 (c :: cs) = some c := by simp only [partA, Try.underlying34]
theorem Try.ty34 : tyOk Try.prog 34 = true := by kernel_rfl
theorem Try.zr34 : zeroA Try.prog 34 = some [.nilf] := by kernel_rfl
theorem Try.cs35 : Try.prog.cellsOf 35 = 6 := by kernel_rfl
theorem Try.bt35 : Try.prog.bytesOf 35 = 48 := by kernel_rfl
theorem Try.pa35 (cs : List AV) : partA Try.prog 35 cs = if (cs.take 6).length = 6 then some (.agg (cs.take 6)) else none := by simp only [partA, Try.underlying35, Try.cs35]; simp
theorem Try.ty35 : tyOk Try.prog 35 = true := by kernel_rfl
theorem Try.zr35 : zeroA Try.prog 35 = some [.int .i64 0, .int .i64 0, .int .i64 0, .int .i64 0, .int .i64 0, .int .i64 0] := by kernel_rfl
theorem Try.fd35_0 : fieldOff Try.prog 35 0 = some (0, 3) := by kernel_rfl
theorem Try.fd35_1 : fieldOff Try.prog 35 1 = some (1, 3) := by kernel_rfl
theorem Try.fd35_2 : fieldOff Try.prog 35 2 = some (2, 3) := by kernel_rfl
theorem Try.fd35_3 : fieldOff Try.prog 35 3 = some (3, 3) := by kernel_rfl
theorem Try.fd35_4 : fieldOff Try.prog 35 4 = some (4, 3) := by kernel_rfl
theorem Try.fd35_5 : fieldOff Try.prog 35 5 = some (5, 3) := by kernel_rfl
theorem Try.pl35 : placesA Try.prog 35 = some [(0, 1), (1, 1), (2, 1), (3, 1), (4, 1), (5, 1)] := by kernel_rfl
theorem Try.cs36 : Try.prog.cellsOf 36 = 6 := by kernel_rfl
theorem Try.bt36 : Try.prog.bytesOf 36 = 48 := by kernel_rfl
theorem Try.pa36 (cs : List AV) : partA Try.prog 36 cs = if (cs.take 6).length = 6 then some (.agg (cs.take 6)) else none := by simp only [partA, Try.underlying36, Try.cs36]; simp
theorem Try.ty36 : tyOk Try.prog 36 = true := by kernel_rfl
theorem Try.zr36 : zeroA Try.prog 36 = some [.int .i64 0, .int .i64 0, .int .i64 0, .int .i64 0, .int .i64 0, .int .i64 0] := by kernel_rfl
theorem Try.fd36_0 : fieldOff Try.prog 36 0 = some (0, 3) := by kernel_rfl
theorem Try.fd36_1 : fieldOff Try.prog 36 1 = some (1, 3) := by kernel_rfl
theorem Try.fd36_2 : fieldOff Try.prog 36 2 = some (2, 3) := by kernel_rfl
theorem Try.fd36_3 : fieldOff Try.prog 36 3 = some (3, 3) := by kernel_rfl
theorem Try.fd36_4 : fieldOff Try.prog 36 4 = some (4, 3) := by kernel_rfl
theorem Try.fd36_5 : fieldOff Try.prog 36 5 = some (5, 3) := by kernel_rfl
theorem Try.pl36 : placesA Try.prog 36 = some [(0, 1), (1, 1), (2, 1), (3, 1), (4, 1), (5, 1)] := by kernel_rfl
theorem Try.eq36 (a0 b0 : Int) (a1 b1 : Int) (a2 b2 : Int) (a3 b3 : Int) (a4 b4 : Int) (a5 b5 : Int) : eqAgg Try.prog 36 [.int .i64 a0, .int .i64 a1, .int .i64 a2, .int .i64 a3, .int .i64 a4, .int .i64 a5] [.int .i64 b0, .int .i64 b1, .int .i64 b2, .int .i64 b3, .int .i64 b4, .int .i64 b5] = some ((decide (a0 = b0) && (decide (a1 = b1) && (decide (a2 = b2) && (decide (a3 = b3) && (decide (a4 = b4) && (decide (a5 = b5) && true))))))) := by kernel_rfl
theorem Try.cs37 : Try.prog.cellsOf 37 = 6 := by kernel_rfl
theorem Try.bt37 : Try.prog.bytesOf 37 = 48 := by kernel_rfl
theorem Try.pa37 (cs : List AV) : partA Try.prog 37 cs = if (cs.take 6).length = 6 then some (.agg (cs.take 6)) else none := by simp only [partA, Try.underlying37, Try.cs37]; simp
theorem Try.ty37 : tyOk Try.prog 37 = true := by kernel_rfl
theorem Try.zr37 : zeroA Try.prog 37 = some [.int .i64 0, .int .i64 0, .int .i64 0, .int .i64 0, .int .i64 0, .int .i64 0] := by kernel_rfl
theorem Try.fd37_0 : fieldOff Try.prog 37 0 = some (0, 3) := by kernel_rfl
theorem Try.fd37_1 : fieldOff Try.prog 37 1 = some (1, 3) := by kernel_rfl
theorem Try.fd37_2 : fieldOff Try.prog 37 2 = some (2, 3) := by kernel_rfl
theorem Try.fd37_3 : fieldOff Try.prog 37 3 = some (3, 3) := by kernel_rfl
theorem Try.fd37_4 : fieldOff Try.prog 37 4 = some (4, 3) := by kernel_rfl
theorem Try.fd37_5 : fieldOff Try.prog 37 5 = some (5, 3) := by kernel_rfl
theorem Try.pl37 : placesA Try.prog 37 = some [(0, 1), (1, 1), (2, 1), (3, 1), (4, 1), (5, 1)] := by kernel_rfl
theorem Try.eq37 (a0 b0 : Int) (a1 b1 : Int) (a2 b2 : Int) (a3 b3 : Int) (a4 b4 : Int) (a5 b5 : Int) : eqAgg Try.prog 37 [.int .i64 a0, .int .i64 a1, .int .i64 a2, .int .i64 a3, .int .i64 a4, .int .i64 a5] [.int .i64 b0, .int .i64 b1, .int .i64 b2, .int .i64 b3, .int .i64 b4, .int .i64 b5] = some ((decide (a0 = b0) && (decide (a1 = b1) && (decide (a2 = b2) && (decide (a3 = b3) && (decide (a4 = b4) && (decide (a5 = b5) && true))))))) := by kernel_rfl
theorem Try.cs38 : Try.prog.cellsOf 38 = 1 := by kernel_rfl
theorem Try.bt38 : Try.prog.bytesOf 38 = 8 := by kernel_rfl
theorem Try.pa38 (c : AV) (cs : List AV) : partA Try.prog 38 (c :: cs) = some c := by simp only [partA, Try.underlying38]
theorem Try.ty38 : tyOk Try.prog 38 = true := by kernel_rfl
theorem Try.zr38 : zeroA Try.prog 38 = some [.nilf] := by kernel_rfl
theorem Try.cs39 : Try.prog.cellsOf 39 = 1 := by kernel_rfl
theorem Try.bt39 : Try.prog.bytesOf 39 = 8 := by kernel_rfl
theorem Try.pa39 (c : AV) (cs : List AV) : partA Try.prog 39 (c :: cs) = some c := by simp only [partA, Try.underlying39]
theorem Try.ty39 : tyOk Try.prog 39 = true := by kernel_rfl
theorem Try.zr39 : zeroA Try.prog 39 = some [.nilf] := by kernel_rfl
theorem Try.cs40 : Try.prog.cellsOf 40 = 1 := by kernel_rfl
theorem Try.bt40 : Try.prog.bytesOf 40 = 8 := by kernel_rfl
theorem Try.pa40 (c : AV) (cs : List AV) : partA Try.prog 40 (c :: cs) = some c := by simp only [partA, Try.underlying40]
theorem Try.ty40 : tyOk Try.prog 40 = true := by kernel_rfl
theorem Try.zr40 : zeroA Try.prog 40 = some [.nilf] := by kernel_rfl
theorem Try.cs41 : Try.prog.cellsOf 41 = 1 := by kernel_rfl
theorem Try.bt41 : Try.prog.bytesOf 41 = 0 := by kernel_rfl
theorem Try.cs42 : Try.prog.cellsOf 42 = 1 := by kernel_rfl
theorem Try.bt42 : Try.prog.bytesOf 42 = 8 := by kernel_rfl
theorem Try.pa42 (c : AV) (cs : List AV) : partA Try.prog 42 (c :: cs) = some c := by simp only [partA, Try.underlying42]
theorem Try.ty42 : tyOk Try.prog 42 = true := by kernel_rfl
theorem Try.zr42 : zeroA Try.prog 42 = some [.nilf] := by kernel_rfl
theorem Try.cs43 : Try.prog.cellsOf 43 = 1 := by kernel_rfl
theorem Try.bt43 : Try.prog.bytesOf 43 = 8 := by kernel_rfl
theorem Try.pa43 (c : AV) (cs : List AV) : partA Try.prog 43 (c :: cs) = some c := by simp only [partA, Try.underlying43]
theorem Try.ty43 : tyOk Try.prog 43 = true := by kernel_rfl
theorem Try.zr43 : zeroA Try.prog 43 = some [.nilf] := by kernel_rfl
theorem Try.cs44 : Try.prog.cellsOf 44 = 1 := by kernel_rfl
theorem Try.bt44 : Try.prog.bytesOf 44 = 8 := by kernel_rfl
theorem Try.pa44 (c : AV) (cs : List AV) : partA Try.prog 44 (c :: cs) = some c := by simp only [partA, Try.underlying44]
theorem Try.ty44 : tyOk Try.prog 44 = true := by kernel_rfl
theorem Try.zr44 : zeroA Try.prog 44 = some [.nilf] := by kernel_rfl
theorem Try.cs45 : Try.prog.cellsOf 45 = 1 := by kernel_rfl
theorem Try.bt45 : Try.prog.bytesOf 45 = 0 := by kernel_rfl
theorem Try.cs46 : Try.prog.cellsOf 46 = 1 := by kernel_rfl
theorem Try.bt46 : Try.prog.bytesOf 46 = 8 := by kernel_rfl
theorem Try.pa46 (c : AV) (cs : List AV) : partA Try.prog 46 (c :: cs) = some c := by simp only [partA, Try.underlying46]
theorem Try.ty46 : tyOk Try.prog 46 = true := by kernel_rfl
theorem Try.zr46 : zeroA Try.prog 46 = some [.nilf] := by kernel_rfl
theorem Try.cs47 : Try.prog.cellsOf 47 = 1 := by kernel_rfl
theorem Try.bt47 : Try.prog.bytesOf 47 = 8 := by kernel_rfl
theorem Try.pa47 (c : AV) (cs : List AV) : partA Try.prog 47 (c :: cs) = some c := by simp only [partA, Try.underlying47]
theorem Try.ty47 : tyOk Try.prog 47 = true := by kernel_rfl
theorem Try.zr47 : zeroA Try.prog 47 = some [.nilf] := by kernel_rfl
theorem Try.cs48 : Try.prog.cellsOf 48 = 1 := by kernel_rfl
theorem Try.bt48 : Try.prog.bytesOf 48 = 8 := by kernel_rfl
theorem Try.pa48 (c : AV) (cs : List AV) : partA Try.prog 48 (c :: cs) = some c := by simp only [partA, Try.underlying48]
theorem Try.ty48 : tyOk Try.prog 48 = true := by kernel_rfl
theorem Try.zr48 : zeroA Try.prog 48 = some [.nilp] := by kernel_rfl
theorem Try.cs49 : Try.prog.cellsOf 49 = 2 := by kernel_rfl
theorem Try.bt49 : Try.prog.bytesOf 49 = 48 := by kernel_rfl
theorem Try.pa49 (cs : List AV) : partA Try.prog 49 cs = if (cs.take 2).length = 2 then some (.agg (cs.take 2)) else none := by simp only [partA, Try.underlying49, Try.cs49]; simp
theorem Try.ty49 : tyOk Try.prog 49 = true := by kernel_rfl
theorem Try.zr49 : zeroA Try.prog 49 = some [.nils, .nils] := by kernel_rfl
theorem Try.fd49_0 : fieldOff Try.prog 49 0 = some (0, 31) := by kernel_rfl
theorem Try.fd49_1 : fieldOff Try.prog 49 1 = some (1, 22) := by kernel_rfl
theorem Try.pl49 : placesA Try.prog 49 = some [(0, 1), (1, 1)] := by kernel_rfl
theorem Try.cs50 : Try.prog.cellsOf 50 = 2 := by kernel_rfl
theorem Try.bt50 : Try.prog.bytesOf 50 = 48 := by kernel_rfl
theorem Try.pa50 (cs : List AV) : partA Try.prog 50 cs = if (cs.take 2).length = 2 then some (.agg (cs.take 2)) else none := by simp only [partA, Try.underlying50, Try.cs50]; simp
theorem Try.ty50 : tyOk Try.prog 50 = true := by kernel_rfl
theorem Try.zr50 : zeroA Try.prog 50 = some [.nils, .nils] := by kernel_rfl
theorem Try.fd50_0 : fieldOff Try.prog 50 0 = some (0, 31) := by kernel_rfl
theorem Try.fd50_1 : fieldOff Try.prog 50 1 = some (1, 22) := by kernel_rfl
theorem Try.pl50 : placesA Try.prog 50 = some [(0, 1), (1, 1)] := by kernel_rfl
theorem Try.cs51 : Try.prog.cellsOf 51 = 1 := by kernel_rfl
theorem Try.bt51 : Try.prog.bytesOf 51 = 8 := by kernel_rfl
theorem Try.pa51 (c : AV) (cs : List AV) : partA Try.prog 51 (c :: cs) = some c := by simp only [partA, Try.underlying51]
theorem Try.ty51 : tyOk Try.prog 51 = true := by kernel_rfl
theorem Try.zr51 : zeroA Try.prog 51 = some [.nilf] := by kernel_rfl
theorem Try.cs52 : Try.prog.cellsOf 52 = 1 := by kernel_rfl
theorem Try.bt52 : Try.prog.bytesOf 52 = 8 := by kernel_rfl
theorem Try.pa52 (c : AV) (cs : List AV) : partA Try.prog 52 (c :: cs) = some c := by simp only [partA, Try.underlying52]
theorem Try.ty52 : tyOk Try.prog 52 = true := by kernel_rfl
theorem Try.zr52 : zeroA Try.prog 52 = some [.nilf] := by kernel_rfl
theorem Try.cs53 : Try.prog.cellsOf 53 = 2 := by kernel_rfl
theorem Try.bt53 : Try.prog.bytesOf 53 = 16 := by kernel_rfl
theorem Try.pa53 (cs : List AV) : partA Try.prog 53 cs = if (cs.take 2).length = 2 then some (.agg (cs.take 2)) else none := by simp only [partA, Try.underlying53, Try.cs53]; simp
theorem Try.ty53 : tyOk Try.prog 53 = true := by kernel_rfl
theorem Try.sl53 : sliceElem Try.prog 53 = none := by kernel_rfl
theorem Try.ar53 : arrElem Try.prog 53 = some (2, 1) := by kernel_rfl
theorem Try.zr53 : zeroA Try.prog 53 = some [.int .i64 0, .int .i64 0] := by kernel_rfl
theorem Try.pl53 : placesA Try.prog 53 = some [(0, 1), (1, 1)] := by kernel_rfl
theorem Try.cs54 : Try.prog.cellsOf 54 = 1 := by kernel_rfl
theorem Try.bt54 : Try.prog.bytesOf 54 = 24 := by kernel_rfl
theorem Try.pa54 (c : AV) (cs : List AV) : partA Try.prog 54 (c :: cs) = some c := by simp only [partA, Try.underlying54]
theorem Try.ty54 : tyOk Try.prog 54 = true := by kernel_rfl
theorem Try.sl54 : sliceElem Try.prog 54 = some (53, 2) := by kernel_rfl
theorem Try.zr54 : zeroA Try.prog 54 = some [.nils] := by kernel_rfl
theorem Try.cs55 : Try.prog.cellsOf 55 = 1 := by kernel_rfl
theorem Try.bt55 : Try.prog.bytesOf 55 = 8 := by kernel_rfl
theorem Try.pa55 (c : AV) (cs : List AV) : partA Try.prog 55 (c :: cs) = some c := by simp only [partA, Try.underlying55]
theorem Try.ty55 : tyOk Try.prog 55 = true := by kernel_rfl
theorem Try.zr55 : zeroA Try.prog 55 = some [.nilf] := by kernel_rfl
theorem Try.cs56 : Try.prog.cellsOf 56 = 1 := by kernel_rfl
theorem Try.bt56 : Try.prog.bytesOf 56 = 8 := by kernel_rfl
theorem Try.pa56 (c : AV) (cs : List AV) : partA Try.prog 56 (c :: cs) = some c := by simp only [partA, Try.underlying56]
theorem Try.ty56 : tyOk Try.prog 56 = true := by kernel_rfl
theorem Try.zr56 : zeroA Try.prog 56 = some [.nilf] := by kernel_rfl
theorem Try.cs57 : Try.prog.cellsOf 57 = 1 := by kernel_rfl
theorem Try.bt57 : Try.prog.bytesOf 57 = 8 := by kernel_rfl
theorem Try.pa57 (c : AV) (cs : List AV) : partA Try.prog 57 (c :: cs) = some c := by simp only [partA, Try.underlying57]
theorem Try.ty57 : tyOk Try.prog 57 = true := by kernel_rfl
theorem Try.zr57 : zeroA Try.prog 57 = some [.nilf] := by kernel_rfl
theorem Try.cs58 : Try.prog.cellsOf 58 = 1 := by kernel_rfl
theorem Try.bt58 : Try.prog.bytesOf 58 = 8 := by kernel_rfl
theorem Try.pa58 (c : AV) (cs : List AV) : partA Try.prog 58 (c :: cs) = some c := by simp only [partA, Try.underlying58]
theorem Try.zr58 : zeroA Try.prog 58 = some [.int .u64 0] := by kernel_rfl
theorem Try.cs59 : Try.prog.cellsOf 59 = 1 := by kernel_rfl
theorem Try.bt59 : Try.prog.bytesOf 59 = 8 := by kernel_rfl
theorem Try.pa59 (c : AV) (cs : List AV) : partA Try.prog 59 (c :: cs) = some c := by simp only [partA, Try.underlying59]
theorem Try.ty59 : tyOk Try.prog 59 = true := by kernel_rfl
theorem Try.zr59 : zeroA Try.prog 59 = some [.nilf] := by kernel_rfl
theorem Try.cs60 : Try.prog.cellsOf 60 = 1 := by kernel_rfl
theorem Try.bt60 : Try.prog.bytesOf 60 = 8 := by kernel_rfl
theorem Try.pa60 (c : AV) (cs : List AV) : partA Try.prog 60 (c :: cs) = some c := by simp only [partA, Try.underlying60]
theorem Try.ty60 : tyOk Try.prog 60 = true := by kernel_rfl
theorem Try.zr60 : zeroA Try.prog 60 = some [.nilf] := by kernel_rfl
theorem Try.cs61 : Try.prog.cellsOf 61 = 1 := by kernel_rfl
theorem Try.bt61 : Try.prog.bytesOf 61 = 8 := by kernel_rfl
theorem Try.pa61 (c : AV) (cs : List AV) : partA Try.prog 61 (c :: cs) = some c := by simp only [partA, Try.underlying61]
theorem Try.ty61 : tyOk Try.prog 61 = true := by kernel_rfl
theorem Try.zr61 : zeroA Try.prog 61 = some [.nilf] := by kernel_rfl
theorem Try.cs62 : Try.prog.cellsOf 62 = 1 := by kernel_rfl
theorem Try.bt62 : Try.prog.bytesOf 62 = 8 := by kernel_rfl
theorem Try.pa62 (c : AV) (cs : List AV) : partA Try.prog 62 (c :: cs) = some c := by simp only [partA, Try.underlying62]
theorem Try.ty62 : tyOk Try.prog 62 = true := by kernel_rfl
theorem Try.zr62 : zeroA Try.prog 62 = some [.nilf] := by kernel_rfl
theorem Try.cs63 : Try.prog.cellsOf 63 = 1 := by kernel_rfl
theorem Try.bt63 : Try.prog.bytesOf 63 = 8 := by kernel_rfl
theorem Try.pa63 (c : AV) (cs : List AV) : partA Try.prog 63 (c :: cs) = some c := by simp only [partA, Try.underlying63]
theorem Try.ty63 : tyOk Try.prog 63 = true := by kernel_rfl
theorem Try.zr63 : zeroA Try.prog 63 = some [.nilf] := by kernel_rfl
theorem Try.cs64 : Try.prog.cellsOf 64 = 1 := by kernel_rfl
theorem Try.bt64 : Try.prog.bytesOf 64 = 8 := by kernel_rfl
theorem Try.pa64 (c : AV) (cs : List AV) : partA Try.prog 64 (c :: cs) = some c := by simp only [partA, Try.underlying64]
theorem Try.ty64 : tyOk Try.prog 64 = true := by kernel_rfl
theorem Try.zr64 : zeroA Try.prog 64 = some [.nilm] := by kernel_rfl
theorem Try.ky64 : Maps.Keyed Try.prog 3 := keyTB_keyed (by kernel_rfl) (by kernel_rfl)
theorem Try.zv64 : zeroV Try.prog 4 = some (.bool false) := by kernel_rfl
theorem Try.cs65 : Try.prog.cellsOf 65 = 2 := by kernel_rfl
theorem Try.bt65 : Try.prog.bytesOf 65 = 32 := by kernel_rfl
theorem Try.pa65 (cs : List AV) : partA Try.prog 65 cs = if (cs.take 2).length = 2 then some (.agg (cs.take 2)) else none := by simp only [partA, Try.underlying65, Try.cs65]; simp
theorem Try.ty65 : tyOk Try.prog 65 = true := by kernel_rfl
theorem Try.zr65 : zeroA Try.prog 65 = some [.nils, .nilm] := by kernel_rfl
theorem Try.fd65_0 : fieldOff Try.prog 65 0 = some (0, 29) := by kernel_rfl
theorem Try.fd65_1 : fieldOff Try.prog 65 1 = some (1, 64) := by kernel_rfl
theorem Try.pl65 : placesA Try.prog 65 = some [(0, 1), (1, 1)] := by kernel_rfl
theorem Try.cs66 : Try.prog.cellsOf 66 = 2 := by kernel_rfl
theorem Try.bt66 : Try.prog.bytesOf 66 = 32 := by kernel_rfl
theorem Try.pa66 (cs : List AV) : partA Try.prog 66 cs = if (cs.take 2).length = 2 then some (.agg (cs.take 2)) else none := by simp only [partA, Try.underlying66, Try.cs66]; simp
theorem Try.ty66 : tyOk Try.prog 66 = true := by kernel_rfl
theorem Try.zr66 : zeroA Try.prog 66 = some [.nils, .nilm] := by kernel_rfl
theorem Try.fd66_0 : fieldOff Try.prog 66 0 = some (0, 29) := by kernel_rfl
theorem Try.fd66_1 : fieldOff Try.prog 66 1 = some (1, 64) := by kernel_rfl
theorem Try.pl66 : placesA Try.prog 66 = some [(0, 1), (1, 1)] := by kernel_rfl
theorem Try.cs67 : Try.prog.cellsOf 67 = 1 := by kernel_rfl
theorem Try.bt67 : Try.prog.bytesOf 67 = 8 := by kernel_rfl
theorem Try.pa67 (c : AV) (cs : List AV) : partA Try.prog 67 (c :: cs) = some c := by simp only [partA, Try.underlying67]
theorem Try.ty67 : tyOk Try.prog 67 = true := by kernel_rfl
theorem Try.zr67 : zeroA Try.prog 67 = some [.nilf] := by kernel_rfl
theorem Try.cs68 : Try.prog.cellsOf 68 = 1 := by kernel_rfl
theorem Try.bt68 : Try.prog.bytesOf 68 = 8 := by kernel_rfl
theorem Try.pa68 (c : AV) (cs : List AV) : partA Try.prog 68 (c :: cs) = some c := by simp only [partA, Try.underlying68]
theorem Try.ty68 : tyOk Try.prog 68 = true := by kernel_rfl
theorem Try.zr68 : zeroA Try.prog 68 = some [.nilf] := by kernel_rfl
theorem Try.cs69 : Try.prog.cellsOf 69 = 1 := by kernel_rfl
theorem Try.bt69 : Try.prog.bytesOf 69 = 8 := by kernel_rfl
theorem Try.pa69 (c : AV) (cs : List AV) : partA Try.prog 69 (c :: cs) = some c := by simp only [partA, Try.underlying69]
theorem Try.ty69 : tyOk Try.prog 69 = true := by kernel_rfl
theorem Try.zr69 : zeroA Try.prog 69 = some [.nilf] := by kernel_rfl
theorem Try.cs70 : Try.prog.cellsOf 70 = 1 := by kernel_rfl
theorem Try.bt70 : Try.prog.bytesOf 70 = 8 := by kernel_rfl
theorem Try.pa70 (c : AV) (cs : List AV) : partA Try.prog 70 (c :: cs) = some c := by simp only [partA, Try.underlying70]
theorem Try.ty70 : tyOk Try.prog 70 = true := by kernel_rfl
theorem Try.zr70 : zeroA Try.prog 70 = some [.nilf] := by kernel_rfl
theorem Try.cs71 : Try.prog.cellsOf 71 = 1 := by kernel_rfl
theorem Try.bt71 : Try.prog.bytesOf 71 = 8 := by kernel_rfl
theorem Try.pa71 (c : AV) (cs : List AV) : partA Try.prog 71 (c :: cs) = some c := by simp only [partA, Try.underlying71]
theorem Try.ty71 : tyOk Try.prog 71 = true := by kernel_rfl
theorem Try.zr71 : zeroA Try.prog 71 = some [.nilf] := by kernel_rfl
theorem Try.cs72 : Try.prog.cellsOf 72 = 1 := by kernel_rfl
theorem Try.bt72 : Try.prog.bytesOf 72 = 0 := by kernel_rfl
theorem Try.cs73 : Try.prog.cellsOf 73 = 1 := by kernel_rfl
theorem Try.bt73 : Try.prog.bytesOf 73 = 8 := by kernel_rfl
theorem Try.pa73 (c : AV) (cs : List AV) : partA Try.prog 73 (c :: cs) = some c := by simp only [partA, Try.underlying73]
theorem Try.ty73 : tyOk Try.prog 73 = true := by kernel_rfl
theorem Try.zr73 : zeroA Try.prog 73 = some [.nilf] := by kernel_rfl
theorem Try.cs74 : Try.prog.cellsOf 74 = 1 := by kernel_rfl
theorem Try.bt74 : Try.prog.bytesOf 74 = 8 := by kernel_rfl
theorem Try.pa74 (c : AV) (cs : List AV) : partA Try.prog 74 (c :: cs) = some c := by simp only [partA, Try.underlying74]
theorem Try.ty74 : tyOk Try.prog 74 = true := by kernel_rfl
theorem Try.zr74 : zeroA Try.prog 74 = some [.nilf] := by kernel_rfl
theorem Try.cs75 : Try.prog.cellsOf 75 = 1 := by kernel_rfl
theorem Try.bt75 : Try.prog.bytesOf 75 = 8 := by kernel_rfl
theorem Try.pa75 (c : AV) (cs : List AV) : partA Try.prog 75 (c :: cs) = some c := by simp only [partA, Try.underlying75]
theorem Try.ty75 : tyOk Try.prog 75 = true := by kernel_rfl
theorem Try.zr75 : zeroA Try.prog 75 = some [.nilf] := by kernel_rfl
theorem Try.cs76 : Try.prog.cellsOf 76 = 1 := by kernel_rfl
theorem Try.bt76 : Try.prog.bytesOf 76 = 8 := by kernel_rfl
theorem Try.pa76 (c : AV) (cs : List AV) : partA Try.prog 76 (c :: cs) = some c := by simp only [partA, Try.underlying76]
theorem Try.ty76 : tyOk Try.prog 76 = true := by kernel_rfl
theorem Try.zr76 : zeroA Try.prog 76 = some [.nilf] := by kernel_rfl
theorem Try.cs77 : Try.prog.cellsOf 77 = 1 := by kernel_rfl
theorem Try.bt77 : Try.prog.bytesOf 77 = 8 := by kernel_rfl
theorem Try.pa77 (c : AV) (cs : List AV) : partA Try.prog 77 (c :: cs) = some c := by simp only [partA, Try.underlying77]
theorem Try.ty77 : tyOk Try.prog 77 = true := by kernel_rfl
theorem Try.zr77 : zeroA Try.prog 77 = some [.nilf] := by kernel_rfl
theorem Try.cs78 : Try.prog.cellsOf 78 = 1 := by kernel_rfl
theorem Try.bt78 : Try.prog.bytesOf 78 = 8 := by kernel_rfl
theorem Try.pa78 (c : AV) (cs : List AV) : partA Try.prog 78 (c :: cs) = some c := by simp only [partA, Try.underlying78]
theorem Try.ty78 : tyOk Try.prog 78 = true := by kernel_rfl
theorem Try.zr78 : zeroA Try.prog 78 = some [.nilf] := by kernel_rfl
theorem Try.cs79 : Try.prog.cellsOf 79 = 1 := by kernel_rfl
theorem Try.bt79 : Try.prog.bytesOf 79 = 8 := by kernel_rfl
theorem Try.pa79 (c : AV) (cs : List AV) : partA Try.prog 79 (c :: cs) = some c := by simp only [partA, Try.underlying79]
theorem Try.ty79 : tyOk Try.prog 79 = true := by kernel_rfl
theorem Try.zr79 : zeroA Try.prog 79 = some [.nilf] := by kernel_rfl
theorem Try.cs80 : Try.prog.cellsOf 80 = 1 := by kernel_rfl
theorem Try.bt80 : Try.prog.bytesOf 80 = 8 := by kernel_rfl
theorem Try.pa80 (c : AV) (cs : List AV) : partA Try.prog 80 (c :: cs) = some c := by simp only [partA, Try.underlying80]
theorem Try.ty80 : tyOk Try.prog 80 = true := by kernel_rfl
theorem Try.zr80 : zeroA Try.prog 80 = some [.nilf] := by kernel_rfl
theorem Try.cs81 : Try.prog.cellsOf 81 = 1 := by kernel_rfl
theorem Try.bt81 : Try.prog.bytesOf 81 = 8 := by kernel_rfl
theorem Try.pa81 (c : AV) (cs : List AV) : partA Try.prog 81 (c :: cs) = some c := by simp only [partA, Try.underlying81]
theorem Try.ty81 : tyOk Try.prog 81 = true := by kernel_rfl
theorem Try.zr81 : zeroA Try.prog 81 = some [.nilf] := by kernel_rfl
theorem Try.cs82 : Try.prog.cellsOf 82 = 1 := by kernel_rfl
theorem Try.bt82 : Try.prog.bytesOf 82 = 8 := by kernel_rfl
theorem Try.pa82 (c : AV) (cs : List AV) : partA Try.prog 82 (c :: cs) = some c := by simp only [partA, Try.underlying82]
theorem Try.ty82 : tyOk Try.prog 82 = true := by kernel_rfl
theorem Try.zr82 : zeroA Try.prog 82 = some [.nilf] := by kernel_rfl
theorem Try.cs83 : Try.prog.cellsOf 83 = 1 := by kernel_rfl
theorem Try.bt83 : Try.prog.bytesOf 83 = 8 := by kernel_rfl
theorem Try.pa83 (c : AV) (cs : List AV) : partA Try.prog 83 (c :: cs) = some c := by simp only [partA, Try.underlying83]
theorem Try.ty83 : tyOk Try.prog 83 = true := by kernel_rfl
theorem Try.zr83 : zeroA Try.prog 83 = some [.nilf] := by kernel_rfl
theorem Try.cs84 : Try.prog.cellsOf 84 = 1 := by kernel_rfl
theorem Try.bt84 : Try.prog.bytesOf 84 = 8 := by kernel_rfl
theorem Try.pa84 (c : AV) (cs : List AV) : partA Try.prog 84 (c :: cs) = some c := by simp only [partA, Try.underlying84]
theorem Try.ty84 : tyOk Try.prog 84 = true := by kernel_rfl
theorem Try.zr84 : zeroA Try.prog 84 = some [.nilf] := by kernel_rfl
theorem Try.cs85 : Try.prog.cellsOf 85 = 1 := by kernel_rfl
theorem Try.bt85 : Try.prog.bytesOf 85 = 8 := by kernel_rfl
theorem Try.pa85 (c : AV) (cs : List AV) : partA Try.prog 85 (c :: cs) = some c := by simp only [partA, Try.underlying85]
theorem Try.ty85 : tyOk Try.prog 85 = true := by kernel_rfl
theorem Try.zr85 : zeroA Try.prog 85 = some [.nilf] := by kernel_rfl
theorem Try.cs86 : Try.prog.cellsOf 86 = 1 := by kernel_rfl
theorem Try.bt86 : Try.prog.bytesOf 86 = 8 := by kernel_rfl
theorem Try.pa86 (c : AV) (cs : List AV) : partA Try.prog 86 (c :: cs) = some c := by simp only [partA, Try.underlying86]
theorem Try.ty86 : tyOk Try.prog 86 = true := by kernel_rfl
theorem Try.zr86 : zeroA Try.prog 86 = some [.nilf] := by kernel_rfl
theorem Try.cs87 : Try.prog.cellsOf 87 = 1 := by kernel_rfl
theorem Try.bt87 : Try.prog.bytesOf 87 = 8 := by kernel_rfl
theorem Try.pa87 (c : AV) (cs : List AV) : partA Try.prog 87 (c :: cs) = some c := by simp only [partA, Try.underlying87]
theorem Try.ty87 : tyOk Try.prog 87 = true := by kernel_rfl
theorem Try.zr87 : zeroA Try.prog 87 = some [.nilf] := by kernel_rfl
theorem Try.cs88 : Try.prog.cellsOf 88 = 1 := by kernel_rfl
theorem Try.bt88 : Try.prog.bytesOf 88 = 8 := by kernel_rfl
theorem Try.pa88 (c : AV) (cs : List AV) : partA Try.prog 88 (c :: cs) = some c := by simp only [partA, Try.underlying88]
theorem Try.ty88 : tyOk Try.prog 88 = true := by kernel_rfl
theorem Try.zr88 : zeroA Try.prog 88 = some [.nilf] := by kernel_rfl
theorem Try.cs89 : Try.prog.cellsOf 89 = 1 := by kernel_rfl
theorem Try.bt89 : Try.prog.bytesOf 89 = 24 := by kernel_rfl
theorem Try.pa89 (c : AV) (cs : List AV) : partA Try.prog 89 (c :: cs) = some c := by simp only [partA, Try.underlying89]
theorem Try.ty89 : tyOk Try.prog 89 = true := by kernel_rfl
theorem Try.sl89 : sliceElem Try.prog 89 = some (58, 1) := by kernel_rfl
theorem Try.zr89 : zeroA Try.prog 89 = some [.nils] := by kernel_rfl
theorem Try.cs90 : Try.prog.cellsOf 90 = 1 := by kernel_rfl
theorem Try.bt90 : Try.prog.bytesOf 90 = 8 := by kernel_rfl
theorem Try.pa90 (c : AV) (cs : List AV) : partA Try.prog 90 (c :: cs) = some c := by simp only [partA, Try.underlying90]
theorem Try.ty90 : tyOk Try.prog 90 = true := by kernel_rfl
theorem Try.zr90 : zeroA Try.prog 90 = some [.nilf] := by kernel_rfl
theorem Try.cs91 : Try.prog.cellsOf 91 = 1 := by kernel_rfl
theorem Try.bt91 : Try.prog.bytesOf 91 = 24 := by kernel_rfl
theorem Try.pa91 (c : AV) (cs : List AV) : partA Try.prog 91 (c :: cs) = some c := by simp only [partA, Try.underlying91]
theorem Try.ty91 : tyOk Try.prog 91 = true := by kernel_rfl
theorem Try.sl91 : sliceElem Try.prog 91 = some (5, 1) := by kernel_rfl
theorem Try.zr91 : zeroA Try.prog 91 = some [.nils] := by kernel_rfl
theorem Try.cs92 : Try.prog.cellsOf 92 = 1 := by kernel_rfl
theorem Try.bt92 : Try.prog.bytesOf 92 = 8 := by kernel_rfl
theorem Try.pa92 (c : AV) (cs : List AV) : partA Try.prog 92 (c :: cs) = some c := by simp only [partA, Try.underlying92]
theorem Try.ty92 : tyOk Try.prog 92 = true := by kernel_rfl
theorem Try.zr92 : zeroA Try.prog 92 = some [.nilf] := by kernel_rfl
theorem Try.cs93 : Try.prog.cellsOf 93 = 1 := by kernel_rfl
theorem Try.bt93 : Try.prog.bytesOf 93 = 8 := by kernel_rfl
theorem Try.pa93 (c : AV) (cs : List AV) : partA Try.prog 93 (c :: cs) = some c := by simp only [partA, Try.underlying93]
theorem Try.zr93 : zeroA Try.prog 93 = some [.int .u64 0] := by kernel_rfl
theorem Try.cs94 : Try.prog.cellsOf 94 = 1 := by kernel_rfl
theorem Try.bt94 : Try.prog.bytesOf 94 = 24 := by kernel_rfl
theorem Try.pa94 (c : AV) (cs : List AV) : partA Try.prog 94 (c :: cs) = some c := by simp only [partA, Try.underlying94]
theorem Try.ty94 : tyOk Try.prog 94 = true := by kernel_rfl
theorem Try.sl94 : sliceElem Try.prog 94 = some (29, 1) := by kernel_rfl
theorem Try.zr94 : zeroA Try.prog 94 = some [.nils] := by kernel_rfl
theorem Try.cs95 : Try.prog.cellsOf 95 = 1 := by kernel_rfl
theorem Try.bt95 : Try.prog.bytesOf 95 = 8 := by kernel_rfl
theorem Try.pa95 (c : AV) (cs : List AV) : partA Try.prog 95 (c :: cs) = some c := by simp only [partA, Try.underlying95]
theorem Try.ty95 : tyOk Try.prog 95 = true := by kernel_rfl
theorem Try.zr95 : zeroA Try.prog 95 = some [.nilf] := by kernel_rfl
theorem Try.cs96 : Try.prog.cellsOf 96 = 1 := by kernel_rfl
theorem Try.bt96 : Try.prog.bytesOf 96 = 8 := by kernel_rfl
theorem Try.pa96 (c : AV) (cs : List AV) : partA Try.prog 96 (c :: cs) = some c := by simp only [partA, Try.underlying96]
theorem Try.ty96 : tyOk Try.prog 96 = true := by kernel_rfl
theorem Try.zr96 : zeroA Try.prog 96 = some [.nilf] := by kernel_rfl
theorem Try.cs97 : Try.prog.cellsOf 97 = 1 := by kernel_rfl
theorem Try.bt97 : Try.prog.bytesOf 97 = 8 := by kernel_rfl
theorem Try.pa97 (c : AV) (cs : List AV) : partA Try.prog 97 (c :: cs) = some c := by simp only [partA, Try.underlying97]
theorem Try.ty97 : tyOk Try.prog 97 = true := by kernel_rfl
theorem Try.zr97 : zeroA Try.prog 97 = some [.nilf] := by kernel_rfl
theorem Try.cs98 : Try.prog.cellsOf 98 = 1 := by kernel_rfl
theorem Try.bt98 : Try.prog.bytesOf 98 = 8 := by kernel_rfl
theorem Try.pa98 (c : AV) (cs : List AV) : partA Try.prog 98 (c :: cs) = some c := by simp only [partA, Try.underlying98]
theorem Try.ty98 : tyOk Try.prog 98 = true := by kernel_rfl
theorem Try.zr98 : zeroA Try.prog 98 = some [.nilm] := by kernel_rfl
theorem Try.ky98 : Maps.Keyed Try.prog 101 := keyTB_keyed (by kernel_rfl) (by kernel_rfl)
theorem Try.zv98 : zeroV Try.prog 3 = some (.int .i64 0) := by kernel_rfl
theorem Try.cs99 : Try.prog.cellsOf 99 = 1 := by kernel_rfl
theorem Try.bt99 : Try.prog.bytesOf 99 = 8 := by kernel_rfl
theorem Try.pa99 (c : AV) (cs : List AV) : partA Try.prog 99 (c :: cs) = some c := by simp only [partA, Try.underlying99]
theorem Try.ty99 : tyOk Try.prog 99 = true := by kernel_rfl
theorem Try.zr99 : zeroA Try.prog 99 = some [.nilm] := by kernel_rfl
theorem Try.ky99 : Maps.Keyed Try.prog 101 := keyTB_keyed (by kernel_rfl) (by kernel_rfl)
theorem Try.zv99 : zeroV Try.prog 4 = some (.bool false) := by kernel_rfl
theorem Try.cs100 : Try.prog.cellsOf 100 = 2 := by kernel_rfl
theorem Try.bt100 : Try.prog.bytesOf 100 = 16 := by kernel_rfl
theorem Try.pa100 (cs : List AV) : partA Try.prog 100 cs = if (cs.take 2).length = 2 then some (.agg (cs.take 2)) else none := by simp only [partA, Try.underlying100, Try.cs100]; simp
theorem Try.ty100 : tyOk Try.prog 100 = true := by kernel_rfl
theorem Try.zr100 : zeroA Try.prog 100 = some [.int .i64 0, .int .i64 0] := by kernel_rfl
theorem Try.fd100_0 : fieldOff Try.prog 100 0 = some (0, 3) := by kernel_rfl
theorem Try.fd100_1 : fieldOff Try.prog 100 1 = some (1, 3) := by kernel_rfl
theorem Try.pl100 : placesA Try.prog 100 = some [(0, 1), (1, 1)] := by kernel_rfl
theorem Try.cs101 : Try.prog.cellsOf 101 = 2 := by kernel_rfl
theorem Try.bt101 : Try.prog.bytesOf 101 = 16 := by kernel_rfl
theorem Try.pa101 (cs : List AV) : partA Try.prog 101 cs = if (cs.take 2).length = 2 then some (.agg (cs.take 2)) else none := by simp only [partA, Try.underlying101, Try.cs101]; simp
theorem Try.ty101 : tyOk Try.prog 101 = true := by kernel_rfl
theorem Try.zr101 : zeroA Try.prog 101 = some [.int .i64 0, .int .i64 0] := by kernel_rfl
theorem Try.fd101_0 : fieldOff Try.prog 101 0 = some (0, 3) := by kernel_rfl
theorem Try.fd101_1 : fieldOff Try.prog 101 1 = some (1, 3) := by kernel_rfl
theorem Try.pl101 : placesA Try.prog 101 = some [(0, 1), (1, 1)] := by kernel_rfl
theorem Try.eq101 (a0 b0 : Int) (a1 b1 : Int) : eqAgg Try.prog 101 [.int .i64 a0, .int .i64 a1] [.int .i64 b0, .int .i64 b1] = some ((decide (a0 = b0) && (decide (a1 = b1) && true))) := by kernel_rfl
theorem Try.cs102 : Try.prog.cellsOf 102 = 1 := by kernel_rfl
theorem Try.bt102 : Try.prog.bytesOf 102 = 24 := by kernel_rfl
theorem Try.pa102 (c : AV) (cs : List AV) : partA Try.prog 102 (c :: cs) = some c := by simp only [partA, Try.underlying102]
theorem Try.ty102 : tyOk Try.prog 102 = true := by kernel_rfl
theorem Try.sl102 : sliceElem Try.prog 102 = some (101, 2) := by kernel_rfl
theorem Try.zr102 : zeroA Try.prog 102 = some [.nils] := by kernel_rfl
theorem Try.cs103 : Try.prog.cellsOf 103 = 1 := by kernel_rfl
theorem Try.bt103 : Try.prog.bytesOf 103 = 8 := by kernel_rfl
theorem Try.pa103 (c : AV) (cs : List AV) : partA Try.prog 103 (c :: cs) = some c := by simp only [partA, Try.underlying103]
theorem Try.ty103 : tyOk Try.prog 103 = true := by kernel_rfl
theorem Try.zr103 : zeroA Try.prog 103 = some [.nilf] := by kernel_rfl
theorem Try.cs104 : Try.prog.cellsOf 104 = 1 := by kernel_rfl
theorem Try.bt104 : Try.prog.bytesOf 104 = 8 := by kernel_rfl
theorem Try.pa104 (c : AV) (cs : List AV) : partA Try.prog 104 (c :: cs) = some c := by simp only [partA, Try.underlying104]
theorem Try.ty104 : tyOk Try.prog 104 = true := by kernel_rfl
theorem Try.zr104 : zeroA Try.prog 104 = some [.nilf] := by kernel_rfl
theorem Try.cs105 : Try.prog.cellsOf 105 = 1 := by kernel_rfl
theorem Try.bt105 : Try.prog.bytesOf 105 = 8 := by kernel_rfl
theorem Try.pa105 (c : AV) (cs : List AV) : partA Try.prog 105 (c :: cs) = some c := by simp only [partA, Try.underlying105]
theorem Try.ty105 : tyOk Try.prog 105 = true := by kernel_rfl
theorem Try.zr105 : zeroA Try.prog 105 = some [.nilf] := by kernel_rfl
theorem Try.cs106 : Try.prog.cellsOf 106 = 1 := by kernel_rfl
theorem Try.bt106 : Try.prog.bytesOf 106 = 8 := by kernel_rfl
theorem Try.pa106 (c : AV) (cs : List AV) : partA Try.prog 106 (c :: cs) = some c := by simp only [partA, Try.underlying106]
theorem Try.ty106 : tyOk Try.prog 106 = true := by kernel_rfl
theorem Try.zr106 : zeroA Try.prog 106 = some [.nilf] := by kernel_rfl
theorem Try.cs107 : Try.prog.cellsOf 107 = 1 := by kernel_rfl
theorem Try.bt107 : Try.prog.bytesOf 107 = 8 := by kernel_rfl
theorem Try.pa107 (c : AV) (cs : List AV) : partA Try.prog 107 (c :: cs) = some c := by simp only [partA, Try.underlying107]
theorem Try.ty107 : tyOk Try.prog 107 = true := by kernel_rfl
theorem Try.zr107 : zeroA Try.prog 107 = some [.nilf] := by kernel_rfl
theorem Try.cs108 : Try.prog.cellsOf 108 = 1 := by kernel_rfl
theorem Try.bt108 : Try.prog.bytesOf 108 = 8 := by kernel_rfl
theorem Try.pa108 (c : AV) (cs : List AV) : partA Try.prog 108 (c :: cs) = some c := by simp only [partA, Try.underlying108]
theorem Try.ty108 : tyOk Try.prog 108 = true := by kernel_rfl
theorem Try.zr108 : zeroA Try.prog 108 = some [.nilf] := by kernel_rfl
theorem Try.cs109 : Try.prog.cellsOf 109 = 4 := by kernel_rfl
theorem Try.bt109 : Try.prog.bytesOf 109 = 40 := by kernel_rfl
theorem Try.pa109 (cs : List AV) : partA Try.prog 109 cs = if (cs.take 4).length = 4 then some (.agg (cs.take 4)) else none := by simp only [partA, Try.underlying109, Try.cs109]; simp
theorem Try.ty109 : tyOk Try.prog 109 = true := by kernel_rfl
theorem Try.zr109 : zeroA Try.prog 109 = some [.nilp, .nilp, .nilp, .str []] := by kernel_rfl
theorem Try.fd109_0 : fieldOff Try.prog 109 0 = some (0, 17) := by kernel_rfl
theorem Try.fd109_1 : fieldOff Try.prog 109 1 = some (1, 17) := by kernel_rfl
theorem Try.fd109_2 : fieldOff Try.prog 109 2 = some (2, 17) := by kernel_rfl
theorem Try.fd109_3 : fieldOff Try.prog 109 3 = some (3, 9) := by kernel_rfl
theorem Try.pl109 : placesA Try.prog 109 = some [(0, 1), (1, 1), (2, 1), (3, 1)] := by kernel_rfl
theorem Try.cs110 : Try.prog.cellsOf 110 = 4 := by kernel_rfl
theorem Try.bt110 : Try.prog.bytesOf 110 = 40 := by kernel_rfl
theorem Try.pa110 (cs : List AV) : partA Try.prog 110 cs = if (cs.take 4).length = 4 then some (.agg (cs.take 4)) else none := by simp only [partA, Try.underlying110, Try.cs110]; simp
theorem Try.ty110 : tyOk Try.prog 110 = true := by kernel_rfl
theorem Try.zr110 : zeroA Try.prog 110 = some [.nilp, .nilp, .nilp, .str []] := by kernel_rfl
theorem Try.fd110_0 : fieldOff Try.prog 110 0 = some (0, 17) := by kernel_rfl
theorem Try.fd110_1 : fieldOff Try.prog 110 1 = some (1, 17) := by kernel_rfl
theorem Try.fd110_2 : fieldOff Try.prog 110 2 = some (2, 17) := by kernel_rfl
theorem Try.fd110_3 : fieldOff Try.prog 110 3 = some (3, 9) := by kernel_rfl
theorem Try.pl110 : placesA Try.prog 110 = some [(0, 1), (1, 1), (2, 1), (3, 1)] := by kernel_rfl
theorem Try.cs111 : Try.prog.cellsOf 111 = 0 := by kernel_rfl
theorem Try.bt111 : Try.prog.bytesOf 111 = 0 := by kernel_rfl
theorem Try.ty111 : tyOk Try.prog 111 = true := by kernel_rfl
theorem Try.sl111 : sliceElem Try.prog 111 = none := by kernel_rfl
theorem Try.ar111 : arrElem Try.prog 111 = some (0, 1) := by kernel_rfl
theorem Try.zr111 : zeroA Try.prog 111 = some [] := by kernel_rfl
theorem Try.pl111 : placesA Try.prog 111 = some [] := by kernel_rfl
theorem Try.cs112 : Try.prog.cellsOf 112 = 0 := by kernel_rfl
theorem Try.bt112 : Try.prog.bytesOf 112 = 0 := by kernel_rfl
theorem Try.ty112 : tyOk Try.prog 112 = true := by kernel_rfl
theorem Try.zr112 : zeroA Try.prog 112 = some [] := by kernel_rfl
theorem Try.pl112 : placesA Try.prog 112 = some [(0, 0)] := by kernel_rfl
theorem Try.cs113 : Try.prog.cellsOf 113 = 0 := by kernel_rfl
theorem Try.bt113 : Try.prog.bytesOf 113 = 0 := by kernel_rfl
theorem Try.ty113 : tyOk Try.prog 113 = true := by kernel_rfl
theorem Try.zr113 : zeroA Try.prog 113 = some [] := by kernel_rfl
theorem Try.pl113 : placesA Try.prog 113 = some [(0, 0)] := by kernel_rfl
theorem Try.cs114 : Try.prog.cellsOf 114 = 1 := by kernel_rfl
theorem Try.bt114 : Try.prog.bytesOf 114 = 8 := by kernel_rfl
theorem Try.pa114 (c : AV) (cs : List AV) : partA Try.prog 114 (c :: cs) = some c := by simp only [partA, Try.underlying114]
theorem Try.ty114 : tyOk Try.prog 114 = true := by kernel_rfl
theorem Try.zr114 : zeroA Try.prog 114 = some [.nilf] := by kernel_rfl
theorem Try.cs115 : Try.prog.cellsOf 115 = 1 := by kernel_rfl
theorem Try.bt115 : Try.prog.bytesOf 115 = 4 := by kernel_rfl
theorem Try.pa115 (c : AV) (cs : List AV) : partA Try.prog 115 (c :: cs) = some c := by simp only [partA, Try.underlying115]
theorem Try.zr115 : zeroA Try.prog 115 = some [.int .u32 0] := by kernel_rfl
theorem Try.cs116 : Try.prog.cellsOf 116 = 1 := by kernel_rfl
theorem Try.bt116 : Try.prog.bytesOf 116 = 1 := by kernel_rfl
theorem Try.pa116 (c : AV) (cs : List AV) : partA Try.prog 116 (c :: cs) = some c := by simp only [partA, Try.underlying116]
theorem Try.zr116 : zeroA Try.prog 116 = some [.int .u8 0] := by kernel_rfl
theorem Try.cs117 : Try.prog.cellsOf 117 = 1 := by kernel_rfl
theorem Try.bt117 : Try.prog.bytesOf 117 = 1 := by kernel_rfl
theorem Try.pa117 (c : AV) (cs : List AV) : partA Try.prog 117 (c :: cs) = some c := by simp only [partA, Try.underlying117]
theorem Try.zr117 : zeroA Try.prog 117 = some [.int .u8 0] := by kernel_rfl
theorem Try.cs118 : Try.prog.cellsOf 118 = 1 := by kernel_rfl
theorem Try.bt118 : Try.prog.bytesOf 118 = 8 := by kernel_rfl
theorem Try.pa118 (c : AV) (cs : List AV) : partA Try.prog 118 (c :: cs) = some c := by simp only [partA, Try.underlying118]
theorem Try.ty118 : tyOk Try.prog 118 = true := by kernel_rfl
theorem Try.zr118 : zeroA Try.prog 118 = some [.nilf] := by kernel_rfl
theorem Try.cs119 : Try.prog.cellsOf 119 = 1 := by kernel_rfl
theorem Try.bt119 : Try.prog.bytesOf 119 = 8 := by kernel_rfl
theorem Try.pa119 (c : AV) (cs : List AV) : partA Try.prog 119 (c :: cs) = some c := by simp only [partA, Try.underlying119]
theorem Try.ty119 : tyOk Try.prog 119 = true := by kernel_rfl
theorem Try.zr119 : zeroA Try.prog 119 = some [.nilp] := by kernel_rfl
theorem Try.cs120 : Try.prog.cellsOf 120 = 1 := by kernel_rfl
theorem Try.bt120 : Try.prog.bytesOf 120 = 4 := by kernel_rfl
theorem Try.pa120 (c : AV) (cs : List AV) : partA Try.prog 120 (c :: cs) = some c := by simp only [partA, Try.underlying120]
theorem Try.zr120 : zeroA Try.prog 120 = some [.int .i32 0] := by kernel_rfl
theorem Try.cs121 : Try.prog.cellsOf 121 = 1 := by kernel_rfl
theorem Try.bt121 : Try.prog.bytesOf 121 = 4 := by kernel_rfl
theorem Try.pa121 (c : AV) (cs : List AV) : partA Try.prog 121 (c :: cs) = some c := by simp only [partA, Try.underlying121]
theorem Try.zr121 : zeroA Try.prog 121 = some [.int .i32 0] := by kernel_rfl
theorem Try.cs122 : Try.prog.cellsOf 122 = 11 := by kernel_rfl
theorem Try.bt122 : Try.prog.bytesOf 122 = 48 := by kernel_rfl
theorem Try.pa122 (cs : List AV) : partA Try.prog 122 cs = if (cs.take 11).length = 11 then some (.agg (cs.take 11)) else none := by simp only [partA, Try.underlying122, Try.cs122]; simp
theorem Try.ty122 : tyOk Try.prog 122 = true := by kernel_rfl
theorem Try.zr122 : zeroA Try.prog 122 = some [.int .u64 0, .int .u64 0, .int .u32 0, .int .u8 0, .int .u8 0, .int .u8 0, .int .u8 0, .nilf, .nilp, .int .i32 0, .int .i32 0] := by kernel_rfl
theorem Try.fd122_0 : fieldOff Try.prog 122 0 = some (0, 12) := by kernel_rfl
theorem Try.fd122_1 : fieldOff Try.prog 122 1 = some (1, 12) := by kernel_rfl
theorem Try.fd122_2 : fieldOff Try.prog 122 2 = some (2, 115) := by kernel_rfl
theorem Try.fd122_3 : fieldOff Try.prog 122 3 = some (3, 116) := by kernel_rfl
theorem Try.fd122_4 : fieldOff Try.prog 122 4 = some (4, 5) := by kernel_rfl
theorem Try.fd122_5 : fieldOff Try.prog 122 5 = some (5, 5) := by kernel_rfl
theorem Try.fd122_6 : fieldOff Try.prog 122 6 = some (6, 117) := by kernel_rfl
theorem Try.fd122_7 : fieldOff Try.prog 122 7 = some (7, 118) := by kernel_rfl
theorem Try.fd122_8 : fieldOff Try.prog 122 8 = some (8, 119) := by kernel_rfl
theorem Try.fd122_9 : fieldOff Try.prog 122 9 = some (9, 120) := by kernel_rfl
theorem Try.fd122_10 : fieldOff Try.prog 122 10 = some (10, 121) := by kernel_rfl
theorem Try.pl122 : placesA Try.prog 122 = some [(0, 1), (1, 1), (2, 1), (3, 1), (4, 1), (5, 1), (6, 1), (7, 1), (8, 1), (9, 1), (10, 1)] := by kernel_rfl
theorem Try.cs123 : Try.prog.cellsOf 123 = 11 := by kernel_rfl
theorem Try.bt123 : Try.prog.bytesOf 123 = 48 := by kernel_rfl
theorem Try.pa123 (cs : List AV) : partA Try.prog 123 cs = if (cs.take 11).length = 11 then some (.agg (cs.take 11)) else none := by simp only [partA, Try.underlying123, Try.cs123]; simp
theorem Try.ty123 : tyOk Try.prog 123 = true := by kernel_rfl
theorem Try.zr123 : zeroA Try.prog 123 = some [.int .u64 0, .int .u64 0, .int .u32 0, .int .u8 0, .int .u8 0, .int .u8 0, .int .u8 0, .nilf, .nilp, .int .i32 0, .int .i32 0] := by kernel_rfl
theorem Try.fd123_0 : fieldOff Try.prog 123 0 = some (0, 12) := by kernel_rfl
theorem Try.fd123_1 : fieldOff Try.prog 123 1 = some (1, 12) := by kernel_rfl
theorem Try.fd123_2 : fieldOff Try.prog 123 2 = some (2, 115) := by kernel_rfl
theorem Try.fd123_3 : fieldOff Try.prog 123 3 = some (3, 116) := by kernel_rfl
theorem Try.fd123_4 : fieldOff Try.prog 123 4 = some (4, 5) := by kernel_rfl
theorem Try.fd123_5 : fieldOff Try.prog 123 5 = some (5, 5) := by kernel_rfl
theorem Try.fd123_6 : fieldOff Try.prog 123 6 = some (6, 117) := by kernel_rfl
theorem Try.fd123_7 : fieldOff Try.prog 123 7 = some (7, 118) := by kernel_rfl
theorem Try.fd123_8 : fieldOff Try.prog 123 8 = some (8, 119) := by kernel_rfl
theorem Try.fd123_9 : fieldOff Try.prog 123 9 = some (9, 120) := by kernel_rfl
theorem Try.fd123_10 : fieldOff Try.prog 123 10 = some (10, 121) := by kernel_rfl
theorem Try.pl123 : placesA Try.prog 123 = some [(0, 1), (1, 1), (2, 1), (3, 1), (4, 1), (5, 1), (6, 1), (7, 1), (8, 1), (9, 1), (10, 1)] := by kernel_rfl
theorem Try.cs124 : Try.prog.cellsOf 124 = 1 := by kernel_rfl
theorem Try.bt124 : Try.prog.bytesOf 124 = 8 := by kernel_rfl
theorem Try.pa124 (c : AV) (cs : List AV) : partA Try.prog 124 (c :: cs) = some c := by simp only [partA, Try.underlying124]
theorem Try.ty124 : tyOk Try.prog 124 = true := by kernel_rfl
theorem Try.zr124 : zeroA Try.prog 124 = some [.nilp] := by kernel_rfl
theorem Try.q1 : (Try.prog.cellsOf 1 = 1) ∧ (Try.prog.bytesOf 1 = 8) ∧ (∀ (c : AV) (cs : List AV), partA Try.prog 1 (c :: cs) = some c) ∧ (tyOk Try.prog 1 = true) ∧ (zeroA Try.prog 1 = some [.nilf]) := ⟨Try.cs1, Try.bt1, Try.pa1, Try.ty1, Try.zr1⟩
theorem Try.q2 : (Try.prog.underlying 2 = some (.int .i64)) ∧ (Try.prog.cellsOf 2 = 1) ∧ (Try.prog.bytesOf 2 = 8) ∧ (∀ (c : AV) (cs : List AV), partA Try.prog 2 (c :: cs) = some c) ∧ (zeroA Try.prog 2 = some [.int .i64 0]) := ⟨Try.underlying2, Try.cs2, Try.bt2, Try.pa2, Try.zr2⟩
theorem Try.q3 : (Try.prog.underlying 3 = some (.int .i64)) ∧ (Try.prog.cellsOf 3 = 1) ∧ (Try.prog.bytesOf 3 = 8) ∧ (∀ (c : AV) (cs : List AV), partA Try.prog 3 (c :: cs) = some c) ∧ (zeroA Try.prog 3 = some [.int .i64 0]) := ⟨Try.underlying3, Try.cs3, Try.bt3, Try.pa3, Try.zr3⟩
theorem Try.q4 : (Try.prog.underlying 4 = some (.bool)) ∧ (Try.prog.cellsOf 4 = 1) ∧ (Try.prog.bytesOf 4 = 1) ∧ (∀ (c : AV) (cs : List AV), partA Try.prog 4 (c :: cs) = some c) ∧ (tyOk Try.prog 4 = true) ∧ (zeroA Try.prog 4 = some [.bool false]) := ⟨Try.underlying4, Try.cs4, Try.bt4, Try.pa4, Try.ty4, Try.zr4⟩
theorem Try.q5 : (Try.prog.underlying 5 = some (.int .u8)) ∧ (Try.prog.cellsOf 5 = 1) ∧ (Try.prog.bytesOf 5 = 1) ∧ (∀ (c : AV) (cs : List AV), partA Try.prog 5 (c :: cs) = some c) ∧ (zeroA Try.prog 5 = some [.int .u8 0]) := ⟨Try.underlying5, Try.cs5, Try.bt5, Try.pa5, Try.zr5⟩
theorem Try.q6 : (Try.prog.underlying 6 = some (.int .u8)) ∧ (Try.prog.cellsOf 6 = 1) ∧ (Try.prog.bytesOf 6 = 1) ∧ (∀ (c : AV) (cs : List AV), partA Try.prog 6 (c :: cs) = some c) ∧ (zeroA Try.prog 6 = some [.int .u8 0]) := ⟨Try.underlying6, Try.cs6, Try.bt6, Try.pa6, Try.zr6⟩
theorem Try.q7 : (Try.prog.cellsOf 7 = 4) ∧ (Try.prog.bytesOf 7 = 24) ∧ (∀ (cs : List AV), partA Try.prog 7 cs = if (cs.take 4).length = 4 then some (.agg (cs.take 4)) else none) ∧ (tyOk Try.prog 7 = true) ∧ (zeroA Try.prog 7 = some [.int .i64 0, .int .i64 0, .bool false, .int .u8 0]) ∧ (fieldOff Try.prog 7 0 = some (0, 2)) ∧ (fieldOff Try.prog 7 1 = some (1, 3)) ∧ (fieldOff Try.prog 7 2 = some (2, 4)) ∧ (fieldOff Try.prog 7 3 = some (3, 6)) ∧ (placesA Try.prog 7 = some [(0, 1), (1, 1), (2, 1), (3, 1)]) := ⟨Try.cs7, Try.bt7, Try.pa7, Try.ty7, Try.zr7, Try.fd7_0, Try.fd7_1, Try.fd7_2, Try.fd7_3, Try.pl7⟩
theorem Try.q8 : (Try.prog.cellsOf 8 = 4) ∧ (Try.prog.bytesOf 8 = 24) ∧ (∀ (cs : List AV), partA Try.prog 8 cs = if (cs.take 4).length = 4 then some (.agg (cs.take 4)) else none) ∧ (tyOk Try.prog 8 = true) ∧ (zeroA Try.prog 8 = some [.int .i64 0, .int .i64 0, .bool false, .int .u8 0]) ∧ (fieldOff Try.prog 8 0 = some (0, 2)) ∧ (fieldOff Try.prog 8 1 = some (1, 3)) ∧ (fieldOff Try.prog 8 2 = some (2, 4)) ∧ (fieldOff Try.prog 8 3 = some (3, 6)) ∧ (placesA Try.prog 8 = some [(0, 1), (1, 1), (2, 1), (3, 1)]) := ⟨Try.cs8, Try.bt8, Try.pa8, Try.ty8, Try.zr8, Try.fd8_0, Try.fd8_1, Try.fd8_2, Try.fd8_3, Try.pl8⟩
theorem Try.q9 : (Try.prog.underlying 9 = some (.string)) ∧ (Try.prog.cellsOf 9 = 1) ∧ (Try.prog.bytesOf 9 = 16) ∧ (∀ (c : AV) (cs : List AV), partA Try.prog 9 (c :: cs) = some c) ∧ (tyOk Try.prog 9 = true) ∧ (zeroA Try.prog 9 = some [.str []]) := ⟨Try.underlying9, Try.cs9, Try.bt9, Try.pa9, Try.ty9, Try.zr9⟩
theorem Try.q10 : (Try.prog.underlying 10 = some (.string)) ∧ (Try.prog.cellsOf 10 = 1) ∧ (Try.prog.bytesOf 10 = 16) ∧ (∀ (c : AV) (cs : List AV), partA Try.prog 10 (c :: cs) = some c) ∧ (tyOk Try.prog 10 = true) ∧ (zeroA Try.prog 10 = some [.str []]) := ⟨Try.underlying10, Try.cs10, Try.bt10, Try.pa10, Try.ty10, Try.zr10⟩
theorem Try.q11 : (Try.prog.underlying 11 = some (.string)) ∧ (Try.prog.cellsOf 11 = 1) ∧ (Try.prog.bytesOf 11 = 16) ∧ (∀ (c : AV) (cs : List AV), partA Try.prog 11 (c :: cs) = some c) ∧ (tyOk Try.prog 11 = true) ∧ (zeroA Try.prog 11 = some [.str []]) := ⟨Try.underlying11, Try.cs11, Try.bt11, Try.pa11, Try.ty11, Try.zr11⟩
theorem Try.q12 : (Try.prog.underlying 12 = some (.int .u64)) ∧ (Try.prog.cellsOf 12 = 1) ∧ (Try.prog.bytesOf 12 = 8) ∧ (∀ (c : AV) (cs : List AV), partA Try.prog 12 (c :: cs) = some c) ∧ (zeroA Try.prog 12 = some [.int .u64 0]) := ⟨Try.underlying12, Try.cs12, Try.bt12, Try.pa12, Try.zr12⟩
theorem Try.q13 : (Try.prog.cellsOf 13 = 2) ∧ (Try.prog.bytesOf 13 = 24) ∧ (∀ (cs : List AV), partA Try.prog 13 cs = if (cs.take 2).length = 2 then some (.agg (cs.take 2)) else none) ∧ (tyOk Try.prog 13 = true) ∧ (zeroA Try.prog 13 = some [.str [], .int .u64 0]) ∧ (fieldOff Try.prog 13 0 = some (0, 9)) ∧ (fieldOff Try.prog 13 1 = some (1, 12)) ∧ (placesA Try.prog 13 = some [(0, 1), (1, 1)]) := ⟨Try.cs13, Try.bt13, Try.pa13, Try.ty13, Try.zr13, Try.fd13_0, Try.fd13_1, Try.pl13⟩
theorem Try.q14 : (Try.prog.cellsOf 14 = 2) ∧ (Try.prog.bytesOf 14 = 24) ∧ (∀ (cs : List AV), partA Try.prog 14 cs = if (cs.take 2).length = 2 then some (.agg (cs.take 2)) else none) ∧ (tyOk Try.prog 14 = true) ∧ (zeroA Try.prog 14 = some [.str [], .int .u64 0]) ∧ (fieldOff Try.prog 14 0 = some (0, 9)) ∧ (fieldOff Try.prog 14 1 = some (1, 12)) ∧ (placesA Try.prog 14 = some [(0, 1), (1, 1)]) := ⟨Try.cs14, Try.bt14, Try.pa14, Try.ty14, Try.zr14, Try.fd14_0, Try.fd14_1, Try.pl14⟩
theorem Try.q15 : (Try.prog.underlying 15 = some (.pointer 110)) ∧ (Try.prog.cellsOf 15 = 1) ∧ (Try.prog.bytesOf 15 = 8) ∧ (∀ (c : AV) (cs : List AV), partA Try.prog 15 (c :: cs) = some c) ∧ (tyOk Try.prog 15 = true) ∧ (zeroA Try.prog 15 = some [.nilp]) := ⟨Try.underlying15, Try.cs15, Try.bt15, Try.pa15, Try.ty15, Try.zr15⟩
theorem Try.q16 : (Try.prog.underlying 16 = some (.pointer 113)) ∧ (Try.prog.cellsOf 16 = 1) ∧ (Try.prog.bytesOf 16 = 8) ∧ (∀ (c : AV) (cs : List AV), partA Try.prog 16 (c :: cs) = some c) ∧ (tyOk Try.prog 16 = true) ∧ (zeroA Try.prog 16 = some [.nilp]) := ⟨Try.underlying16, Try.cs16, Try.bt16, Try.pa16, Try.ty16, Try.zr16⟩
theorem Try.q17 : (Try.prog.underlying 17 = some (.pointer 123)) ∧ (Try.prog.cellsOf 17 = 1) ∧ (Try.prog.bytesOf 17 = 8) ∧ (∀ (c : AV) (cs : List AV), partA Try.prog 17 (c :: cs) = some c) ∧ (tyOk Try.prog 17 = true) ∧ (zeroA Try.prog 17 = some [.nilp]) := ⟨Try.underlying17, Try.cs17, Try.bt17, Try.pa17, Try.ty17, Try.zr17⟩
theorem Try.q18 : (Try.prog.cellsOf 18 = 1) ∧ (Try.prog.bytesOf 18 = 8) ∧ (∀ (cs : List AV), partA Try.prog 18 cs = if (cs.take 1).length = 1 then some (.agg (cs.take 1)) else none) ∧ (tyOk Try.prog 18 = true) ∧ (zeroA Try.prog 18 = some [.nilp]) ∧ (fieldOff Try.prog 18 0 = some (0, 17)) ∧ (placesA Try.prog 18 = some [(0, 1)]) := ⟨Try.cs18, Try.bt18, Try.pa18, Try.ty18, Try.zr18, Try.fd18_0, Try.pl18⟩
theorem Try.q19 : (Try.prog.cellsOf 19 = 1) ∧ (Try.prog.bytesOf 19 = 8) ∧ (∀ (cs : List AV), partA Try.prog 19 cs = if (cs.take 1).length = 1 then some (.agg (cs.take 1)) else none) ∧ (tyOk Try.prog 19 = true) ∧ (zeroA Try.prog 19 = some [.nilp]) ∧ (fieldOff Try.prog 19 0 = some (0, 17)) ∧ (placesA Try.prog 19 = some [(0, 1)]) := ⟨Try.cs19, Try.bt19, Try.pa19, Try.ty19, Try.zr19, Try.fd19_0, Try.pl19⟩
theorem Try.q20 : (Try.prog.cellsOf 20 = 1) ∧ (Try.prog.bytesOf 20 = 16) ∧ (∀ (c : AV) (cs : List AV), partA Try.prog 20 (c :: cs) = some c) := ⟨Try.cs20, Try.bt20, Try.pa20⟩
theorem Try.q21 : (Try.prog.underlying 21 = some (.int .i32)) ∧ (Try.prog.cellsOf 21 = 1) ∧ (Try.prog.bytesOf 21 = 4) ∧ (∀ (c : AV) (cs : List AV), partA Try.prog 21 (c :: cs) = some c) ∧ (zeroA Try.prog 21 = some [.int .i32 0]) := ⟨Try.underlying21, Try.cs21, Try.bt21, Try.pa21, Try.zr21⟩
theorem Try.q22 : (Try.prog.underlying 22 = some (.slice 3)) ∧ (Try.prog.cellsOf 22 = 1) ∧ (Try.prog.bytesOf 22 = 24) ∧ (∀ (c : AV) (cs : List AV), partA Try.prog 22 (c :: cs) = some c) ∧ (tyOk Try.prog 22 = true) ∧ (sliceElem Try.prog 22 = some (3, 1)) ∧ (zeroA Try.prog 22 = some [.nils]) := ⟨Try.underlying22, Try.cs22, Try.bt22, Try.pa22, Try.ty22, Try.sl22, Try.zr22⟩
theorem Try.q23 : (Try.prog.underlying 23 = some (.pointer 66)) ∧ (Try.prog.cellsOf 23 = 1) ∧ (Try.prog.bytesOf 23 = 8) ∧ (∀ (c : AV) (cs : List AV), partA Try.prog 23 (c :: cs) = some c) ∧ (tyOk Try.prog 23 = true) ∧ (zeroA Try.prog 23 = some [.nilp]) := ⟨Try.underlying23, Try.cs23, Try.bt23, Try.pa23, Try.ty23, Try.zr23⟩
theorem Try.q24 : (Try.prog.cellsOf 24 = 1) ∧ (Try.prog.bytesOf 24 = 8) ∧ (∀ (c : AV) (cs : List AV), partA Try.prog 24 (c :: cs) = some c) ∧ (tyOk Try.prog 24 = true) ∧ (zeroA Try.prog 24 = some [.nilf]) := ⟨Try.cs24, Try.bt24, Try.pa24, Try.ty24, Try.zr24⟩
theorem Try.q25 : (Try.prog.underlying 25 = some (.slice 33)) ∧ (Try.prog.cellsOf 25 = 1) ∧ (Try.prog.bytesOf 25 = 24) ∧ (∀ (c : AV) (cs : List AV), partA Try.prog 25 (c :: cs) = some c) ∧ (tyOk Try.prog 25 = true) ∧ (sliceElem Try.prog 25 = some (33, 3)) ∧ (zeroA Try.prog 25 = some [.nils]) := ⟨Try.underlying25, Try.cs25, Try.bt25, Try.pa25, Try.ty25, Try.sl25, Try.zr25⟩
theorem Try.q26 : (Try.prog.cellsOf 26 = 1) ∧ (Try.prog.bytesOf 26 = 8) ∧ (∀ (c : AV) (cs : List AV), partA Try.prog 26 (c :: cs) = some c) ∧ (tyOk Try.prog 26 = true) ∧ (zeroA Try.prog 26 = some [.nilf]) := ⟨Try.cs26, Try.bt26, Try.pa26, Try.ty26, Try.zr26⟩
theorem Try.q27 : (Try.prog.underlying 27 = some (.int .i64)) ∧ (Try.prog.cellsOf 27 = 1) ∧ (Try.prog.bytesOf 27 = 8) ∧ (∀ (c : AV) (cs : List AV), partA Try.prog 27 (c :: cs) = some c) ∧ (zeroA Try.prog 27 = some [.int .i64 0]) := ⟨Try.underlying27, Try.cs27, Try.bt27, Try.pa27, Try.zr27⟩
theorem Try.q28 : (Try.prog.cellsOf 28 = 1) ∧ (Try.prog.bytesOf 28 = 8) ∧ (∀ (c : AV) (cs : List AV), partA Try.prog 28 (c :: cs) = some c) ∧ (tyOk Try.prog 28 = true) ∧ (zeroA Try.prog 28 = some [.nilf]) := ⟨Try.cs28, Try.bt28, Try.pa28, Try.ty28, Try.zr28⟩
theorem Try.q29 : (Try.prog.underlying 29 = some (.slice 37)) ∧ (Try.prog.cellsOf 29 = 1) ∧ (Try.prog.bytesOf 29 = 24) ∧ (∀ (c : AV) (cs : List AV), partA Try.prog 29 (c :: cs) = some c) ∧ (tyOk Try.prog 29 = true) ∧ (sliceElem Try.prog 29 = some (37, 6)) ∧ (zeroA Try.prog 29 = some [.nils]) := ⟨Try.underlying29, Try.cs29, Try.bt29, Try.pa29, Try.ty29, Try.sl29, Try.zr29⟩
theorem Try.q30 : (Try.prog.cellsOf 30 = 1) ∧ (Try.prog.bytesOf 30 = 8) ∧ (∀ (c : AV) (cs : List AV), partA Try.prog 30 (c :: cs) = some c) ∧ (tyOk Try.prog 30 = true) ∧ (zeroA Try.prog 30 = some [.nilf]) := ⟨Try.cs30, Try.bt30, Try.pa30, Try.ty30, Try.zr30⟩
theorem Try.q31 : (Try.prog.underlying 31 = some (.slice 36)) ∧ (Try.prog.cellsOf 31 = 1) ∧ (Try.prog.bytesOf 31 = 24) ∧ (∀ (c : AV) (cs : List AV), partA Try.prog 31 (c :: cs) = some c) ∧ (tyOk Try.prog 31 = true) ∧ (sliceElem Try.prog 31 = some (36, 6)) ∧ (zeroA Try.prog 31 = some [.nils]) := ⟨Try.underlying31, Try.cs31, Try.bt31, Try.pa31, Try.ty31, Try.sl31, Try.zr31⟩
theorem Try.q32 : (Try.prog.cellsOf 32 = 3) ∧ (Try.prog.bytesOf 32 = 40) ∧ (∀ (cs : List AV), partA Try.prog 32 cs = if (cs.take 3).length = 3 then some (.agg (cs.take 3)) else none) ∧ (tyOk Try.prog 32 = true) ∧ (zeroA Try.prog 32 = some [.nils, .int .i64 0, .int .i64 0]) ∧ (fieldOff Try.prog 32 0 = some (0, 31)) ∧ (fieldOff Try.prog 32 1 = some (1, 3)) ∧ (fieldOff Try.prog 32 2 = some (2, 3)) ∧ (placesA Try.prog 32 = some [(0, 1), (1, 1), (2, 1)]) := ⟨Try.cs32, Try.bt32, Try.pa32, Try.ty32, Try.zr32, Try.fd32_0, Try.fd32_1, Try.fd32_2, Try.pl32⟩
theorem Try.q33 : (Try.prog.cellsOf 33 = 3) ∧ (Try.prog.bytesOf 33 = 40) ∧ (∀ (cs : List AV), partA Try.prog 33 cs = if (cs.take 3).length = 3 then some (.agg (cs.take 3)) else none) ∧ (tyOk Try.prog 33 = true) ∧ (zeroA Try.prog 33 = some [.nils, .int .i64 0, .int .i64 0]) ∧ (fieldOff Try.prog 33 0 = some (0, 31)) ∧ (fieldOff Try.prog 33 1 = some (1, 3)) ∧ (fieldOff Try.prog 33 2 = some (2, 3)) ∧ (placesA Try.prog 33 = some [(0, 1), (1, 1), (2, 1)]) := ⟨Try.cs33, Try.bt33, Try.pa33, Try.ty33, Try.zr33, Try.fd33_0, Try.fd33_1, Try.fd33_2, Try.pl33⟩
theorem Try.q34 : (Try.prog.cellsOf 34 = 1) ∧ (Try.prog.bytesOf 34 = 8) ∧ (∀ (c : AV) (cs : List AV), partA Try.prog 34 (c :: cs) = some c) ∧ (tyOk Try.prog 34 = true) ∧ (zeroA Try.prog 34 = some [.nilf]) := ⟨Try.cs34, Try.bt34, Try.pa34, Try.ty34, Try.zr34⟩
theorem Try.q35 : (Try.prog.cellsOf 35 = 6) ∧ (Try.prog.bytesOf 35 = 48) ∧ (∀ (cs : List AV), partA Try.prog 35 cs = if (cs.take 6).length = 6 then some (.agg (cs.take 6)) else none) ∧ (tyOk Try.prog 35 = true) ∧ (zeroA Try.prog 35 = some [.int .i64 0, .int .i64 0, .int .i64 0, .int .i64 0, .int .i64 0, .int .i64 0]) ∧ (fieldOff Try.prog 35 0 = some (0, 3)) ∧ (fieldOff Try.prog 35 1 = some (1, 3)) ∧ (fieldOff Try.prog 35 2 = some (2, 3)) ∧ (fieldOff Try.prog 35 3 = some (3, 3)) ∧ (fieldOff Try.prog 35 4 = some (4, 3)) ∧ (fieldOff Try.prog 35 5 = some (5, 3)) ∧ (placesA Try.prog 35 = some [(0, 1), (1, 1), (2, 1), (3, 1), (4, 1), (5, 1)]) := ⟨Try.cs35, Try.bt35, Try.pa35, Try.ty35, Try.zr35, Try.fd35_0, Try.fd35_1, Try.fd35_2, Try.fd35_3, Try.fd35_4, Try.fd35_5, Try.pl35⟩
theorem Try.q36 : (Try.prog.cellsOf 36 = 6) ∧ (Try.prog.bytesOf 36 = 48) ∧ (∀ (cs : List AV), partA Try.prog 36 cs = if (cs.take 6).length = 6 then some (.agg (cs.take 6)) else none) ∧ (tyOk Try.prog 36 = true) ∧ (zeroA Try.prog 36 = some [.int .i64 0, .int .i64 0, .int .i64 0, .int .i64 0, .int .i64 0, .int .i64 0]) ∧ (fieldOff Try.prog 36 0 = some (0, 3)) ∧ (fieldOff Try.prog 36 1 = some (1, 3)) ∧ (fieldOff Try.prog 36 2 = some (2, 3)) ∧ (fieldOff Try.prog 36 3 = some (3, 3)) ∧ (fieldOff Try.prog 36 4 = some (4, 3)) ∧ (fieldOff Try.prog 36 5 = some (5, 3)) ∧ (placesA Try.prog 36 = some [(0, 1), (1, 1), (2, 1), (3, 1), (4, 1), (5, 1)]) ∧ (∀ (a0 b0 : Int) (a1 b1 : Int) (a2 b2 : Int) (a3 b3 : Int) (a4 b4 : Int) (a5 b5 : Int), eqAgg Try.prog 36 [.int .i64 a0, .int .i64 a1, .int .i64 a2, .int .i64 a3, .int .i64 a4, .int .i64 a5] [.int .i64 b0, .int .i64 b1, .int .i64 b2, .int .i64 b3, .int .i64 b4, .int .i64 b5] = some ((decide (a0 = b0) && (decide (a1 = b1) && (decide (a2 = b2) && (decide (a3 = b3) && (decide (a4 = b4) && (decide (a5 = b5) && true)))))))) := ⟨Try.cs36, Try.bt36, Try.pa36, Try.ty36, Try.zr36, Try.fd36_0, Try.fd36_1, Try.fd36_2, Try.fd36_3, Try.fd36_4, Try.fd36_5, Try.pl36, Try.eq36⟩
theorem Try.q37 : (Try.prog.cellsOf 37 = 6) ∧ (Try.prog.bytesOf 37 = 48) ∧ (∀ (cs : List AV), partA Try.prog 37 cs = if (cs.take 6).length = 6 then some (.agg (cs.take 6)) else none) ∧ (tyOk Try.prog 37 = true) ∧ (zeroA Try.prog 37 = some [.int .i64 0, .int .i64 0, .int .i64 0, .int .i64 0, .int .i64 0, .int .i64 0]) ∧ (fieldOff Try.prog 37 0 = some (0, 3)) ∧ (fieldOff Try.prog 37 1 = some (1, 3)) ∧ (fieldOff Try.prog 37 2 = some (2, 3)) ∧ (fieldOff Try.prog 37 3 = some (3, 3)) ∧ (fieldOff Try.prog 37 4 = some (4, 3)) ∧ (fieldOff Try.prog 37 5 = some (5, 3)) ∧ (placesA Try.prog 37 = some [(0, 1), (1, 1), (2, 1), (3, 1), (4, 1), (5, 1)]) ∧ (∀ (a0 b0 : Int) (a1 b1 : Int) (a2 b2 : Int) (a3 b3 : Int) (a4 b4 : Int) (a5 b5 : Int), eqAgg Try.prog 37 [.int .i64 a0, .int .i64 a1, .int .i64 a2, .int .i64 a3, .int .i64 a4, .int .i64 a5] [.int .i64 b0, .int .i64 b1, .int .i64 b2, .int .i64 b3, .int .i64 b4, .int .i64 b5] = some ((decide (a0 = b0) && (decide (a1 = b1) && (decide (a2 = b2) && (decide (a3 = b3) && (decide (a4 = b4) && (decide (a5 = b5) && true)))))))) := ⟨Try.cs37, Try.bt37, Try.pa37, Try.ty37, Try.zr37, Try.fd37_0, Try.fd37_1, Try.fd37_2, Try.fd37_3, Try.fd37_4, Try.fd37_5, Try.pl37, Try.eq37⟩
theorem Try.q38 : (Try.prog.cellsOf 38 = 1) ∧ (Try.prog.bytesOf 38 = 8) ∧ (∀ (c : AV) (cs : List AV), partA Try.prog 38 (c :: cs) = some c) ∧ (tyOk Try.prog 38 = true) ∧ (zeroA Try.prog 38 = some [.nilf]) := ⟨Try.cs38, Try.bt38, Try.pa38, Try.ty38, Try.zr38⟩
theorem Try.q39 : (Try.prog.cellsOf 39 = 1) ∧ (Try.prog.bytesOf 39 = 8) ∧ (∀ (c : AV) (cs : List AV), partA Try.prog 39 (c :: cs) = some c) ∧ (tyOk Try.prog 39 = true) ∧ (zeroA Try.prog 39 = some [.nilf]) := ⟨Try.cs39, Try.bt39, Try.pa39, Try.ty39, Try.zr39⟩
theorem Try.q40 : (Try.prog.cellsOf 40 = 1) ∧ (Try.prog.bytesOf 40 = 8) ∧ (∀ (c : AV) (cs : List AV), partA Try.prog 40 (c :: cs) = some c) ∧ (tyOk Try.prog 40 = true) ∧ (zeroA Try.prog 40 = some [.nilf]) := ⟨Try.cs40, Try.bt40, Try.pa40, Try.ty40, Try.zr40⟩
theorem Try.q42 : (Try.prog.cellsOf 42 = 1) ∧ (Try.prog.bytesOf 42 = 8) ∧ (∀ (c : AV) (cs : List AV), partA Try.prog 42 (c :: cs) = some c) ∧ (tyOk Try.prog 42 = true) ∧ (zeroA Try.prog 42 = some [.nilf]) := ⟨Try.cs42, Try.bt42, Try.pa42, Try.ty42, Try.zr42⟩
theorem Try.q43 : (Try.prog.cellsOf 43 = 1) ∧ (Try.prog.bytesOf 43 = 8) ∧ (∀ (c : AV) (cs : List AV), partA Try.prog 43 (c :: cs) = some c) ∧ (tyOk Try.prog 43 = true) ∧ (zeroA Try.prog 43 = some [.nilf]) := ⟨Try.cs43, Try.bt43, Try.pa43, Try.ty43, Try.zr43⟩
theorem Try.q44 : (Try.prog.cellsOf 44 = 1) ∧ (Try.prog.bytesOf 44 = 8) ∧ (∀ (c : AV) (cs : List AV), partA Try.prog 44 (c :: cs) = some c) ∧ (tyOk Try.prog 44 = true) ∧ (zeroA Try.prog 44 = some [.nilf]) := ⟨Try.cs44, Try.bt44, Try.pa44, Try.ty44, Try.zr44⟩
theorem Try.q46 : (Try.prog.cellsOf 46 = 1) ∧ (Try.prog.bytesOf 46 = 8) ∧ (∀ (c : AV) (cs : List AV), partA Try.prog 46 (c :: cs) = some c) ∧ (tyOk Try.prog 46 = true) ∧ (zeroA Try.prog 46 = some [.nilf]) := ⟨Try.cs46, Try.bt46, Try.pa46, Try.ty46, Try.zr46⟩
theorem Try.q47 : (Try.prog.cellsOf 47 = 1) ∧ (Try.prog.bytesOf 47 = 8) ∧ (∀ (c : AV) (cs : List AV), partA Try.prog 47 (c :: cs) = some c) ∧ (tyOk Try.prog 47 = true) ∧ (zeroA Try.prog 47 = some [.nilf]) := ⟨Try.cs47, Try.bt47, Try.pa47, Try.ty47, Try.zr47⟩
theorem Try.q48 : (Try.prog.underlying 48 = some (.pointer 50)) ∧ (Try.prog.cellsOf 48 = 1) ∧ (Try.prog.bytesOf 48 = 8) ∧ (∀ (c : AV) (cs : List AV), partA Try.prog 48 (c :: cs) = some c) ∧ (tyOk Try.prog 48 = true) ∧ (zeroA Try.prog 48 = some [.nilp]) := ⟨Try.underlying48, Try.cs48, Try.bt48, Try.pa48, Try.ty48, Try.zr48⟩
theorem Try.q49 : (Try.prog.cellsOf 49 = 2) ∧ (Try.prog.bytesOf 49 = 48) ∧ (∀ (cs : List AV), partA Try.prog 49 cs = if (cs.take 2).length = 2 then some (.agg (cs.take 2)) else none) ∧ (tyOk Try.prog 49 = true) ∧ (zeroA Try.prog 49 = some [.nils, .nils]) ∧ (fieldOff Try.prog 49 0 = some (0, 31)) ∧ (fieldOff Try.prog 49 1 = some (1, 22)) ∧ (placesA Try.prog 49 = some [(0, 1), (1, 1)]) := ⟨Try.cs49, Try.bt49, Try.pa49, Try.ty49, Try.zr49, Try.fd49_0, Try.fd49_1, Try.pl49⟩
theorem Try.q50 : (Try.prog.cellsOf 50 = 2) ∧ (Try.prog.bytesOf 50 = 48) ∧ (∀ (cs : List AV), partA Try.prog 50 cs = if (cs.take 2).length = 2 then some (.agg (cs.take 2)) else none) ∧ (tyOk Try.prog 50 = true) ∧ (zeroA Try.prog 50 = some [.nils, .nils]) ∧ (fieldOff Try.prog 50 0 = some (0, 31)) ∧ (fieldOff Try.prog 50 1 = some (1, 22)) ∧ (placesA Try.prog 50 = some [(0, 1), (1, 1)]) := ⟨Try.cs50, Try.bt50, Try.pa50, Try.ty50, Try.zr50, Try.fd50_0, Try.fd50_1, Try.pl50⟩
theorem Try.q51 : (Try.prog.cellsOf 51 = 1) ∧ (Try.prog.bytesOf 51 = 8) ∧ (∀ (c : AV) (cs : List AV), partA Try.prog 51 (c :: cs) = some c) ∧ (tyOk Try.prog 51 = true) ∧ (zeroA Try.prog 51 = some [.nilf]) := ⟨Try.cs51, Try.bt51, Try.pa51, Try.ty51, Try.zr51⟩
theorem Try.q52 : (Try.prog.cellsOf 52 = 1) ∧ (Try.prog.bytesOf 52 = 8) ∧ (∀ (c : AV) (cs : List AV), partA Try.prog 52 (c :: cs) = some c) ∧ (tyOk Try.prog 52 = true) ∧ (zeroA Try.prog 52 = some [.nilf]) := ⟨Try.cs52, Try.bt52, Try.pa52, Try.ty52, Try.zr52⟩
theorem Try.q53 : (Try.prog.cellsOf 53 = 2) ∧ (Try.prog.bytesOf 53 = 16) ∧ (∀ (cs : List AV), partA Try.prog 53 cs = if (cs.take 2).length = 2 then some (.agg (cs.take 2)) else none) ∧ (tyOk Try.prog 53 = true) ∧ (sliceElem Try.prog 53 = none) ∧ (arrElem Try.prog 53 = some (2, 1)) ∧ (zeroA Try.prog 53 = some [.int .i64 0, .int .i64 0]) ∧ (placesA Try.prog 53 = some [(0, 1), (1, 1)]) := ⟨Try.cs53, Try.bt53, Try.pa53, Try.ty53, Try.sl53, Try.ar53, Try.zr53, Try.pl53⟩
theorem Try.q54 : (Try.prog.underlying 54 = some (.slice 53)) ∧ (Try.prog.cellsOf 54 = 1) ∧ (Try.prog.bytesOf 54 = 24) ∧ (∀ (c : AV) (cs : List AV), partA Try.prog 54 (c :: cs) = some c) ∧ (tyOk Try.prog 54 = true) ∧ (sliceElem Try.prog 54 = some (53, 2)) ∧ (zeroA Try.prog 54 = some [.nils]) := ⟨Try.underlying54, Try.cs54, Try.bt54, Try.pa54, Try.ty54, Try.sl54, Try.zr54⟩
theorem Try.q55 : (Try.prog.cellsOf 55 = 1) ∧ (Try.prog.bytesOf 55 = 8) ∧ (∀ (c : AV) (cs : List AV), partA Try.prog 55 (c :: cs) = some c) ∧ (tyOk Try.prog 55 = true) ∧ (zeroA Try.prog 55 = some [.nilf]) := ⟨Try.cs55, Try.bt55, Try.pa55, Try.ty55, Try.zr55⟩
theorem Try.q56 : (Try.prog.cellsOf 56 = 1) ∧ (Try.prog.bytesOf 56 = 8) ∧ (∀ (c : AV) (cs : List AV), partA Try.prog 56 (c :: cs) = some c) ∧ (tyOk Try.prog 56 = true) ∧ (zeroA Try.prog 56 = some [.nilf]) := ⟨Try.cs56, Try.bt56, Try.pa56, Try.ty56, Try.zr56⟩
theorem Try.q57 : (Try.prog.cellsOf 57 = 1) ∧ (Try.prog.bytesOf 57 = 8) ∧ (∀ (c : AV) (cs : List AV), partA Try.prog 57 (c :: cs) = some c) ∧ (tyOk Try.prog 57 = true) ∧ (zeroA Try.prog 57 = some [.nilf]) := ⟨Try.cs57, Try.bt57, Try.pa57, Try.ty57, Try.zr57⟩
theorem Try.q58 : (Try.prog.underlying 58 = some (.int .u64)) ∧ (Try.prog.cellsOf 58 = 1) ∧ (Try.prog.bytesOf 58 = 8) ∧ (∀ (c : AV) (cs : List AV), partA Try.prog 58 (c :: cs) = some c) ∧ (zeroA Try.prog 58 = some [.int .u64 0]) := ⟨Try.underlying58, Try.cs58, Try.bt58, Try.pa58, Try.zr58⟩
theorem Try.q59 : (Try.prog.cellsOf 59 = 1) ∧ (Try.prog.bytesOf 59 = 8) ∧ (∀ (c : AV) (cs : List AV), partA Try.prog 59 (c :: cs) = some c) ∧ (tyOk Try.prog 59 = true) ∧ (zeroA Try.prog 59 = some [.nilf]) := ⟨Try.cs59, Try.bt59, Try.pa59, Try.ty59, Try.zr59⟩
theorem Try.q60 : (Try.prog.cellsOf 60 = 1) ∧ (Try.prog.bytesOf 60 = 8) ∧ (∀ (c : AV) (cs : List AV), partA Try.prog 60 (c :: cs) = some c) ∧ (tyOk Try.prog 60 = true) ∧ (zeroA Try.prog 60 = some [.nilf]) := ⟨Try.cs60, Try.bt60, Try.pa60, Try.ty60, Try.zr60⟩
theorem Try.q61 : (Try.prog.cellsOf 61 = 1) ∧ (Try.prog.bytesOf 61 = 8) ∧ (∀ (c : AV) (cs : List AV), partA Try.prog 61 (c :: cs) = some c) ∧ (tyOk Try.prog 61 = true) ∧ (zeroA Try.prog 61 = some [.nilf]) := ⟨Try.cs61, Try.bt61, Try.pa61, Try.ty61, Try.zr61⟩
theorem Try.q62 : (Try.prog.cellsOf 62 = 1) ∧ (Try.prog.bytesOf 62 = 8) ∧ (∀ (c : AV) (cs : List AV), partA Try.prog 62 (c :: cs) = some c) ∧ (tyOk Try.prog 62 = true) ∧ (zeroA Try.prog 62 = some [.nilf]) := ⟨Try.cs62, Try.bt62, Try.pa62, Try.ty62, Try.zr62⟩
theorem Try.q63 : (Try.prog.cellsOf 63 = 1) ∧ (Try.prog.bytesOf 63 = 8) ∧ (∀ (c : AV) (cs : List AV), partA Try.prog 63 (c :: cs) = some c) ∧ (tyOk Try.prog 63 = true) ∧ (zeroA Try.prog 63 = some [.nilf]) := ⟨Try.cs63, Try.bt63, Try.pa63, Try.ty63, Try.zr63⟩
theorem Try.q64 : (Try.prog.cellsOf 64 = 1) ∧ (Try.prog.bytesOf 64 = 8) ∧ (∀ (c : AV) (cs : List AV), partA Try.prog 64 (c :: cs) = some c) ∧ (tyOk Try.prog 64 = true) ∧ (zeroA Try.prog 64 = some [.nilm]) ∧ (Maps.Keyed Try.prog 3) ∧ (zeroV Try.prog 4 = some (.bool false)) := ⟨Try.cs64, Try.bt64, Try.pa64, Try.ty64, Try.zr64, Try.ky64, Try.zv64⟩
theorem Try.q65 : (Try.prog.cellsOf 65 = 2) ∧ (Try.prog.bytesOf 65 = 32) ∧ (∀ (cs : List AV), partA Try.prog 65 cs = if (cs.take 2).length = 2 then some (.agg (cs.take 2)) else none) ∧ (tyOk Try.prog 65 = true) ∧ (zeroA Try.prog 65 = some [.nils, .nilm]) ∧ (fieldOff Try.prog 65 0 = some (0, 29)) ∧ (fieldOff Try.prog 65 1 = some (1, 64)) ∧ (placesA Try.prog 65 = some [(0, 1), (1, 1)]) := ⟨Try.cs65, Try.bt65, Try.pa65, Try.ty65, Try.zr65, Try.fd65_0, Try.fd65_1, Try.pl65⟩
theorem Try.q66 : (Try.prog.cellsOf 66 = 2) ∧ (Try.prog.bytesOf 66 = 32) ∧ (∀ (cs : List AV), partA Try.prog 66 cs = if (cs.take 2).length = 2 then some (.agg (cs.take 2)) else none) ∧ (tyOk Try.prog 66 = true) ∧ (zeroA Try.prog 66 = some [.nils, .nilm]) ∧ (fieldOff Try.prog 66 0 = some (0, 29)) ∧ (fieldOff Try.prog 66 1 = some (1, 64)) ∧ (placesA Try.prog 66 = some [(0, 1), (1, 1)]) := ⟨Try.cs66, Try.bt66, Try.pa66, Try.ty66, Try.zr66, Try.fd66_0, Try.fd66_1, Try.pl66⟩
theorem Try.q67 : (Try.prog.cellsOf 67 = 1) ∧ (Try.prog.bytesOf 67 = 8) ∧ (∀ (c : AV) (cs : List AV), partA Try.prog 67 (c :: cs) = some c) ∧ (tyOk Try.prog 67 = true) ∧ (zeroA Try.prog 67 = some [.nilf]) := ⟨Try.cs67, Try.bt67, Try.pa67, Try.ty67, Try.zr67⟩
theorem Try.q68 : (Try.prog.cellsOf 68 = 1) ∧ (Try.prog.bytesOf 68 = 8) ∧ (∀ (c : AV) (cs : List AV), partA Try.prog 68 (c :: cs) = some c) ∧ (tyOk Try.prog 68 = true) ∧ (zeroA Try.prog 68 = some [.nilf]) := ⟨Try.cs68, Try.bt68, Try.pa68, Try.ty68, Try.zr68⟩
theorem Try.q69 : (Try.prog.cellsOf 69 = 1) ∧ (Try.prog.bytesOf 69 = 8) ∧ (∀ (c : AV) (cs : List AV), partA Try.prog 69 (c :: cs) = some c) ∧ (tyOk Try.prog 69 = true) ∧ (zeroA Try.prog 69 = some [.nilf]) := ⟨Try.cs69, Try.bt69, Try.pa69, Try.ty69, Try.zr69⟩
theorem Try.q70 : (Try.prog.cellsOf 70 = 1) ∧ (Try.prog.bytesOf 70 = 8) ∧ (∀ (c : AV) (cs : List AV), partA Try.prog 70 (c :: cs) = some c) ∧ (tyOk Try.prog 70 = true) ∧ (zeroA Try.prog 70 = some [.nilf]) := ⟨Try.cs70, Try.bt70, Try.pa70, Try.ty70, Try.zr70⟩
theorem Try.q71 : (Try.prog.cellsOf 71 = 1) ∧ (Try.prog.bytesOf 71 = 8) ∧ (∀ (c : AV) (cs : List AV), partA Try.prog 71 (c :: cs) = some c) ∧ (tyOk Try.prog 71 = true) ∧ (zeroA Try.prog 71 = some [.nilf]) := ⟨Try.cs71, Try.bt71, Try.pa71, Try.ty71, Try.zr71⟩
theorem Try.q73 : (Try.prog.cellsOf 73 = 1) ∧ (Try.prog.bytesOf 73 = 8) ∧ (∀ (c : AV) (cs : List AV), partA Try.prog 73 (c :: cs) = some c) ∧ (tyOk Try.prog 73 = true) ∧ (zeroA Try.prog 73 = some [.nilf]) := ⟨Try.cs73, Try.bt73, Try.pa73, Try.ty73, Try.zr73⟩
theorem Try.q74 : (Try.prog.cellsOf 74 = 1) ∧ (Try.prog.bytesOf 74 = 8) ∧ (∀ (c : AV) (cs : List AV), partA Try.prog 74 (c :: cs) = some c) ∧ (tyOk Try.prog 74 = true) ∧ (zeroA Try.prog 74 = some [.nilf]) := ⟨Try.cs74, Try.bt74, Try.pa74, Try.ty74, Try.zr74⟩
theorem Try.q75 : (Try.prog.cellsOf 75 = 1) ∧ (Try.prog.bytesOf 75 = 8) ∧ (∀ (c : AV) (cs : List AV), partA Try.prog 75 (c :: cs) = some c) ∧ (tyOk Try.prog 75 = true) ∧ (zeroA Try.prog 75 = some [.nilf]) := ⟨Try.cs75, Try.bt75, Try.pa75, Try.ty75, Try.zr75⟩
theorem Try.q76 : (Try.prog.cellsOf 76 = 1) ∧ (Try.prog.bytesOf 76 = 8) ∧ (∀ (c : AV) (cs : List AV), partA Try.prog 76 (c :: cs) = some c) ∧ (tyOk Try.prog 76 = true) ∧ (zeroA Try.prog 76 = some [.nilf]) := ⟨Try.cs76, Try.bt76, Try.pa76, Try.ty76, Try.zr76⟩
theorem Try.q77 : (Try.prog.cellsOf 77 = 1) ∧ (Try.prog.bytesOf 77 = 8) ∧ (∀ (c : AV) (cs : List AV), partA Try.prog 77 (c :: cs) = some c) ∧ (tyOk Try.prog 77 = true) ∧ (zeroA Try.prog 77 = some [.nilf]) := ⟨Try.cs77, Try.bt77, Try.pa77, Try.ty77, Try.zr77⟩
theorem Try.q78 : (Try.prog.cellsOf 78 = 1) ∧ (Try.prog.bytesOf 78 = 8) ∧ (∀ (c : AV) (cs : List AV), partA Try.prog 78 (c :: cs) = some c) ∧ (tyOk Try.prog 78 = true) ∧ (zeroA Try.prog 78 = some [.nilf]) := ⟨Try.cs78, Try.bt78, Try.pa78, Try.ty78, Try.zr78⟩
theorem Try.q79 : (Try.prog.cellsOf 79 = 1) ∧ (Try.prog.bytesOf 79 = 8) ∧ (∀ (c : AV) (cs : List AV), partA Try.prog 79 (c :: cs) = some c) ∧ (tyOk Try.prog 79 = true) ∧ (zeroA Try.prog 79 = some [.nilf]) := ⟨Try.cs79, Try.bt79, Try.pa79, Try.ty79, Try.zr79⟩
theorem Try.q80 : (Try.prog.cellsOf 80 = 1) ∧ (Try.prog.bytesOf 80 = 8) ∧ (∀ (c : AV) (cs : List AV), partA Try.prog 80 (c :: cs) = some c) ∧ (tyOk Try.prog 80 = true) ∧ (zeroA Try.prog 80 = some [.nilf]) := ⟨Try.cs80, Try.bt80, Try.pa80, Try.ty80, Try.zr80⟩
theorem Try.q81 : (Try.prog.cellsOf 81 = 1) ∧ (Try.prog.bytesOf 81 = 8) ∧ (∀ (c : AV) (cs : List AV), partA Try.prog 81 (c :: cs) = some c) ∧ (tyOk Try.prog 81 = true) ∧ (zeroA Try.prog 81 = some [.nilf]) := ⟨Try.cs81, Try.bt81, Try.pa81, Try.ty81, Try.zr81⟩
theorem Try.q82 : (Try.prog.cellsOf 82 = 1) ∧ (Try.prog.bytesOf 82 = 8) ∧ (∀ (c : AV) (cs : List AV), partA Try.prog 82 (c :: cs) = some c) ∧ (tyOk Try.prog 82 = true) ∧ (zeroA Try.prog 82 = some [.nilf]) := ⟨Try.cs82, Try.bt82, Try.pa82, Try.ty82, Try.zr82⟩
theorem Try.q83 : (Try.prog.cellsOf 83 = 1) ∧ (Try.prog.bytesOf 83 = 8) ∧ (∀ (c : AV) (cs : List AV), partA Try.prog 83 (c :: cs) = some c) ∧ (tyOk Try.prog 83 = true) ∧ (zeroA Try.prog 83 = some [.nilf]) := ⟨Try.cs83, Try.bt83, Try.pa83, Try.ty83, Try.zr83⟩
theorem Try.q84 : (Try.prog.cellsOf 84 = 1) ∧ (Try.prog.bytesOf 84 = 8) ∧ (∀ (c : AV) (cs : List AV), partA Try.prog 84 (c :: cs) = some c) ∧ (tyOk Try.prog 84 = true) ∧ (zeroA Try.prog 84 = some [.nilf]) := ⟨Try.cs84, Try.bt84, Try.pa84, Try.ty84, Try.zr84⟩
theorem Try.q85 : (Try.prog.cellsOf 85 = 1) ∧ (Try.prog.bytesOf 85 = 8) ∧ (∀ (c : AV) (cs : List AV), partA Try.prog 85 (c :: cs) = some c) ∧ (tyOk Try.prog 85 = true) ∧ (zeroA Try.prog 85 = some [.nilf]) := ⟨Try.cs85, Try.bt85, Try.pa85, Try.ty85, Try.zr85⟩
theorem Try.q86 : (Try.prog.cellsOf 86 = 1) ∧ (Try.prog.bytesOf 86 = 8) ∧ (∀ (c : AV) (cs : List AV), partA Try.prog 86 (c :: cs) = some c) ∧ (tyOk Try.prog 86 = true) ∧ (zeroA Try.prog 86 = some [.nilf]) := ⟨Try.cs86, Try.bt86, Try.pa86, Try.ty86, Try.zr86⟩
theorem Try.q87 : (Try.prog.cellsOf 87 = 1) ∧ (Try.prog.bytesOf 87 = 8) ∧ (∀ (c : AV) (cs : List AV), partA Try.prog 87 (c :: cs) = some c) ∧ (tyOk Try.prog 87 = true) ∧ (zeroA Try.prog 87 = some [.nilf]) := ⟨Try.cs87, Try.bt87, Try.pa87, Try.ty87, Try.zr87⟩
theorem Try.q88 : (Try.prog.cellsOf 88 = 1) ∧ (Try.prog.bytesOf 88 = 8) ∧ (∀ (c : AV) (cs : List AV), partA Try.prog 88 (c :: cs) = some c) ∧ (tyOk Try.prog 88 = true) ∧ (zeroA Try.prog 88 = some [.nilf]) := ⟨Try.cs88, Try.bt88, Try.pa88, Try.ty88, Try.zr88⟩
theorem Try.q89 : (Try.prog.underlying 89 = some (.slice 58)) ∧ (Try.prog.cellsOf 89 = 1) ∧ (Try.prog.bytesOf 89 = 24) ∧ (∀ (c : AV) (cs : List AV), partA Try.prog 89 (c :: cs) = some c) ∧ (tyOk Try.prog 89 = true) ∧ (sliceElem Try.prog 89 = some (58, 1)) ∧ (zeroA Try.prog 89 = some [.nils]) := ⟨Try.underlying89, Try.cs89, Try.bt89, Try.pa89, Try.ty89, Try.sl89, Try.zr89⟩
theorem Try.q90 : (Try.prog.cellsOf 90 = 1) ∧ (Try.prog.bytesOf 90 = 8) ∧ (∀ (c : AV) (cs : List AV), partA Try.prog 90 (c :: cs) = some c) ∧ (tyOk Try.prog 90 = true) ∧ (zeroA Try.prog 90 = some [.nilf]) := ⟨Try.cs90, Try.bt90, Try.pa90, Try.ty90, Try.zr90⟩
theorem Try.q91 : (Try.prog.underlying 91 = some (.slice 5)) ∧ (Try.prog.cellsOf 91 = 1) ∧ (Try.prog.bytesOf 91 = 24) ∧ (∀ (c : AV) (cs : List AV), partA Try.prog 91 (c :: cs) = some c) ∧ (tyOk Try.prog 91 = true) ∧ (sliceElem Try.prog 91 = some (5, 1)) ∧ (zeroA Try.prog 91 = some [.nils]) := ⟨Try.underlying91, Try.cs91, Try.bt91, Try.pa91, Try.ty91, Try.sl91, Try.zr91⟩
theorem Try.q92 : (Try.prog.cellsOf 92 = 1) ∧ (Try.prog.bytesOf 92 = 8) ∧ (∀ (c : AV) (cs : List AV), partA Try.prog 92 (c :: cs) = some c) ∧ (tyOk Try.prog 92 = true) ∧ (zeroA Try.prog 92 = some [.nilf]) := ⟨Try.cs92, Try.bt92, Try.pa92, Try.ty92, Try.zr92⟩
theorem Try.q93 : (Try.prog.underlying 93 = some (.int .u64)) ∧ (Try.prog.cellsOf 93 = 1) ∧ (Try.prog.bytesOf 93 = 8) ∧ (∀ (c : AV) (cs : List AV), partA Try.prog 93 (c :: cs) = some c) ∧ (zeroA Try.prog 93 = some [.int .u64 0]) := ⟨Try.underlying93, Try.cs93, Try.bt93, Try.pa93, Try.zr93⟩
theorem Try.q94 : (Try.prog.underlying 94 = some (.slice 29)) ∧ (Try.prog.cellsOf 94 = 1) ∧ (Try.prog.bytesOf 94 = 24) ∧ (∀ (c : AV) (cs : List AV), partA Try.prog 94 (c :: cs) = some c) ∧ (tyOk Try.prog 94 = true) ∧ (sliceElem Try.prog 94 = some (29, 1)) ∧ (zeroA Try.prog 94 = some [.nils]) := ⟨Try.underlying94, Try.cs94, Try.bt94, Try.pa94, Try.ty94, Try.sl94, Try.zr94⟩
theorem Try.q95 : (Try.prog.cellsOf 95 = 1) ∧ (Try.prog.bytesOf 95 = 8) ∧ (∀ (c : AV) (cs : List AV), partA Try.prog 95 (c :: cs) = some c) ∧ (tyOk Try.prog 95 = true) ∧ (zeroA Try.prog 95 = some [.nilf]) := ⟨Try.cs95, Try.bt95, Try.pa95, Try.ty95, Try.zr95⟩
theorem Try.q96 : (Try.prog.cellsOf 96 = 1) ∧ (Try.prog.bytesOf 96 = 8) ∧ (∀ (c : AV) (cs : List AV), partA Try.prog 96 (c :: cs) = some c) ∧ (tyOk Try.prog 96 = true) ∧ (zeroA Try.prog 96 = some [.nilf]) := ⟨Try.cs96, Try.bt96, Try.pa96, Try.ty96, Try.zr96⟩
theorem Try.q97 : (Try.prog.cellsOf 97 = 1) ∧ (Try.prog.bytesOf 97 = 8) ∧ (∀ (c : AV) (cs : List AV), partA Try.prog 97 (c :: cs) = some c) ∧ (tyOk Try.prog 97 = true) ∧ (zeroA Try.prog 97 = some [.nilf]) := ⟨Try.cs97, Try.bt97, Try.pa97, Try.ty97, Try.zr97⟩
theorem Try.q98 : (Try.prog.cellsOf 98 = 1) ∧ (Try.prog.bytesOf 98 = 8) ∧ (∀ (c : AV) (cs : List AV), partA Try.prog 98 (c :: cs) = some c) ∧ (tyOk Try.prog 98 = true) ∧ (zeroA Try.prog 98 = some [.nilm]) ∧ (Maps.Keyed Try.prog 101) ∧ (zeroV Try.prog 3 = some (.int .i64 0)) := ⟨Try.cs98, Try.bt98, Try.pa98, Try.ty98, Try.zr98, Try.ky98, Try.zv98⟩
theorem Try.q99 : (Try.prog.cellsOf 99 = 1) ∧ (Try.prog.bytesOf 99 = 8) ∧ (∀ (c : AV) (cs : List AV), partA Try.prog 99 (c :: cs) = some c) ∧ (tyOk Try.prog 99 = true) ∧ (zeroA Try.prog 99 = some [.nilm]) ∧ (Maps.Keyed Try.prog 101) ∧ (zeroV Try.prog 4 = some (.bool false)) := ⟨Try.cs99, Try.bt99, Try.pa99, Try.ty99, Try.zr99, Try.ky99, Try.zv99⟩
theorem Try.q100 : (Try.prog.cellsOf 100 = 2) ∧ (Try.prog.bytesOf 100 = 16) ∧ (∀ (cs : List AV), partA Try.prog 100 cs = if (cs.take 2).length = 2 then some (.agg (cs.take 2)) else none) ∧ (tyOk Try.prog 100 = true) ∧ (zeroA Try.prog 100 = some [.int .i64 0, .int .i64 0]) ∧ (fieldOff Try.prog 100 0 = some (0, 3)) ∧ (fieldOff Try.prog 100 1 = some (1, 3)) ∧ (placesA Try.prog 100 = some [(0, 1), (1, 1)]) := ⟨Try.cs100, Try.bt100, Try.pa100, Try.ty100, Try.zr100, Try.fd100_0, Try.fd100_1, Try.pl100⟩
theorem Try.q101 : (Try.prog.cellsOf 101 = 2) ∧ (Try.prog.bytesOf 101 = 16) ∧ (∀ (cs : List AV), partA Try.prog 101 cs = if (cs.take 2).length = 2 then some (.agg (cs.take 2)) else none) ∧ (tyOk Try.prog 101 = true) ∧ (zeroA Try.prog 101 = some [.int .i64 0, .int .i64 0]) ∧ (fieldOff Try.prog 101 0 = some (0, 3)) ∧ (fieldOff Try.prog 101 1 = some (1, 3)) ∧ (placesA Try.prog 101 = some [(0, 1), (1, 1)]) ∧ (∀ (a0 b0 : Int) (a1 b1 : Int), eqAgg Try.prog 101 [.int .i64 a0, .int .i64 a1] [.int .i64 b0, .int .i64 b1] = some ((decide (a0 = b0) && (decide (a1 = b1) && true)))) := ⟨Try.cs101, Try.bt101, Try.pa101, Try.ty101, Try.zr101, Try.fd101_0, Try.fd101_1, Try.pl101, Try.eq101⟩
theorem Try.q102 : (Try.prog.underlying 102 = some (.slice 101)) ∧ (Try.prog.cellsOf 102 = 1) ∧ (Try.prog.bytesOf 102 = 24) ∧ (∀ (c : AV) (cs : List AV), partA Try.prog 102 (c :: cs) = some c) ∧ (tyOk Try.prog 102 = true) ∧ (sliceElem Try.prog 102 = some (101, 2)) ∧ (zeroA Try.prog 102 = some [.nils]) := ⟨Try.underlying102, Try.cs102, Try.bt102, Try.pa102, Try.ty102, Try.sl102, Try.zr102⟩
theorem Try.q103 : (Try.prog.cellsOf 103 = 1) ∧ (Try.prog.bytesOf 103 = 8) ∧ (∀ (c : AV) (cs : List AV), partA Try.prog 103 (c :: cs) = some c) ∧ (tyOk Try.prog 103 = true) ∧ (zeroA Try.prog 103 = some [.nilf]) := ⟨Try.cs103, Try.bt103, Try.pa103, Try.ty103, Try.zr103⟩
theorem Try.q104 : (Try.prog.cellsOf 104 = 1) ∧ (Try.prog.bytesOf 104 = 8) ∧ (∀ (c : AV) (cs : List AV), partA Try.prog 104 (c :: cs) = some c) ∧ (tyOk Try.prog 104 = true) ∧ (zeroA Try.prog 104 = some [.nilf]) := ⟨Try.cs104, Try.bt104, Try.pa104, Try.ty104, Try.zr104⟩
theorem Try.q105 : (Try.prog.cellsOf 105 = 1) ∧ (Try.prog.bytesOf 105 = 8) ∧ (∀ (c : AV) (cs : List AV), partA Try.prog 105 (c :: cs) = some c) ∧ (tyOk Try.prog 105 = true) ∧ (zeroA Try.prog 105 = some [.nilf]) := ⟨Try.cs105, Try.bt105, Try.pa105, Try.ty105, Try.zr105⟩
theorem Try.q106 : (Try.prog.cellsOf 106 = 1) ∧ (Try.prog.bytesOf 106 = 8) ∧ (∀ (c : AV) (cs : List AV), partA Try.prog 106 (c :: cs) = some c) ∧ (tyOk Try.prog 106 = true) ∧ (zeroA Try.prog 106 = some [.nilf]) := ⟨Try.cs106, Try.bt106, Try.pa106, Try.ty106, Try.zr106⟩
theorem Try.q107 : (Try.prog.cellsOf 107 = 1) ∧ (Try.prog.bytesOf 107 = 8) ∧ (∀ (c : AV) (cs : List AV), partA Try.prog 107 (c :: cs) = some c) ∧ (tyOk Try.prog 107 = true) ∧ (zeroA Try.prog 107 = some [.nilf]) := ⟨Try.cs107, Try.bt107, Try.pa107, Try.ty107, Try.zr107⟩
theorem Try.q108 : (Try.prog.cellsOf 108 = 1) ∧ (Try.prog.bytesOf 108 = 8) ∧ (∀ (c : AV) (cs : List AV), partA Try.prog 108 (c :: cs) = some c) ∧ (tyOk Try.prog 108 = true) ∧ (zeroA Try.prog 108 = some [.nilf]) := ⟨Try.cs108, Try.bt108, Try.pa108, Try.ty108, Try.zr108⟩
theorem Try.q109 : (Try.prog.cellsOf 109 = 4) ∧ (Try.prog.bytesOf 109 = 40) ∧ (∀ (cs : List AV), partA Try.prog 109 cs = if (cs.take 4).length = 4 then some (.agg (cs.take 4)) else none) ∧ (tyOk Try.prog 109 = true) ∧ (zeroA Try.prog 109 = some [.nilp, .nilp, .nilp, .str []]) ∧ (fieldOff Try.prog 109 0 = some (0, 17)) ∧ (fieldOff Try.prog 109 1 = some (1, 17)) ∧ (fieldOff Try.prog 109 2 = some (2, 17)) ∧ (fieldOff Try.prog 109 3 = some (3, 9)) ∧ (placesA Try.prog 109 = some [(0, 1), (1, 1), (2, 1), (3, 1)]) := ⟨Try.cs109, Try.bt109, Try.pa109, Try.ty109, Try.zr109, Try.fd109_0, Try.fd109_1, Try.fd109_2, Try.fd109_3, Try.pl109⟩
theorem Try.q110 : (Try.prog.cellsOf 110 = 4) ∧ (Try.prog.bytesOf 110 = 40) ∧ (∀ (cs : List AV), partA Try.prog 110 cs = if (cs.take 4).length = 4 then some (.agg (cs.take 4)) else none) ∧ (tyOk Try.prog 110 = true) ∧ (zeroA Try.prog 110 = some [.nilp, .nilp, .nilp, .str []]) ∧ (fieldOff Try.prog 110 0 = some (0, 17)) ∧ (fieldOff Try.prog 110 1 = some (1, 17)) ∧ (fieldOff Try.prog 110 2 = some (2, 17)) ∧ (fieldOff Try.prog 110 3 = some (3, 9)) ∧ (placesA Try.prog 110 = some [(0, 1), (1, 1), (2, 1), (3, 1)]) := ⟨Try.cs110, Try.bt110, Try.pa110, Try.ty110, Try.zr110, Try.fd110_0, Try.fd110_1, Try.fd110_2, Try.fd110_3, Try.pl110⟩
theorem Try.q111 : (Try.prog.cellsOf 111 = 0) ∧ (Try.prog.bytesOf 111 = 0) ∧ (tyOk Try.prog 111 = true) ∧ (sliceElem Try.prog 111 = none) ∧ (arrElem Try.prog 111 = some (0, 1)) ∧ (zeroA Try.prog 111 = some []) ∧ (placesA Try.prog 111 = some []) := ⟨Try.cs111, Try.bt111, Try.ty111, Try.sl111, Try.ar111, Try.zr111, Try.pl111⟩
theorem Try.q112 : (Try.prog.cellsOf 112 = 0) ∧ (Try.prog.bytesOf 112 = 0) ∧ (tyOk Try.prog 112 = true) ∧ (zeroA Try.prog 112 = some []) ∧ (placesA Try.prog 112 = some [(0, 0)]) := ⟨Try.cs112, Try.bt112, Try.ty112, Try.zr112, Try.pl112⟩
theorem Try.q113 : (Try.prog.cellsOf 113 = 0) ∧ (Try.prog.bytesOf 113 = 0) ∧ (tyOk Try.prog 113 = true) ∧ (zeroA Try.prog 113 = some []) ∧ (placesA Try.prog 113 = some [(0, 0)]) := ⟨Try.cs113, Try.bt113, Try.ty113, Try.zr113, Try.pl113⟩
theorem Try.q114 : (Try.prog.cellsOf 114 = 1) ∧ (Try.prog.bytesOf 114 = 8) ∧ (∀ (c : AV) (cs : List AV), partA Try.prog 114 (c :: cs) = some c) ∧ (tyOk Try.prog 114 = true) ∧ (zeroA Try.prog 114 = some [.nilf]) := ⟨Try.cs114, Try.bt114, Try.pa114, Try.ty114, Try.zr114⟩
theorem Try.q115 : (Try.prog.underlying 115 = some (.int .u32)) ∧ (Try.prog.cellsOf 115 = 1) ∧ (Try.prog.bytesOf 115 = 4) ∧ (∀ (c : AV) (cs : List AV), partA Try.prog 115 (c :: cs) = some c) ∧ (zeroA Try.prog 115 = some [.int .u32 0]) := ⟨Try.underlying115, Try.cs115, Try.bt115, Try.pa115, Try.zr115⟩
theorem Try.q116 : (Try.prog.underlying 116 = some (.int .u8)) ∧ (Try.prog.cellsOf 116 = 1) ∧ (Try.prog.bytesOf 116 = 1) ∧ (∀ (c : AV) (cs : List AV), partA Try.prog 116 (c :: cs) = some c) ∧ (zeroA Try.prog 116 = some [.int .u8 0]) := ⟨Try.underlying116, Try.cs116, Try.bt116, Try.pa116, Try.zr116⟩
theorem Try.q117 : (Try.prog.underlying 117 = some (.int .u8)) ∧ (Try.prog.cellsOf 117 = 1) ∧ (Try.prog.bytesOf 117 = 1) ∧ (∀ (c : AV) (cs : List AV), partA Try.prog 117 (c :: cs) = some c) ∧ (zeroA Try.prog 117 = some [.int .u8 0]) := ⟨Try.underlying117, Try.cs117, Try.bt117, Try.pa117, Try.zr117⟩
theorem Try.q118 : (Try.prog.cellsOf 118 = 1) ∧ (Try.prog.bytesOf 118 = 8) ∧ (∀ (c : AV) (cs : List AV), partA Try.prog 118 (c :: cs) = some c) ∧ (tyOk Try.prog 118 = true) ∧ (zeroA Try.prog 118 = some [.nilf]) := ⟨Try.cs118, Try.bt118, Try.pa118, Try.ty118, Try.zr118⟩
theorem Try.q119 : (Try.prog.underlying 119 = some (.pointer 5)) ∧ (Try.prog.cellsOf 119 = 1) ∧ (Try.prog.bytesOf 119 = 8) ∧ (∀ (c : AV) (cs : List AV), partA Try.prog 119 (c :: cs) = some c) ∧ (tyOk Try.prog 119 = true) ∧ (zeroA Try.prog 119 = some [.nilp]) := ⟨Try.underlying119, Try.cs119, Try.bt119, Try.pa119, Try.ty119, Try.zr119⟩
theorem Try.q120 : (Try.prog.underlying 120 = some (.int .i32)) ∧ (Try.prog.cellsOf 120 = 1) ∧ (Try.prog.bytesOf 120 = 4) ∧ (∀ (c : AV) (cs : List AV), partA Try.prog 120 (c :: cs) = some c) ∧ (zeroA Try.prog 120 = some [.int .i32 0]) := ⟨Try.underlying120, Try.cs120, Try.bt120, Try.pa120, Try.zr120⟩
theorem Try.q121 : (Try.prog.underlying 121 = some (.int .i32)) ∧ (Try.prog.cellsOf 121 = 1) ∧ (Try.prog.bytesOf 121 = 4) ∧ (∀ (c : AV) (cs : List AV), partA Try.prog 121 (c :: cs) = some c) ∧ (zeroA Try.prog 121 = some [.int .i32 0]) := ⟨Try.underlying121, Try.cs121, Try.bt121, Try.pa121, Try.zr121⟩
theorem Try.q122 : (Try.prog.cellsOf 122 = 11) ∧ (Try.prog.bytesOf 122 = 48) ∧ (∀ (cs : List AV), partA Try.prog 122 cs = if (cs.take 11).length = 11 then some (.agg (cs.take 11)) else none) ∧ (tyOk Try.prog 122 = true) ∧ (zeroA Try.prog 122 = some [.int .u64 0, .int .u64 0, .int .u32 0, .int .u8 0, .int .u8 0, .int .u8 0, .int .u8 0, .nilf, .nilp, .int .i32 0, .int .i32 0]) ∧ (fieldOff Try.prog 122 0 = some (0, 12)) ∧ (fieldOff Try.prog 122 1 = some (1, 12)) ∧ (fieldOff Try.prog 122 2 = some (2, 115)) ∧ (fieldOff Try.prog 122 3 = some (3, 116)) ∧ (fieldOff Try.prog 122 4 = some (4, 5)) ∧ (fieldOff Try.prog 122 5 = some (5, 5)) ∧ (fieldOff Try.prog 122 6 = some (6, 117)) ∧ (fieldOff Try.prog 122 7 = some (7, 118)) ∧ (fieldOff Try.prog 122 8 = some (8, 119)) ∧ (fieldOff Try.prog 122 9 = some (9, 120)) ∧ (fieldOff Try.prog 122 10 = some (10, 121)) ∧ (placesA Try.prog 122 = some [(0, 1), (1, 1), (2, 1), (3, 1), (4, 1), (5, 1), (6, 1), (7, 1), (8, 1), (9, 1), (10, 1)]) := ⟨Try.cs122, Try.bt122, Try.pa122, Try.ty122, Try.zr122, Try.fd122_0, Try.fd122_1, Try.fd122_2, Try.fd122_3, Try.fd122_4, Try.fd122_5, Try.fd122_6, Try.fd122_7, Try.fd122_8, Try.fd122_9, Try.fd122_10, Try.pl122⟩
theorem Try.q123 : (Try.prog.cellsOf 123 = 11) ∧ (Try.prog.bytesOf 123 = 48) ∧ (∀ (cs : List AV), partA Try.prog 123 cs = if (cs.take 11).length = 11 then some (.agg (cs.take 11)) else none) ∧ (tyOk Try.prog 123 = true) ∧ (zeroA Try.prog 123 = some [.int .u64 0, .int .u64 0, .int .u32 0, .int .u8 0, .int .u8 0, .int .u8 0, .int .u8 0, .nilf, .nilp, .int .i32 0, .int .i32 0]) ∧ (fieldOff Try.prog 123 0 = some (0, 12)) ∧ (fieldOff Try.prog 123 1 = some (1, 12)) ∧ (fieldOff Try.prog 123 2 = some (2, 115)) ∧ (fieldOff Try.prog 123 3 = some (3, 116)) ∧ (fieldOff Try.prog 123 4 = some (4, 5)) ∧ (fieldOff Try.prog 123 5 = some (5, 5)) ∧ (fieldOff Try.prog 123 6 = some (6, 117)) ∧ (fieldOff Try.prog 123 7 = some (7, 118)) ∧ (fieldOff Try.prog 123 8 = some (8, 119)) ∧ (fieldOff Try.prog 123 9 = some (9, 120)) ∧ (fieldOff Try.prog 123 10 = some (10, 121)) ∧ (placesA Try.prog 123 = some [(0, 1), (1, 1), (2, 1), (3, 1), (4, 1), (5, 1), (6, 1), (7, 1), (8, 1), (9, 1), (10, 1)]) := ⟨Try.cs123, Try.bt123, Try.pa123, Try.ty123, Try.zr123, Try.fd123_0, Try.fd123_1, Try.fd123_2, Try.fd123_3, Try.fd123_4, Try.fd123_5, Try.fd123_6, Try.fd123_7, Try.fd123_8, Try.fd123_9, Try.fd123_10, Try.pl123⟩
theorem Try.q124 : (Try.prog.cellsOf 124 = 1) ∧ (Try.prog.bytesOf 124 = 8) ∧ (∀ (c : AV) (cs : List AV), partA Try.prog 124 (c :: cs) = some c) ∧ (tyOk Try.prog 124 = true) ∧ (zeroA Try.prog 124 = some [.nilp]) := ⟨Try.cs124, Try.bt124, Try.pa124, Try.ty124, Try.zr124⟩
end Go.Proofs
