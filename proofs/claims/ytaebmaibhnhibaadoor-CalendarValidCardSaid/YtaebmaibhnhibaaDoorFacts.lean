/-
  The facts about the program's types that the reckoning needs.
-/
import Derived.Test.YtaebmaibhnhibaaDoorChecked
import Derived.Test.YtaebmaibhnhibaaDoorAbsC
namespace Go.Proofs
open Go.Pa
instance globTable : GTab := ⟨fun g => match g with | 0 => [Value.int .i64 31, Value.int .i64 28, Value.int .i64 31, Value.int .i64 30, Value.int .i64 31, Value.int .i64 30, Value.int .i64 31, Value.int .i64 31, Value.int .i64 30, Value.int .i64 31, Value.int .i64 30, Value.int .i64 31] | _ => []⟩
theorem Tryd.gl0 : globA 0 = .iptr [.int .i64 31, .int .i64 28, .int .i64 31, .int .i64 30, .int .i64 31, .int .i64 30, .int .i64 31, .int .i64 31, .int .i64 30, .int .i64 31, .int .i64 30, .int .i64 31] := by rfl
theorem Tryd.mixed : Tryd.prog.follows .mixedOrders = true := by kernel_rfl
theorem Tryd.cs0 : Tryd.prog.cellsOf 0 = 1 := by kernel_rfl
theorem Tryd.bt0 : Tryd.prog.bytesOf 0 = 0 := by kernel_rfl
theorem Tryd.cs1 : Tryd.prog.cellsOf 1 = 1 := by kernel_rfl
theorem Tryd.bt1 : Tryd.prog.bytesOf 1 = 8 := by kernel_rfl
theorem Tryd.pa1 (c : AV) (cs : List AV) : partA Tryd.prog 1 (c :: cs) = some c := by simp only [partA, Tryd.underlying1]
theorem Tryd.ty1 : tyOk Tryd.prog 1 = true := by kernel_rfl
theorem Tryd.zr1 : zeroA Tryd.prog 1 = some [.nilf] := by kernel_rfl
theorem Tryd.cs2 : Tryd.prog.cellsOf 2 = 1 := by kernel_rfl
theorem Tryd.bt2 : Tryd.prog.bytesOf 2 = 8 := by kernel_rfl
theorem Tryd.pa2 (c : AV) (cs : List AV) : partA Tryd.prog 2 (c :: cs) = some c := by simp only [partA, Tryd.underlying2]
theorem Tryd.zr2 : zeroA Tryd.prog 2 = some [.int .i64 0] := by kernel_rfl
theorem Tryd.cs3 : Tryd.prog.cellsOf 3 = 1 := by kernel_rfl
theorem Tryd.bt3 : Tryd.prog.bytesOf 3 = 8 := by kernel_rfl
theorem Tryd.pa3 (c : AV) (cs : List AV) : partA Tryd.prog 3 (c :: cs) = some c := by simp only [partA, Tryd.underlying3]
theorem Tryd.zr3 : zeroA Tryd.prog 3 = some [.int .i64 0] := by kernel_rfl
theorem Tryd.cs4 : Tryd.prog.cellsOf 4 = 1 := by kernel_rfl
theorem Tryd.bt4 : Tryd.prog.bytesOf 4 = 1 := by kernel_rfl
theorem Tryd.pa4 (c : AV) (cs : List AV) : partA Tryd.prog 4 (c :: cs) = some c := by simp only [partA, Tryd.underlying4]
theorem Tryd.ty4 : tyOk Tryd.prog 4 = true := by kernel_rfl
theorem Tryd.zr4 : zeroA Tryd.prog 4 = some [.bool false] := by kernel_rfl
theorem Tryd.cs5 : Tryd.prog.cellsOf 5 = 1 := by kernel_rfl
theorem Tryd.bt5 : Tryd.prog.bytesOf 5 = 1 := by kernel_rfl
theorem Tryd.pa5 (c : AV) (cs : List AV) : partA Tryd.prog 5 (c :: cs) = some c := by simp only [partA, Tryd.underlying5]
theorem Tryd.zr5 : zeroA Tryd.prog 5 = some [.int .u8 0] := by kernel_rfl
theorem Tryd.cs6 : Tryd.prog.cellsOf 6 = 1 := by kernel_rfl
theorem Tryd.bt6 : Tryd.prog.bytesOf 6 = 1 := by kernel_rfl
theorem Tryd.pa6 (c : AV) (cs : List AV) : partA Tryd.prog 6 (c :: cs) = some c := by simp only [partA, Tryd.underlying6]
theorem Tryd.zr6 : zeroA Tryd.prog 6 = some [.int .u8 0] := by kernel_rfl
theorem Tryd.cs7 : Tryd.prog.cellsOf 7 = 4 := by kernel_rfl
theorem Tryd.bt7 : Tryd.prog.bytesOf 7 = 24 := by kernel_rfl
theorem Tryd.pa7 (cs : List AV) : partA Tryd.prog 7 cs = if (cs.take 4).length = 4 then some (.agg (cs.take 4)) else none := by simp only [partA, Tryd.underlying7, Tryd.cs7]; simp
theorem Tryd.ty7 : tyOk Tryd.prog 7 = true := by kernel_rfl
theorem Tryd.zr7 : zeroA Tryd.prog 7 = some [.int .i64 0, .int .i64 0, .bool false, .int .u8 0] := by kernel_rfl
theorem Tryd.fd7_0 : fieldOff Tryd.prog 7 0 = some (0, 2) := by kernel_rfl
theorem Tryd.fd7_1 : fieldOff Tryd.prog 7 1 = some (1, 3) := by kernel_rfl
theorem Tryd.fd7_2 : fieldOff Tryd.prog 7 2 = some (2, 4) := by kernel_rfl
theorem Tryd.fd7_3 : fieldOff Tryd.prog 7 3 = some (3, 6) := by kernel_rfl
theorem Tryd.pl7 : placesA Tryd.prog 7 = some [(0, 1), (1, 1), (2, 1), (3, 1)] := by kernel_rfl
theorem Tryd.cs8 : Tryd.prog.cellsOf 8 = 4 := by kernel_rfl
theorem Tryd.bt8 : Tryd.prog.bytesOf 8 = 24 := by kernel_rfl
theorem Tryd.pa8 (cs : List AV) : partA Tryd.prog 8 cs = if (cs.take 4).length = 4 then some (.agg (cs.take 4)) else none := by simp only [partA, Tryd.underlying8, Tryd.cs8]; simp
theorem Tryd.ty8 : tyOk Tryd.prog 8 = true := by kernel_rfl
theorem Tryd.zr8 : zeroA Tryd.prog 8 = some [.int .i64 0, .int .i64 0, .bool false, .int .u8 0] := by kernel_rfl
theorem Tryd.fd8_0 : fieldOff Tryd.prog 8 0 = some (0, 2) := by kernel_rfl
theorem Tryd.fd8_1 : fieldOff Tryd.prog 8 1 = some (1, 3) := by kernel_rfl
theorem Tryd.fd8_2 : fieldOff Tryd.prog 8 2 = some (2, 4) := by kernel_rfl
theorem Tryd.fd8_3 : fieldOff Tryd.prog 8 3 = some (3, 6) := by kernel_rfl
theorem Tryd.pl8 : placesA Tryd.prog 8 = some [(0, 1), (1, 1), (2, 1), (3, 1)] := by kernel_rfl
theorem Tryd.cs9 : Tryd.prog.cellsOf 9 = 1 := by kernel_rfl
theorem Tryd.bt9 : Tryd.prog.bytesOf 9 = 16 := by kernel_rfl
theorem Tryd.pa9 (c : AV) (cs : List AV) : partA Tryd.prog 9 (c :: cs) = some c := by simp only [partA, Tryd.underlying9]
theorem Tryd.ty9 : tyOk Tryd.prog 9 = true := by kernel_rfl
theorem Tryd.zr9 : zeroA Tryd.prog 9 = some [.str []] := by kernel_rfl
theorem Tryd.cs10 : Tryd.prog.cellsOf 10 = 1 := by kernel_rfl
theorem Tryd.bt10 : Tryd.prog.bytesOf 10 = 16 := by kernel_rfl
theorem Tryd.pa10 (c : AV) (cs : List AV) : partA Tryd.prog 10 (c :: cs) = some c := by simp only [partA, Tryd.underlying10]
theorem Tryd.ty10 : tyOk Tryd.prog 10 = true := by kernel_rfl
theorem Tryd.zr10 : zeroA Tryd.prog 10 = some [.str []] := by kernel_rfl
theorem Tryd.cs11 : Tryd.prog.cellsOf 11 = 1 := by kernel_rfl
theorem Tryd.bt11 : Tryd.prog.bytesOf 11 = 16 := by kernel_rfl
theorem Tryd.pa11 (c : AV) (cs : List AV) : partA Tryd.prog 11 (c :: cs) = some c := by simp only [partA, Tryd.underlying11]
theorem Tryd.ty11 : tyOk Tryd.prog 11 = true := by kernel_rfl
theorem Tryd.zr11 : zeroA Tryd.prog 11 = some [.str []] := by kernel_rfl
theorem Tryd.cs12 : Tryd.prog.cellsOf 12 = 1 := by kernel_rfl
theorem Tryd.bt12 : Tryd.prog.bytesOf 12 = 8 := by kernel_rfl
theorem Tryd.pa12 (c : AV) (cs : List AV) : partA Tryd.prog 12 (c :: cs) = some c := by simp only [partA, Tryd.underlying12]
theorem Tryd.zr12 : zeroA Tryd.prog 12 = some [.int .u64 0] := by kernel_rfl
theorem Tryd.cs13 : Tryd.prog.cellsOf 13 = 2 := by kernel_rfl
theorem Tryd.bt13 : Tryd.prog.bytesOf 13 = 24 := by kernel_rfl
theorem Tryd.pa13 (cs : List AV) : partA Tryd.prog 13 cs = if (cs.take 2).length = 2 then some (.agg (cs.take 2)) else none := by simp only [partA, Tryd.underlying13, Tryd.cs13]; simp
theorem Tryd.ty13 : tyOk Tryd.prog 13 = true := by kernel_rfl
theorem Tryd.zr13 : zeroA Tryd.prog 13 = some [.str [], .int .u64 0] := by kernel_rfl
theorem Tryd.fd13_0 : fieldOff Tryd.prog 13 0 = some (0, 9) := by kernel_rfl
theorem Tryd.fd13_1 : fieldOff Tryd.prog 13 1 = some (1, 12) := by kernel_rfl
theorem Tryd.pl13 : placesA Tryd.prog 13 = some [(0, 1), (1, 1)] := by kernel_rfl
theorem Tryd.cs14 : Tryd.prog.cellsOf 14 = 2 := by kernel_rfl
theorem Tryd.bt14 : Tryd.prog.bytesOf 14 = 24 := by kernel_rfl
theorem Tryd.pa14 (cs : List AV) : partA Tryd.prog 14 cs = if (cs.take 2).length = 2 then some (.agg (cs.take 2)) else none := by simp only [partA, Tryd.underlying14, Tryd.cs14]; simp
theorem Tryd.ty14 : tyOk Tryd.prog 14 = true := by kernel_rfl
theorem Tryd.zr14 : zeroA Tryd.prog 14 = some [.str [], .int .u64 0] := by kernel_rfl
theorem Tryd.fd14_0 : fieldOff Tryd.prog 14 0 = some (0, 9) := by kernel_rfl
theorem Tryd.fd14_1 : fieldOff Tryd.prog 14 1 = some (1, 12) := by kernel_rfl
theorem Tryd.pl14 : placesA Tryd.prog 14 = some [(0, 1), (1, 1)] := by kernel_rfl
theorem Tryd.cs15 : Tryd.prog.cellsOf 15 = 1 := by kernel_rfl
theorem Tryd.bt15 : Tryd.prog.bytesOf 15 = 8 := by kernel_rfl
theorem Tryd.pa15 (c : AV) (cs : List AV) : partA Tryd.prog 15 (c :: cs) = some c := by simp only [partA, Tryd.underlying15]
theorem Tryd.ty15 : tyOk Tryd.prog 15 = true := by kernel_rfl
theorem Tryd.zr15 : zeroA Tryd.prog 15 = some [.nilp] := by kernel_rfl
theorem Tryd.cs16 : Tryd.prog.cellsOf 16 = 1 := by kernel_rfl
theorem Tryd.bt16 : Tryd.prog.bytesOf 16 = 8 := by kernel_rfl
theorem Tryd.pa16 (c : AV) (cs : List AV) : partA Tryd.prog 16 (c :: cs) = some c := by simp only [partA, Tryd.underlying16]
theorem Tryd.ty16 : tyOk Tryd.prog 16 = true := by kernel_rfl
theorem Tryd.zr16 : zeroA Tryd.prog 16 = some [.nilp] := by kernel_rfl
theorem Tryd.cs17 : Tryd.prog.cellsOf 17 = 1 := by kernel_rfl
theorem Tryd.bt17 : Tryd.prog.bytesOf 17 = 8 := by kernel_rfl
theorem Tryd.pa17 (c : AV) (cs : List AV) : partA Tryd.prog 17 (c :: cs) = some c := by simp only [partA, Tryd.underlying17]
theorem Tryd.ty17 : tyOk Tryd.prog 17 = true := by kernel_rfl
theorem Tryd.zr17 : zeroA Tryd.prog 17 = some [.nilp] := by kernel_rfl
theorem Tryd.cs18 : Tryd.prog.cellsOf 18 = 1 := by kernel_rfl
theorem Tryd.bt18 : Tryd.prog.bytesOf 18 = 8 := by kernel_rfl
theorem Tryd.pa18 (cs : List AV) : partA Tryd.prog 18 cs = if (cs.take 1).length = 1 then some (.agg (cs.take 1)) else none := by simp only [partA, Tryd.underlying18, Tryd.cs18]; simp
theorem Tryd.ty18 : tyOk Tryd.prog 18 = true := by kernel_rfl
theorem Tryd.zr18 : zeroA Tryd.prog 18 = some [.nilp] := by kernel_rfl
theorem Tryd.fd18_0 : fieldOff Tryd.prog 18 0 = some (0, 17) := by kernel_rfl
theorem Tryd.pl18 : placesA Tryd.prog 18 = some [(0, 1)] := by kernel_rfl
theorem Tryd.cs19 : Tryd.prog.cellsOf 19 = 1 := by kernel_rfl
theorem Tryd.bt19 : Tryd.prog.bytesOf 19 = 8 := by kernel_rfl
theorem Tryd.pa19 (cs : List AV) : partA Tryd.prog 19 cs = if (cs.take 1).length = 1 then some (.agg (cs.take 1)) else none := by simp only [partA, Tryd.underlying19, Tryd.cs19]; simp
theorem Tryd.ty19 : tyOk Tryd.prog 19 = true := by kernel_rfl
theorem Tryd.zr19 : zeroA Tryd.prog 19 = some [.nilp] := by kernel_rfl
theorem Tryd.fd19_0 : fieldOff Tryd.prog 19 0 = some (0, 17) := by kernel_rfl
theorem Tryd.pl19 : placesA Tryd.prog 19 = some [(0, 1)] := by kernel_rfl
theorem Tryd.cs20 : Tryd.prog.cellsOf 20 = 1 := by kernel_rfl
theorem Tryd.bt20 : Tryd.prog.bytesOf 20 = 16 := by kernel_rfl
theorem Tryd.pa20 (c : AV) (cs : List AV) : partA Tryd.prog 20 (c :: cs) = some c := by simp only [partA, Tryd.underlying20]
theorem Tryd.cs21 : Tryd.prog.cellsOf 21 = 1 := by kernel_rfl
theorem Tryd.bt21 : Tryd.prog.bytesOf 21 = 4 := by kernel_rfl
theorem Tryd.pa21 (c : AV) (cs : List AV) : partA Tryd.prog 21 (c :: cs) = some c := by simp only [partA, Tryd.underlying21]
theorem Tryd.zr21 : zeroA Tryd.prog 21 = some [.int .i32 0] := by kernel_rfl
theorem Tryd.cs22 : Tryd.prog.cellsOf 22 = 1 := by kernel_rfl
theorem Tryd.bt22 : Tryd.prog.bytesOf 22 = 24 := by kernel_rfl
theorem Tryd.pa22 (c : AV) (cs : List AV) : partA Tryd.prog 22 (c :: cs) = some c := by simp only [partA, Tryd.underlying22]
theorem Tryd.ty22 : tyOk Tryd.prog 22 = true := by kernel_rfl
theorem Tryd.sl22 : sliceElem Tryd.prog 22 = some (3, 1) := by kernel_rfl
theorem Tryd.zr22 : zeroA Tryd.prog 22 = some [.nils] := by kernel_rfl
theorem Tryd.cs23 : Tryd.prog.cellsOf 23 = 1 := by kernel_rfl
theorem Tryd.bt23 : Tryd.prog.bytesOf 23 = 24 := by kernel_rfl
theorem Tryd.pa23 (c : AV) (cs : List AV) : partA Tryd.prog 23 (c :: cs) = some c := by simp only [partA, Tryd.underlying23]
theorem Tryd.ty23 : tyOk Tryd.prog 23 = true := by kernel_rfl
theorem Tryd.sl23 : sliceElem Tryd.prog 23 = some (58, 3) := by kernel_rfl
theorem Tryd.zr23 : zeroA Tryd.prog 23 = some [.nils] := by kernel_rfl
theorem Tryd.cs24 : Tryd.prog.cellsOf 24 = 2 := by kernel_rfl
theorem Tryd.bt24 : Tryd.prog.bytesOf 24 = 48 := by kernel_rfl
theorem Tryd.pa24 (cs : List AV) : partA Tryd.prog 24 cs = if (cs.take 2).length = 2 then some (.agg (cs.take 2)) else none := by simp only [partA, Tryd.underlying24, Tryd.cs24]; simp
theorem Tryd.ty24 : tyOk Tryd.prog 24 = true := by kernel_rfl
theorem Tryd.zr24 : zeroA Tryd.prog 24 = some [.nils, .nils] := by kernel_rfl
theorem Tryd.fd24_0 : fieldOff Tryd.prog 24 0 = some (0, 22) := by kernel_rfl
theorem Tryd.fd24_1 : fieldOff Tryd.prog 24 1 = some (1, 23) := by kernel_rfl
theorem Tryd.pl24 : placesA Tryd.prog 24 = some [(0, 1), (1, 1)] := by kernel_rfl
theorem Tryd.cs25 : Tryd.prog.cellsOf 25 = 2 := by kernel_rfl
theorem Tryd.bt25 : Tryd.prog.bytesOf 25 = 48 := by kernel_rfl
theorem Tryd.pa25 (cs : List AV) : partA Tryd.prog 25 cs = if (cs.take 2).length = 2 then some (.agg (cs.take 2)) else none := by simp only [partA, Tryd.underlying25, Tryd.cs25]; simp
theorem Tryd.ty25 : tyOk Tryd.prog 25 = true := by kernel_rfl
theorem Tryd.zr25 : zeroA Tryd.prog 25 = some [.nils, .nils] := by kernel_rfl
theorem Tryd.fd25_0 : fieldOff Tryd.prog 25 0 = some (0, 22) := by kernel_rfl
theorem Tryd.fd25_1 : fieldOff Tryd.prog 25 1 = some (1, 23) := by kernel_rfl
theorem Tryd.pl25 : placesA Tryd.prog 25 = some [(0, 1), (1, 1)] := by kernel_rfl
theorem Tryd.cs26 : Tryd.prog.cellsOf 26 = 1 := by kernel_rfl
theorem Tryd.bt26 : Tryd.prog.bytesOf 26 = 8 := by kernel_rfl
theorem Tryd.pa26 (c : AV) (cs : List AV) : partA Tryd.prog 26 (c :: cs) = some c := by simp only [partA, Tryd.underlying26]
theorem Tryd.ty26 : tyOk Tryd.prog 26 = true := by kernel_rfl
theorem Tryd.zr26 : zeroA Tryd.prog 26 = some [.nilf] := by kernel_rfl
theorem Tryd.cs27 : Tryd.prog.cellsOf 27 = 1 := by kernel_rfl
theorem Tryd.bt27 : Tryd.prog.bytesOf 27 = 8 := by kernel_rfl
theorem Tryd.pa27 (c : AV) (cs : List AV) : partA Tryd.prog 27 (c :: cs) = some c := by simp only [partA, Tryd.underlying27]
theorem Tryd.ty27 : tyOk Tryd.prog 27 = true := by kernel_rfl
theorem Tryd.zr27 : zeroA Tryd.prog 27 = some [.nilf] := by kernel_rfl
theorem Tryd.cs28 : Tryd.prog.cellsOf 28 = 1 := by kernel_rfl
theorem Tryd.bt28 : Tryd.prog.bytesOf 28 = 24 := by kernel_rfl
theorem Tryd.pa28 (c : AV) (cs : List AV) : partA Tryd.prog 28 (c :: cs) = some c := by simp only [partA, Tryd.underlying28]
theorem Tryd.ty28 : tyOk Tryd.prog 28 = true := by kernel_rfl
theorem Tryd.sl28 : sliceElem Tryd.prog 28 = some (50, 19) := by kernel_rfl
theorem Tryd.zr28 : zeroA Tryd.prog 28 = some [.nils] := by kernel_rfl
theorem Tryd.cs29 : Tryd.prog.cellsOf 29 = 1 := by kernel_rfl
theorem Tryd.bt29 : Tryd.prog.bytesOf 29 = 8 := by kernel_rfl
theorem Tryd.pa29 (c : AV) (cs : List AV) : partA Tryd.prog 29 (c :: cs) = some c := by simp only [partA, Tryd.underlying29]
theorem Tryd.ty29 : tyOk Tryd.prog 29 = true := by kernel_rfl
theorem Tryd.zr29 : zeroA Tryd.prog 29 = some [.nilf] := by kernel_rfl
theorem Tryd.cs30 : Tryd.prog.cellsOf 30 = 1 := by kernel_rfl
theorem Tryd.bt30 : Tryd.prog.bytesOf 30 = 8 := by kernel_rfl
theorem Tryd.pa30 (c : AV) (cs : List AV) : partA Tryd.prog 30 (c :: cs) = some c := by simp only [partA, Tryd.underlying30]
theorem Tryd.zr30 : zeroA Tryd.prog 30 = some [.int .i64 0] := by kernel_rfl
theorem Tryd.cs31 : Tryd.prog.cellsOf 31 = 1 := by kernel_rfl
theorem Tryd.bt31 : Tryd.prog.bytesOf 31 = 0 := by kernel_rfl
theorem Tryd.cs32 : Tryd.prog.cellsOf 32 = 1 := by kernel_rfl
theorem Tryd.bt32 : Tryd.prog.bytesOf 32 = 8 := by kernel_rfl
theorem Tryd.pa32 (c : AV) (cs : List AV) : partA Tryd.prog 32 (c :: cs) = some c := by simp only [partA, Tryd.underlying32]
theorem Tryd.ty32 : tyOk Tryd.prog 32 = true := by kernel_rfl
theorem Tryd.zr32 : zeroA Tryd.prog 32 = some [.nilf] := by kernel_rfl
theorem Tryd.cs33 : Tryd.prog.cellsOf 33 = 2 := by kernel_rfl
theorem Tryd.bt33 : Tryd.prog.bytesOf 33 = 48 := by kernel_rfl
theorem Tryd.pa33 (cs : List AV) : partA Tryd.prog 33 cs = if (cs.take 2).length = 2 then some (.agg (cs.take 2)) else none := by simp only [partA, Tryd.underlying33, Tryd.cs33]; simp
theorem Tryd.ty33 : tyOk Tryd.prog 33 = true := by kernel_rfl
theorem Tryd.zr33 : zeroA Tryd.prog 33 = some [.nils, .nils] := by kernel_rfl
theorem Tryd.fd33_0 : fieldOff Tryd.prog 33 0 = some (0, 22) := by kernel_rfl
theorem Tryd.fd33_1 : fieldOff Tryd.prog 33 1 = some (1, 23) := by kernel_rfl
theorem Tryd.pl33 : placesA Tryd.prog 33 = some [(0, 1), (1, 1)] := by kernel_rfl
theorem Tryd.cs34 : Tryd.prog.cellsOf 34 = 1 := by kernel_rfl
theorem Tryd.bt34 : Tryd.prog.bytesOf 34 = 8 := by kernel_rfl
theorem Tryd.pa34 (c : AV) (cs : List AV) : partA Tryd.prog 34 (c :: cs) = some c := by simp only [partA, Tryd.underlying34]
theorem Tryd.ty34 : tyOk Tryd.prog 34 = true := by kernel_rfl
theorem Tryd.zr34 : zeroA Tryd.prog 34 = some [.nilf] := by kernel_rfl
theorem Tryd.cs35 : Tryd.prog.cellsOf 35 = 1 := by kernel_rfl
theorem Tryd.bt35 : Tryd.prog.bytesOf 35 = 8 := by kernel_rfl
theorem Tryd.pa35 (c : AV) (cs : List AV) : partA Tryd.prog 35 (c :: cs) = some c := by simp only [partA, Tryd.underlying35]
theorem Tryd.ty35 : tyOk Tryd.prog 35 = true := by kernel_rfl
theorem Tryd.zr35 : zeroA Tryd.prog 35 = some [.nilf] := by kernel_rfl
theorem Tryd.cs36 : Tryd.prog.cellsOf 36 = 1 := by kernel_rfl
theorem Tryd.bt36 : Tryd.prog.bytesOf 36 = 8 := by kernel_rfl
theorem Tryd.pa36 (c : AV) (cs : List AV) : partA Tryd.prog 36 (c :: cs) = some c := by simp only [partA, Tryd.underlying36]
theorem Tryd.ty36 : tyOk Tryd.prog 36 = true := by kernel_rfl
theorem Tryd.zr36 : zeroA Tryd.prog 36 = some [.nilf] := by kernel_rfl
theorem Tryd.cs37 : Tryd.prog.cellsOf 37 = 1 := by kernel_rfl
theorem Tryd.bt37 : Tryd.prog.bytesOf 37 = 8 := by kernel_rfl
theorem Tryd.pa37 (c : AV) (cs : List AV) : partA Tryd.prog 37 (c :: cs) = some c := by simp only [partA, Tryd.underlying37]
theorem Tryd.ty37 : tyOk Tryd.prog 37 = true := by kernel_rfl
theorem Tryd.zr37 : zeroA Tryd.prog 37 = some [.nilf] := by kernel_rfl
theorem Tryd.cs38 : Tryd.prog.cellsOf 38 = 1 := by kernel_rfl
theorem Tryd.bt38 : Tryd.prog.bytesOf 38 = 8 := by kernel_rfl
theorem Tryd.pa38 (c : AV) (cs : List AV) : partA Tryd.prog 38 (c :: cs) = some c := by simp only [partA, Tryd.underlying38]
theorem Tryd.ty38 : tyOk Tryd.prog 38 = true := by kernel_rfl
theorem Tryd.zr38 : zeroA Tryd.prog 38 = some [.nilf] := by kernel_rfl
theorem Tryd.cs39 : Tryd.prog.cellsOf 39 = 2 := by kernel_rfl
theorem Tryd.bt39 : Tryd.prog.bytesOf 39 = 16 := by kernel_rfl
theorem Tryd.pa39 (cs : List AV) : partA Tryd.prog 39 cs = if (cs.take 2).length = 2 then some (.agg (cs.take 2)) else none := by simp only [partA, Tryd.underlying39, Tryd.cs39]; simp
theorem Tryd.ty39 : tyOk Tryd.prog 39 = true := by kernel_rfl
theorem Tryd.zr39 : zeroA Tryd.prog 39 = some [.int .i64 0, .int .i64 0] := by kernel_rfl
theorem Tryd.fd39_0 : fieldOff Tryd.prog 39 0 = some (0, 3) := by kernel_rfl
theorem Tryd.fd39_1 : fieldOff Tryd.prog 39 1 = some (1, 3) := by kernel_rfl
theorem Tryd.pl39 : placesA Tryd.prog 39 = some [(0, 1), (1, 1)] := by kernel_rfl
theorem Tryd.cs40 : Tryd.prog.cellsOf 40 = 2 := by kernel_rfl
theorem Tryd.bt40 : Tryd.prog.bytesOf 40 = 16 := by kernel_rfl
theorem Tryd.pa40 (cs : List AV) : partA Tryd.prog 40 cs = if (cs.take 2).length = 2 then some (.agg (cs.take 2)) else none := by simp only [partA, Tryd.underlying40, Tryd.cs40]; simp
theorem Tryd.ty40 : tyOk Tryd.prog 40 = true := by kernel_rfl
theorem Tryd.zr40 : zeroA Tryd.prog 40 = some [.int .i64 0, .int .i64 0] := by kernel_rfl
theorem Tryd.fd40_0 : fieldOff Tryd.prog 40 0 = some (0, 3) := by kernel_rfl
theorem Tryd.fd40_1 : fieldOff Tryd.prog 40 1 = some (1, 3) := by kernel_rfl
theorem Tryd.pl40 : placesA Tryd.prog 40 = some [(0, 1), (1, 1)] := by kernel_rfl
theorem Tryd.eq40 (a0 b0 : Int) (a1 b1 : Int) : eqAgg Tryd.prog 40 [.int .i64 a0, .int .i64 a1] [.int .i64 b0, .int .i64 b1] = some ((decide (a0 = b0) && (decide (a1 = b1) && true))) := by kernel_rfl
theorem Tryd.cs41 : Tryd.prog.cellsOf 41 = 1 := by kernel_rfl
theorem Tryd.bt41 : Tryd.prog.bytesOf 41 = 24 := by kernel_rfl
theorem Tryd.pa41 (c : AV) (cs : List AV) : partA Tryd.prog 41 (c :: cs) = some c := by simp only [partA, Tryd.underlying41]
theorem Tryd.ty41 : tyOk Tryd.prog 41 = true := by kernel_rfl
theorem Tryd.sl41 : sliceElem Tryd.prog 41 = some (48, 4) := by kernel_rfl
theorem Tryd.zr41 : zeroA Tryd.prog 41 = some [.nils] := by kernel_rfl
theorem Tryd.cs42 : Tryd.prog.cellsOf 42 = 1 := by kernel_rfl
theorem Tryd.bt42 : Tryd.prog.bytesOf 42 = 24 := by kernel_rfl
theorem Tryd.pa42 (c : AV) (cs : List AV) : partA Tryd.prog 42 (c :: cs) = some c := by simp only [partA, Tryd.underlying42]
theorem Tryd.ty42 : tyOk Tryd.prog 42 = true := by kernel_rfl
theorem Tryd.sl42 : sliceElem Tryd.prog 42 = some (110, 5) := by kernel_rfl
theorem Tryd.zr42 : zeroA Tryd.prog 42 = some [.nils] := by kernel_rfl
theorem Tryd.cs43 : Tryd.prog.cellsOf 43 = 2 := by kernel_rfl
theorem Tryd.bt43 : Tryd.prog.bytesOf 43 = 48 := by kernel_rfl
theorem Tryd.pa43 (cs : List AV) : partA Tryd.prog 43 cs = if (cs.take 2).length = 2 then some (.agg (cs.take 2)) else none := by simp only [partA, Tryd.underlying43, Tryd.cs43]; simp
theorem Tryd.ty43 : tyOk Tryd.prog 43 = true := by kernel_rfl
theorem Tryd.zr43 : zeroA Tryd.prog 43 = some [.nils, .nils] := by kernel_rfl
theorem Tryd.fd43_0 : fieldOff Tryd.prog 43 0 = some (0, 41) := by kernel_rfl
theorem Tryd.fd43_1 : fieldOff Tryd.prog 43 1 = some (1, 42) := by kernel_rfl
theorem Tryd.pl43 : placesA Tryd.prog 43 = some [(0, 1), (1, 1)] := by kernel_rfl
theorem Tryd.cs44 : Tryd.prog.cellsOf 44 = 2 := by kernel_rfl
theorem Tryd.bt44 : Tryd.prog.bytesOf 44 = 48 := by kernel_rfl
theorem Tryd.pa44 (cs : List AV) : partA Tryd.prog 44 cs = if (cs.take 2).length = 2 then some (.agg (cs.take 2)) else none := by simp only [partA, Tryd.underlying44, Tryd.cs44]; simp
theorem Tryd.ty44 : tyOk Tryd.prog 44 = true := by kernel_rfl
theorem Tryd.zr44 : zeroA Tryd.prog 44 = some [.nils, .nils] := by kernel_rfl
theorem Tryd.fd44_0 : fieldOff Tryd.prog 44 0 = some (0, 41) := by kernel_rfl
theorem Tryd.fd44_1 : fieldOff Tryd.prog 44 1 = some (1, 42) := by kernel_rfl
theorem Tryd.pl44 : placesA Tryd.prog 44 = some [(0, 1), (1, 1)] := by kernel_rfl
theorem Tryd.cs45 : Tryd.prog.cellsOf 45 = 1 := by kernel_rfl
theorem Tryd.bt45 : Tryd.prog.bytesOf 45 = 24 := by kernel_rfl
theorem Tryd.pa45 (c : AV) (cs : List AV) : partA Tryd.prog 45 (c :: cs) = some c := by simp only [partA, Tryd.underlying45]
theorem Tryd.ty45 : tyOk Tryd.prog 45 = true := by kernel_rfl
theorem Tryd.sl45 : sliceElem Tryd.prog 45 = some (112, 2) := by kernel_rfl
theorem Tryd.zr45 : zeroA Tryd.prog 45 = some [.nils] := by kernel_rfl
theorem Tryd.cs46 : Tryd.prog.cellsOf 46 = 1 := by kernel_rfl
theorem Tryd.bt46 : Tryd.prog.bytesOf 46 = 24 := by kernel_rfl
theorem Tryd.pa46 (c : AV) (cs : List AV) : partA Tryd.prog 46 (c :: cs) = some c := by simp only [partA, Tryd.underlying46]
theorem Tryd.ty46 : tyOk Tryd.prog 46 = true := by kernel_rfl
theorem Tryd.sl46 : sliceElem Tryd.prog 46 = some (114, 8) := by kernel_rfl
theorem Tryd.zr46 : zeroA Tryd.prog 46 = some [.nils] := by kernel_rfl
theorem Tryd.cs47 : Tryd.prog.cellsOf 47 = 4 := by kernel_rfl
theorem Tryd.bt47 : Tryd.prog.bytesOf 47 = 64 := by kernel_rfl
theorem Tryd.pa47 (cs : List AV) : partA Tryd.prog 47 cs = if (cs.take 4).length = 4 then some (.agg (cs.take 4)) else none := by simp only [partA, Tryd.underlying47, Tryd.cs47]; simp
theorem Tryd.ty47 : tyOk Tryd.prog 47 = true := by kernel_rfl
theorem Tryd.zr47 : zeroA Tryd.prog 47 = some [.int .i64 0, .int .i64 0, .nils, .nils] := by kernel_rfl
theorem Tryd.fd47_0 : fieldOff Tryd.prog 47 0 = some (0, 3) := by kernel_rfl
theorem Tryd.fd47_1 : fieldOff Tryd.prog 47 1 = some (1, 3) := by kernel_rfl
theorem Tryd.fd47_2 : fieldOff Tryd.prog 47 2 = some (2, 46) := by kernel_rfl
theorem Tryd.fd47_3 : fieldOff Tryd.prog 47 3 = some (3, 41) := by kernel_rfl
theorem Tryd.pl47 : placesA Tryd.prog 47 = some [(0, 1), (1, 1), (2, 1), (3, 1)] := by kernel_rfl
theorem Tryd.cs48 : Tryd.prog.cellsOf 48 = 4 := by kernel_rfl
theorem Tryd.bt48 : Tryd.prog.bytesOf 48 = 64 := by kernel_rfl
theorem Tryd.pa48 (cs : List AV) : partA Tryd.prog 48 cs = if (cs.take 4).length = 4 then some (.agg (cs.take 4)) else none := by simp only [partA, Tryd.underlying48, Tryd.cs48]; simp
theorem Tryd.ty48 : tyOk Tryd.prog 48 = true := by kernel_rfl
theorem Tryd.zr48 : zeroA Tryd.prog 48 = some [.int .i64 0, .int .i64 0, .nils, .nils] := by kernel_rfl
theorem Tryd.fd48_0 : fieldOff Tryd.prog 48 0 = some (0, 3) := by kernel_rfl
theorem Tryd.fd48_1 : fieldOff Tryd.prog 48 1 = some (1, 3) := by kernel_rfl
theorem Tryd.fd48_2 : fieldOff Tryd.prog 48 2 = some (2, 46) := by kernel_rfl
theorem Tryd.fd48_3 : fieldOff Tryd.prog 48 3 = some (3, 41) := by kernel_rfl
theorem Tryd.pl48 : placesA Tryd.prog 48 = some [(0, 1), (1, 1), (2, 1), (3, 1)] := by kernel_rfl
theorem Tryd.cs49 : Tryd.prog.cellsOf 49 = 19 := by kernel_rfl
theorem Tryd.bt49 : Tryd.prog.bytesOf 49 = 248 := by kernel_rfl
theorem Tryd.pa49 (cs : List AV) : partA Tryd.prog 49 cs = if (cs.take 19).length = 19 then some (.agg (cs.take 19)) else none := by simp only [partA, Tryd.underlying49, Tryd.cs49]; simp
theorem Tryd.ty49 : tyOk Tryd.prog 49 = true := by kernel_rfl
theorem Tryd.zr49 : zeroA Tryd.prog 49 = some [.int .i64 0, .int .i64 0, .int .i64 0, .int .i64 0, .int .i64 0, .int .i64 0, .int .i64 0, .int .i64 0, .int .i64 0, .int .i64 0, .int .i64 0, .nils, .nils, .nils, .nils, .int .i64 0, .int .i64 0, .nils, .nils] := by kernel_rfl
theorem Tryd.fd49_0 : fieldOff Tryd.prog 49 0 = some (0, 3) := by kernel_rfl
theorem Tryd.fd49_1 : fieldOff Tryd.prog 49 1 = some (1, 3) := by kernel_rfl
theorem Tryd.fd49_2 : fieldOff Tryd.prog 49 2 = some (2, 3) := by kernel_rfl
theorem Tryd.fd49_3 : fieldOff Tryd.prog 49 3 = some (3, 3) := by kernel_rfl
theorem Tryd.fd49_4 : fieldOff Tryd.prog 49 4 = some (4, 3) := by kernel_rfl
theorem Tryd.fd49_5 : fieldOff Tryd.prog 49 5 = some (5, 3) := by kernel_rfl
theorem Tryd.fd49_6 : fieldOff Tryd.prog 49 6 = some (6, 3) := by kernel_rfl
theorem Tryd.fd49_7 : fieldOff Tryd.prog 49 7 = some (7, 3) := by kernel_rfl
theorem Tryd.fd49_8 : fieldOff Tryd.prog 49 8 = some (8, 3) := by kernel_rfl
theorem Tryd.fd49_9 : fieldOff Tryd.prog 49 9 = some (9, 40) := by kernel_rfl
theorem Tryd.fd49_10 : fieldOff Tryd.prog 49 10 = some (11, 44) := by kernel_rfl
theorem Tryd.fd49_11 : fieldOff Tryd.prog 49 11 = some (13, 42) := by kernel_rfl
theorem Tryd.fd49_12 : fieldOff Tryd.prog 49 12 = some (14, 45) := by kernel_rfl
theorem Tryd.fd49_13 : fieldOff Tryd.prog 49 13 = some (15, 48) := by kernel_rfl
theorem Tryd.pl49 : placesA Tryd.prog 49 = some [(0, 1), (1, 1), (2, 1), (3, 1), (4, 1), (5, 1), (6, 1), (7, 1), (8, 1), (9, 2), (11, 2), (13, 1), (14, 1), (15, 4)] := by kernel_rfl
theorem Tryd.cs50 : Tryd.prog.cellsOf 50 = 19 := by kernel_rfl
theorem Tryd.bt50 : Tryd.prog.bytesOf 50 = 248 := by kernel_rfl
theorem Tryd.pa50 (cs : List AV) : partA Tryd.prog 50 cs = if (cs.take 19).length = 19 then some (.agg (cs.take 19)) else none := by simp only [partA, Tryd.underlying50, Tryd.cs50]; simp
theorem Tryd.ty50 : tyOk Tryd.prog 50 = true := by kernel_rfl
theorem Tryd.zr50 : zeroA Tryd.prog 50 = some [.int .i64 0, .int .i64 0, .int .i64 0, .int .i64 0, .int .i64 0, .int .i64 0, .int .i64 0, .int .i64 0, .int .i64 0, .int .i64 0, .int .i64 0, .nils, .nils, .nils, .nils, .int .i64 0, .int .i64 0, .nils, .nils] := by kernel_rfl
theorem Tryd.fd50_0 : fieldOff Tryd.prog 50 0 = some (0, 3) := by kernel_rfl
theorem Tryd.fd50_1 : fieldOff Tryd.prog 50 1 = some (1, 3) := by kernel_rfl
theorem Tryd.fd50_2 : fieldOff Tryd.prog 50 2 = some (2, 3) := by kernel_rfl
theorem Tryd.fd50_3 : fieldOff Tryd.prog 50 3 = some (3, 3) := by kernel_rfl
theorem Tryd.fd50_4 : fieldOff Tryd.prog 50 4 = some (4, 3) := by kernel_rfl
theorem Tryd.fd50_5 : fieldOff Tryd.prog 50 5 = some (5, 3) := by kernel_rfl
theorem Tryd.fd50_6 : fieldOff Tryd.prog 50 6 = some (6, 3) := by kernel_rfl
theorem Tryd.fd50_7 : fieldOff Tryd.prog 50 7 = some (7, 3) := by kernel_rfl
theorem Tryd.fd50_8 : fieldOff Tryd.prog 50 8 = some (8, 3) := by kernel_rfl
theorem Tryd.fd50_9 : fieldOff Tryd.prog 50 9 = some (9, 40) := by kernel_rfl
theorem Tryd.fd50_10 : fieldOff Tryd.prog 50 10 = some (11, 44) := by kernel_rfl
theorem Tryd.fd50_11 : fieldOff Tryd.prog 50 11 = some (13, 42) := by kernel_rfl
theorem Tryd.fd50_12 : fieldOff Tryd.prog 50 12 = some (14, 45) := by kernel_rfl
theorem Tryd.fd50_13 : fieldOff Tryd.prog 50 13 = some (15, 48) := by kernel_rfl
theorem Tryd.pl50 : placesA Tryd.prog 50 = some [(0, 1), (1, 1), (2, 1), (3, 1), (4, 1), (5, 1), (6, 1), (7, 1), (8, 1), (9, 2), (11, 2), (13, 1), (14, 1), (15, 4)] := by kernel_rfl
theorem Tryd.cs51 : Tryd.prog.cellsOf 51 = 1 := by kernel_rfl
theorem Tryd.bt51 : Tryd.prog.bytesOf 51 = 0 := by kernel_rfl
theorem Tryd.cs52 : Tryd.prog.cellsOf 52 = 1 := by kernel_rfl
theorem Tryd.bt52 : Tryd.prog.bytesOf 52 = 8 := by kernel_rfl
theorem Tryd.pa52 (c : AV) (cs : List AV) : partA Tryd.prog 52 (c :: cs) = some c := by simp only [partA, Tryd.underlying52]
theorem Tryd.ty52 : tyOk Tryd.prog 52 = true := by kernel_rfl
theorem Tryd.zr52 : zeroA Tryd.prog 52 = some [.nilf] := by kernel_rfl
theorem Tryd.cs53 : Tryd.prog.cellsOf 53 = 1 := by kernel_rfl
theorem Tryd.bt53 : Tryd.prog.bytesOf 53 = 8 := by kernel_rfl
theorem Tryd.pa53 (c : AV) (cs : List AV) : partA Tryd.prog 53 (c :: cs) = some c := by simp only [partA, Tryd.underlying53]
theorem Tryd.ty53 : tyOk Tryd.prog 53 = true := by kernel_rfl
theorem Tryd.zr53 : zeroA Tryd.prog 53 = some [.nilf] := by kernel_rfl
theorem Tryd.cs54 : Tryd.prog.cellsOf 54 = 1 := by kernel_rfl
theorem Tryd.bt54 : Tryd.prog.bytesOf 54 = 8 := by kernel_rfl
theorem Tryd.pa54 (c : AV) (cs : List AV) : partA Tryd.prog 54 (c :: cs) = some c := by simp only [partA, Tryd.underlying54]
theorem Tryd.ty54 : tyOk Tryd.prog 54 = true := by kernel_rfl
theorem Tryd.zr54 : zeroA Tryd.prog 54 = some [.nilf] := by kernel_rfl
theorem Tryd.cs55 : Tryd.prog.cellsOf 55 = 1 := by kernel_rfl
theorem Tryd.bt55 : Tryd.prog.bytesOf 55 = 8 := by kernel_rfl
theorem Tryd.pa55 (c : AV) (cs : List AV) : partA Tryd.prog 55 (c :: cs) = some c := by simp only [partA, Tryd.underlying55]
theorem Tryd.ty55 : tyOk Tryd.prog 55 = true := by kernel_rfl
theorem Tryd.zr55 : zeroA Tryd.prog 55 = some [.nilf] := by kernel_rfl
theorem Tryd.cs56 : Tryd.prog.cellsOf 56 = 1 := by kernel_rfl
theorem Tryd.bt56 : Tryd.prog.bytesOf 56 = 8 := by kernel_rfl
theorem Tryd.pa56 (c : AV) (cs : List AV) : partA Tryd.prog 56 (c :: cs) = some c := by simp only [partA, Tryd.underlying56]
theorem Tryd.ty56 : tyOk Tryd.prog 56 = true := by kernel_rfl
theorem Tryd.zr56 : zeroA Tryd.prog 56 = some [.nilf] := by kernel_rfl
theorem Tryd.cs57 : Tryd.prog.cellsOf 57 = 3 := by kernel_rfl
theorem Tryd.bt57 : Tryd.prog.bytesOf 57 = 24 := by kernel_rfl
theorem Tryd.pa57 (cs : List AV) : partA Tryd.prog 57 cs = if (cs.take 3).length = 3 then some (.agg (cs.take 3)) else none := by simp only [partA, Tryd.underlying57, Tryd.cs57]; simp
theorem Tryd.ty57 : tyOk Tryd.prog 57 = true := by kernel_rfl
theorem Tryd.zr57 : zeroA Tryd.prog 57 = some [.int .i64 0, .int .i64 0, .int .i64 0] := by kernel_rfl
theorem Tryd.fd57_0 : fieldOff Tryd.prog 57 0 = some (0, 3) := by kernel_rfl
theorem Tryd.fd57_1 : fieldOff Tryd.prog 57 1 = some (1, 3) := by kernel_rfl
theorem Tryd.fd57_2 : fieldOff Tryd.prog 57 2 = some (2, 3) := by kernel_rfl
theorem Tryd.pl57 : placesA Tryd.prog 57 = some [(0, 1), (1, 1), (2, 1)] := by kernel_rfl
theorem Tryd.cs58 : Tryd.prog.cellsOf 58 = 3 := by kernel_rfl
theorem Tryd.bt58 : Tryd.prog.bytesOf 58 = 24 := by kernel_rfl
theorem Tryd.pa58 (cs : List AV) : partA Tryd.prog 58 cs = if (cs.take 3).length = 3 then some (.agg (cs.take 3)) else none := by simp only [partA, Tryd.underlying58, Tryd.cs58]; simp
theorem Tryd.ty58 : tyOk Tryd.prog 58 = true := by kernel_rfl
theorem Tryd.zr58 : zeroA Tryd.prog 58 = some [.int .i64 0, .int .i64 0, .int .i64 0] := by kernel_rfl
theorem Tryd.fd58_0 : fieldOff Tryd.prog 58 0 = some (0, 3) := by kernel_rfl
theorem Tryd.fd58_1 : fieldOff Tryd.prog 58 1 = some (1, 3) := by kernel_rfl
theorem Tryd.fd58_2 : fieldOff Tryd.prog 58 2 = some (2, 3) := by kernel_rfl
theorem Tryd.pl58 : placesA Tryd.prog 58 = some [(0, 1), (1, 1), (2, 1)] := by kernel_rfl
theorem Tryd.eq58 (a0 b0 : Int) (a1 b1 : Int) (a2 b2 : Int) : eqAgg Tryd.prog 58 [.int .i64 a0, .int .i64 a1, .int .i64 a2] [.int .i64 b0, .int .i64 b1, .int .i64 b2] = some ((decide (a0 = b0) && (decide (a1 = b1) && (decide (a2 = b2) && true)))) := by kernel_rfl
theorem Tryd.cs59 : Tryd.prog.cellsOf 59 = 1 := by kernel_rfl
theorem Tryd.bt59 : Tryd.prog.bytesOf 59 = 24 := by kernel_rfl
theorem Tryd.pa59 (c : AV) (cs : List AV) : partA Tryd.prog 59 (c :: cs) = some c := by simp only [partA, Tryd.underlying59]
theorem Tryd.ty59 : tyOk Tryd.prog 59 = true := by kernel_rfl
theorem Tryd.sl59 : sliceElem Tryd.prog 59 = some (25, 2) := by kernel_rfl
theorem Tryd.zr59 : zeroA Tryd.prog 59 = some [.nils] := by kernel_rfl
theorem Tryd.cs60 : Tryd.prog.cellsOf 60 = 1 := by kernel_rfl
theorem Tryd.bt60 : Tryd.prog.bytesOf 60 = 8 := by kernel_rfl
theorem Tryd.pa60 (c : AV) (cs : List AV) : partA Tryd.prog 60 (c :: cs) = some c := by simp only [partA, Tryd.underlying60]
theorem Tryd.ty60 : tyOk Tryd.prog 60 = true := by kernel_rfl
theorem Tryd.zr60 : zeroA Tryd.prog 60 = some [.nilf] := by kernel_rfl
theorem Tryd.cs61 : Tryd.prog.cellsOf 61 = 1 := by kernel_rfl
theorem Tryd.bt61 : Tryd.prog.bytesOf 61 = 8 := by kernel_rfl
theorem Tryd.pa61 (c : AV) (cs : List AV) : partA Tryd.prog 61 (c :: cs) = some c := by simp only [partA, Tryd.underlying61]
theorem Tryd.ty61 : tyOk Tryd.prog 61 = true := by kernel_rfl
theorem Tryd.zr61 : zeroA Tryd.prog 61 = some [.nilf] := by kernel_rfl
theorem Tryd.cs62 : Tryd.prog.cellsOf 62 = 1 := by kernel_rfl
theorem Tryd.bt62 : Tryd.prog.bytesOf 62 = 8 := by kernel_rfl
theorem Tryd.pa62 (c : AV) (cs : List AV) : partA Tryd.prog 62 (c :: cs) = some c := by simp only [partA, Tryd.underlying62]
theorem Tryd.ty62 : tyOk Tryd.prog 62 = true := by kernel_rfl
theorem Tryd.zr62 : zeroA Tryd.prog 62 = some [.nilf] := by kernel_rfl
theorem Tryd.cs63 : Tryd.prog.cellsOf 63 = 1 := by kernel_rfl
theorem Tryd.bt63 : Tryd.prog.bytesOf 63 = 8 := by kernel_rfl
theorem Tryd.pa63 (c : AV) (cs : List AV) : partA Tryd.prog 63 (c :: cs) = some c := by simp only [partA, Tryd.underlying63]
theorem Tryd.ty63 : tyOk Tryd.prog 63 = true := by kernel_rfl
theorem Tryd.zr63 : zeroA Tryd.prog 63 = some [.nilf] := by kernel_rfl
theorem Tryd.cs64 : Tryd.prog.cellsOf 64 = 1 := by kernel_rfl
theorem Tryd.bt64 : Tryd.prog.bytesOf 64 = 8 := by kernel_rfl
theorem Tryd.pa64 (c : AV) (cs : List AV) : partA Tryd.prog 64 (c :: cs) = some c := by simp only [partA, Tryd.underlying64]
theorem Tryd.ty64 : tyOk Tryd.prog 64 = true := by kernel_rfl
theorem Tryd.zr64 : zeroA Tryd.prog 64 = some [.nilf] := by kernel_rfl
theorem Tryd.cs65 : Tryd.prog.cellsOf 65 = 1 := by kernel_rfl
theorem Tryd.bt65 : Tryd.prog.bytesOf 65 = 8 := by kernel_rfl
theorem Tryd.pa65 (c : AV) (cs : List AV) : partA Tryd.prog 65 (c :: cs) = some c := by simp only [partA, Tryd.underlying65]
theorem Tryd.ty65 : tyOk Tryd.prog 65 = true := by kernel_rfl
theorem Tryd.zr65 : zeroA Tryd.prog 65 = some [.nilf] := by kernel_rfl
theorem Tryd.cs66 : Tryd.prog.cellsOf 66 = 1 := by kernel_rfl
theorem Tryd.bt66 : Tryd.prog.bytesOf 66 = 8 := by kernel_rfl
theorem Tryd.pa66 (c : AV) (cs : List AV) : partA Tryd.prog 66 (c :: cs) = some c := by simp only [partA, Tryd.underlying66]
theorem Tryd.ty66 : tyOk Tryd.prog 66 = true := by kernel_rfl
theorem Tryd.zr66 : zeroA Tryd.prog 66 = some [.nilf] := by kernel_rfl
theorem Tryd.cs67 : Tryd.prog.cellsOf 67 = 1 := by kernel_rfl
theorem Tryd.bt67 : Tryd.prog.bytesOf 67 = 8 := by kernel_rfl
theorem Tryd.pa67 (c : AV) (cs : List AV) : partA Tryd.prog 67 (c :: cs) = some c := by simp only [partA, Tryd.underlying67]
theorem Tryd.ty67 : tyOk Tryd.prog 67 = true := by kernel_rfl
theorem Tryd.zr67 : zeroA Tryd.prog 67 = some [.nilf] := by kernel_rfl
theorem Tryd.cs68 : Tryd.prog.cellsOf 68 = 1 := by kernel_rfl
theorem Tryd.bt68 : Tryd.prog.bytesOf 68 = 8 := by kernel_rfl
theorem Tryd.pa68 (c : AV) (cs : List AV) : partA Tryd.prog 68 (c :: cs) = some c := by simp only [partA, Tryd.underlying68]
theorem Tryd.ty68 : tyOk Tryd.prog 68 = true := by kernel_rfl
theorem Tryd.zr68 : zeroA Tryd.prog 68 = some [.nilf] := by kernel_rfl
theorem Tryd.cs69 : Tryd.prog.cellsOf 69 = 1 := by kernel_rfl
theorem Tryd.bt69 : Tryd.prog.bytesOf 69 = 0 := by kernel_rfl
theorem Tryd.cs70 : Tryd.prog.cellsOf 70 = 1 := by kernel_rfl
theorem Tryd.bt70 : Tryd.prog.bytesOf 70 = 8 := by kernel_rfl
theorem Tryd.pa70 (c : AV) (cs : List AV) : partA Tryd.prog 70 (c :: cs) = some c := by simp only [partA, Tryd.underlying70]
theorem Tryd.ty70 : tyOk Tryd.prog 70 = true := by kernel_rfl
theorem Tryd.zr70 : zeroA Tryd.prog 70 = some [.nilf] := by kernel_rfl
theorem Tryd.cs71 : Tryd.prog.cellsOf 71 = 1 := by kernel_rfl
theorem Tryd.bt71 : Tryd.prog.bytesOf 71 = 8 := by kernel_rfl
theorem Tryd.pa71 (c : AV) (cs : List AV) : partA Tryd.prog 71 (c :: cs) = some c := by simp only [partA, Tryd.underlying71]
theorem Tryd.ty71 : tyOk Tryd.prog 71 = true := by kernel_rfl
theorem Tryd.zr71 : zeroA Tryd.prog 71 = some [.nilf] := by kernel_rfl
theorem Tryd.cs72 : Tryd.prog.cellsOf 72 = 1 := by kernel_rfl
theorem Tryd.bt72 : Tryd.prog.bytesOf 72 = 8 := by kernel_rfl
theorem Tryd.pa72 (c : AV) (cs : List AV) : partA Tryd.prog 72 (c :: cs) = some c := by simp only [partA, Tryd.underlying72]
theorem Tryd.ty72 : tyOk Tryd.prog 72 = true := by kernel_rfl
theorem Tryd.zr72 : zeroA Tryd.prog 72 = some [.nilf] := by kernel_rfl
theorem Tryd.cs73 : Tryd.prog.cellsOf 73 = 1 := by kernel_rfl
theorem Tryd.bt73 : Tryd.prog.bytesOf 73 = 8 := by kernel_rfl
theorem Tryd.pa73 (c : AV) (cs : List AV) : partA Tryd.prog 73 (c :: cs) = some c := by simp only [partA, Tryd.underlying73]
theorem Tryd.ty73 : tyOk Tryd.prog 73 = true := by kernel_rfl
theorem Tryd.zr73 : zeroA Tryd.prog 73 = some [.nilf] := by kernel_rfl
theorem Tryd.cs74 : Tryd.prog.cellsOf 74 = 1 := by kernel_rfl
theorem Tryd.bt74 : Tryd.prog.bytesOf 74 = 8 := by kernel_rfl
theorem Tryd.pa74 (c : AV) (cs : List AV) : partA Tryd.prog 74 (c :: cs) = some c := by simp only [partA, Tryd.underlying74]
theorem Tryd.ty74 : tyOk Tryd.prog 74 = true := by kernel_rfl
theorem Tryd.zr74 : zeroA Tryd.prog 74 = some [.nilf] := by kernel_rfl
theorem Tryd.cs75 : Tryd.prog.cellsOf 75 = 1 := by kernel_rfl
theorem Tryd.bt75 : Tryd.prog.bytesOf 75 = 8 := by kernel_rfl
theorem Tryd.pa75 (c : AV) (cs : List AV) : partA Tryd.prog 75 (c :: cs) = some c := by simp only [partA, Tryd.underlying75]
theorem Tryd.ty75 : tyOk Tryd.prog 75 = true := by kernel_rfl
theorem Tryd.zr75 : zeroA Tryd.prog 75 = some [.nilf] := by kernel_rfl
theorem Tryd.cs76 : Tryd.prog.cellsOf 76 = 1 := by kernel_rfl
theorem Tryd.bt76 : Tryd.prog.bytesOf 76 = 8 := by kernel_rfl
theorem Tryd.pa76 (c : AV) (cs : List AV) : partA Tryd.prog 76 (c :: cs) = some c := by simp only [partA, Tryd.underlying76]
theorem Tryd.ty76 : tyOk Tryd.prog 76 = true := by kernel_rfl
theorem Tryd.zr76 : zeroA Tryd.prog 76 = some [.nilf] := by kernel_rfl
theorem Tryd.cs77 : Tryd.prog.cellsOf 77 = 1 := by kernel_rfl
theorem Tryd.bt77 : Tryd.prog.bytesOf 77 = 8 := by kernel_rfl
theorem Tryd.pa77 (c : AV) (cs : List AV) : partA Tryd.prog 77 (c :: cs) = some c := by simp only [partA, Tryd.underlying77]
theorem Tryd.ty77 : tyOk Tryd.prog 77 = true := by kernel_rfl
theorem Tryd.zr77 : zeroA Tryd.prog 77 = some [.nilf] := by kernel_rfl
theorem Tryd.cs78 : Tryd.prog.cellsOf 78 = 1 := by kernel_rfl
theorem Tryd.bt78 : Tryd.prog.bytesOf 78 = 8 := by kernel_rfl
theorem Tryd.pa78 (c : AV) (cs : List AV) : partA Tryd.prog 78 (c :: cs) = some c := by simp only [partA, Tryd.underlying78]
theorem Tryd.ty78 : tyOk Tryd.prog 78 = true := by kernel_rfl
theorem Tryd.zr78 : zeroA Tryd.prog 78 = some [.nilf] := by kernel_rfl
theorem Tryd.cs79 : Tryd.prog.cellsOf 79 = 3 := by kernel_rfl
theorem Tryd.bt79 : Tryd.prog.bytesOf 79 = 24 := by kernel_rfl
theorem Tryd.pa79 (cs : List AV) : partA Tryd.prog 79 cs = if (cs.take 3).length = 3 then some (.agg (cs.take 3)) else none := by simp only [partA, Tryd.underlying79, Tryd.cs79]; simp
theorem Tryd.ty79 : tyOk Tryd.prog 79 = true := by kernel_rfl
theorem Tryd.zr79 : zeroA Tryd.prog 79 = some [.nilf, .nilf, .nilf] := by kernel_rfl
theorem Tryd.fd79_0 : fieldOff Tryd.prog 79 0 = some (0, 77) := by kernel_rfl
theorem Tryd.fd79_1 : fieldOff Tryd.prog 79 1 = some (1, 78) := by kernel_rfl
theorem Tryd.fd79_2 : fieldOff Tryd.prog 79 2 = some (2, 77) := by kernel_rfl
theorem Tryd.pl79 : placesA Tryd.prog 79 = some [(0, 1), (1, 1), (2, 1)] := by kernel_rfl
theorem Tryd.cs80 : Tryd.prog.cellsOf 80 = 3 := by kernel_rfl
theorem Tryd.bt80 : Tryd.prog.bytesOf 80 = 24 := by kernel_rfl
theorem Tryd.pa80 (cs : List AV) : partA Tryd.prog 80 cs = if (cs.take 3).length = 3 then some (.agg (cs.take 3)) else none := by simp only [partA, Tryd.underlying80, Tryd.cs80]; simp
theorem Tryd.ty80 : tyOk Tryd.prog 80 = true := by kernel_rfl
theorem Tryd.zr80 : zeroA Tryd.prog 80 = some [.nilf, .nilf, .nilf] := by kernel_rfl
theorem Tryd.fd80_0 : fieldOff Tryd.prog 80 0 = some (0, 77) := by kernel_rfl
theorem Tryd.fd80_1 : fieldOff Tryd.prog 80 1 = some (1, 78) := by kernel_rfl
theorem Tryd.fd80_2 : fieldOff Tryd.prog 80 2 = some (2, 77) := by kernel_rfl
theorem Tryd.pl80 : placesA Tryd.prog 80 = some [(0, 1), (1, 1), (2, 1)] := by kernel_rfl
theorem Tryd.cs81 : Tryd.prog.cellsOf 81 = 1 := by kernel_rfl
theorem Tryd.bt81 : Tryd.prog.bytesOf 81 = 8 := by kernel_rfl
theorem Tryd.pa81 (c : AV) (cs : List AV) : partA Tryd.prog 81 (c :: cs) = some c := by simp only [partA, Tryd.underlying81]
theorem Tryd.ty81 : tyOk Tryd.prog 81 = true := by kernel_rfl
theorem Tryd.zr81 : zeroA Tryd.prog 81 = some [.nilf] := by kernel_rfl
theorem Tryd.cs82 : Tryd.prog.cellsOf 82 = 1 := by kernel_rfl
theorem Tryd.bt82 : Tryd.prog.bytesOf 82 = 8 := by kernel_rfl
theorem Tryd.pa82 (c : AV) (cs : List AV) : partA Tryd.prog 82 (c :: cs) = some c := by simp only [partA, Tryd.underlying82]
theorem Tryd.ty82 : tyOk Tryd.prog 82 = true := by kernel_rfl
theorem Tryd.zr82 : zeroA Tryd.prog 82 = some [.nilf] := by kernel_rfl
theorem Tryd.cs83 : Tryd.prog.cellsOf 83 = 1 := by kernel_rfl
theorem Tryd.bt83 : Tryd.prog.bytesOf 83 = 8 := by kernel_rfl
theorem Tryd.pa83 (c : AV) (cs : List AV) : partA Tryd.prog 83 (c :: cs) = some c := by simp only [partA, Tryd.underlying83]
theorem Tryd.ty83 : tyOk Tryd.prog 83 = true := by kernel_rfl
theorem Tryd.zr83 : zeroA Tryd.prog 83 = some [.nilf] := by kernel_rfl
theorem Tryd.cs84 : Tryd.prog.cellsOf 84 = 1 := by kernel_rfl
theorem Tryd.bt84 : Tryd.prog.bytesOf 84 = 8 := by kernel_rfl
theorem Tryd.pa84 (c : AV) (cs : List AV) : partA Tryd.prog 84 (c :: cs) = some c := by simp only [partA, Tryd.underlying84]
theorem Tryd.ty84 : tyOk Tryd.prog 84 = true := by kernel_rfl
theorem Tryd.zr84 : zeroA Tryd.prog 84 = some [.nilf] := by kernel_rfl
theorem Tryd.cs85 : Tryd.prog.cellsOf 85 = 1 := by kernel_rfl
theorem Tryd.bt85 : Tryd.prog.bytesOf 85 = 8 := by kernel_rfl
theorem Tryd.pa85 (c : AV) (cs : List AV) : partA Tryd.prog 85 (c :: cs) = some c := by simp only [partA, Tryd.underlying85]
theorem Tryd.ty85 : tyOk Tryd.prog 85 = true := by kernel_rfl
theorem Tryd.zr85 : zeroA Tryd.prog 85 = some [.nilf] := by kernel_rfl
theorem Tryd.cs86 : Tryd.prog.cellsOf 86 = 1 := by kernel_rfl
theorem Tryd.bt86 : Tryd.prog.bytesOf 86 = 8 := by kernel_rfl
theorem Tryd.pa86 (c : AV) (cs : List AV) : partA Tryd.prog 86 (c :: cs) = some c := by simp only [partA, Tryd.underlying86]
theorem Tryd.ty86 : tyOk Tryd.prog 86 = true := by kernel_rfl
theorem Tryd.zr86 : zeroA Tryd.prog 86 = some [.nilf] := by kernel_rfl
theorem Tryd.cs87 : Tryd.prog.cellsOf 87 = 1 := by kernel_rfl
theorem Tryd.bt87 : Tryd.prog.bytesOf 87 = 8 := by kernel_rfl
theorem Tryd.pa87 (c : AV) (cs : List AV) : partA Tryd.prog 87 (c :: cs) = some c := by simp only [partA, Tryd.underlying87]
theorem Tryd.ty87 : tyOk Tryd.prog 87 = true := by kernel_rfl
theorem Tryd.zr87 : zeroA Tryd.prog 87 = some [.nilf] := by kernel_rfl
theorem Tryd.cs88 : Tryd.prog.cellsOf 88 = 1 := by kernel_rfl
theorem Tryd.bt88 : Tryd.prog.bytesOf 88 = 8 := by kernel_rfl
theorem Tryd.pa88 (c : AV) (cs : List AV) : partA Tryd.prog 88 (c :: cs) = some c := by simp only [partA, Tryd.underlying88]
theorem Tryd.ty88 : tyOk Tryd.prog 88 = true := by kernel_rfl
theorem Tryd.zr88 : zeroA Tryd.prog 88 = some [.nilf] := by kernel_rfl
theorem Tryd.cs89 : Tryd.prog.cellsOf 89 = 1 := by kernel_rfl
theorem Tryd.bt89 : Tryd.prog.bytesOf 89 = 8 := by kernel_rfl
theorem Tryd.pa89 (c : AV) (cs : List AV) : partA Tryd.prog 89 (c :: cs) = some c := by simp only [partA, Tryd.underlying89]
theorem Tryd.ty89 : tyOk Tryd.prog 89 = true := by kernel_rfl
theorem Tryd.zr89 : zeroA Tryd.prog 89 = some [.nilf] := by kernel_rfl
theorem Tryd.cs90 : Tryd.prog.cellsOf 90 = 7 := by kernel_rfl
theorem Tryd.bt90 : Tryd.prog.bytesOf 90 = 7 := by kernel_rfl
theorem Tryd.pa90 (cs : List AV) : partA Tryd.prog 90 cs = if (cs.take 7).length = 7 then some (.agg (cs.take 7)) else none := by simp only [partA, Tryd.underlying90, Tryd.cs90]; simp
theorem Tryd.ty90 : tyOk Tryd.prog 90 = true := by kernel_rfl
theorem Tryd.sl90 : sliceElem Tryd.prog 90 = none := by kernel_rfl
theorem Tryd.ar90 : arrElem Tryd.prog 90 = some (7, 1) := by kernel_rfl
theorem Tryd.zr90 : zeroA Tryd.prog 90 = some [.bool false, .bool false, .bool false, .bool false, .bool false, .bool false, .bool false] := by kernel_rfl
theorem Tryd.pl90 : placesA Tryd.prog 90 = some [(0, 1), (1, 1), (2, 1), (3, 1), (4, 1), (5, 1), (6, 1)] := by kernel_rfl
theorem Tryd.cs91 : Tryd.prog.cellsOf 91 = 12 := by kernel_rfl
theorem Tryd.bt91 : Tryd.prog.bytesOf 91 = 96 := by kernel_rfl
theorem Tryd.pa91 (cs : List AV) : partA Tryd.prog 91 cs = if (cs.take 12).length = 12 then some (.agg (cs.take 12)) else none := by simp only [partA, Tryd.underlying91, Tryd.cs91]; simp
theorem Tryd.ty91 : tyOk Tryd.prog 91 = true := by kernel_rfl
theorem Tryd.sl91 : sliceElem Tryd.prog 91 = none := by kernel_rfl
theorem Tryd.ar91 : arrElem Tryd.prog 91 = some (12, 1) := by kernel_rfl
theorem Tryd.zr91 : zeroA Tryd.prog 91 = some [.int .i64 0, .int .i64 0, .int .i64 0, .int .i64 0, .int .i64 0, .int .i64 0, .int .i64 0, .int .i64 0, .int .i64 0, .int .i64 0, .int .i64 0, .int .i64 0] := by kernel_rfl
theorem Tryd.pl91 : placesA Tryd.prog 91 = some [(0, 1), (1, 1), (2, 1), (3, 1), (4, 1), (5, 1), (6, 1), (7, 1), (8, 1), (9, 1), (10, 1), (11, 1)] := by kernel_rfl
theorem Tryd.cs92 : Tryd.prog.cellsOf 92 = 1 := by kernel_rfl
theorem Tryd.bt92 : Tryd.prog.bytesOf 92 = 8 := by kernel_rfl
theorem Tryd.pa92 (c : AV) (cs : List AV) : partA Tryd.prog 92 (c :: cs) = some c := by simp only [partA, Tryd.underlying92]
theorem Tryd.ty92 : tyOk Tryd.prog 92 = true := by kernel_rfl
theorem Tryd.zr92 : zeroA Tryd.prog 92 = some [.nilf] := by kernel_rfl
theorem Tryd.cs93 : Tryd.prog.cellsOf 93 = 1 := by kernel_rfl
theorem Tryd.bt93 : Tryd.prog.bytesOf 93 = 8 := by kernel_rfl
theorem Tryd.pa93 (c : AV) (cs : List AV) : partA Tryd.prog 93 (c :: cs) = some c := by simp only [partA, Tryd.underlying93]
theorem Tryd.ty93 : tyOk Tryd.prog 93 = true := by kernel_rfl
theorem Tryd.zr93 : zeroA Tryd.prog 93 = some [.nilf] := by kernel_rfl
theorem Tryd.cs94 : Tryd.prog.cellsOf 94 = 4 := by kernel_rfl
theorem Tryd.bt94 : Tryd.prog.bytesOf 94 = 40 := by kernel_rfl
theorem Tryd.pa94 (cs : List AV) : partA Tryd.prog 94 cs = if (cs.take 4).length = 4 then some (.agg (cs.take 4)) else none := by simp only [partA, Tryd.underlying94, Tryd.cs94]; simp
theorem Tryd.ty94 : tyOk Tryd.prog 94 = true := by kernel_rfl
theorem Tryd.zr94 : zeroA Tryd.prog 94 = some [.nilp, .nilp, .nilp, .str []] := by kernel_rfl
theorem Tryd.fd94_0 : fieldOff Tryd.prog 94 0 = some (0, 17) := by kernel_rfl
theorem Tryd.fd94_1 : fieldOff Tryd.prog 94 1 = some (1, 17) := by kernel_rfl
theorem Tryd.fd94_2 : fieldOff Tryd.prog 94 2 = some (2, 17) := by kernel_rfl
theorem Tryd.fd94_3 : fieldOff Tryd.prog 94 3 = some (3, 9) := by kernel_rfl
theorem Tryd.pl94 : placesA Tryd.prog 94 = some [(0, 1), (1, 1), (2, 1), (3, 1)] := by kernel_rfl
theorem Tryd.cs95 : Tryd.prog.cellsOf 95 = 4 := by kernel_rfl
theorem Tryd.bt95 : Tryd.prog.bytesOf 95 = 40 := by kernel_rfl
theorem Tryd.pa95 (cs : List AV) : partA Tryd.prog 95 cs = if (cs.take 4).length = 4 then some (.agg (cs.take 4)) else none := by simp only [partA, Tryd.underlying95, Tryd.cs95]; simp
theorem Tryd.ty95 : tyOk Tryd.prog 95 = true := by kernel_rfl
theorem Tryd.zr95 : zeroA Tryd.prog 95 = some [.nilp, .nilp, .nilp, .str []] := by kernel_rfl
theorem Tryd.fd95_0 : fieldOff Tryd.prog 95 0 = some (0, 17) := by kernel_rfl
theorem Tryd.fd95_1 : fieldOff Tryd.prog 95 1 = some (1, 17) := by kernel_rfl
theorem Tryd.fd95_2 : fieldOff Tryd.prog 95 2 = some (2, 17) := by kernel_rfl
theorem Tryd.fd95_3 : fieldOff Tryd.prog 95 3 = some (3, 9) := by kernel_rfl
theorem Tryd.pl95 : placesA Tryd.prog 95 = some [(0, 1), (1, 1), (2, 1), (3, 1)] := by kernel_rfl
theorem Tryd.cs96 : Tryd.prog.cellsOf 96 = 0 := by kernel_rfl
theorem Tryd.bt96 : Tryd.prog.bytesOf 96 = 0 := by kernel_rfl
theorem Tryd.ty96 : tyOk Tryd.prog 96 = true := by kernel_rfl
theorem Tryd.sl96 : sliceElem Tryd.prog 96 = none := by kernel_rfl
theorem Tryd.ar96 : arrElem Tryd.prog 96 = some (0, 1) := by kernel_rfl
theorem Tryd.zr96 : zeroA Tryd.prog 96 = some [] := by kernel_rfl
theorem Tryd.pl96 : placesA Tryd.prog 96 = some [] := by kernel_rfl
theorem Tryd.cs97 : Tryd.prog.cellsOf 97 = 0 := by kernel_rfl
theorem Tryd.bt97 : Tryd.prog.bytesOf 97 = 0 := by kernel_rfl
theorem Tryd.ty97 : tyOk Tryd.prog 97 = true := by kernel_rfl
theorem Tryd.zr97 : zeroA Tryd.prog 97 = some [] := by kernel_rfl
theorem Tryd.pl97 : placesA Tryd.prog 97 = some [(0, 0)] := by kernel_rfl
theorem Tryd.cs98 : Tryd.prog.cellsOf 98 = 0 := by kernel_rfl
theorem Tryd.bt98 : Tryd.prog.bytesOf 98 = 0 := by kernel_rfl
theorem Tryd.ty98 : tyOk Tryd.prog 98 = true := by kernel_rfl
theorem Tryd.zr98 : zeroA Tryd.prog 98 = some [] := by kernel_rfl
theorem Tryd.pl98 : placesA Tryd.prog 98 = some [(0, 0)] := by kernel_rfl
theorem Tryd.cs99 : Tryd.prog.cellsOf 99 = 1 := by kernel_rfl
theorem Tryd.bt99 : Tryd.prog.bytesOf 99 = 8 := by kernel_rfl
theorem Tryd.pa99 (c : AV) (cs : List AV) : partA Tryd.prog 99 (c :: cs) = some c := by simp only [partA, Tryd.underlying99]
theorem Tryd.ty99 : tyOk Tryd.prog 99 = true := by kernel_rfl
theorem Tryd.zr99 : zeroA Tryd.prog 99 = some [.nilf] := by kernel_rfl
theorem Tryd.cs100 : Tryd.prog.cellsOf 100 = 1 := by kernel_rfl
theorem Tryd.bt100 : Tryd.prog.bytesOf 100 = 4 := by kernel_rfl
theorem Tryd.pa100 (c : AV) (cs : List AV) : partA Tryd.prog 100 (c :: cs) = some c := by simp only [partA, Tryd.underlying100]
theorem Tryd.zr100 : zeroA Tryd.prog 100 = some [.int .u32 0] := by kernel_rfl
theorem Tryd.cs101 : Tryd.prog.cellsOf 101 = 1 := by kernel_rfl
theorem Tryd.bt101 : Tryd.prog.bytesOf 101 = 1 := by kernel_rfl
theorem Tryd.pa101 (c : AV) (cs : List AV) : partA Tryd.prog 101 (c :: cs) = some c := by simp only [partA, Tryd.underlying101]
theorem Tryd.zr101 : zeroA Tryd.prog 101 = some [.int .u8 0] := by kernel_rfl
theorem Tryd.cs102 : Tryd.prog.cellsOf 102 = 1 := by kernel_rfl
theorem Tryd.bt102 : Tryd.prog.bytesOf 102 = 1 := by kernel_rfl
theorem Tryd.pa102 (c : AV) (cs : List AV) : partA Tryd.prog 102 (c :: cs) = some c := by simp only [partA, Tryd.underlying102]
theorem Tryd.zr102 : zeroA Tryd.prog 102 = some [.int .u8 0] := by kernel_rfl
theorem Tryd.cs103 : Tryd.prog.cellsOf 103 = 1 := by kernel_rfl
theorem Tryd.bt103 : Tryd.prog.bytesOf 103 = 8 := by kernel_rfl
theorem Tryd.pa103 (c : AV) (cs : List AV) : partA Tryd.prog 103 (c :: cs) = some c := by simp only [partA, Tryd.underlying103]
theorem Tryd.ty103 : tyOk Tryd.prog 103 = true := by kernel_rfl
theorem Tryd.zr103 : zeroA Tryd.prog 103 = some [.nilf] := by kernel_rfl
theorem Tryd.cs104 : Tryd.prog.cellsOf 104 = 1 := by kernel_rfl
theorem Tryd.bt104 : Tryd.prog.bytesOf 104 = 8 := by kernel_rfl
theorem Tryd.pa104 (c : AV) (cs : List AV) : partA Tryd.prog 104 (c :: cs) = some c := by simp only [partA, Tryd.underlying104]
theorem Tryd.ty104 : tyOk Tryd.prog 104 = true := by kernel_rfl
theorem Tryd.zr104 : zeroA Tryd.prog 104 = some [.nilp] := by kernel_rfl
theorem Tryd.cs105 : Tryd.prog.cellsOf 105 = 1 := by kernel_rfl
theorem Tryd.bt105 : Tryd.prog.bytesOf 105 = 4 := by kernel_rfl
theorem Tryd.pa105 (c : AV) (cs : List AV) : partA Tryd.prog 105 (c :: cs) = some c := by simp only [partA, Tryd.underlying105]
theorem Tryd.zr105 : zeroA Tryd.prog 105 = some [.int .i32 0] := by kernel_rfl
theorem Tryd.cs106 : Tryd.prog.cellsOf 106 = 1 := by kernel_rfl
theorem Tryd.bt106 : Tryd.prog.bytesOf 106 = 4 := by kernel_rfl
theorem Tryd.pa106 (c : AV) (cs : List AV) : partA Tryd.prog 106 (c :: cs) = some c := by simp only [partA, Tryd.underlying106]
theorem Tryd.zr106 : zeroA Tryd.prog 106 = some [.int .i32 0] := by kernel_rfl
theorem Tryd.cs107 : Tryd.prog.cellsOf 107 = 11 := by kernel_rfl
theorem Tryd.bt107 : Tryd.prog.bytesOf 107 = 48 := by kernel_rfl
theorem Tryd.pa107 (cs : List AV) : partA Tryd.prog 107 cs = if (cs.take 11).length = 11 then some (.agg (cs.take 11)) else none := by simp only [partA, Tryd.underlying107, Tryd.cs107]; simp
theorem Tryd.ty107 : tyOk Tryd.prog 107 = true := by kernel_rfl
theorem Tryd.zr107 : zeroA Tryd.prog 107 = some [.int .u64 0, .int .u64 0, .int .u32 0, .int .u8 0, .int .u8 0, .int .u8 0, .int .u8 0, .nilf, .nilp, .int .i32 0, .int .i32 0] := by kernel_rfl
theorem Tryd.fd107_0 : fieldOff Tryd.prog 107 0 = some (0, 12) := by kernel_rfl
theorem Tryd.fd107_1 : fieldOff Tryd.prog 107 1 = some (1, 12) := by kernel_rfl
theorem Tryd.fd107_2 : fieldOff Tryd.prog 107 2 = some (2, 100) := by kernel_rfl
theorem Tryd.fd107_3 : fieldOff Tryd.prog 107 3 = some (3, 101) := by kernel_rfl
theorem Tryd.fd107_4 : fieldOff Tryd.prog 107 4 = some (4, 5) := by kernel_rfl
theorem Tryd.fd107_5 : fieldOff Tryd.prog 107 5 = some (5, 5) := by kernel_rfl
theorem Tryd.fd107_6 : fieldOff Tryd.prog 107 6 = some (6, 102) := by kernel_rfl
theorem Tryd.fd107_7 : fieldOff Tryd.prog 107 7 = some (7, 103) := by kernel_rfl
theorem Tryd.fd107_8 : fieldOff Tryd.prog 107 8 = some (8, 104) := by kernel_rfl
theorem Tryd.fd107_9 : fieldOff Tryd.prog 107 9 = some (9, 105) := by kernel_rfl
theorem Tryd.fd107_10 : fieldOff Tryd.prog 107 10 = some (10, 106) := by kernel_rfl
theorem Tryd.pl107 : placesA Tryd.prog 107 = some [(0, 1), (1, 1), (2, 1), (3, 1), (4, 1), (5, 1), (6, 1), (7, 1), (8, 1), (9, 1), (10, 1)] := by kernel_rfl
theorem Tryd.cs108 : Tryd.prog.cellsOf 108 = 11 := by kernel_rfl
theorem Tryd.bt108 : Tryd.prog.bytesOf 108 = 48 := by kernel_rfl
theorem Tryd.pa108 (cs : List AV) : partA Tryd.prog 108 cs = if (cs.take 11).length = 11 then some (.agg (cs.take 11)) else none := by simp only [partA, Tryd.underlying108, Tryd.cs108]; simp
theorem Tryd.ty108 : tyOk Tryd.prog 108 = true := by kernel_rfl
theorem Tryd.zr108 : zeroA Tryd.prog 108 = some [.int .u64 0, .int .u64 0, .int .u32 0, .int .u8 0, .int .u8 0, .int .u8 0, .int .u8 0, .nilf, .nilp, .int .i32 0, .int .i32 0] := by kernel_rfl
theorem Tryd.fd108_0 : fieldOff Tryd.prog 108 0 = some (0, 12) := by kernel_rfl
theorem Tryd.fd108_1 : fieldOff Tryd.prog 108 1 = some (1, 12) := by kernel_rfl
theorem Tryd.fd108_2 : fieldOff Tryd.prog 108 2 = some (2, 100) := by kernel_rfl
theorem Tryd.fd108_3 : fieldOff Tryd.prog 108 3 = some (3, 101) := by kernel_rfl
theorem Tryd.fd108_4 : fieldOff Tryd.prog 108 4 = some (4, 5) := by kernel_rfl
theorem Tryd.fd108_5 : fieldOff Tryd.prog 108 5 = some (5, 5) := by kernel_rfl
theorem Tryd.fd108_6 : fieldOff Tryd.prog 108 6 = some (6, 102) := by kernel_rfl
theorem Tryd.fd108_7 : fieldOff Tryd.prog 108 7 = some (7, 103) := by kernel_rfl
theorem Tryd.fd108_8 : fieldOff Tryd.prog 108 8 = some (8, 104) := by kernel_rfl
theorem Tryd.fd108_9 : fieldOff Tryd.prog 108 9 = some (9, 105) := by kernel_rfl
theorem Tryd.fd108_10 : fieldOff Tryd.prog 108 10 = some (10, 106) := by kernel_rfl
theorem Tryd.pl108 : placesA Tryd.prog 108 = some [(0, 1), (1, 1), (2, 1), (3, 1), (4, 1), (5, 1), (6, 1), (7, 1), (8, 1), (9, 1), (10, 1)] := by kernel_rfl
theorem Tryd.cs109 : Tryd.prog.cellsOf 109 = 5 := by kernel_rfl
theorem Tryd.bt109 : Tryd.prog.bytesOf 109 = 88 := by kernel_rfl
theorem Tryd.pa109 (cs : List AV) : partA Tryd.prog 109 cs = if (cs.take 5).length = 5 then some (.agg (cs.take 5)) else none := by simp only [partA, Tryd.underlying109, Tryd.cs109]; simp
theorem Tryd.ty109 : tyOk Tryd.prog 109 = true := by kernel_rfl
theorem Tryd.zr109 : zeroA Tryd.prog 109 = some [.nils, .int .i64 0, .int .i64 0, .nils, .nils] := by kernel_rfl
theorem Tryd.fd109_0 : fieldOff Tryd.prog 109 0 = some (0, 22) := by kernel_rfl
theorem Tryd.fd109_1 : fieldOff Tryd.prog 109 1 = some (1, 48) := by kernel_rfl
theorem Tryd.pl109 : placesA Tryd.prog 109 = some [(0, 1), (1, 4)] := by kernel_rfl
theorem Tryd.cs110 : Tryd.prog.cellsOf 110 = 5 := by kernel_rfl
theorem Tryd.bt110 : Tryd.prog.bytesOf 110 = 88 := by kernel_rfl
theorem Tryd.pa110 (cs : List AV) : partA Tryd.prog 110 cs = if (cs.take 5).length = 5 then some (.agg (cs.take 5)) else none := by simp only [partA, Tryd.underlying110, Tryd.cs110]; simp
theorem Tryd.ty110 : tyOk Tryd.prog 110 = true := by kernel_rfl
theorem Tryd.zr110 : zeroA Tryd.prog 110 = some [.nils, .int .i64 0, .int .i64 0, .nils, .nils] := by kernel_rfl
theorem Tryd.fd110_0 : fieldOff Tryd.prog 110 0 = some (0, 22) := by kernel_rfl
theorem Tryd.fd110_1 : fieldOff Tryd.prog 110 1 = some (1, 48) := by kernel_rfl
theorem Tryd.pl110 : placesA Tryd.prog 110 = some [(0, 1), (1, 4)] := by kernel_rfl
theorem Tryd.cs111 : Tryd.prog.cellsOf 111 = 2 := by kernel_rfl
theorem Tryd.bt111 : Tryd.prog.bytesOf 111 = 16 := by kernel_rfl
theorem Tryd.pa111 (cs : List AV) : partA Tryd.prog 111 cs = if (cs.take 2).length = 2 then some (.agg (cs.take 2)) else none := by simp only [partA, Tryd.underlying111, Tryd.cs111]; simp
theorem Tryd.ty111 : tyOk Tryd.prog 111 = true := by kernel_rfl
theorem Tryd.zr111 : zeroA Tryd.prog 111 = some [.int .i64 0, .int .i64 0] := by kernel_rfl
theorem Tryd.fd111_0 : fieldOff Tryd.prog 111 0 = some (0, 3) := by kernel_rfl
theorem Tryd.fd111_1 : fieldOff Tryd.prog 111 1 = some (1, 3) := by kernel_rfl
theorem Tryd.pl111 : placesA Tryd.prog 111 = some [(0, 1), (1, 1)] := by kernel_rfl
theorem Tryd.cs112 : Tryd.prog.cellsOf 112 = 2 := by kernel_rfl
theorem Tryd.bt112 : Tryd.prog.bytesOf 112 = 16 := by kernel_rfl
theorem Tryd.pa112 (cs : List AV) : partA Tryd.prog 112 cs = if (cs.take 2).length = 2 then some (.agg (cs.take 2)) else none := by simp only [partA, Tryd.underlying112, Tryd.cs112]; simp
theorem Tryd.ty112 : tyOk Tryd.prog 112 = true := by kernel_rfl
theorem Tryd.zr112 : zeroA Tryd.prog 112 = some [.int .i64 0, .int .i64 0] := by kernel_rfl
theorem Tryd.fd112_0 : fieldOff Tryd.prog 112 0 = some (0, 3) := by kernel_rfl
theorem Tryd.fd112_1 : fieldOff Tryd.prog 112 1 = some (1, 3) := by kernel_rfl
theorem Tryd.pl112 : placesA Tryd.prog 112 = some [(0, 1), (1, 1)] := by kernel_rfl
theorem Tryd.eq112 (a0 b0 : Int) (a1 b1 : Int) : eqAgg Tryd.prog 112 [.int .i64 a0, .int .i64 a1] [.int .i64 b0, .int .i64 b1] = some ((decide (a0 = b0) && (decide (a1 = b1) && true))) := by kernel_rfl
theorem Tryd.cs113 : Tryd.prog.cellsOf 113 = 8 := by kernel_rfl
theorem Tryd.bt113 : Tryd.prog.bytesOf 113 = 40 := by kernel_rfl
theorem Tryd.pa113 (cs : List AV) : partA Tryd.prog 113 cs = if (cs.take 8).length = 8 then some (.agg (cs.take 8)) else none := by simp only [partA, Tryd.underlying113, Tryd.cs113]; simp
theorem Tryd.ty113 : tyOk Tryd.prog 113 = true := by kernel_rfl
theorem Tryd.zr113 : zeroA Tryd.prog 113 = some [.int .i64 0, .int .i64 0, .int .i64 0, .int .i64 0, .bool false, .bool false, .bool false, .bool false] := by kernel_rfl
theorem Tryd.fd113_0 : fieldOff Tryd.prog 113 0 = some (0, 40) := by kernel_rfl
theorem Tryd.fd113_1 : fieldOff Tryd.prog 113 1 = some (2, 40) := by kernel_rfl
theorem Tryd.fd113_2 : fieldOff Tryd.prog 113 2 = some (4, 4) := by kernel_rfl
theorem Tryd.fd113_3 : fieldOff Tryd.prog 113 3 = some (5, 4) := by kernel_rfl
theorem Tryd.fd113_4 : fieldOff Tryd.prog 113 4 = some (6, 4) := by kernel_rfl
theorem Tryd.fd113_5 : fieldOff Tryd.prog 113 5 = some (7, 4) := by kernel_rfl
theorem Tryd.pl113 : placesA Tryd.prog 113 = some [(0, 2), (2, 2), (4, 1), (5, 1), (6, 1), (7, 1)] := by kernel_rfl
theorem Tryd.cs114 : Tryd.prog.cellsOf 114 = 8 := by kernel_rfl
theorem Tryd.bt114 : Tryd.prog.bytesOf 114 = 40 := by kernel_rfl
theorem Tryd.pa114 (cs : List AV) : partA Tryd.prog 114 cs = if (cs.take 8).length = 8 then some (.agg (cs.take 8)) else none := by simp only [partA, Tryd.underlying114, Tryd.cs114]; simp
theorem Tryd.ty114 : tyOk Tryd.prog 114 = true := by kernel_rfl
theorem Tryd.zr114 : zeroA Tryd.prog 114 = some [.int .i64 0, .int .i64 0, .int .i64 0, .int .i64 0, .bool false, .bool false, .bool false, .bool false] := by kernel_rfl
theorem Tryd.fd114_0 : fieldOff Tryd.prog 114 0 = some (0, 40) := by kernel_rfl
theorem Tryd.fd114_1 : fieldOff Tryd.prog 114 1 = some (2, 40) := by kernel_rfl
theorem Tryd.fd114_2 : fieldOff Tryd.prog 114 2 = some (4, 4) := by kernel_rfl
theorem Tryd.fd114_3 : fieldOff Tryd.prog 114 3 = some (5, 4) := by kernel_rfl
theorem Tryd.fd114_4 : fieldOff Tryd.prog 114 4 = some (6, 4) := by kernel_rfl
theorem Tryd.fd114_5 : fieldOff Tryd.prog 114 5 = some (7, 4) := by kernel_rfl
theorem Tryd.pl114 : placesA Tryd.prog 114 = some [(0, 2), (2, 2), (4, 1), (5, 1), (6, 1), (7, 1)] := by kernel_rfl
theorem Tryd.cs115 : Tryd.prog.cellsOf 115 = 1 := by kernel_rfl
theorem Tryd.bt115 : Tryd.prog.bytesOf 115 = 8 := by kernel_rfl
theorem Tryd.pa115 (c : AV) (cs : List AV) : partA Tryd.prog 115 (c :: cs) = some c := by simp only [partA, Tryd.underlying115]
theorem Tryd.ty115 : tyOk Tryd.prog 115 = true := by kernel_rfl
theorem Tryd.zr115 : zeroA Tryd.prog 115 = some [.nilp] := by kernel_rfl
end Go.Proofs
