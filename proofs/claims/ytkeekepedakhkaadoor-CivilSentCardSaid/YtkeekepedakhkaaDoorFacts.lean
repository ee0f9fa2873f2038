/-
  The facts about the program's types that the reckoning needs.
-/
import Derived.Test.YtkeekepedakhkaaDoorChecked
import Derived.Test.YtkeekepedakhkaaDoorAbsC
namespace Go.Proofs
open Go.Pa
instance globTable : GTab := ⟨fun g => match g with | 0 => [Value.int .i64 31, Value.int .i64 28, Value.int .i64 31, Value.int .i64 30, Value.int .i64 31, Value.int .i64 30, Value.int .i64 31, Value.int .i64 31, Value.int .i64 30, Value.int .i64 31, Value.int .i64 30, Value.int .i64 31] | _ => []⟩
theorem Tryd.gl0 : globA 0 = .iptr [.int .i64 31, .int .i64 28, .int .i64 31, .int .i64 30, .int .i64 31, .int .i64 30, .int .i64 31, .int .i64 31, .int .i64 30, .int .i64 31, .int .i64 30, .int .i64 31] := by rfl
theorem Tryd.mixed : Tryd.prog.follows .mixedOrders = true := by kernel_rfl
theorem Tryd.cs0 : Tryd.prog.cellsOf 0 = 1 := by kernel_rfl
theorem Tryd.bt0 : Tryd.prog.bytesOf 0 = 0 := by kernel_rfl
theorem Tryd.cs1 : Tryd.prog.cellsOf 1 = 1 := by kernel_rfl
theorem Tryd.bt1 : Tryd.prog.bytesOf 1 = 8 := by kernel_rfl
theorem Tryd.pa1 (c : AV) (cs : List AV) : partA Tryd.prog 1 (c :: cs) = some c := by simp only [partA, Tryd.underlying1]
theorem Tryd.ty1 : tyOk Tryd.prog 1 = true := by kernel_rfl
theorem Tryd.zr1 : zeroA Tryd.prog 1 = some [.nilf] := by kernel_rfl
theorem Tryd.cs2 : Tryd.prog.cellsOf 2 = 1 := by kernel_rfl
theorem Tryd.bt2 : Tryd.prog.bytesOf 2 = 8 := by kernel_rfl
theorem Tryd.pa2 (c : AV) (cs : List AV) : partA Tryd.prog 2 (c :: cs) = some c := by simp only [partA, Tryd.underlying2]
theorem Tryd.zr2 : zeroA Tryd.prog 2 = some [.int .i64 0] := by kernel_rfl
theorem Tryd.cs3 : Tryd.prog.cellsOf 3 = 1 := by kernel_rfl
theorem Tryd.bt3 : Tryd.prog.bytesOf 3 = 8 := by kernel_rfl
theorem Tryd.pa3 (c : AV) (cs : List AV) : partA Tryd.prog 3 (c :: cs) = some c := by simp only [partA, Tryd.underlying3]
theorem Tryd.zr3 : zeroA Tryd.prog 3 = some [.int .i64 0] := by kernel_rfl
theorem Tryd.cs4 : Tryd.prog.cellsOf 4 = 1 := by kernel_rfl
theorem Tryd.bt4 : Tryd.prog.bytesOf 4 = 1 := by kernel_rfl
theorem Tryd.pa4 (c : AV) (cs : List AV) : partA Tryd.prog 4 (c :: cs) = some c := by simp only [partA, Tryd.underlying4]
theorem Tryd.ty4 : tyOk Tryd.prog 4 = true := by kernel_rfl
theorem Tryd.zr4 : zeroA Tryd.prog 4 = some [.bool false] := by kernel_rfl
theorem Tryd.cs5 : Tryd.prog.cellsOf 5 = 1 := by kernel_rfl
theorem Tryd.bt5 : Tryd.prog.bytesOf 5 = 1 := by kernel_rfl
theorem Tryd.pa5 (c : AV) (cs : List AV) : partA Tryd.prog 5 (c :: cs) = some c := by simp only [partA, Tryd.underlying5]
theorem Tryd.zr5 : zeroA Tryd.prog 5 = some [.int .u8 0] := by kernel_rfl
theorem Tryd.cs6 : Tryd.prog.cellsOf 6 = 1 := by kernel_rfl
theorem Tryd.bt6 : Tryd.prog.bytesOf 6 = 1 := by kernel_rfl
theorem Tryd.pa6 (c : AV) (cs : List AV) : partA Tryd.prog 6 (c :: cs) = some c := by simp only [partA, Tryd.underlying6]
theorem Tryd.zr6 : zeroA Tryd.prog 6 = some [.int .u8 0] := by kernel_rfl
theorem Tryd.cs7 : Tryd.prog.cellsOf 7 = 4 := by kernel_rfl
theorem Tryd.bt7 : Tryd.prog.bytesOf 7 = 24 := by kernel_rfl
theorem Tryd.pa7 (cs : List AV) : partA Tryd.prog 7 cs = if (cs.take 4).length = 4 then some (.agg (cs.take 4)) else none := by simp only [partA, Tryd.underlying7, Tryd.cs7]; simp
theorem Tryd.ty7 : tyOk Tryd.prog 7 = true := by kernel_rfl
theorem Tryd.zr7 : zeroA Tryd.prog 7 = some [.int .i64 0, .int .i64 0, .bool false, .int .u8 0] := by kernel_rfl
theorem Tryd.fd7_0 : fieldOff Tryd.prog 7 0 = some (0, 2) := by kernel_rfl
theorem Tryd.fd7_1 : fieldOff Tryd.prog 7 1 = some (1, 3) := by kernel_rfl
theorem Tryd.fd7_2 : fieldOff Tryd.prog 7 2 = some (2, 4) := by kernel_rfl
theorem Tryd.fd7_3 : fieldOff Tryd.prog 7 3 = some (3, 6) := by kernel_rfl
theorem Tryd.pl7 : placesA Tryd.prog 7 = some [(0, 1), (1, 1), (2, 1), (3, 1)] := by kernel_rfl
theorem Tryd.cs8 : Tryd.prog.cellsOf 8 = 4 := by kernel_rfl
theorem Tryd.bt8 : Tryd.prog.bytesOf 8 = 24 := by kernel_rfl
theorem Tryd.pa8 (cs : List AV) : partA Tryd.prog 8 cs = if (cs.take 4).length = 4 then some (.agg (cs.take 4)) else none := by simp only [partA, Tryd.underlying8, Tryd.cs8]; simp
theorem Tryd.ty8 : tyOk Tryd.prog 8 = true := by kernel_rfl
theorem Tryd.zr8 : zeroA Tryd.prog 8 = some [.int .i64 0, .int .i64 0, .bool false, .int .u8 0] := by kernel_rfl
theorem Tryd.fd8_0 : fieldOff Tryd.prog 8 0 = some (0, 2) := by kernel_rfl
theorem Tryd.fd8_1 : fieldOff Tryd.prog 8 1 = some (1, 3) := by kernel_rfl
theorem Tryd.fd8_2 : fieldOff Tryd.prog 8 2 = some (2, 4) := by kernel_rfl
theorem Tryd.fd8_3 : fieldOff Tryd.prog 8 3 = some (3, 6) := by kernel_rfl
theorem Tryd.pl8 : placesA Tryd.prog 8 = some [(0, 1), (1, 1), (2, 1), (3, 1)] := by kernel_rfl
theorem Tryd.cs9 : Tryd.prog.cellsOf 9 = 1 := by kernel_rfl
theorem Tryd.bt9 : Tryd.prog.bytesOf 9 = 16 := by kernel_rfl
theorem Tryd.pa9 (c : AV) (cs : List AV) : partA Tryd.prog 9 (c :: cs) = some c := by simp only [partA, Tryd.underlying9]
theorem Tryd.ty9 : tyOk Tryd.prog 9 = true := by kernel_rfl
theorem Tryd.zr9 : zeroA Tryd.prog 9 = some [.str []] := by kernel_rfl
theorem Tryd.cs10 : Tryd.prog.cellsOf 10 = 1 := by kernel_rfl
theorem Tryd.bt10 : Tryd.prog.bytesOf 10 = 16 := by kernel_rfl
theorem Tryd.pa10 (c : AV) (cs : List AV) : partA Tryd.prog 10 (c :: cs) = some c := by simp only [partA, Tryd.underlying10]
theorem Tryd.ty10 : tyOk Tryd.prog 10 = true := by kernel_rfl
theorem Tryd.zr10 : zeroA Tryd.prog 10 = some [.str []] := by kernel_rfl
theorem Tryd.cs11 : Tryd.prog.cellsOf 11 = 1 := by kernel_rfl
theorem Tryd.bt11 : Tryd.prog.bytesOf 11 = 16 := by kernel_rfl
theorem Tryd.pa11 (c : AV) (cs : List AV) : partA Tryd.prog 11 (c :: cs) = some c := by simp only [partA, Tryd.underlying11]
theorem Tryd.ty11 : tyOk Tryd.prog 11 = true := by kernel_rfl
theorem Tryd.zr11 : zeroA Tryd.prog 11 = some [.str []] := by kernel_rfl
theorem Tryd.cs12 : Tryd.prog.cellsOf 12 = 1 := by kernel_rfl
theorem Tryd.bt12 : Tryd.prog.bytesOf 12 = 8 := by kernel_rfl
theorem Tryd.pa12 (c : AV) (cs : List AV) : partA Tryd.prog 12 (c :: cs) = some c := by simp only [partA, Tryd.underlying12]
theorem Tryd.zr12 : zeroA Tryd.prog 12 = some [.int .u64 0] := by kernel_rfl
theorem Tryd.cs13 : Tryd.prog.cellsOf 13 = 2 := by kernel_rfl
theorem Tryd.bt13 : Tryd.prog.bytesOf 13 = 24 := by kernel_rfl
theorem Tryd.pa13 (cs : List AV) : partA Tryd.prog 13 cs = if (cs.take 2).length = 2 then some (.agg (cs.take 2)) else none := by simp only [partA, Tryd.underlying13, Tryd.cs13]; simp
theorem Tryd.ty13 : tyOk Tryd.prog 13 = true := by kernel_rfl
theorem Tryd.zr13 : zeroA Tryd.prog 13 = some [.str [], .int .u64 0] := by kernel_rfl
theorem Tryd.fd13_0 : fieldOff Tryd.prog 13 0 = some (0, 9) := by kernel_rfl
theorem Tryd.fd13_1 : fieldOff Tryd.prog 13 1 = some (1, 12) := by kernel_rfl
theorem Tryd.pl13 : placesA Tryd.prog 13 = some [(0, 1), (1, 1)] := by kernel_rfl
theorem Tryd.cs14 : Tryd.prog.cellsOf 14 = 2 := by kernel_rfl
theorem Tryd.bt14 : Tryd.prog.bytesOf 14 = 24 := by kernel_rfl
theorem Tryd.pa14 (cs : List AV) : partA Tryd.prog 14 cs = if (cs.take 2).length = 2 then some (.agg (cs.take 2)) else none := by simp only [partA, Tryd.underlying14, Tryd.cs14]; simp
theorem Tryd.ty14 : tyOk Tryd.prog 14 = true := by kernel_rfl
theorem Tryd.zr14 : zeroA Tryd.prog 14 = some [.str [], .int .u64 0] := by kernel_rfl
theorem Tryd.fd14_0 : fieldOff Tryd.prog 14 0 = some (0, 9) := by kernel_rfl
theorem Tryd.fd14_1 : fieldOff Tryd.prog 14 1 = some (1, 12) := by kernel_rfl
theorem Tryd.pl14 : placesA Tryd.prog 14 = some [(0, 1), (1, 1)] := by kernel_rfl
theorem Tryd.cs15 : Tryd.prog.cellsOf 15 = 1 := by kernel_rfl
theorem Tryd.bt15 : Tryd.prog.bytesOf 15 = 8 := by kernel_rfl
theorem Tryd.pa15 (c : AV) (cs : List AV) : partA Tryd.prog 15 (c :: cs) = some c := by simp only [partA, Tryd.underlying15]
theorem Tryd.ty15 : tyOk Tryd.prog 15 = true := by kernel_rfl
theorem Tryd.zr15 : zeroA Tryd.prog 15 = some [.nilp] := by kernel_rfl
theorem Tryd.cs16 : Tryd.prog.cellsOf 16 = 1 := by kernel_rfl
theorem Tryd.bt16 : Tryd.prog.bytesOf 16 = 8 := by kernel_rfl
theorem Tryd.pa16 (c : AV) (cs : List AV) : partA Tryd.prog 16 (c :: cs) = some c := by simp only [partA, Tryd.underlying16]
theorem Tryd.ty16 : tyOk Tryd.prog 16 = true := by kernel_rfl
theorem Tryd.zr16 : zeroA Tryd.prog 16 = some [.nilp] := by kernel_rfl
theorem Tryd.cs17 : Tryd.prog.cellsOf 17 = 1 := by kernel_rfl
theorem Tryd.bt17 : Tryd.prog.bytesOf 17 = 8 := by kernel_rfl
theorem Tryd.pa17 (c : AV) (cs : List AV) : partA Tryd.prog 17 (c :: cs) = some c := by simp only [partA, Tryd.underlying17]
theorem Tryd.ty17 : tyOk Tryd.prog 17 = true := by kernel_rfl
theorem Tryd.zr17 : zeroA Tryd.prog 17 = some [.nilp] := by kernel_rfl
theorem Tryd.cs18 : Tryd.prog.cellsOf 18 = 1 := by kernel_rfl
theorem Tryd.bt18 : Tryd.prog.bytesOf 18 = 8 := by kernel_rfl
theorem Tryd.pa18 (cs : List AV) : partA Tryd.prog 18 cs = if (cs.take 1).length = 1 then some (.agg (cs.take 1)) else none := by simp only [partA, Tryd.underlying18, Tryd.cs18]; simp
theorem Tryd.ty18 : tyOk Tryd.prog 18 = true := by kernel_rfl
theorem Tryd.zr18 : zeroA Tryd.prog 18 = some [.nilp] := by kernel_rfl
theorem Tryd.fd18_0 : fieldOff Tryd.prog 18 0 = some (0, 17) := by kernel_rfl
theorem Tryd.pl18 : placesA Tryd.prog 18 = some [(0, 1)] := by kernel_rfl
theorem Tryd.cs19 : Tryd.prog.cellsOf 19 = 1 := by kernel_rfl
theorem Tryd.bt19 : Tryd.prog.bytesOf 19 = 8 := by kernel_rfl
theorem Tryd.pa19 (cs : List AV) : partA Tryd.prog 19 cs = if (cs.take 1).length = 1 then some (.agg (cs.take 1)) else none := by simp only [partA, Tryd.underlying19, Tryd.cs19]; simp
theorem Tryd.ty19 : tyOk Tryd.prog 19 = true := by kernel_rfl
theorem Tryd.zr19 : zeroA Tryd.prog 19 = some [.nilp] := by kernel_rfl
theorem Tryd.fd19_0 : fieldOff Tryd.prog 19 0 = some (0, 17) := by kernel_rfl
theorem Tryd.pl19 : placesA Tryd.prog 19 = some [(0, 1)] := by kernel_rfl
theorem Tryd.cs20 : Tryd.prog.cellsOf 20 = 1 := by kernel_rfl
theorem Tryd.bt20 : Tryd.prog.bytesOf 20 = 16 := by kernel_rfl
theorem Tryd.pa20 (c : AV) (cs : List AV) : partA Tryd.prog 20 (c :: cs) = some c := by simp only [partA, Tryd.underlying20]
theorem Tryd.cs21 : Tryd.prog.cellsOf 21 = 1 := by kernel_rfl
theorem Tryd.bt21 : Tryd.prog.bytesOf 21 = 4 := by kernel_rfl
theorem Tryd.pa21 (c : AV) (cs : List AV) : partA Tryd.prog 21 (c :: cs) = some c := by simp only [partA, Tryd.underlying21]
theorem Tryd.zr21 : zeroA Tryd.prog 21 = some [.int .i32 0] := by kernel_rfl
theorem Tryd.cs22 : Tryd.prog.cellsOf 22 = 1 := by kernel_rfl
theorem Tryd.bt22 : Tryd.prog.bytesOf 22 = 24 := by kernel_rfl
theorem Tryd.pa22 (c : AV) (cs : List AV) : partA Tryd.prog 22 (c :: cs) = some c := by simp only [partA, Tryd.underlying22]
theorem Tryd.ty22 : tyOk Tryd.prog 22 = true := by kernel_rfl
theorem Tryd.sl22 : sliceElem Tryd.prog 22 = some (3, 1) := by kernel_rfl
theorem Tryd.zr22 : zeroA Tryd.prog 22 = some [.nils] := by kernel_rfl
theorem Tryd.cs23 : Tryd.prog.cellsOf 23 = 3 := by kernel_rfl
theorem Tryd.bt23 : Tryd.prog.bytesOf 23 = 24 := by kernel_rfl
theorem Tryd.pa23 (cs : List AV) : partA Tryd.prog 23 cs = if (cs.take 3).length = 3 then some (.agg (cs.take 3)) else none := by simp only [partA, Tryd.underlying23, Tryd.cs23]; simp
theorem Tryd.ty23 : tyOk Tryd.prog 23 = true := by kernel_rfl
theorem Tryd.zr23 : zeroA Tryd.prog 23 = some [.int .i64 0, .int .i64 0, .int .i64 0] := by kernel_rfl
theorem Tryd.fd23_0 : fieldOff Tryd.prog 23 0 = some (0, 3) := by kernel_rfl
theorem Tryd.fd23_1 : fieldOff Tryd.prog 23 1 = some (1, 3) := by kernel_rfl
theorem Tryd.fd23_2 : fieldOff Tryd.prog 23 2 = some (2, 3) := by kernel_rfl
theorem Tryd.pl23 : placesA Tryd.prog 23 = some [(0, 1), (1, 1), (2, 1)] := by kernel_rfl
theorem Tryd.cs24 : Tryd.prog.cellsOf 24 = 3 := by kernel_rfl
theorem Tryd.bt24 : Tryd.prog.bytesOf 24 = 24 := by kernel_rfl
theorem Tryd.pa24 (cs : List AV) : partA Tryd.prog 24 cs = if (cs.take 3).length = 3 then some (.agg (cs.take 3)) else none := by simp only [partA, Tryd.underlying24, Tryd.cs24]; simp
theorem Tryd.ty24 : tyOk Tryd.prog 24 = true := by kernel_rfl
theorem Tryd.zr24 : zeroA Tryd.prog 24 = some [.int .i64 0, .int .i64 0, .int .i64 0] := by kernel_rfl
theorem Tryd.fd24_0 : fieldOff Tryd.prog 24 0 = some (0, 3) := by kernel_rfl
theorem Tryd.fd24_1 : fieldOff Tryd.prog 24 1 = some (1, 3) := by kernel_rfl
theorem Tryd.fd24_2 : fieldOff Tryd.prog 24 2 = some (2, 3) := by kernel_rfl
theorem Tryd.pl24 : placesA Tryd.prog 24 = some [(0, 1), (1, 1), (2, 1)] := by kernel_rfl
theorem Tryd.eq24 (a0 b0 : Int) (a1 b1 : Int) (a2 b2 : Int) : eqAgg Tryd.prog 24 [.int .i64 a0, .int .i64 a1, .int .i64 a2] [.int .i64 b0, .int .i64 b1, .int .i64 b2] = some ((decide (a0 = b0) && (decide (a1 = b1) && (decide (a2 = b2) && true)))) := by kernel_rfl
theorem Tryd.cs25 : Tryd.prog.cellsOf 25 = 1 := by kernel_rfl
theorem Tryd.bt25 : Tryd.prog.bytesOf 25 = 24 := by kernel_rfl
theorem Tryd.pa25 (c : AV) (cs : List AV) : partA Tryd.prog 25 (c :: cs) = some c := by simp only [partA, Tryd.underlying25]
theorem Tryd.ty25 : tyOk Tryd.prog 25 = true := by kernel_rfl
theorem Tryd.sl25 : sliceElem Tryd.prog 25 = some (24, 3) := by kernel_rfl
theorem Tryd.zr25 : zeroA Tryd.prog 25 = some [.nils] := by kernel_rfl
theorem Tryd.cs26 : Tryd.prog.cellsOf 26 = 1 := by kernel_rfl
theorem Tryd.bt26 : Tryd.prog.bytesOf 26 = 8 := by kernel_rfl
theorem Tryd.pa26 (c : AV) (cs : List AV) : partA Tryd.prog 26 (c :: cs) = some c := by simp only [partA, Tryd.underlying26]
theorem Tryd.ty26 : tyOk Tryd.prog 26 = true := by kernel_rfl
theorem Tryd.zr26 : zeroA Tryd.prog 26 = some [.nilf] := by kernel_rfl
theorem Tryd.cs27 : Tryd.prog.cellsOf 27 = 1 := by kernel_rfl
theorem Tryd.bt27 : Tryd.prog.bytesOf 27 = 8 := by kernel_rfl
theorem Tryd.pa27 (c : AV) (cs : List AV) : partA Tryd.prog 27 (c :: cs) = some c := by simp only [partA, Tryd.underlying27]
theorem Tryd.zr27 : zeroA Tryd.prog 27 = some [.int .i64 0] := by kernel_rfl
theorem Tryd.cs28 : Tryd.prog.cellsOf 28 = 1 := by kernel_rfl
theorem Tryd.bt28 : Tryd.prog.bytesOf 28 = 0 := by kernel_rfl
theorem Tryd.cs29 : Tryd.prog.cellsOf 29 = 1 := by kernel_rfl
theorem Tryd.bt29 : Tryd.prog.bytesOf 29 = 8 := by kernel_rfl
theorem Tryd.pa29 (c : AV) (cs : List AV) : partA Tryd.prog 29 (c :: cs) = some c := by simp only [partA, Tryd.underlying29]
theorem Tryd.ty29 : tyOk Tryd.prog 29 = true := by kernel_rfl
theorem Tryd.zr29 : zeroA Tryd.prog 29 = some [.nilf] := by kernel_rfl
theorem Tryd.cs30 : Tryd.prog.cellsOf 30 = 1 := by kernel_rfl
theorem Tryd.bt30 : Tryd.prog.bytesOf 30 = 8 := by kernel_rfl
theorem Tryd.pa30 (c : AV) (cs : List AV) : partA Tryd.prog 30 (c :: cs) = some c := by simp only [partA, Tryd.underlying30]
theorem Tryd.ty30 : tyOk Tryd.prog 30 = true := by kernel_rfl
theorem Tryd.zr30 : zeroA Tryd.prog 30 = some [.nilf] := by kernel_rfl
theorem Tryd.cs31 : Tryd.prog.cellsOf 31 = 1 := by kernel_rfl
theorem Tryd.bt31 : Tryd.prog.bytesOf 31 = 8 := by kernel_rfl
theorem Tryd.pa31 (c : AV) (cs : List AV) : partA Tryd.prog 31 (c :: cs) = some c := by simp only [partA, Tryd.underlying31]
theorem Tryd.ty31 : tyOk Tryd.prog 31 = true := by kernel_rfl
theorem Tryd.zr31 : zeroA Tryd.prog 31 = some [.nilf] := by kernel_rfl
theorem Tryd.cs32 : Tryd.prog.cellsOf 32 = 1 := by kernel_rfl
theorem Tryd.bt32 : Tryd.prog.bytesOf 32 = 8 := by kernel_rfl
theorem Tryd.pa32 (c : AV) (cs : List AV) : partA Tryd.prog 32 (c :: cs) = some c := by simp only [partA, Tryd.underlying32]
theorem Tryd.ty32 : tyOk Tryd.prog 32 = true := by kernel_rfl
theorem Tryd.zr32 : zeroA Tryd.prog 32 = some [.nilf] := by kernel_rfl
theorem Tryd.cs33 : Tryd.prog.cellsOf 33 = 1 := by kernel_rfl
theorem Tryd.bt33 : Tryd.prog.bytesOf 33 = 0 := by kernel_rfl
theorem Tryd.cs34 : Tryd.prog.cellsOf 34 = 1 := by kernel_rfl
theorem Tryd.bt34 : Tryd.prog.bytesOf 34 = 8 := by kernel_rfl
theorem Tryd.pa34 (c : AV) (cs : List AV) : partA Tryd.prog 34 (c :: cs) = some c := by simp only [partA, Tryd.underlying34]
theorem Tryd.ty34 : tyOk Tryd.prog 34 = true := by kernel_rfl
theorem Tryd.zr34 : zeroA Tryd.prog 34 = some [.nilf] := by kernel_rfl
theorem Tryd.cs35 : Tryd.prog.cellsOf 35 = 1 := by kernel_rfl
theorem Tryd.bt35 : Tryd.prog.bytesOf 35 = 8 := by kernel_rfl
theorem Tryd.pa35 (c : AV) (cs : List AV) : partA Tryd.prog 35 (c :: cs) = some c := by simp only [partA, Tryd.underlying35]
theorem Tryd.ty35 : tyOk Tryd.prog 35 = true := by kernel_rfl
theorem Tryd.zr35 : zeroA Tryd.prog 35 = some [.nilf] := by kernel_rfl
theorem Tryd.cs36 : Tryd.prog.cellsOf 36 = 1 := by kernel_rfl
theorem Tryd.bt36 : Tryd.prog.bytesOf 36 = 8 := by kernel_rfl
theorem Tryd.pa36 (c : AV) (cs : List AV) : partA Tryd.prog 36 (c :: cs) = some c := by simp only [partA, Tryd.underlying36]
theorem Tryd.ty36 : tyOk Tryd.prog 36 = true := by kernel_rfl
theorem Tryd.zr36 : zeroA Tryd.prog 36 = some [.nilf] := by kernel_rfl
theorem Tryd.cs37 : Tryd.prog.cellsOf 37 = 1 := by kernel_rfl
theorem Tryd.bt37 : Tryd.prog.bytesOf 37 = 8 := by kernel_rfl
theorem Tryd.pa37 (c : AV) (cs : List AV) : partA Tryd.prog 37 (c :: cs) = some c := by simp only [partA, Tryd.underlying37]
theorem Tryd.ty37 : tyOk Tryd.prog 37 = true := by kernel_rfl
theorem Tryd.zr37 : zeroA Tryd.prog 37 = some [.nilf] := by kernel_rfl
theorem Tryd.cs38 : Tryd.prog.cellsOf 38 = 1 := by kernel_rfl
theorem Tryd.bt38 : Tryd.prog.bytesOf 38 = 8 := by kernel_rfl
theorem Tryd.pa38 (c : AV) (cs : List AV) : partA Tryd.prog 38 (c :: cs) = some c := by simp only [partA, Tryd.underlying38]
theorem Tryd.ty38 : tyOk Tryd.prog 38 = true := by kernel_rfl
theorem Tryd.zr38 : zeroA Tryd.prog 38 = some [.nilf] := by kernel_rfl
theorem Tryd.cs39 : Tryd.prog.cellsOf 39 = 1 := by kernel_rfl
theorem Tryd.bt39 : Tryd.prog.bytesOf 39 = 8 := by kernel_rfl
theorem Tryd.pa39 (c : AV) (cs : List AV) : partA Tryd.prog 39 (c :: cs) = some c := by simp only [partA, Tryd.underlying39]
theorem Tryd.ty39 : tyOk Tryd.prog 39 = true := by kernel_rfl
theorem Tryd.zr39 : zeroA Tryd.prog 39 = some [.nilf] := by kernel_rfl
theorem Tryd.cs40 : Tryd.prog.cellsOf 40 = 1 := by kernel_rfl
theorem Tryd.bt40 : Tryd.prog.bytesOf 40 = 8 := by kernel_rfl
theorem Tryd.pa40 (c : AV) (cs : List AV) : partA Tryd.prog 40 (c :: cs) = some c := by simp only [partA, Tryd.underlying40]
theorem Tryd.ty40 : tyOk Tryd.prog 40 = true := by kernel_rfl
theorem Tryd.zr40 : zeroA Tryd.prog 40 = some [.nilf] := by kernel_rfl
theorem Tryd.cs41 : Tryd.prog.cellsOf 41 = 1 := by kernel_rfl
theorem Tryd.bt41 : Tryd.prog.bytesOf 41 = 8 := by kernel_rfl
theorem Tryd.pa41 (c : AV) (cs : List AV) : partA Tryd.prog 41 (c :: cs) = some c := by simp only [partA, Tryd.underlying41]
theorem Tryd.ty41 : tyOk Tryd.prog 41 = true := by kernel_rfl
theorem Tryd.zr41 : zeroA Tryd.prog 41 = some [.nilf] := by kernel_rfl
theorem Tryd.cs42 : Tryd.prog.cellsOf 42 = 1 := by kernel_rfl
theorem Tryd.bt42 : Tryd.prog.bytesOf 42 = 8 := by kernel_rfl
theorem Tryd.pa42 (c : AV) (cs : List AV) : partA Tryd.prog 42 (c :: cs) = some c := by simp only [partA, Tryd.underlying42]
theorem Tryd.ty42 : tyOk Tryd.prog 42 = true := by kernel_rfl
theorem Tryd.zr42 : zeroA Tryd.prog 42 = some [.nilf] := by kernel_rfl
theorem Tryd.cs43 : Tryd.prog.cellsOf 43 = 1 := by kernel_rfl
theorem Tryd.bt43 : Tryd.prog.bytesOf 43 = 24 := by kernel_rfl
theorem Tryd.pa43 (c : AV) (cs : List AV) : partA Tryd.prog 43 (c :: cs) = some c := by simp only [partA, Tryd.underlying43]
theorem Tryd.ty43 : tyOk Tryd.prog 43 = true := by kernel_rfl
theorem Tryd.sl43 : sliceElem Tryd.prog 43 = some (5, 1) := by kernel_rfl
theorem Tryd.zr43 : zeroA Tryd.prog 43 = some [.nils] := by kernel_rfl
theorem Tryd.cs44 : Tryd.prog.cellsOf 44 = 1 := by kernel_rfl
theorem Tryd.bt44 : Tryd.prog.bytesOf 44 = 24 := by kernel_rfl
theorem Tryd.pa44 (c : AV) (cs : List AV) : partA Tryd.prog 44 (c :: cs) = some c := by simp only [partA, Tryd.underlying44]
theorem Tryd.ty44 : tyOk Tryd.prog 44 = true := by kernel_rfl
theorem Tryd.sl44 : sliceElem Tryd.prog 44 = some (9, 1) := by kernel_rfl
theorem Tryd.zr44 : zeroA Tryd.prog 44 = some [.nils] := by kernel_rfl
theorem Tryd.cs45 : Tryd.prog.cellsOf 45 = 1 := by kernel_rfl
theorem Tryd.bt45 : Tryd.prog.bytesOf 45 = 8 := by kernel_rfl
theorem Tryd.pa45 (c : AV) (cs : List AV) : partA Tryd.prog 45 (c :: cs) = some c := by simp only [partA, Tryd.underlying45]
theorem Tryd.ty45 : tyOk Tryd.prog 45 = true := by kernel_rfl
theorem Tryd.zr45 : zeroA Tryd.prog 45 = some [.nilf] := by kernel_rfl
theorem Tryd.cs46 : Tryd.prog.cellsOf 46 = 1 := by kernel_rfl
theorem Tryd.bt46 : Tryd.prog.bytesOf 46 = 8 := by kernel_rfl
theorem Tryd.pa46 (c : AV) (cs : List AV) : partA Tryd.prog 46 (c :: cs) = some c := by simp only [partA, Tryd.underlying46]
theorem Tryd.ty46 : tyOk Tryd.prog 46 = true := by kernel_rfl
theorem Tryd.zr46 : zeroA Tryd.prog 46 = some [.nilf] := by kernel_rfl
theorem Tryd.cs47 : Tryd.prog.cellsOf 47 = 1 := by kernel_rfl
theorem Tryd.bt47 : Tryd.prog.bytesOf 47 = 24 := by kernel_rfl
theorem Tryd.pa47 (cs : List AV) : partA Tryd.prog 47 cs = if (cs.take 1).length = 1 then some (.agg (cs.take 1)) else none := by simp only [partA, Tryd.underlying47, Tryd.cs47]; simp
theorem Tryd.ty47 : tyOk Tryd.prog 47 = true := by kernel_rfl
theorem Tryd.zr47 : zeroA Tryd.prog 47 = some [.nils] := by kernel_rfl
theorem Tryd.fd47_0 : fieldOff Tryd.prog 47 0 = some (0, 43) := by kernel_rfl
theorem Tryd.pl47 : placesA Tryd.prog 47 = some [(0, 1)] := by kernel_rfl
theorem Tryd.cs48 : Tryd.prog.cellsOf 48 = 1 := by kernel_rfl
theorem Tryd.bt48 : Tryd.prog.bytesOf 48 = 24 := by kernel_rfl
theorem Tryd.pa48 (cs : List AV) : partA Tryd.prog 48 cs = if (cs.take 1).length = 1 then some (.agg (cs.take 1)) else none := by simp only [partA, Tryd.underlying48, Tryd.cs48]; simp
theorem Tryd.ty48 : tyOk Tryd.prog 48 = true := by kernel_rfl
theorem Tryd.zr48 : zeroA Tryd.prog 48 = some [.nils] := by kernel_rfl
theorem Tryd.fd48_0 : fieldOff Tryd.prog 48 0 = some (0, 43) := by kernel_rfl
theorem Tryd.pl48 : placesA Tryd.prog 48 = some [(0, 1)] := by kernel_rfl
theorem Tryd.cs49 : Tryd.prog.cellsOf 49 = 1 := by kernel_rfl
theorem Tryd.bt49 : Tryd.prog.bytesOf 49 = 8 := by kernel_rfl
theorem Tryd.pa49 (c : AV) (cs : List AV) : partA Tryd.prog 49 (c :: cs) = some c := by simp only [partA, Tryd.underlying49]
theorem Tryd.ty49 : tyOk Tryd.prog 49 = true := by kernel_rfl
theorem Tryd.zr49 : zeroA Tryd.prog 49 = some [.nilf] := by kernel_rfl
theorem Tryd.cs50 : Tryd.prog.cellsOf 50 = 1 := by kernel_rfl
theorem Tryd.bt50 : Tryd.prog.bytesOf 50 = 8 := by kernel_rfl
theorem Tryd.pa50 (c : AV) (cs : List AV) : partA Tryd.prog 50 (c :: cs) = some c := by simp only [partA, Tryd.underlying50]
theorem Tryd.ty50 : tyOk Tryd.prog 50 = true := by kernel_rfl
theorem Tryd.zr50 : zeroA Tryd.prog 50 = some [.nilp] := by kernel_rfl
theorem Tryd.cs51 : Tryd.prog.cellsOf 51 = 1 := by kernel_rfl
theorem Tryd.bt51 : Tryd.prog.bytesOf 51 = 8 := by kernel_rfl
theorem Tryd.pa51 (c : AV) (cs : List AV) : partA Tryd.prog 51 (c :: cs) = some c := by simp only [partA, Tryd.underlying51]
theorem Tryd.ty51 : tyOk Tryd.prog 51 = true := by kernel_rfl
theorem Tryd.zr51 : zeroA Tryd.prog 51 = some [.nilf] := by kernel_rfl
theorem Tryd.cs52 : Tryd.prog.cellsOf 52 = 1 := by kernel_rfl
theorem Tryd.bt52 : Tryd.prog.bytesOf 52 = 8 := by kernel_rfl
theorem Tryd.pa52 (c : AV) (cs : List AV) : partA Tryd.prog 52 (c :: cs) = some c := by simp only [partA, Tryd.underlying52]
theorem Tryd.ty52 : tyOk Tryd.prog 52 = true := by kernel_rfl
theorem Tryd.zr52 : zeroA Tryd.prog 52 = some [.nilf] := by kernel_rfl
theorem Tryd.cs53 : Tryd.prog.cellsOf 53 = 1 := by kernel_rfl
theorem Tryd.bt53 : Tryd.prog.bytesOf 53 = 8 := by kernel_rfl
theorem Tryd.pa53 (c : AV) (cs : List AV) : partA Tryd.prog 53 (c :: cs) = some c := by simp only [partA, Tryd.underlying53]
theorem Tryd.ty53 : tyOk Tryd.prog 53 = true := by kernel_rfl
theorem Tryd.zr53 : zeroA Tryd.prog 53 = some [.nilf] := by kernel_rfl
theorem Tryd.cs54 : Tryd.prog.cellsOf 54 = 1 := by kernel_rfl
theorem Tryd.bt54 : Tryd.prog.bytesOf 54 = 8 := by kernel_rfl
theorem Tryd.pa54 (c : AV) (cs : List AV) : partA Tryd.prog 54 (c :: cs) = some c := by simp only [partA, Tryd.underlying54]
theorem Tryd.ty54 : tyOk Tryd.prog 54 = true := by kernel_rfl
theorem Tryd.zr54 : zeroA Tryd.prog 54 = some [.nilf] := by kernel_rfl
theorem Tryd.cs55 : Tryd.prog.cellsOf 55 = 1 := by kernel_rfl
theorem Tryd.bt55 : Tryd.prog.bytesOf 55 = 8 := by kernel_rfl
theorem Tryd.pa55 (c : AV) (cs : List AV) : partA Tryd.prog 55 (c :: cs) = some c := by simp only [partA, Tryd.underlying55]
theorem Tryd.zr55 : zeroA Tryd.prog 55 = some [.int .u64 0] := by kernel_rfl
theorem Tryd.cs56 : Tryd.prog.cellsOf 56 = 1 := by kernel_rfl
theorem Tryd.bt56 : Tryd.prog.bytesOf 56 = 8 := by kernel_rfl
theorem Tryd.pa56 (c : AV) (cs : List AV) : partA Tryd.prog 56 (c :: cs) = some c := by simp only [partA, Tryd.underlying56]
theorem Tryd.ty56 : tyOk Tryd.prog 56 = true := by kernel_rfl
theorem Tryd.zr56 : zeroA Tryd.prog 56 = some [.nilf] := by kernel_rfl
theorem Tryd.cs57 : Tryd.prog.cellsOf 57 = 1 := by kernel_rfl
theorem Tryd.bt57 : Tryd.prog.bytesOf 57 = 8 := by kernel_rfl
theorem Tryd.pa57 (c : AV) (cs : List AV) : partA Tryd.prog 57 (c :: cs) = some c := by simp only [partA, Tryd.underlying57]
theorem Tryd.ty57 : tyOk Tryd.prog 57 = true := by kernel_rfl
theorem Tryd.zr57 : zeroA Tryd.prog 57 = some [.nilf] := by kernel_rfl
theorem Tryd.cs58 : Tryd.prog.cellsOf 58 = 1 := by kernel_rfl
theorem Tryd.bt58 : Tryd.prog.bytesOf 58 = 8 := by kernel_rfl
theorem Tryd.pa58 (c : AV) (cs : List AV) : partA Tryd.prog 58 (c :: cs) = some c := by simp only [partA, Tryd.underlying58]
theorem Tryd.ty58 : tyOk Tryd.prog 58 = true := by kernel_rfl
theorem Tryd.zr58 : zeroA Tryd.prog 58 = some [.nilf] := by kernel_rfl
theorem Tryd.cs59 : Tryd.prog.cellsOf 59 = 1 := by kernel_rfl
theorem Tryd.bt59 : Tryd.prog.bytesOf 59 = 8 := by kernel_rfl
theorem Tryd.pa59 (c : AV) (cs : List AV) : partA Tryd.prog 59 (c :: cs) = some c := by simp only [partA, Tryd.underlying59]
theorem Tryd.ty59 : tyOk Tryd.prog 59 = true := by kernel_rfl
theorem Tryd.zr59 : zeroA Tryd.prog 59 = some [.nilf] := by kernel_rfl
theorem Tryd.cs60 : Tryd.prog.cellsOf 60 = 12 := by kernel_rfl
theorem Tryd.bt60 : Tryd.prog.bytesOf 60 = 96 := by kernel_rfl
theorem Tryd.pa60 (cs : List AV) : partA Tryd.prog 60 cs = if (cs.take 12).length = 12 then some (.agg (cs.take 12)) else none := by simp only [partA, Tryd.underlying60, Tryd.cs60]; simp
theorem Tryd.ty60 : tyOk Tryd.prog 60 = true := by kernel_rfl
theorem Tryd.sl60 : sliceElem Tryd.prog 60 = none := by kernel_rfl
theorem Tryd.ar60 : arrElem Tryd.prog 60 = some (12, 1) := by kernel_rfl
theorem Tryd.zr60 : zeroA Tryd.prog 60 = some [.int .i64 0, .int .i64 0, .int .i64 0, .int .i64 0, .int .i64 0, .int .i64 0, .int .i64 0, .int .i64 0, .int .i64 0, .int .i64 0, .int .i64 0, .int .i64 0] := by kernel_rfl
theorem Tryd.pl60 : placesA Tryd.prog 60 = some [(0, 1), (1, 1), (2, 1), (3, 1), (4, 1), (5, 1), (6, 1), (7, 1), (8, 1), (9, 1), (10, 1), (11, 1)] := by kernel_rfl
theorem Tryd.cs61 : Tryd.prog.cellsOf 61 = 1 := by kernel_rfl
theorem Tryd.bt61 : Tryd.prog.bytesOf 61 = 8 := by kernel_rfl
theorem Tryd.pa61 (c : AV) (cs : List AV) : partA Tryd.prog 61 (c :: cs) = some c := by simp only [partA, Tryd.underlying61]
theorem Tryd.ty61 : tyOk Tryd.prog 61 = true := by kernel_rfl
theorem Tryd.zr61 : zeroA Tryd.prog 61 = some [.nilf] := by kernel_rfl
theorem Tryd.cs62 : Tryd.prog.cellsOf 62 = 1 := by kernel_rfl
theorem Tryd.bt62 : Tryd.prog.bytesOf 62 = 8 := by kernel_rfl
theorem Tryd.pa62 (c : AV) (cs : List AV) : partA Tryd.prog 62 (c :: cs) = some c := by simp only [partA, Tryd.underlying62]
theorem Tryd.ty62 : tyOk Tryd.prog 62 = true := by kernel_rfl
theorem Tryd.zr62 : zeroA Tryd.prog 62 = some [.nilf] := by kernel_rfl
theorem Tryd.cs63 : Tryd.prog.cellsOf 63 = 1 := by kernel_rfl
theorem Tryd.bt63 : Tryd.prog.bytesOf 63 = 8 := by kernel_rfl
theorem Tryd.pa63 (c : AV) (cs : List AV) : partA Tryd.prog 63 (c :: cs) = some c := by simp only [partA, Tryd.underlying63]
theorem Tryd.ty63 : tyOk Tryd.prog 63 = true := by kernel_rfl
theorem Tryd.zr63 : zeroA Tryd.prog 63 = some [.nilf] := by kernel_rfl
theorem Tryd.cs64 : Tryd.prog.cellsOf 64 = 1 := by kernel_rfl
theorem Tryd.bt64 : Tryd.prog.bytesOf 64 = 8 := by kernel_rfl
theorem Tryd.pa64 (c : AV) (cs : List AV) : partA Tryd.prog 64 (c :: cs) = some c := by simp only [partA, Tryd.underlying64]
theorem Tryd.ty64 : tyOk Tryd.prog 64 = true := by kernel_rfl
theorem Tryd.zr64 : zeroA Tryd.prog 64 = some [.nilf] := by kernel_rfl
theorem Tryd.cs65 : Tryd.prog.cellsOf 65 = 1 := by kernel_rfl
theorem Tryd.bt65 : Tryd.prog.bytesOf 65 = 8 := by kernel_rfl
theorem Tryd.pa65 (c : AV) (cs : List AV) : partA Tryd.prog 65 (c :: cs) = some c := by simp only [partA, Tryd.underlying65]
theorem Tryd.ty65 : tyOk Tryd.prog 65 = true := by kernel_rfl
theorem Tryd.zr65 : zeroA Tryd.prog 65 = some [.nilf] := by kernel_rfl
theorem Tryd.cs66 : Tryd.prog.cellsOf 66 = 1 := by kernel_rfl
theorem Tryd.bt66 : Tryd.prog.bytesOf 66 = 8 := by kernel_rfl
theorem Tryd.pa66 (c : AV) (cs : List AV) : partA Tryd.prog 66 (c :: cs) = some c := by simp only [partA, Tryd.underlying66]
theorem Tryd.ty66 : tyOk Tryd.prog 66 = true := by kernel_rfl
theorem Tryd.zr66 : zeroA Tryd.prog 66 = some [.nilf] := by kernel_rfl
theorem Tryd.cs67 : Tryd.prog.cellsOf 67 = 3 := by kernel_rfl
theorem Tryd.bt67 : Tryd.prog.bytesOf 67 = 24 := by kernel_rfl
theorem Tryd.pa67 (cs : List AV) : partA Tryd.prog 67 cs = if (cs.take 3).length = 3 then some (.agg (cs.take 3)) else none := by simp only [partA, Tryd.underlying67, Tryd.cs67]; simp
theorem Tryd.ty67 : tyOk Tryd.prog 67 = true := by kernel_rfl
theorem Tryd.sl67 : sliceElem Tryd.prog 67 = none := by kernel_rfl
theorem Tryd.ar67 : arrElem Tryd.prog 67 = some (3, 1) := by kernel_rfl
theorem Tryd.zr67 : zeroA Tryd.prog 67 = some [.int .i64 0, .int .i64 0, .int .i64 0] := by kernel_rfl
theorem Tryd.pl67 : placesA Tryd.prog 67 = some [(0, 1), (1, 1), (2, 1)] := by kernel_rfl
theorem Tryd.cs68 : Tryd.prog.cellsOf 68 = 1 := by kernel_rfl
theorem Tryd.bt68 : Tryd.prog.bytesOf 68 = 8 := by kernel_rfl
theorem Tryd.pa68 (c : AV) (cs : List AV) : partA Tryd.prog 68 (c :: cs) = some c := by simp only [partA, Tryd.underlying68]
theorem Tryd.ty68 : tyOk Tryd.prog 68 = true := by kernel_rfl
theorem Tryd.zr68 : zeroA Tryd.prog 68 = some [.nilp] := by kernel_rfl
theorem Tryd.cs69 : Tryd.prog.cellsOf 69 = 1 := by kernel_rfl
theorem Tryd.bt69 : Tryd.prog.bytesOf 69 = 8 := by kernel_rfl
theorem Tryd.pa69 (c : AV) (cs : List AV) : partA Tryd.prog 69 (c :: cs) = some c := by simp only [partA, Tryd.underlying69]
theorem Tryd.ty69 : tyOk Tryd.prog 69 = true := by kernel_rfl
theorem Tryd.zr69 : zeroA Tryd.prog 69 = some [.nilf] := by kernel_rfl
theorem Tryd.cs70 : Tryd.prog.cellsOf 70 = 1 := by kernel_rfl
theorem Tryd.bt70 : Tryd.prog.bytesOf 70 = 8 := by kernel_rfl
theorem Tryd.pa70 (c : AV) (cs : List AV) : partA Tryd.prog 70 (c :: cs) = some c := by simp only [partA, Tryd.underlying70]
theorem Tryd.ty70 : tyOk Tryd.prog 70 = true := by kernel_rfl
theorem Tryd.zr70 : zeroA Tryd.prog 70 = some [.nilf] := by kernel_rfl
theorem Tryd.cs71 : Tryd.prog.cellsOf 71 = 2 := by kernel_rfl
theorem Tryd.bt71 : Tryd.prog.bytesOf 71 = 32 := by kernel_rfl
theorem Tryd.pa71 (cs : List AV) : partA Tryd.prog 71 cs = if (cs.take 2).length = 2 then some (.agg (cs.take 2)) else none := by simp only [partA, Tryd.underlying71, Tryd.cs71]; simp
theorem Tryd.ty71 : tyOk Tryd.prog 71 = true := by kernel_rfl
theorem Tryd.zr71 : zeroA Tryd.prog 71 = some [.nils, .int .i64 0] := by kernel_rfl
theorem Tryd.fd71_0 : fieldOff Tryd.prog 71 0 = some (0, 43) := by kernel_rfl
theorem Tryd.fd71_1 : fieldOff Tryd.prog 71 1 = some (1, 27) := by kernel_rfl
theorem Tryd.pl71 : placesA Tryd.prog 71 = some [(0, 1), (1, 1)] := by kernel_rfl
theorem Tryd.cs72 : Tryd.prog.cellsOf 72 = 2 := by kernel_rfl
theorem Tryd.bt72 : Tryd.prog.bytesOf 72 = 32 := by kernel_rfl
theorem Tryd.pa72 (cs : List AV) : partA Tryd.prog 72 cs = if (cs.take 2).length = 2 then some (.agg (cs.take 2)) else none := by simp only [partA, Tryd.underlying72, Tryd.cs72]; simp
theorem Tryd.ty72 : tyOk Tryd.prog 72 = true := by kernel_rfl
theorem Tryd.zr72 : zeroA Tryd.prog 72 = some [.nils, .int .i64 0] := by kernel_rfl
theorem Tryd.fd72_0 : fieldOff Tryd.prog 72 0 = some (0, 43) := by kernel_rfl
theorem Tryd.fd72_1 : fieldOff Tryd.prog 72 1 = some (1, 27) := by kernel_rfl
theorem Tryd.pl72 : placesA Tryd.prog 72 = some [(0, 1), (1, 1)] := by kernel_rfl
theorem Tryd.cs73 : Tryd.prog.cellsOf 73 = 1 := by kernel_rfl
theorem Tryd.bt73 : Tryd.prog.bytesOf 73 = 8 := by kernel_rfl
theorem Tryd.pa73 (c : AV) (cs : List AV) : partA Tryd.prog 73 (c :: cs) = some c := by simp only [partA, Tryd.underlying73]
theorem Tryd.ty73 : tyOk Tryd.prog 73 = true := by kernel_rfl
theorem Tryd.zr73 : zeroA Tryd.prog 73 = some [.nilf] := by kernel_rfl
theorem Tryd.cs74 : Tryd.prog.cellsOf 74 = 1 := by kernel_rfl
theorem Tryd.bt74 : Tryd.prog.bytesOf 74 = 8 := by kernel_rfl
theorem Tryd.pa74 (c : AV) (cs : List AV) : partA Tryd.prog 74 (c :: cs) = some c := by simp only [partA, Tryd.underlying74]
theorem Tryd.ty74 : tyOk Tryd.prog 74 = true := by kernel_rfl
theorem Tryd.zr74 : zeroA Tryd.prog 74 = some [.nilf] := by kernel_rfl
theorem Tryd.cs75 : Tryd.prog.cellsOf 75 = 1 := by kernel_rfl
theorem Tryd.bt75 : Tryd.prog.bytesOf 75 = 8 := by kernel_rfl
theorem Tryd.pa75 (c : AV) (cs : List AV) : partA Tryd.prog 75 (c :: cs) = some c := by simp only [partA, Tryd.underlying75]
theorem Tryd.ty75 : tyOk Tryd.prog 75 = true := by kernel_rfl
theorem Tryd.zr75 : zeroA Tryd.prog 75 = some [.nilf] := by kernel_rfl
theorem Tryd.cs76 : Tryd.prog.cellsOf 76 = 1 := by kernel_rfl
theorem Tryd.bt76 : Tryd.prog.bytesOf 76 = 8 := by kernel_rfl
theorem Tryd.pa76 (c : AV) (cs : List AV) : partA Tryd.prog 76 (c :: cs) = some c := by simp only [partA, Tryd.underlying76]
theorem Tryd.ty76 : tyOk Tryd.prog 76 = true := by kernel_rfl
theorem Tryd.zr76 : zeroA Tryd.prog 76 = some [.nilf] := by kernel_rfl
theorem Tryd.cs77 : Tryd.prog.cellsOf 77 = 1 := by kernel_rfl
theorem Tryd.bt77 : Tryd.prog.bytesOf 77 = 8 := by kernel_rfl
theorem Tryd.pa77 (c : AV) (cs : List AV) : partA Tryd.prog 77 (c :: cs) = some c := by simp only [partA, Tryd.underlying77]
theorem Tryd.ty77 : tyOk Tryd.prog 77 = true := by kernel_rfl
theorem Tryd.zr77 : zeroA Tryd.prog 77 = some [.nilf] := by kernel_rfl
theorem Tryd.cs78 : Tryd.prog.cellsOf 78 = 1 := by kernel_rfl
theorem Tryd.bt78 : Tryd.prog.bytesOf 78 = 8 := by kernel_rfl
theorem Tryd.pa78 (c : AV) (cs : List AV) : partA Tryd.prog 78 (c :: cs) = some c := by simp only [partA, Tryd.underlying78]
theorem Tryd.zr78 : zeroA Tryd.prog 78 = some [.int .u64 0] := by kernel_rfl
theorem Tryd.cs79 : Tryd.prog.cellsOf 79 = 1 := by kernel_rfl
theorem Tryd.bt79 : Tryd.prog.bytesOf 79 = 8 := by kernel_rfl
theorem Tryd.pa79 (c : AV) (cs : List AV) : partA Tryd.prog 79 (c :: cs) = some c := by simp only [partA, Tryd.underlying79]
theorem Tryd.ty79 : tyOk Tryd.prog 79 = true := by kernel_rfl
theorem Tryd.zr79 : zeroA Tryd.prog 79 = some [.nilf] := by kernel_rfl
theorem Tryd.cs80 : Tryd.prog.cellsOf 80 = 1 := by kernel_rfl
theorem Tryd.bt80 : Tryd.prog.bytesOf 80 = 8 := by kernel_rfl
theorem Tryd.pa80 (c : AV) (cs : List AV) : partA Tryd.prog 80 (c :: cs) = some c := by simp only [partA, Tryd.underlying80]
theorem Tryd.ty80 : tyOk Tryd.prog 80 = true := by kernel_rfl
theorem Tryd.zr80 : zeroA Tryd.prog 80 = some [.nilf] := by kernel_rfl
theorem Tryd.cs81 : Tryd.prog.cellsOf 81 = 1 := by kernel_rfl
theorem Tryd.bt81 : Tryd.prog.bytesOf 81 = 8 := by kernel_rfl
theorem Tryd.pa81 (c : AV) (cs : List AV) : partA Tryd.prog 81 (c :: cs) = some c := by simp only [partA, Tryd.underlying81]
theorem Tryd.ty81 : tyOk Tryd.prog 81 = true := by kernel_rfl
theorem Tryd.zr81 : zeroA Tryd.prog 81 = some [.nilf] := by kernel_rfl
theorem Tryd.cs82 : Tryd.prog.cellsOf 82 = 1 := by kernel_rfl
theorem Tryd.bt82 : Tryd.prog.bytesOf 82 = 8 := by kernel_rfl
theorem Tryd.pa82 (c : AV) (cs : List AV) : partA Tryd.prog 82 (c :: cs) = some c := by simp only [partA, Tryd.underlying82]
theorem Tryd.ty82 : tyOk Tryd.prog 82 = true := by kernel_rfl
theorem Tryd.zr82 : zeroA Tryd.prog 82 = some [.nilf] := by kernel_rfl
theorem Tryd.cs83 : Tryd.prog.cellsOf 83 = 1 := by kernel_rfl
theorem Tryd.bt83 : Tryd.prog.bytesOf 83 = 8 := by kernel_rfl
theorem Tryd.pa83 (c : AV) (cs : List AV) : partA Tryd.prog 83 (c :: cs) = some c := by simp only [partA, Tryd.underlying83]
theorem Tryd.ty83 : tyOk Tryd.prog 83 = true := by kernel_rfl
theorem Tryd.zr83 : zeroA Tryd.prog 83 = some [.nilf] := by kernel_rfl
theorem Tryd.cs84 : Tryd.prog.cellsOf 84 = 4 := by kernel_rfl
theorem Tryd.bt84 : Tryd.prog.bytesOf 84 = 40 := by kernel_rfl
theorem Tryd.pa84 (cs : List AV) : partA Tryd.prog 84 cs = if (cs.take 4).length = 4 then some (.agg (cs.take 4)) else none := by simp only [partA, Tryd.underlying84, Tryd.cs84]; simp
theorem Tryd.ty84 : tyOk Tryd.prog 84 = true := by kernel_rfl
theorem Tryd.zr84 : zeroA Tryd.prog 84 = some [.nilp, .nilp, .nilp, .str []] := by kernel_rfl
theorem Tryd.fd84_0 : fieldOff Tryd.prog 84 0 = some (0, 17) := by kernel_rfl
theorem Tryd.fd84_1 : fieldOff Tryd.prog 84 1 = some (1, 17) := by kernel_rfl
theorem Tryd.fd84_2 : fieldOff Tryd.prog 84 2 = some (2, 17) := by kernel_rfl
theorem Tryd.fd84_3 : fieldOff Tryd.prog 84 3 = some (3, 9) := by kernel_rfl
theorem Tryd.pl84 : placesA Tryd.prog 84 = some [(0, 1), (1, 1), (2, 1), (3, 1)] := by kernel_rfl
theorem Tryd.cs85 : Tryd.prog.cellsOf 85 = 4 := by kernel_rfl
theorem Tryd.bt85 : Tryd.prog.bytesOf 85 = 40 := by kernel_rfl
theorem Tryd.pa85 (cs : List AV) : partA Tryd.prog 85 cs = if (cs.take 4).length = 4 then some (.agg (cs.take 4)) else none := by simp only [partA, Tryd.underlying85, Tryd.cs85]; simp
theorem Tryd.ty85 : tyOk Tryd.prog 85 = true := by kernel_rfl
theorem Tryd.zr85 : zeroA Tryd.prog 85 = some [.nilp, .nilp, .nilp, .str []] := by kernel_rfl
theorem Tryd.fd85_0 : fieldOff Tryd.prog 85 0 = some (0, 17) := by kernel_rfl
theorem Tryd.fd85_1 : fieldOff Tryd.prog 85 1 = some (1, 17) := by kernel_rfl
theorem Tryd.fd85_2 : fieldOff Tryd.prog 85 2 = some (2, 17) := by kernel_rfl
theorem Tryd.fd85_3 : fieldOff Tryd.prog 85 3 = some (3, 9) := by kernel_rfl
theorem Tryd.pl85 : placesA Tryd.prog 85 = some [(0, 1), (1, 1), (2, 1), (3, 1)] := by kernel_rfl
theorem Tryd.cs86 : Tryd.prog.cellsOf 86 = 0 := by kernel_rfl
theorem Tryd.bt86 : Tryd.prog.bytesOf 86 = 0 := by kernel_rfl
theorem Tryd.ty86 : tyOk Tryd.prog 86 = true := by kernel_rfl
theorem Tryd.sl86 : sliceElem Tryd.prog 86 = none := by kernel_rfl
theorem Tryd.ar86 : arrElem Tryd.prog 86 = some (0, 1) := by kernel_rfl
theorem Tryd.zr86 : zeroA Tryd.prog 86 = some [] := by kernel_rfl
theorem Tryd.pl86 : placesA Tryd.prog 86 = some [] := by kernel_rfl
theorem Tryd.cs87 : Tryd.prog.cellsOf 87 = 0 := by kernel_rfl
theorem Tryd.bt87 : Tryd.prog.bytesOf 87 = 0 := by kernel_rfl
theorem Tryd.ty87 : tyOk Tryd.prog 87 = true := by kernel_rfl
theorem Tryd.zr87 : zeroA Tryd.prog 87 = some [] := by kernel_rfl
theorem Tryd.pl87 : placesA Tryd.prog 87 = some [(0, 0)] := by kernel_rfl
theorem Tryd.cs88 : Tryd.prog.cellsOf 88 = 0 := by kernel_rfl
theorem Tryd.bt88 : Tryd.prog.bytesOf 88 = 0 := by kernel_rfl
theorem Tryd.ty88 : tyOk Tryd.prog 88 = true := by kernel_rfl
theorem Tryd.zr88 : zeroA Tryd.prog 88 = some [] := by kernel_rfl
theorem Tryd.pl88 : placesA Tryd.prog 88 = some [(0, 0)] := by kernel_rfl
theorem Tryd.cs89 : Tryd.prog.cellsOf 89 = 1 := by kernel_rfl
theorem Tryd.bt89 : Tryd.prog.bytesOf 89 = 8 := by kernel_rfl
theorem Tryd.pa89 (c : AV) (cs : List AV) : partA Tryd.prog 89 (c :: cs) = some c := by simp only [partA, Tryd.underlying89]
theorem Tryd.ty89 : tyOk Tryd.prog 89 = true := by kernel_rfl
theorem Tryd.zr89 : zeroA Tryd.prog 89 = some [.nilf] := by kernel_rfl
theorem Tryd.cs90 : Tryd.prog.cellsOf 90 = 1 := by kernel_rfl
theorem Tryd.bt90 : Tryd.prog.bytesOf 90 = 4 := by kernel_rfl
theorem Tryd.pa90 (c : AV) (cs : List AV) : partA Tryd.prog 90 (c :: cs) = some c := by simp only [partA, Tryd.underlying90]
theorem Tryd.zr90 : zeroA Tryd.prog 90 = some [.int .u32 0] := by kernel_rfl
theorem Tryd.cs91 : Tryd.prog.cellsOf 91 = 1 := by kernel_rfl
theorem Tryd.bt91 : Tryd.prog.bytesOf 91 = 1 := by kernel_rfl
theorem Tryd.pa91 (c : AV) (cs : List AV) : partA Tryd.prog 91 (c :: cs) = some c := by simp only [partA, Tryd.underlying91]
theorem Tryd.zr91 : zeroA Tryd.prog 91 = some [.int .u8 0] := by kernel_rfl
theorem Tryd.cs92 : Tryd.prog.cellsOf 92 = 1 := by kernel_rfl
theorem Tryd.bt92 : Tryd.prog.bytesOf 92 = 1 := by kernel_rfl
theorem Tryd.pa92 (c : AV) (cs : List AV) : partA Tryd.prog 92 (c :: cs) = some c := by simp only [partA, Tryd.underlying92]
theorem Tryd.zr92 : zeroA Tryd.prog 92 = some [.int .u8 0] := by kernel_rfl
theorem Tryd.cs93 : Tryd.prog.cellsOf 93 = 1 := by kernel_rfl
theorem Tryd.bt93 : Tryd.prog.bytesOf 93 = 8 := by kernel_rfl
theorem Tryd.pa93 (c : AV) (cs : List AV) : partA Tryd.prog 93 (c :: cs) = some c := by simp only [partA, Tryd.underlying93]
theorem Tryd.ty93 : tyOk Tryd.prog 93 = true := by kernel_rfl
theorem Tryd.zr93 : zeroA Tryd.prog 93 = some [.nilf] := by kernel_rfl
theorem Tryd.cs94 : Tryd.prog.cellsOf 94 = 1 := by kernel_rfl
theorem Tryd.bt94 : Tryd.prog.bytesOf 94 = 8 := by kernel_rfl
theorem Tryd.pa94 (c : AV) (cs : List AV) : partA Tryd.prog 94 (c :: cs) = some c := by simp only [partA, Tryd.underlying94]
theorem Tryd.ty94 : tyOk Tryd.prog 94 = true := by kernel_rfl
theorem Tryd.zr94 : zeroA Tryd.prog 94 = some [.nilp] := by kernel_rfl
theorem Tryd.cs95 : Tryd.prog.cellsOf 95 = 1 := by kernel_rfl
theorem Tryd.bt95 : Tryd.prog.bytesOf 95 = 4 := by kernel_rfl
theorem Tryd.pa95 (c : AV) (cs : List AV) : partA Tryd.prog 95 (c :: cs) = some c := by simp only [partA, Tryd.underlying95]
theorem Tryd.zr95 : zeroA Tryd.prog 95 = some [.int .i32 0] := by kernel_rfl
theorem Tryd.cs96 : Tryd.prog.cellsOf 96 = 1 := by kernel_rfl
theorem Tryd.bt96 : Tryd.prog.bytesOf 96 = 4 := by kernel_rfl
theorem Tryd.pa96 (c : AV) (cs : List AV) : partA Tryd.prog 96 (c :: cs) = some c := by simp only [partA, Tryd.underlying96]
theorem Tryd.zr96 : zeroA Tryd.prog 96 = some [.int .i32 0] := by kernel_rfl
theorem Tryd.cs97 : Tryd.prog.cellsOf 97 = 11 := by kernel_rfl
theorem Tryd.bt97 : Tryd.prog.bytesOf 97 = 48 := by kernel_rfl
theorem Tryd.pa97 (cs : List AV) : partA Tryd.prog 97 cs = if (cs.take 11).length = 11 then some (.agg (cs.take 11)) else none := by simp only [partA, Tryd.underlying97, Tryd.cs97]; simp
theorem Tryd.ty97 : tyOk Tryd.prog 97 = true := by kernel_rfl
theorem Tryd.zr97 : zeroA Tryd.prog 97 = some [.int .u64 0, .int .u64 0, .int .u32 0, .int .u8 0, .int .u8 0, .int .u8 0, .int .u8 0, .nilf, .nilp, .int .i32 0, .int .i32 0] := by kernel_rfl
theorem Tryd.fd97_0 : fieldOff Tryd.prog 97 0 = some (0, 12) := by kernel_rfl
theorem Tryd.fd97_1 : fieldOff Tryd.prog 97 1 = some (1, 12) := by kernel_rfl
theorem Tryd.fd97_2 : fieldOff Tryd.prog 97 2 = some (2, 90) := by kernel_rfl
theorem Tryd.fd97_3 : fieldOff Tryd.prog 97 3 = some (3, 91) := by kernel_rfl
theorem Tryd.fd97_4 : fieldOff Tryd.prog 97 4 = some (4, 5) := by kernel_rfl
theorem Tryd.fd97_5 : fieldOff Tryd.prog 97 5 = some (5, 5) := by kernel_rfl
theorem Tryd.fd97_6 : fieldOff Tryd.prog 97 6 = some (6, 92) := by kernel_rfl
theorem Tryd.fd97_7 : fieldOff Tryd.prog 97 7 = some (7, 93) := by kernel_rfl
theorem Tryd.fd97_8 : fieldOff Tryd.prog 97 8 = some (8, 94) := by kernel_rfl
theorem Tryd.fd97_9 : fieldOff Tryd.prog 97 9 = some (9, 95) := by kernel_rfl
theorem Tryd.fd97_10 : fieldOff Tryd.prog 97 10 = some (10, 96) := by kernel_rfl
theorem Tryd.pl97 : placesA Tryd.prog 97 = some [(0, 1), (1, 1), (2, 1), (3, 1), (4, 1), (5, 1), (6, 1), (7, 1), (8, 1), (9, 1), (10, 1)] := by kernel_rfl
theorem Tryd.cs98 : Tryd.prog.cellsOf 98 = 11 := by kernel_rfl
theorem Tryd.bt98 : Tryd.prog.bytesOf 98 = 48 := by kernel_rfl
theorem Tryd.pa98 (cs : List AV) : partA Tryd.prog 98 cs = if (cs.take 11).length = 11 then some (.agg (cs.take 11)) else none := by simp only [partA, Tryd.underlying98, Tryd.cs98]; simp
theorem Tryd.ty98 : tyOk Tryd.prog 98 = true := by kernel_rfl
theorem Tryd.zr98 : zeroA Tryd.prog 98 = some [.int .u64 0, .int .u64 0, .int .u32 0, .int .u8 0, .int .u8 0, .int .u8 0, .int .u8 0, .nilf, .nilp, .int .i32 0, .int .i32 0] := by kernel_rfl
theorem Tryd.fd98_0 : fieldOff Tryd.prog 98 0 = some (0, 12) := by kernel_rfl
theorem Tryd.fd98_1 : fieldOff Tryd.prog 98 1 = some (1, 12) := by kernel_rfl
theorem Tryd.fd98_2 : fieldOff Tryd.prog 98 2 = some (2, 90) := by kernel_rfl
theorem Tryd.fd98_3 : fieldOff Tryd.prog 98 3 = some (3, 91) := by kernel_rfl
theorem Tryd.fd98_4 : fieldOff Tryd.prog 98 4 = some (4, 5) := by kernel_rfl
theorem Tryd.fd98_5 : fieldOff Tryd.prog 98 5 = some (5, 5) := by kernel_rfl
theorem Tryd.fd98_6 : fieldOff Tryd.prog 98 6 = some (6, 92) := by kernel_rfl
theorem Tryd.fd98_7 : fieldOff Tryd.prog 98 7 = some (7, 93) := by kernel_rfl
theorem Tryd.fd98_8 : fieldOff Tryd.prog 98 8 = some (8, 94) := by kernel_rfl
theorem Tryd.fd98_9 : fieldOff Tryd.prog 98 9 = some (9, 95) := by kernel_rfl
theorem Tryd.fd98_10 : fieldOff Tryd.prog 98 10 = some (10, 96) := by kernel_rfl
theorem Tryd.pl98 : placesA Tryd.prog 98 = some [(0, 1), (1, 1), (2, 1), (3, 1), (4, 1), (5, 1), (6, 1), (7, 1), (8, 1), (9, 1), (10, 1)] := by kernel_rfl
theorem Tryd.cs99 : Tryd.prog.cellsOf 99 = 1 := by kernel_rfl
theorem Tryd.bt99 : Tryd.prog.bytesOf 99 = 8 := by kernel_rfl
theorem Tryd.pa99 (c : AV) (cs : List AV) : partA Tryd.prog 99 (c :: cs) = some c := by simp only [partA, Tryd.underlying99]
theorem Tryd.ty99 : tyOk Tryd.prog 99 = true := by kernel_rfl
theorem Tryd.zr99 : zeroA Tryd.prog 99 = some [.nilf] := by kernel_rfl
theorem Tryd.cs100 : Tryd.prog.cellsOf 100 = 1 := by kernel_rfl
theorem Tryd.bt100 : Tryd.prog.bytesOf 100 = 8 := by kernel_rfl
theorem Tryd.pa100 (c : AV) (cs : List AV) : partA Tryd.prog 100 (c :: cs) = some c := by simp only [partA, Tryd.underlying100]
theorem Tryd.ty100 : tyOk Tryd.prog 100 = true := by kernel_rfl
theorem Tryd.zr100 : zeroA Tryd.prog 100 = some [.nilp] := by kernel_rfl
end Go.Proofs
