/-
  The facts about the program's types that the reckoning needs.
-/
import Derived.Test.YthcbnjmmeejcjaaChecked
import Derived.Test.YthcbnjmmeejcjaaAbsC
namespace Go.Proofs
open Go.Pa
instance globTable : GTab := ⟨fun _ => []⟩
theorem Try.mixed : Try.prog.follows .mixedOrders = true := by kernel_rfl
theorem Try.cs0 : Try.prog.cellsOf 0 = 1 := by kernel_rfl
theorem Try.bt0 : Try.prog.bytesOf 0 = 0 := by kernel_rfl
theorem Try.cs1 : Try.prog.cellsOf 1 = 1 := by kernel_rfl
theorem Try.bt1 : Try.prog.bytesOf 1 = 8 := by kernel_rfl
theorem Try.pa1 (c : AV) (cs : List AV) : partA Try.prog 1 (c :: cs) = some c := by simp only [partA, Try.underlying1]
theorem Try.ty1 : tyOk Try.prog 1 = true := by kernel_rfl
theorem Try.zr1 : zeroA Try.prog 1 = some [.nilf] := by kernel_rfl
theorem Try.cs2 : Try.prog.cellsOf 2 = 1 := by kernel_rfl
theorem Try.bt2 : Try.prog.bytesOf 2 = 8 := by kernel_rfl
theorem Try.pa2 (c : AV) (cs : List AV) : partA Try.prog 2 (c :: cs) = some c := by simp only [partA, Try.underlying2]
theorem Try.zr2 : zeroA Try.prog 2 = some [.int .i64 0] := by kernel_rfl
theorem Try.cs3 : Try.prog.cellsOf 3 = 1 := by kernel_rfl
theorem Try.bt3 : Try.prog.bytesOf 3 = 8 := by kernel_rfl
theorem Try.pa3 (c : AV) (cs : List AV) : partA Try.prog 3 (c :: cs) = some c := by simp only [partA, Try.underlying3]
theorem Try.zr3 : zeroA Try.prog 3 = some [.int .i64 0] := by kernel_rfl
theorem Try.cs4 : Try.prog.cellsOf 4 = 1 := by kernel_rfl
theorem Try.bt4 : Try.prog.bytesOf 4 = 1 := by kernel_rfl
theorem Try.pa4 (c : AV) (cs : List AV) : partA Try.prog 4 (c :: cs) = some c := by simp only [partA, Try.underlying4]
theorem Try.ty4 : tyOk Try.prog 4 = true := by kernel_rfl
theorem Try.zr4 : zeroA Try.prog 4 = some [.bool false] := by kernel_rfl
theorem Try.cs5 : Try.prog.cellsOf 5 = 1 := by kernel_rfl
theorem Try.bt5 : Try.prog.bytesOf 5 = 1 := by kernel_rfl
theorem Try.pa5 (c : AV) (cs : List AV) : partA Try.prog 5 (c :: cs) = some c := by simp only [partA, Try.underlying5]
theorem Try.zr5 : zeroA Try.prog 5 = some [.int .u8 0] := by kernel_rfl
theorem Try.cs6 : Try.prog.cellsOf 6 = 1 := by kernel_rfl
theorem Try.bt6 : Try.prog.bytesOf 6 = 1 := by kernel_rfl
theorem Try.pa6 (c : AV) (cs : List AV) : partA Try.prog 6 (c :: cs) = some c := by simp only [partA, Try.underlying6]
theorem Try.zr6 : zeroA Try.prog 6 = some [.int .u8 0] := by kernel_rfl
theorem Try.cs7 : Try.prog.cellsOf 7 = 4 := by kernel_rfl
theorem Try.bt7 : Try.prog.bytesOf 7 = 24 := by kernel_rfl
theorem Try.pa7 (cs : List AV) : partA Try.prog 7 cs = if (cs.take 4).length = 4 then some (.agg (cs.take 4)) else none := by simp only [partA, Try.underlying7, Try.cs7]; simp
theorem Try.ty7 : tyOk Try.prog 7 = true := by kernel_rfl
theorem Try.zr7 : zeroA Try.prog 7 = some [.int .i64 0, .int .i64 0, .bool false, .int .u8 0] := by kernel_rfl
theorem Try.fd7_0 : fieldOff Try.prog 7 0 = some (0, 2) := by kernel_rfl
theorem Try.fd7_1 : fieldOff Try.prog 7 1 = some (1, 3) := by kernel_rfl
theorem Try.fd7_2 : fieldOff Try.prog 7 2 = some (2, 4) := by kernel_rfl
theorem Try.fd7_3 : fieldOff Try.prog 7 3 = some (3, 6) := by kernel_rfl
theorem Try.pl7 : placesA Try.prog 7 = some [(0, 1), (1, 1), (2, 1), (3, 1)] := by kernel_rfl
theorem Try.cs8 : Try.prog.cellsOf 8 = 4 := by kernel_rfl
theorem Try.bt8 : Try.prog.bytesOf 8 = 24 := by kernel_rfl
theorem Try.pa8 (cs : List AV) : partA Try.prog 8 cs = if (cs.take 4).length = 4 then some (.agg (cs.take 4)) else none := by simp only [partA, Try.underlying8, Try.cs8]; simp
theorem Try.ty8 : tyOk Try.prog 8 = true := by kernel_rfl
theorem Try.zr8 : zeroA Try.prog 8 = some [.int .i64 0, .int .i64 0, .bool false, .int .u8 0] := by kernel_rfl
theorem Try.fd8_0 : fieldOff Try.prog 8 0 = some (0, 2) := by kernel_rfl
theorem Try.fd8_1 : fieldOff Try.prog 8 1 = some (1, 3) := by kernel_rfl
theorem Try.fd8_2 : fieldOff Try.prog 8 2 = some (2, 4) := by kernel_rfl
theorem Try.fd8_3 : fieldOff Try.prog 8 3 = some (3, 6) := by kernel_rfl
theorem Try.pl8 : placesA Try.prog 8 = some [(0, 1), (1, 1), (2, 1), (3, 1)] := by kernel_rfl
theorem Try.cs9 : Try.prog.cellsOf 9 = 1 := by kernel_rfl
theorem Try.bt9 : Try.prog.bytesOf 9 = 16 := by kernel_rfl
theorem Try.pa9 (c : AV) (cs : List AV) : partA Try.prog 9 (c :: cs) = some c := by simp only [partA, Try.underlying9]
theorem Try.ty9 : tyOk Try.prog 9 = true := by kernel_rfl
theorem Try.zr9 : zeroA Try.prog 9 = some [.str []] := by kernel_rfl
theorem Try.cs10 : Try.prog.cellsOf 10 = 1 := by kernel_rfl
theorem Try.bt10 : Try.prog.bytesOf 10 = 16 := by kernel_rfl
theorem Try.pa10 (c : AV) (cs : List AV) : partA Try.prog 10 (c :: cs) = some c := by simp only [partA, Try.underlying10]
theorem Try.ty10 : tyOk Try.prog 10 = true := by kernel_rfl
theorem Try.zr10 : zeroA Try.prog 10 = some [.str []] := by kernel_rfl
theorem Try.cs11 : Try.prog.cellsOf 11 = 1 := by kernel_rfl
theorem Try.bt11 : Try.prog.bytesOf 11 = 16 := by kernel_rfl
theorem Try.pa11 (c : AV) (cs : List AV) : partA Try.prog 11 (c :: cs) = some c := by simp only [partA, Try.underlying11]
theorem Try.ty11 : tyOk Try.prog 11 = true := by kernel_rfl
theorem Try.zr11 : zeroA Try.prog 11 = some [.str []] := by kernel_rfl
theorem Try.cs12 : Try.prog.cellsOf 12 = 1 := by kernel_rfl
theorem Try.bt12 : Try.prog.bytesOf 12 = 8 := by kernel_rfl
theorem Try.pa12 (c : AV) (cs : List AV) : partA Try.prog 12 (c :: cs) = some c := by simp only [partA, Try.underlying12]
theorem Try.zr12 : zeroA Try.prog 12 = some [.int .u64 0] := by kernel_rfl
theorem Try.cs13 : Try.prog.cellsOf 13 = 2 := by kernel_rfl
theorem Try.bt13 : Try.prog.bytesOf 13 = 24 := by kernel_rfl
theorem Try.pa13 (cs : List AV) : partA Try.prog 13 cs = if (cs.take 2).length = 2 then some (.agg (cs.take 2)) else none := by simp only [partA, Try.underlying13, Try.cs13]; simp
theorem Try.ty13 : tyOk Try.prog 13 = true := by kernel_rfl
theorem Try.zr13 : zeroA Try.prog 13 = some [.str [], .int .u64 0] := by kernel_rfl
theorem Try.fd13_0 : fieldOff Try.prog 13 0 = some (0, 9) := by kernel_rfl
theorem Try.fd13_1 : fieldOff Try.prog 13 1 = some (1, 12) := by kernel_rfl
theorem Try.pl13 : placesA Try.prog 13 = some [(0, 1), (1, 1)] := by kernel_rfl
theorem Try.cs14 : Try.prog.cellsOf 14 = 2 := by kernel_rfl
theorem Try.bt14 : Try.prog.bytesOf 14 = 24 := by kernel_rfl
theorem Try.pa14 (cs : List AV) : partA Try.prog 14 cs = if (cs.take 2).length = 2 then some (.agg (cs.take 2)) else none := by simp only [partA, Try.underlying14, Try.cs14]; simp
theorem Try.ty14 : tyOk Try.prog 14 = true := by kernel_rfl
theorem Try.zr14 : zeroA Try.prog 14 = some [.str [], .int .u64 0] := by kernel_rfl
theorem Try.fd14_0 : fieldOff Try.prog 14 0 = some (0, 9) := by kernel_rfl
theorem Try.fd14_1 : fieldOff Try.prog 14 1 = some (1, 12) := by kernel_rfl
theorem Try.pl14 : placesA Try.prog 14 = some [(0, 1), (1, 1)] := by kernel_rfl
theorem Try.cs15 : Try.prog.cellsOf 15 = 1 := by kernel_rfl
theorem Try.bt15 : Try.prog.bytesOf 15 = 8 := by kernel_rfl
theorem Try.pa15 (c : AV) (cs : List AV) : partA Try.prog 15 (c :: cs) = some c := by simp only [partA, Try.underlying15]
theorem Try.ty15 : tyOk Try.prog 15 = true := by kernel_rfl
theorem Try.zr15 : zeroA Try.prog 15 = some [.nilp] := by kernel_rfl
theorem Try.cs16 : Try.prog.cellsOf 16 = 1 := by kernel_rfl
theorem Try.bt16 : Try.prog.bytesOf 16 = 8 := by kernel_rfl
theorem Try.pa16 (c : AV) (cs : List AV) : partA Try.prog 16 (c :: cs) = some c := by simp only [partA, Try.underlying16]
theorem Try.ty16 : tyOk Try.prog 16 = true := by kernel_rfl
theorem Try.zr16 : zeroA Try.prog 16 = some [.nilp] := by kernel_rfl
theorem Try.cs17 : Try.prog.cellsOf 17 = 1 := by kernel_rfl
theorem Try.bt17 : Try.prog.bytesOf 17 = 8 := by kernel_rfl
theorem Try.pa17 (c : AV) (cs : List AV) : partA Try.prog 17 (c :: cs) = some c := by simp only [partA, Try.underlying17]
theorem Try.ty17 : tyOk Try.prog 17 = true := by kernel_rfl
theorem Try.zr17 : zeroA Try.prog 17 = some [.nilp] := by kernel_rfl
theorem Try.cs18 : Try.prog.cellsOf 18 = 1 := by kernel_rfl
theorem Try.bt18 : Try.prog.bytesOf 18 = 8 := by kernel_rfl
theorem Try.pa18 (cs : List AV) : partA Try.prog 18 cs = if (cs.take 1).length = 1 then some (.agg (cs.take 1)) else none := by simp only [partA, Try.underlying18, Try.cs18]; simp
theorem Try.ty18 : tyOk Try.prog 18 = true := by kernel_rfl
theorem Try.zr18 : zeroA Try.prog 18 = some [.nilp] := by kernel_rfl
theorem Try.fd18_0 : fieldOff Try.prog 18 0 = some (0, 17) := by kernel_rfl
theorem Try.pl18 : placesA Try.prog 18 = some [(0, 1)] := by kernel_rfl
theorem Try.cs19 : Try.prog.cellsOf 19 = 1 := by kernel_rfl
theorem Try.bt19 : Try.prog.bytesOf 19 = 8 := by kernel_rfl
theorem Try.pa19 (cs : List AV) : partA Try.prog 19 cs = if (cs.take 1).length = 1 then some (.agg (cs.take 1)) else none := by simp only [partA, Try.underlying19, Try.cs19]; simp
theorem Try.ty19 : tyOk Try.prog 19 = true := by kernel_rfl
theorem Try.zr19 : zeroA Try.prog 19 = some [.nilp] := by kernel_rfl
theorem Try.fd19_0 : fieldOff Try.prog 19 0 = some (0, 17) := by kernel_rfl
theorem Try.pl19 : placesA Try.prog 19 = some [(0, 1)] := by kernel_rfl
theorem Try.cs20 : Try.prog.cellsOf 20 = 1 := by kernel_rfl
theorem Try.bt20 : Try.prog.bytesOf 20 = 16 := by kernel_rfl
theorem Try.pa20 (c : AV) (cs : List AV) : partA Try.prog 20 (c :: cs) = some c := by simp only [partA, Try.underlying20]
theorem Try.cs21 : Try.prog.cellsOf 21 = 1 := by kernel_rfl
theorem Try.bt21 : Try.prog.bytesOf 21 = 4 := by kernel_rfl
theorem Try.pa21 (c : AV) (cs : List AV) : partA Try.prog 21 (c :: cs) = some c := by simp only [partA, Try.underlying21]
theorem Try.zr21 : zeroA Try.prog 21 = some [.int .i32 0] := by kernel_rfl
theorem Try.cs22 : Try.prog.cellsOf 22 = 1 := by kernel_rfl
theorem Try.bt22 : Try.prog.bytesOf 22 = 24 := by kernel_rfl
theorem Try.pa22 (c : AV) (cs : List AV) : partA Try.prog 22 (c :: cs) = some c := by simp only [partA, Try.underlying22]
theorem Try.ty22 : tyOk Try.prog 22 = true := by kernel_rfl
theorem Try.sl22 : sliceElem Try.prog 22 = some (3, 1) := by kernel_rfl
theorem Try.zr22 : zeroA Try.prog 22 = some [.nils] := by kernel_rfl
theorem Try.cs23 : Try.prog.cellsOf 23 = 1 := by kernel_rfl
theorem Try.bt23 : Try.prog.bytesOf 23 = 24 := by kernel_rfl
theorem Try.pa23 (c : AV) (cs : List AV) : partA Try.prog 23 (c :: cs) = some c := by simp only [partA, Try.underlying23]
theorem Try.ty23 : tyOk Try.prog 23 = true := by kernel_rfl
theorem Try.sl23 : sliceElem Try.prog 23 = some (36, 1) := by kernel_rfl
theorem Try.zr23 : zeroA Try.prog 23 = some [.nils] := by kernel_rfl
theorem Try.cs24 : Try.prog.cellsOf 24 = 1 := by kernel_rfl
theorem Try.bt24 : Try.prog.bytesOf 24 = 8 := by kernel_rfl
theorem Try.pa24 (c : AV) (cs : List AV) : partA Try.prog 24 (c :: cs) = some c := by simp only [partA, Try.underlying24]
theorem Try.ty24 : tyOk Try.prog 24 = true := by kernel_rfl
theorem Try.zr24 : zeroA Try.prog 24 = some [.nilf] := by kernel_rfl
theorem Try.cs25 : Try.prog.cellsOf 25 = 1 := by kernel_rfl
theorem Try.bt25 : Try.prog.bytesOf 25 = 8 := by kernel_rfl
theorem Try.pa25 (c : AV) (cs : List AV) : partA Try.prog 25 (c :: cs) = some c := by simp only [partA, Try.underlying25]
theorem Try.ty25 : tyOk Try.prog 25 = true := by kernel_rfl
theorem Try.zr25 : zeroA Try.prog 25 = some [.nilp] := by kernel_rfl
theorem Try.cs26 : Try.prog.cellsOf 26 = 1 := by kernel_rfl
theorem Try.bt26 : Try.prog.bytesOf 26 = 8 := by kernel_rfl
theorem Try.pa26 (c : AV) (cs : List AV) : partA Try.prog 26 (c :: cs) = some c := by simp only [partA, Try.underlying26]
theorem Try.ty26 : tyOk Try.prog 26 = true := by kernel_rfl
theorem Try.zr26 : zeroA Try.prog 26 = some [.nilf] := by kernel_rfl
theorem Try.cs27 : Try.prog.cellsOf 27 = 1 := by kernel_rfl
theorem Try.bt27 : Try.prog.bytesOf 27 = 8 := by kernel_rfl
theorem Try.pa27 (c : AV) (cs : List AV) : partA Try.prog 27 (c :: cs) = some c := by simp only [partA, Try.underlying27]
theorem Try.zr27 : zeroA Try.prog 27 = some [.int .i64 0] := by kernel_rfl
theorem Try.cs28 : Try.prog.cellsOf 28 = 1 := by kernel_rfl
theorem Try.bt28 : Try.prog.bytesOf 28 = 0 := by kernel_rfl
theorem Try.cs29 : Try.prog.cellsOf 29 = 1 := by kernel_rfl
theorem Try.bt29 : Try.prog.bytesOf 29 = 8 := by kernel_rfl
theorem Try.pa29 (c : AV) (cs : List AV) : partA Try.prog 29 (c :: cs) = some c := by simp only [partA, Try.underlying29]
theorem Try.ty29 : tyOk Try.prog 29 = true := by kernel_rfl
theorem Try.zr29 : zeroA Try.prog 29 = some [.nilf] := by kernel_rfl
theorem Try.cs30 : Try.prog.cellsOf 30 = 1 := by kernel_rfl
theorem Try.bt30 : Try.prog.bytesOf 30 = 8 := by kernel_rfl
theorem Try.pa30 (c : AV) (cs : List AV) : partA Try.prog 30 (c :: cs) = some c := by simp only [partA, Try.underlying30]
theorem Try.ty30 : tyOk Try.prog 30 = true := by kernel_rfl
theorem Try.zr30 : zeroA Try.prog 30 = some [.nilf] := by kernel_rfl
theorem Try.cs31 : Try.prog.cellsOf 31 = 1 := by kernel_rfl
theorem Try.bt31 : Try.prog.bytesOf 31 = 8 := by kernel_rfl
theorem Try.pa31 (c : AV) (cs : List AV) : partA Try.prog 31 (c :: cs) = some c := by simp only [partA, Try.underlying31]
theorem Try.ty31 : tyOk Try.prog 31 = true := by kernel_rfl
theorem Try.zr31 : zeroA Try.prog 31 = some [.nilf] := by kernel_rfl
theorem Try.cs32 : Try.prog.cellsOf 32 = 1 := by kernel_rfl
theorem Try.bt32 : Try.prog.bytesOf 32 = 8 := by kernel_rfl
theorem Try.pa32 (c : AV) (cs : List AV) : partA Try.prog 32 (c :: cs) = some c := by simp only [partA, Try.underlying32]
theorem Try.ty32 : tyOk Try.prog 32 = true := by kernel_rfl
theorem Try.zr32 : zeroA Try.prog 32 = some [.nilf] := by kernel_rfl
theorem Try.cs33 : Try.prog.cellsOf 33 = 1 := by kernel_rfl
theorem Try.bt33 : Try.prog.bytesOf 33 = 8 := by kernel_rfl
theorem Try.pa33 (c : AV) (cs : List AV) : partA Try.prog 33 (c :: cs) = some c := by simp only [partA, Try.underlying33]
theorem Try.ty33 : tyOk Try.prog 33 = true := by kernel_rfl
theorem Try.zr33 : zeroA Try.prog 33 = some [.nilf] := by kernel_rfl
theorem Try.cs34 : Try.prog.cellsOf 34 = 1 := by kernel_rfl
theorem Try.bt34 : Try.prog.bytesOf 34 = 8 := by kernel_rfl
theorem Try.pa34 (c : AV) (cs : List AV) : partA Try.prog 34 (c :: cs) = some c := by simp only [partA, Try.underlying34]
theorem Try.zr34 : zeroA Try.prog 34 = some [.int .u64 0] := by kernel_rfl
theorem Try.cs35 : Try.prog.cellsOf 35 = 1 := by kernel_rfl
theorem Try.bt35 : Try.prog.bytesOf 35 = 8 := by kernel_rfl
theorem Try.pa35 (c : AV) (cs : List AV) : partA Try.prog 35 (c :: cs) = some c := by simp only [partA, Try.underlying35]
theorem Try.ty35 : tyOk Try.prog 35 = true := by kernel_rfl
theorem Try.zr35 : zeroA Try.prog 35 = some [.nilf] := by kernel_rfl
theorem Try.cs36 : Try.prog.cellsOf 36 = 1 := by kernel_rfl
theorem Try.bt36 : Try.prog.bytesOf 36 = 8 := by kernel_rfl
theorem Try.pa36 (c : AV) (cs : List AV) : partA Try.prog 36 (c :: cs) = some c := by simp only [partA, Try.underlying36]
theorem Try.zr36 : zeroA Try.prog 36 = some [.int .u64 0] := by kernel_rfl
theorem Try.cs37 : Try.prog.cellsOf 37 = 1 := by kernel_rfl
theorem Try.bt37 : Try.prog.bytesOf 37 = 8 := by kernel_rfl
theorem Try.pa37 (c : AV) (cs : List AV) : partA Try.prog 37 (c :: cs) = some c := by simp only [partA, Try.underlying37]
theorem Try.ty37 : tyOk Try.prog 37 = true := by kernel_rfl
theorem Try.zr37 : zeroA Try.prog 37 = some [.nilf] := by kernel_rfl
theorem Try.cs38 : Try.prog.cellsOf 38 = 1 := by kernel_rfl
theorem Try.bt38 : Try.prog.bytesOf 38 = 0 := by kernel_rfl
theorem Try.cs39 : Try.prog.cellsOf 39 = 1 := by kernel_rfl
theorem Try.bt39 : Try.prog.bytesOf 39 = 8 := by kernel_rfl
theorem Try.pa39 (c : AV) (cs : List AV) : partA Try.prog 39 (c :: cs) = some c := by simp only [partA, Try.underlying39]
theorem Try.ty39 : tyOk Try.prog 39 = true := by kernel_rfl
theorem Try.zr39 : zeroA Try.prog 39 = some [.nilf] := by kernel_rfl
theorem Try.cs40 : Try.prog.cellsOf 40 = 1 := by kernel_rfl
theorem Try.bt40 : Try.prog.bytesOf 40 = 8 := by kernel_rfl
theorem Try.pa40 (c : AV) (cs : List AV) : partA Try.prog 40 (c :: cs) = some c := by simp only [partA, Try.underlying40]
theorem Try.ty40 : tyOk Try.prog 40 = true := by kernel_rfl
theorem Try.zr40 : zeroA Try.prog 40 = some [.nilf] := by kernel_rfl
theorem Try.cs41 : Try.prog.cellsOf 41 = 1 := by kernel_rfl
theorem Try.bt41 : Try.prog.bytesOf 41 = 8 := by kernel_rfl
theorem Try.pa41 (c : AV) (cs : List AV) : partA Try.prog 41 (c :: cs) = some c := by simp only [partA, Try.underlying41]
theorem Try.ty41 : tyOk Try.prog 41 = true := by kernel_rfl
theorem Try.zr41 : zeroA Try.prog 41 = some [.nilf] := by kernel_rfl
theorem Try.cs42 : Try.prog.cellsOf 42 = 1 := by kernel_rfl
theorem Try.bt42 : Try.prog.bytesOf 42 = 8 := by kernel_rfl
theorem Try.pa42 (c : AV) (cs : List AV) : partA Try.prog 42 (c :: cs) = some c := by simp only [partA, Try.underlying42]
theorem Try.ty42 : tyOk Try.prog 42 = true := by kernel_rfl
theorem Try.zr42 : zeroA Try.prog 42 = some [.nilf] := by kernel_rfl
theorem Try.cs43 : Try.prog.cellsOf 43 = 1 := by kernel_rfl
theorem Try.bt43 : Try.prog.bytesOf 43 = 8 := by kernel_rfl
theorem Try.pa43 (c : AV) (cs : List AV) : partA Try.prog 43 (c :: cs) = some c := by simp only [partA, Try.underlying43]
theorem Try.ty43 : tyOk Try.prog 43 = true := by kernel_rfl
theorem Try.zr43 : zeroA Try.prog 43 = some [.nilf] := by kernel_rfl
theorem Try.cs44 : Try.prog.cellsOf 44 = 1 := by kernel_rfl
theorem Try.bt44 : Try.prog.bytesOf 44 = 8 := by kernel_rfl
theorem Try.pa44 (c : AV) (cs : List AV) : partA Try.prog 44 (c :: cs) = some c := by simp only [partA, Try.underlying44]
theorem Try.ty44 : tyOk Try.prog 44 = true := by kernel_rfl
theorem Try.zr44 : zeroA Try.prog 44 = some [.nilf] := by kernel_rfl
theorem Try.cs45 : Try.prog.cellsOf 45 = 1 := by kernel_rfl
theorem Try.bt45 : Try.prog.bytesOf 45 = 24 := by kernel_rfl
theorem Try.pa45 (c : AV) (cs : List AV) : partA Try.prog 45 (c :: cs) = some c := by simp only [partA, Try.underlying45]
theorem Try.ty45 : tyOk Try.prog 45 = true := by kernel_rfl
theorem Try.sl45 : sliceElem Try.prog 45 = some (23, 1) := by kernel_rfl
theorem Try.zr45 : zeroA Try.prog 45 = some [.nils] := by kernel_rfl
theorem Try.cs46 : Try.prog.cellsOf 46 = 1 := by kernel_rfl
theorem Try.bt46 : Try.prog.bytesOf 46 = 8 := by kernel_rfl
theorem Try.pa46 (c : AV) (cs : List AV) : partA Try.prog 46 (c :: cs) = some c := by simp only [partA, Try.underlying46]
theorem Try.ty46 : tyOk Try.prog 46 = true := by kernel_rfl
theorem Try.zr46 : zeroA Try.prog 46 = some [.nilf] := by kernel_rfl
theorem Try.cs47 : Try.prog.cellsOf 47 = 1 := by kernel_rfl
theorem Try.bt47 : Try.prog.bytesOf 47 = 8 := by kernel_rfl
theorem Try.pa47 (c : AV) (cs : List AV) : partA Try.prog 47 (c :: cs) = some c := by simp only [partA, Try.underlying47]
theorem Try.ty47 : tyOk Try.prog 47 = true := by kernel_rfl
theorem Try.zr47 : zeroA Try.prog 47 = some [.nilf] := by kernel_rfl
theorem Try.cs48 : Try.prog.cellsOf 48 = 1 := by kernel_rfl
theorem Try.bt48 : Try.prog.bytesOf 48 = 8 := by kernel_rfl
theorem Try.pa48 (c : AV) (cs : List AV) : partA Try.prog 48 (c :: cs) = some c := by simp only [partA, Try.underlying48]
theorem Try.ty48 : tyOk Try.prog 48 = true := by kernel_rfl
theorem Try.zr48 : zeroA Try.prog 48 = some [.nilf] := by kernel_rfl
theorem Try.cs49 : Try.prog.cellsOf 49 = 1 := by kernel_rfl
theorem Try.bt49 : Try.prog.bytesOf 49 = 8 := by kernel_rfl
theorem Try.pa49 (c : AV) (cs : List AV) : partA Try.prog 49 (c :: cs) = some c := by simp only [partA, Try.underlying49]
theorem Try.ty49 : tyOk Try.prog 49 = true := by kernel_rfl
theorem Try.zr49 : zeroA Try.prog 49 = some [.nilf] := by kernel_rfl
theorem Try.cs50 : Try.prog.cellsOf 50 = 1 := by kernel_rfl
theorem Try.bt50 : Try.prog.bytesOf 50 = 8 := by kernel_rfl
theorem Try.pa50 (c : AV) (cs : List AV) : partA Try.prog 50 (c :: cs) = some c := by simp only [partA, Try.underlying50]
theorem Try.ty50 : tyOk Try.prog 50 = true := by kernel_rfl
theorem Try.zr50 : zeroA Try.prog 50 = some [.nilf] := by kernel_rfl
theorem Try.cs51 : Try.prog.cellsOf 51 = 1 := by kernel_rfl
theorem Try.bt51 : Try.prog.bytesOf 51 = 0 := by kernel_rfl
theorem Try.cs52 : Try.prog.cellsOf 52 = 1 := by kernel_rfl
theorem Try.bt52 : Try.prog.bytesOf 52 = 8 := by kernel_rfl
theorem Try.pa52 (c : AV) (cs : List AV) : partA Try.prog 52 (c :: cs) = some c := by simp only [partA, Try.underlying52]
theorem Try.ty52 : tyOk Try.prog 52 = true := by kernel_rfl
theorem Try.zr52 : zeroA Try.prog 52 = some [.nilf] := by kernel_rfl
theorem Try.cs53 : Try.prog.cellsOf 53 = 1 := by kernel_rfl
theorem Try.bt53 : Try.prog.bytesOf 53 = 8 := by kernel_rfl
theorem Try.pa53 (c : AV) (cs : List AV) : partA Try.prog 53 (c :: cs) = some c := by simp only [partA, Try.underlying53]
theorem Try.ty53 : tyOk Try.prog 53 = true := by kernel_rfl
theorem Try.zr53 : zeroA Try.prog 53 = some [.nilf] := by kernel_rfl
theorem Try.cs54 : Try.prog.cellsOf 54 = 1 := by kernel_rfl
theorem Try.bt54 : Try.prog.bytesOf 54 = 8 := by kernel_rfl
theorem Try.pa54 (c : AV) (cs : List AV) : partA Try.prog 54 (c :: cs) = some c := by simp only [partA, Try.underlying54]
theorem Try.ty54 : tyOk Try.prog 54 = true := by kernel_rfl
theorem Try.zr54 : zeroA Try.prog 54 = some [.nilm] := by kernel_rfl
theorem Try.ky54 : Maps.Keyed Try.prog 77 := keyTB_keyed (by kernel_rfl) (by kernel_rfl)
theorem Try.zv54 : zeroV Try.prog 36 = some (.int .u64 0) := by kernel_rfl
theorem Try.cs55 : Try.prog.cellsOf 55 = 2 := by kernel_rfl
theorem Try.bt55 : Try.prog.bytesOf 55 = 32 := by kernel_rfl
theorem Try.pa55 (cs : List AV) : partA Try.prog 55 cs = if (cs.take 2).length = 2 then some (.agg (cs.take 2)) else none := by simp only [partA, Try.underlying55, Try.cs55]; simp
theorem Try.ty55 : tyOk Try.prog 55 = true := by kernel_rfl
theorem Try.zr55 : zeroA Try.prog 55 = some [.nils, .nilm] := by kernel_rfl
theorem Try.fd55_0 : fieldOff Try.prog 55 0 = some (0, 23) := by kernel_rfl
theorem Try.fd55_1 : fieldOff Try.prog 55 1 = some (1, 54) := by kernel_rfl
theorem Try.pl55 : placesA Try.prog 55 = some [(0, 1), (1, 1)] := by kernel_rfl
theorem Try.cs56 : Try.prog.cellsOf 56 = 2 := by kernel_rfl
theorem Try.bt56 : Try.prog.bytesOf 56 = 32 := by kernel_rfl
theorem Try.pa56 (cs : List AV) : partA Try.prog 56 cs = if (cs.take 2).length = 2 then some (.agg (cs.take 2)) else none := by simp only [partA, Try.underlying56, Try.cs56]; simp
theorem Try.ty56 : tyOk Try.prog 56 = true := by kernel_rfl
theorem Try.zr56 : zeroA Try.prog 56 = some [.nils, .nilm] := by kernel_rfl
theorem Try.fd56_0 : fieldOff Try.prog 56 0 = some (0, 23) := by kernel_rfl
theorem Try.fd56_1 : fieldOff Try.prog 56 1 = some (1, 54) := by kernel_rfl
theorem Try.pl56 : placesA Try.prog 56 = some [(0, 1), (1, 1)] := by kernel_rfl
theorem Try.cs57 : Try.prog.cellsOf 57 = 1 := by kernel_rfl
theorem Try.bt57 : Try.prog.bytesOf 57 = 8 := by kernel_rfl
theorem Try.pa57 (c : AV) (cs : List AV) : partA Try.prog 57 (c :: cs) = some c := by simp only [partA, Try.underlying57]
theorem Try.ty57 : tyOk Try.prog 57 = true := by kernel_rfl
theorem Try.zr57 : zeroA Try.prog 57 = some [.nilf] := by kernel_rfl
theorem Try.cs58 : Try.prog.cellsOf 58 = 1 := by kernel_rfl
theorem Try.bt58 : Try.prog.bytesOf 58 = 8 := by kernel_rfl
theorem Try.pa58 (c : AV) (cs : List AV) : partA Try.prog 58 (c :: cs) = some c := by simp only [partA, Try.underlying58]
theorem Try.ty58 : tyOk Try.prog 58 = true := by kernel_rfl
theorem Try.zr58 : zeroA Try.prog 58 = some [.nilf] := by kernel_rfl
theorem Try.cs59 : Try.prog.cellsOf 59 = 1 := by kernel_rfl
theorem Try.bt59 : Try.prog.bytesOf 59 = 8 := by kernel_rfl
theorem Try.pa59 (c : AV) (cs : List AV) : partA Try.prog 59 (c :: cs) = some c := by simp only [partA, Try.underlying59]
theorem Try.ty59 : tyOk Try.prog 59 = true := by kernel_rfl
theorem Try.zr59 : zeroA Try.prog 59 = some [.nilf] := by kernel_rfl
theorem Try.cs60 : Try.prog.cellsOf 60 = 1 := by kernel_rfl
theorem Try.bt60 : Try.prog.bytesOf 60 = 8 := by kernel_rfl
theorem Try.pa60 (c : AV) (cs : List AV) : partA Try.prog 60 (c :: cs) = some c := by simp only [partA, Try.underlying60]
theorem Try.ty60 : tyOk Try.prog 60 = true := by kernel_rfl
theorem Try.zr60 : zeroA Try.prog 60 = some [.nilf] := by kernel_rfl
theorem Try.cs61 : Try.prog.cellsOf 61 = 1 := by kernel_rfl
theorem Try.bt61 : Try.prog.bytesOf 61 = 8 := by kernel_rfl
theorem Try.pa61 (c : AV) (cs : List AV) : partA Try.prog 61 (c :: cs) = some c := by simp only [partA, Try.underlying61]
theorem Try.ty61 : tyOk Try.prog 61 = true := by kernel_rfl
theorem Try.zr61 : zeroA Try.prog 61 = some [.nilf] := by kernel_rfl
theorem Try.cs62 : Try.prog.cellsOf 62 = 1 := by kernel_rfl
theorem Try.bt62 : Try.prog.bytesOf 62 = 8 := by kernel_rfl
theorem Try.pa62 (c : AV) (cs : List AV) : partA Try.prog 62 (c :: cs) = some c := by simp only [partA, Try.underlying62]
theorem Try.ty62 : tyOk Try.prog 62 = true := by kernel_rfl
theorem Try.zr62 : zeroA Try.prog 62 = some [.nilf] := by kernel_rfl
theorem Try.cs63 : Try.prog.cellsOf 63 = 1 := by kernel_rfl
theorem Try.bt63 : Try.prog.bytesOf 63 = 8 := by kernel_rfl
theorem Try.pa63 (c : AV) (cs : List AV) : partA Try.prog 63 (c :: cs) = some c := by simp only [partA, Try.underlying63]
theorem Try.ty63 : tyOk Try.prog 63 = true := by kernel_rfl
theorem Try.zr63 : zeroA Try.prog 63 = some [.nilf] := by kernel_rfl
theorem Try.cs64 : Try.prog.cellsOf 64 = 1 := by kernel_rfl
theorem Try.bt64 : Try.prog.bytesOf 64 = 8 := by kernel_rfl
theorem Try.pa64 (c : AV) (cs : List AV) : partA Try.prog 64 (c :: cs) = some c := by simp only [partA, Try.underlying64]
theorem Try.ty64 : tyOk Try.prog 64 = true := by kernel_rfl
theorem Try.zr64 : zeroA Try.prog 64 = some [.nilf] := by kernel_rfl
theorem Try.cs65 : Try.prog.cellsOf 65 = 1 := by kernel_rfl
theorem Try.bt65 : Try.prog.bytesOf 65 = 8 := by kernel_rfl
theorem Try.pa65 (c : AV) (cs : List AV) : partA Try.prog 65 (c :: cs) = some c := by simp only [partA, Try.underlying65]
theorem Try.ty65 : tyOk Try.prog 65 = true := by kernel_rfl
theorem Try.zr65 : zeroA Try.prog 65 = some [.nilf] := by kernel_rfl
theorem Try.cs66 : Try.prog.cellsOf 66 = 1 := by kernel_rfl
theorem Try.bt66 : Try.prog.bytesOf 66 = 8 := by kernel_rfl
theorem Try.pa66 (c : AV) (cs : List AV) : partA Try.prog 66 (c :: cs) = some c := by simp only [partA, Try.underlying66]
theorem Try.ty66 : tyOk Try.prog 66 = true := by kernel_rfl
theorem Try.zr66 : zeroA Try.prog 66 = some [.nilf] := by kernel_rfl
theorem Try.cs67 : Try.prog.cellsOf 67 = 1 := by kernel_rfl
theorem Try.bt67 : Try.prog.bytesOf 67 = 8 := by kernel_rfl
theorem Try.pa67 (c : AV) (cs : List AV) : partA Try.prog 67 (c :: cs) = some c := by simp only [partA, Try.underlying67]
theorem Try.ty67 : tyOk Try.prog 67 = true := by kernel_rfl
theorem Try.zr67 : zeroA Try.prog 67 = some [.nilf] := by kernel_rfl
theorem Try.cs68 : Try.prog.cellsOf 68 = 1 := by kernel_rfl
theorem Try.bt68 : Try.prog.bytesOf 68 = 8 := by kernel_rfl
theorem Try.pa68 (c : AV) (cs : List AV) : partA Try.prog 68 (c :: cs) = some c := by simp only [partA, Try.underlying68]
theorem Try.ty68 : tyOk Try.prog 68 = true := by kernel_rfl
theorem Try.zr68 : zeroA Try.prog 68 = some [.nilf] := by kernel_rfl
theorem Try.cs69 : Try.prog.cellsOf 69 = 1 := by kernel_rfl
theorem Try.bt69 : Try.prog.bytesOf 69 = 0 := by kernel_rfl
theorem Try.cs70 : Try.prog.cellsOf 70 = 1 := by kernel_rfl
theorem Try.bt70 : Try.prog.bytesOf 70 = 8 := by kernel_rfl
theorem Try.pa70 (c : AV) (cs : List AV) : partA Try.prog 70 (c :: cs) = some c := by simp only [partA, Try.underlying70]
theorem Try.ty70 : tyOk Try.prog 70 = true := by kernel_rfl
theorem Try.zr70 : zeroA Try.prog 70 = some [.nilf] := by kernel_rfl
theorem Try.cs71 : Try.prog.cellsOf 71 = 1 := by kernel_rfl
theorem Try.bt71 : Try.prog.bytesOf 71 = 8 := by kernel_rfl
theorem Try.pa71 (c : AV) (cs : List AV) : partA Try.prog 71 (c :: cs) = some c := by simp only [partA, Try.underlying71]
theorem Try.ty71 : tyOk Try.prog 71 = true := by kernel_rfl
theorem Try.zr71 : zeroA Try.prog 71 = some [.nilf] := by kernel_rfl
theorem Try.cs72 : Try.prog.cellsOf 72 = 1 := by kernel_rfl
theorem Try.bt72 : Try.prog.bytesOf 72 = 8 := by kernel_rfl
theorem Try.pa72 (c : AV) (cs : List AV) : partA Try.prog 72 (c :: cs) = some c := by simp only [partA, Try.underlying72]
theorem Try.ty72 : tyOk Try.prog 72 = true := by kernel_rfl
theorem Try.zr72 : zeroA Try.prog 72 = some [.nilf] := by kernel_rfl
theorem Try.cs73 : Try.prog.cellsOf 73 = 1 := by kernel_rfl
theorem Try.bt73 : Try.prog.bytesOf 73 = 0 := by kernel_rfl
theorem Try.cs74 : Try.prog.cellsOf 74 = 1 := by kernel_rfl
theorem Try.bt74 : Try.prog.bytesOf 74 = 0 := by kernel_rfl
theorem Try.cs75 : Try.prog.cellsOf 75 = 1 := by kernel_rfl
theorem Try.bt75 : Try.prog.bytesOf 75 = 8 := by kernel_rfl
theorem Try.pa75 (c : AV) (cs : List AV) : partA Try.prog 75 (c :: cs) = some c := by simp only [partA, Try.underlying75]
theorem Try.ty75 : tyOk Try.prog 75 = true := by kernel_rfl
theorem Try.zr75 : zeroA Try.prog 75 = some [.nilf] := by kernel_rfl
theorem Try.cs76 : Try.prog.cellsOf 76 = 1 := by kernel_rfl
theorem Try.bt76 : Try.prog.bytesOf 76 = 8 := by kernel_rfl
theorem Try.pa76 (c : AV) (cs : List AV) : partA Try.prog 76 (c :: cs) = some c := by simp only [partA, Try.underlying76]
theorem Try.ty76 : tyOk Try.prog 76 = true := by kernel_rfl
theorem Try.zr76 : zeroA Try.prog 76 = some [.nilf] := by kernel_rfl
theorem Try.cs77 : Try.prog.cellsOf 77 = 2 := by kernel_rfl
theorem Try.bt77 : Try.prog.bytesOf 77 = 16 := by kernel_rfl
theorem Try.pa77 (cs : List AV) : partA Try.prog 77 cs = if (cs.take 2).length = 2 then some (.agg (cs.take 2)) else none := by simp only [partA, Try.underlying77, Try.cs77]; simp
theorem Try.ty77 : tyOk Try.prog 77 = true := by kernel_rfl
theorem Try.sl77 : sliceElem Try.prog 77 = none := by kernel_rfl
theorem Try.ar77 : arrElem Try.prog 77 = some (2, 1) := by kernel_rfl
theorem Try.zr77 : zeroA Try.prog 77 = some [.int .i64 0, .int .i64 0] := by kernel_rfl
theorem Try.pl77 : placesA Try.prog 77 = some [(0, 1), (1, 1)] := by kernel_rfl
theorem Try.cs78 : Try.prog.cellsOf 78 = 1 := by kernel_rfl
theorem Try.bt78 : Try.prog.bytesOf 78 = 8 := by kernel_rfl
theorem Try.pa78 (c : AV) (cs : List AV) : partA Try.prog 78 (c :: cs) = some c := by simp only [partA, Try.underlying78]
theorem Try.ty78 : tyOk Try.prog 78 = true := by kernel_rfl
theorem Try.zr78 : zeroA Try.prog 78 = some [.nilf] := by kernel_rfl
theorem Try.cs79 : Try.prog.cellsOf 79 = 1 := by kernel_rfl
theorem Try.bt79 : Try.prog.bytesOf 79 = 8 := by kernel_rfl
theorem Try.pa79 (c : AV) (cs : List AV) : partA Try.prog 79 (c :: cs) = some c := by simp only [partA, Try.underlying79]
theorem Try.ty79 : tyOk Try.prog 79 = true := by kernel_rfl
theorem Try.zr79 : zeroA Try.prog 79 = some [.nilf] := by kernel_rfl
theorem Try.cs80 : Try.prog.cellsOf 80 = 1 := by kernel_rfl
theorem Try.bt80 : Try.prog.bytesOf 80 = 24 := by kernel_rfl
theorem Try.pa80 (c : AV) (cs : List AV) : partA Try.prog 80 (c :: cs) = some c := by simp only [partA, Try.underlying80]
theorem Try.ty80 : tyOk Try.prog 80 = true := by kernel_rfl
theorem Try.sl80 : sliceElem Try.prog 80 = some (5, 1) := by kernel_rfl
theorem Try.zr80 : zeroA Try.prog 80 = some [.nils] := by kernel_rfl
theorem Try.cs81 : Try.prog.cellsOf 81 = 1 := by kernel_rfl
theorem Try.bt81 : Try.prog.bytesOf 81 = 8 := by kernel_rfl
theorem Try.pa81 (c : AV) (cs : List AV) : partA Try.prog 81 (c :: cs) = some c := by simp only [partA, Try.underlying81]
theorem Try.ty81 : tyOk Try.prog 81 = true := by kernel_rfl
theorem Try.zr81 : zeroA Try.prog 81 = some [.nilf] := by kernel_rfl
theorem Try.cs82 : Try.prog.cellsOf 82 = 4 := by kernel_rfl
theorem Try.bt82 : Try.prog.bytesOf 82 = 40 := by kernel_rfl
theorem Try.pa82 (cs : List AV) : partA Try.prog 82 cs = if (cs.take 4).length = 4 then some (.agg (cs.take 4)) else none := by simp only [partA, Try.underlying82, Try.cs82]; simp
theorem Try.ty82 : tyOk Try.prog 82 = true := by kernel_rfl
theorem Try.zr82 : zeroA Try.prog 82 = some [.nilp, .nilp, .nilp, .str []] := by kernel_rfl
theorem Try.fd82_0 : fieldOff Try.prog 82 0 = some (0, 17) := by kernel_rfl
theorem Try.fd82_1 : fieldOff Try.prog 82 1 = some (1, 17) := by kernel_rfl
theorem Try.fd82_2 : fieldOff Try.prog 82 2 = some (2, 17) := by kernel_rfl
theorem Try.fd82_3 : fieldOff Try.prog 82 3 = some (3, 9) := by kernel_rfl
theorem Try.pl82 : placesA Try.prog 82 = some [(0, 1), (1, 1), (2, 1), (3, 1)] := by kernel_rfl
theorem Try.cs83 : Try.prog.cellsOf 83 = 4 := by kernel_rfl
theorem Try.bt83 : Try.prog.bytesOf 83 = 40 := by kernel_rfl
theorem Try.pa83 (cs : List AV) : partA Try.prog 83 cs = if (cs.take 4).length = 4 then some (.agg (cs.take 4)) else none := by simp only [partA, Try.underlying83, Try.cs83]; simp
theorem Try.ty83 : tyOk Try.prog 83 = true := by kernel_rfl
theorem Try.zr83 : zeroA Try.prog 83 = some [.nilp, .nilp, .nilp, .str []] := by kernel_rfl
theorem Try.fd83_0 : fieldOff Try.prog 83 0 = some (0, 17) := by kernel_rfl
theorem Try.fd83_1 : fieldOff Try.prog 83 1 = some (1, 17) := by kernel_rfl
theorem Try.fd83_2 : fieldOff Try.prog 83 2 = some (2, 17) := by kernel_rfl
theorem Try.fd83_3 : fieldOff Try.prog 83 3 = some (3, 9) := by kernel_rfl
theorem Try.pl83 : placesA Try.prog 83 = some [(0, 1), (1, 1), (2, 1), (3, 1)] := by kernel_rfl
theorem Try.cs84 : Try.prog.cellsOf 84 = 0 := by kernel_rfl
theorem Try.bt84 : Try.prog.bytesOf 84 = 0 := by kernel_rfl
theorem Try.ty84 : tyOk Try.prog 84 = true := by kernel_rfl
theorem Try.sl84 : sliceElem Try.prog 84 = none := by kernel_rfl
theorem Try.ar84 : arrElem Try.prog 84 = some (0, 1) := by kernel_rfl
theorem Try.zr84 : zeroA Try.prog 84 = some [] := by kernel_rfl
theorem Try.pl84 : placesA Try.prog 84 = some [] := by kernel_rfl
theorem Try.cs85 : Try.prog.cellsOf 85 = 0 := by kernel_rfl
theorem Try.bt85 : Try.prog.bytesOf 85 = 0 := by kernel_rfl
theorem Try.ty85 : tyOk Try.prog 85 = true := by kernel_rfl
theorem Try.zr85 : zeroA Try.prog 85 = some [] := by kernel_rfl
theorem Try.pl85 : placesA Try.prog 85 = some [(0, 0)] := by kernel_rfl
theorem Try.cs86 : Try.prog.cellsOf 86 = 0 := by kernel_rfl
theorem Try.bt86 : Try.prog.bytesOf 86 = 0 := by kernel_rfl
theorem Try.ty86 : tyOk Try.prog 86 = true := by kernel_rfl
theorem Try.zr86 : zeroA Try.prog 86 = some [] := by kernel_rfl
theorem Try.pl86 : placesA Try.prog 86 = some [(0, 0)] := by kernel_rfl
theorem Try.cs87 : Try.prog.cellsOf 87 = 1 := by kernel_rfl
theorem Try.bt87 : Try.prog.bytesOf 87 = 4 := by kernel_rfl
theorem Try.pa87 (c : AV) (cs : List AV) : partA Try.prog 87 (c :: cs) = some c := by simp only [partA, Try.underlying87]
theorem Try.zr87 : zeroA Try.prog 87 = some [.int .u32 0] := by kernel_rfl
theorem Try.cs88 : Try.prog.cellsOf 88 = 1 := by kernel_rfl
theorem Try.bt88 : Try.prog.bytesOf 88 = 1 := by kernel_rfl
theorem Try.pa88 (c : AV) (cs : List AV) : partA Try.prog 88 (c :: cs) = some c := by simp only [partA, Try.underlying88]
theorem Try.zr88 : zeroA Try.prog 88 = some [.int .u8 0] := by kernel_rfl
theorem Try.cs89 : Try.prog.cellsOf 89 = 1 := by kernel_rfl
theorem Try.bt89 : Try.prog.bytesOf 89 = 1 := by kernel_rfl
theorem Try.pa89 (c : AV) (cs : List AV) : partA Try.prog 89 (c :: cs) = some c := by simp only [partA, Try.underlying89]
theorem Try.zr89 : zeroA Try.prog 89 = some [.int .u8 0] := by kernel_rfl
theorem Try.cs90 : Try.prog.cellsOf 90 = 1 := by kernel_rfl
theorem Try.bt90 : Try.prog.bytesOf 90 = 8 := by kernel_rfl
theorem Try.pa90 (c : AV) (cs : List AV) : partA Try.prog 90 (c :: cs) = some c := by simp only [partA, Try.underlying90]
theorem Try.ty90 : tyOk Try.prog 90 = true := by kernel_rfl
theorem Try.zr90 : zeroA Try.prog 90 = some [.nilf] := by kernel_rfl
theorem Try.cs91 : Try.prog.cellsOf 91 = 1 := by kernel_rfl
theorem Try.bt91 : Try.prog.bytesOf 91 = 8 := by kernel_rfl
theorem Try.pa91 (c : AV) (cs : List AV) : partA Try.prog 91 (c :: cs) = some c := by simp only [partA, Try.underlying91]
theorem Try.ty91 : tyOk Try.prog 91 = true := by kernel_rfl
theorem Try.zr91 : zeroA Try.prog 91 = some [.nilp] := by kernel_rfl
theorem Try.cs92 : Try.prog.cellsOf 92 = 1 := by kernel_rfl
theorem Try.bt92 : Try.prog.bytesOf 92 = 4 := by kernel_rfl
theorem Try.pa92 (c : AV) (cs : List AV) : partA Try.prog 92 (c :: cs) = some c := by simp only [partA, Try.underlying92]
theorem Try.zr92 : zeroA Try.prog 92 = some [.int .i32 0] := by kernel_rfl
theorem Try.cs93 : Try.prog.cellsOf 93 = 1 := by kernel_rfl
theorem Try.bt93 : Try.prog.bytesOf 93 = 4 := by kernel_rfl
theorem Try.pa93 (c : AV) (cs : List AV) : partA Try.prog 93 (c :: cs) = some c := by simp only [partA, Try.underlying93]
theorem Try.zr93 : zeroA Try.prog 93 = some [.int .i32 0] := by kernel_rfl
theorem Try.cs94 : Try.prog.cellsOf 94 = 11 := by kernel_rfl
theorem Try.bt94 : Try.prog.bytesOf 94 = 48 := by kernel_rfl
theorem Try.pa94 (cs : List AV) : partA Try.prog 94 cs = if (cs.take 11).length = 11 then some (.agg (cs.take 11)) else none := by simp only [partA, Try.underlying94, Try.cs94]; simp
theorem Try.ty94 : tyOk Try.prog 94 = true := by kernel_rfl
theorem Try.zr94 : zeroA Try.prog 94 = some [.int .u64 0, .int .u64 0, .int .u32 0, .int .u8 0, .int .u8 0, .int .u8 0, .int .u8 0, .nilf, .nilp, .int .i32 0, .int .i32 0] := by kernel_rfl
theorem Try.fd94_0 : fieldOff Try.prog 94 0 = some (0, 12) := by kernel_rfl
theorem Try.fd94_1 : fieldOff Try.prog 94 1 = some (1, 12) := by kernel_rfl
theorem Try.fd94_2 : fieldOff Try.prog 94 2 = some (2, 87) := by kernel_rfl
theorem Try.fd94_3 : fieldOff Try.prog 94 3 = some (3, 88) := by kernel_rfl
theorem Try.fd94_4 : fieldOff Try.prog 94 4 = some (4, 5) := by kernel_rfl
theorem Try.fd94_5 : fieldOff Try.prog 94 5 = some (5, 5) := by kernel_rfl
theorem Try.fd94_6 : fieldOff Try.prog 94 6 = some (6, 89) := by kernel_rfl
theorem Try.fd94_7 : fieldOff Try.prog 94 7 = some (7, 90) := by kernel_rfl
theorem Try.fd94_8 : fieldOff Try.prog 94 8 = some (8, 91) := by kernel_rfl
theorem Try.fd94_9 : fieldOff Try.prog 94 9 = some (9, 92) := by kernel_rfl
theorem Try.fd94_10 : fieldOff Try.prog 94 10 = some (10, 93) := by kernel_rfl
theorem Try.pl94 : placesA Try.prog 94 = some [(0, 1), (1, 1), (2, 1), (3, 1), (4, 1), (5, 1), (6, 1), (7, 1), (8, 1), (9, 1), (10, 1)] := by kernel_rfl
theorem Try.cs95 : Try.prog.cellsOf 95 = 11 := by kernel_rfl
theorem Try.bt95 : Try.prog.bytesOf 95 = 48 := by kernel_rfl
theorem Try.pa95 (cs : List AV) : partA Try.prog 95 cs = if (cs.take 11).length = 11 then some (.agg (cs.take 11)) else none := by simp only [partA, Try.underlying95, Try.cs95]; simp
theorem Try.ty95 : tyOk Try.prog 95 = true := by kernel_rfl
theorem Try.zr95 : zeroA Try.prog 95 = some [.int .u64 0, .int .u64 0, .int .u32 0, .int .u8 0, .int .u8 0, .int .u8 0, .int .u8 0, .nilf, .nilp, .int .i32 0, .int .i32 0] := by kernel_rfl
theorem Try.fd95_0 : fieldOff Try.prog 95 0 = some (0, 12) := by kernel_rfl
theorem Try.fd95_1 : fieldOff Try.prog 95 1 = some (1, 12) := by kernel_rfl
theorem Try.fd95_2 : fieldOff Try.prog 95 2 = some (2, 87) := by kernel_rfl
theorem Try.fd95_3 : fieldOff Try.prog 95 3 = some (3, 88) := by kernel_rfl
theorem Try.fd95_4 : fieldOff Try.prog 95 4 = some (4, 5) := by kernel_rfl
theorem Try.fd95_5 : fieldOff Try.prog 95 5 = some (5, 5) := by kernel_rfl
theorem Try.fd95_6 : fieldOff Try.prog 95 6 = some (6, 89) := by kernel_rfl
theorem Try.fd95_7 : fieldOff Try.prog 95 7 = some (7, 90) := by kernel_rfl
theorem Try.fd95_8 : fieldOff Try.prog 95 8 = some (8, 91) := by kernel_rfl
theorem Try.fd95_9 : fieldOff Try.prog 95 9 = some (9, 92) := by kernel_rfl
theorem Try.fd95_10 : fieldOff Try.prog 95 10 = some (10, 93) := by kernel_rfl
theorem Try.pl95 : placesA Try.prog 95 = some [(0, 1), (1, 1), (2, 1), (3, 1), (4, 1), (5, 1), (6, 1), (7, 1), (8, 1), (9, 1), (10, 1)] := by kernel_rfl
theorem Try.cs96 : Try.prog.cellsOf 96 = 1 := by kernel_rfl
theorem Try.bt96 : Try.prog.bytesOf 96 = 8 := by kernel_rfl
theorem Try.pa96 (c : AV) (cs : List AV) : partA Try.prog 96 (c :: cs) = some c := by simp only [partA, Try.underlying96]
theorem Try.ty96 : tyOk Try.prog 96 = true := by kernel_rfl
theorem Try.zr96 : zeroA Try.prog 96 = some [.nilp] := by kernel_rfl
end Go.Proofs
