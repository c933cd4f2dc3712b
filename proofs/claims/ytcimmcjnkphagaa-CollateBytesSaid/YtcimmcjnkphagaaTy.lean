/-
  What the model says of the types of this translation.
-/
import Derived.Test.YtcimmcjnkphagaaAm14
import Derived.Test.YtcimmcjnkphagaaRows
namespace Go.Proofs.Ytcimmcjnkphagaa
open Go.Am
theorem mixed : Try.prog.follows .mixedOrders = true := by kernel_rfl
theorem sz1 : szOf Try.prog 1 = some 1 := by kernel_rfl
theorem ag1 : isAggOf Try.prog 1 = some false := by kernel_rfl
theorem el1 : elOk Try.prog 1 1 8 = true := by kernel_rfl
theorem sz2 : szOf Try.prog 2 = some 1 := by kernel_rfl
theorem ag2 : isAggOf Try.prog 2 = some false := by kernel_rfl
theorem el2 : elOk Try.prog 2 1 8 = true := by kernel_rfl
theorem zv2 : (Try.prog.info? 2).bind (·.zero) = some (.int .i64 0) := by kernel_rfl
theorem ze2 : zeroOf Try.prog 2 = some [.int .i64 0] := by kernel_rfl
theorem sz3 : szOf Try.prog 3 = some 1 := by kernel_rfl
theorem ag3 : isAggOf Try.prog 3 = some false := by kernel_rfl
theorem el3 : elOk Try.prog 3 1 8 = true := by kernel_rfl
theorem zv3 : (Try.prog.info? 3).bind (·.zero) = some (.int .i64 0) := by kernel_rfl
theorem ze3 : zeroOf Try.prog 3 = some [.int .i64 0] := by kernel_rfl
theorem sz4 : szOf Try.prog 4 = some 1 := by kernel_rfl
theorem ag4 : isAggOf Try.prog 4 = some false := by kernel_rfl
theorem el4 : elOk Try.prog 4 1 1 = true := by kernel_rfl
theorem zv4 : (Try.prog.info? 4).bind (·.zero) = some (.bool false) := by kernel_rfl
theorem ze4 : zeroOf Try.prog 4 = some [.bool false] := by kernel_rfl
theorem sz5 : szOf Try.prog 5 = some 1 := by kernel_rfl
theorem ag5 : isAggOf Try.prog 5 = some false := by kernel_rfl
theorem el5 : elOk Try.prog 5 1 1 = true := by kernel_rfl
theorem zv5 : (Try.prog.info? 5).bind (·.zero) = some (.int .u8 0) := by kernel_rfl
theorem ze5 : zeroOf Try.prog 5 = some [.int .u8 0] := by kernel_rfl
theorem sz6 : szOf Try.prog 6 = some 1 := by kernel_rfl
theorem ag6 : isAggOf Try.prog 6 = some false := by kernel_rfl
theorem el6 : elOk Try.prog 6 1 1 = true := by kernel_rfl
theorem zv6 : (Try.prog.info? 6).bind (·.zero) = some (.int .u8 0) := by kernel_rfl
theorem ze6 : zeroOf Try.prog 6 = some [.int .u8 0] := by kernel_rfl
theorem sz7 : szOf Try.prog 7 = some 4 := by kernel_rfl
theorem ag7 : isAggOf Try.prog 7 = some true := by kernel_rfl
theorem el7 : elOk Try.prog 7 4 24 = true := by kernel_rfl
theorem ze7 : zeroOf Try.prog 7 = some [.int .i64 0, .int .i64 0, .bool false, .int .u8 0] := by kernel_rfl
theorem pl7 : placesOf Try.prog 7 = some [(0, 1), (1, 1), (2, 1), (3, 1)] := by kernel_rfl
theorem fd7_0 : fldOf Try.prog 7 0 = some (0, 0 + 1, false) := by kernel_rfl
theorem fd7_1 : fldOf Try.prog 7 1 = some (1, 0 + 1, false) := by kernel_rfl
theorem fd7_2 : fldOf Try.prog 7 2 = some (2, 0 + 1, false) := by kernel_rfl
theorem fd7_3 : fldOf Try.prog 7 3 = some (3, 0 + 1, false) := by kernel_rfl
theorem sz8 : szOf Try.prog 8 = some 4 := by kernel_rfl
theorem ag8 : isAggOf Try.prog 8 = some true := by kernel_rfl
theorem el8 : elOk Try.prog 8 4 24 = true := by kernel_rfl
theorem ze8 : zeroOf Try.prog 8 = some [.int .i64 0, .int .i64 0, .bool false, .int .u8 0] := by kernel_rfl
theorem pl8 : placesOf Try.prog 8 = some [(0, 1), (1, 1), (2, 1), (3, 1)] := by kernel_rfl
theorem fd8_0 : fldOf Try.prog 8 0 = some (0, 0 + 1, false) := by kernel_rfl
theorem fd8_1 : fldOf Try.prog 8 1 = some (1, 0 + 1, false) := by kernel_rfl
theorem fd8_2 : fldOf Try.prog 8 2 = some (2, 0 + 1, false) := by kernel_rfl
theorem fd8_3 : fldOf Try.prog 8 3 = some (3, 0 + 1, false) := by kernel_rfl
theorem sz9 : szOf Try.prog 9 = some 1 := by kernel_rfl
theorem ag9 : isAggOf Try.prog 9 = some false := by kernel_rfl
theorem el9 : elOk Try.prog 9 1 16 = true := by kernel_rfl
theorem zv9 : (Try.prog.info? 9).bind (·.zero) = some (.string ⟨#[]⟩) := by kernel_rfl
theorem ze9 : zeroOf Try.prog 9 = some [.string ⟨#[]⟩] := by kernel_rfl
theorem sz10 : szOf Try.prog 10 = some 1 := by kernel_rfl
theorem ag10 : isAggOf Try.prog 10 = some false := by kernel_rfl
theorem el10 : elOk Try.prog 10 1 16 = true := by kernel_rfl
theorem zv10 : (Try.prog.info? 10).bind (·.zero) = some (.string ⟨#[]⟩) := by kernel_rfl
theorem ze10 : zeroOf Try.prog 10 = some [.string ⟨#[]⟩] := by kernel_rfl
theorem sz11 : szOf Try.prog 11 = some 1 := by kernel_rfl
theorem ag11 : isAggOf Try.prog 11 = some false := by kernel_rfl
theorem el11 : elOk Try.prog 11 1 16 = true := by kernel_rfl
theorem zv11 : (Try.prog.info? 11).bind (·.zero) = some (.string ⟨#[]⟩) := by kernel_rfl
theorem ze11 : zeroOf Try.prog 11 = some [.string ⟨#[]⟩] := by kernel_rfl
theorem sz12 : szOf Try.prog 12 = some 1 := by kernel_rfl
theorem ag12 : isAggOf Try.prog 12 = some false := by kernel_rfl
theorem el12 : elOk Try.prog 12 1 8 = true := by kernel_rfl
theorem zv12 : (Try.prog.info? 12).bind (·.zero) = some (.int .u64 0) := by kernel_rfl
theorem ze12 : zeroOf Try.prog 12 = some [.int .u64 0] := by kernel_rfl
theorem sz13 : szOf Try.prog 13 = some 2 := by kernel_rfl
theorem ag13 : isAggOf Try.prog 13 = some true := by kernel_rfl
theorem el13 : elOk Try.prog 13 2 24 = true := by kernel_rfl
theorem ze13 : zeroOf Try.prog 13 = some [.string ⟨#[]⟩, .int .u64 0] := by kernel_rfl
theorem pl13 : placesOf Try.prog 13 = some [(0, 1), (1, 1)] := by kernel_rfl
theorem fd13_0 : fldOf Try.prog 13 0 = some (0, 0 + 1, false) := by kernel_rfl
theorem fd13_1 : fldOf Try.prog 13 1 = some (1, 0 + 1, false) := by kernel_rfl
theorem sz14 : szOf Try.prog 14 = some 2 := by kernel_rfl
theorem ag14 : isAggOf Try.prog 14 = some true := by kernel_rfl
theorem el14 : elOk Try.prog 14 2 24 = true := by kernel_rfl
theorem ze14 : zeroOf Try.prog 14 = some [.string ⟨#[]⟩, .int .u64 0] := by kernel_rfl
theorem pl14 : placesOf Try.prog 14 = some [(0, 1), (1, 1)] := by kernel_rfl
theorem fd14_0 : fldOf Try.prog 14 0 = some (0, 0 + 1, false) := by kernel_rfl
theorem fd14_1 : fldOf Try.prog 14 1 = some (1, 0 + 1, false) := by kernel_rfl
theorem sz18 : szOf Try.prog 18 = some 1 := by kernel_rfl
theorem ag18 : isAggOf Try.prog 18 = some true := by kernel_rfl
theorem el18 : elOk Try.prog 18 1 8 = true := by kernel_rfl
theorem fd18_0 : fldOf Try.prog 18 0 = some (0, 0 + 1, false) := by kernel_rfl
theorem sz19 : szOf Try.prog 19 = some 1 := by kernel_rfl
theorem ag19 : isAggOf Try.prog 19 = some true := by kernel_rfl
theorem el19 : elOk Try.prog 19 1 8 = true := by kernel_rfl
theorem fd19_0 : fldOf Try.prog 19 0 = some (0, 0 + 1, false) := by kernel_rfl
theorem sz21 : szOf Try.prog 21 = some 1 := by kernel_rfl
theorem ag21 : isAggOf Try.prog 21 = some false := by kernel_rfl
theorem el21 : elOk Try.prog 21 1 4 = true := by kernel_rfl
theorem zv21 : (Try.prog.info? 21).bind (·.zero) = some (.int .i32 0) := by kernel_rfl
theorem ze21 : zeroOf Try.prog 21 = some [.int .i32 0] := by kernel_rfl
theorem sz22 : szOf Try.prog 22 = some 1 := by kernel_rfl
theorem ag22 : isAggOf Try.prog 22 = some false := by kernel_rfl
theorem el22 : elOk Try.prog 22 1 24 = true := by kernel_rfl
theorem zv22 : (Try.prog.info? 22).bind (·.zero) = some (.slice none 0 0) := by kernel_rfl
theorem ze22 : zeroOf Try.prog 22 = some [.slice none 0 0] := by kernel_rfl
theorem sz23 : szOf Try.prog 23 = some 1 := by kernel_rfl
theorem ag23 : isAggOf Try.prog 23 = some false := by kernel_rfl
theorem el23 : elOk Try.prog 23 1 24 = true := by kernel_rfl
theorem zv23 : (Try.prog.info? 23).bind (·.zero) = some (.slice none 0 0) := by kernel_rfl
theorem ze23 : zeroOf Try.prog 23 = some [.slice none 0 0] := by kernel_rfl
theorem sz24 : szOf Try.prog 24 = some 1 := by kernel_rfl
theorem ag24 : isAggOf Try.prog 24 = some false := by kernel_rfl
theorem el24 : elOk Try.prog 24 1 24 = true := by kernel_rfl
theorem zv24 : (Try.prog.info? 24).bind (·.zero) = some (.slice none 0 0) := by kernel_rfl
theorem ze24 : zeroOf Try.prog 24 = some [.slice none 0 0] := by kernel_rfl
theorem sz25 : szOf Try.prog 25 = some 1 := by kernel_rfl
theorem ag25 : isAggOf Try.prog 25 = some false := by kernel_rfl
theorem el25 : elOk Try.prog 25 1 8 = true := by kernel_rfl
theorem sz26 : szOf Try.prog 26 = some 1 := by kernel_rfl
theorem ag26 : isAggOf Try.prog 26 = some false := by kernel_rfl
theorem el26 : elOk Try.prog 26 1 8 = true := by kernel_rfl
theorem sz27 : szOf Try.prog 27 = some 1 := by kernel_rfl
theorem ag27 : isAggOf Try.prog 27 = some false := by kernel_rfl
theorem el27 : elOk Try.prog 27 1 8 = true := by kernel_rfl
theorem sz28 : szOf Try.prog 28 = some 1 := by kernel_rfl
theorem ag28 : isAggOf Try.prog 28 = some false := by kernel_rfl
theorem el28 : elOk Try.prog 28 1 24 = true := by kernel_rfl
theorem zv28 : (Try.prog.info? 28).bind (·.zero) = some (.slice none 0 0) := by kernel_rfl
theorem ze28 : zeroOf Try.prog 28 = some [.slice none 0 0] := by kernel_rfl
theorem sz29 : szOf Try.prog 29 = some 1 := by kernel_rfl
theorem ag29 : isAggOf Try.prog 29 = some false := by kernel_rfl
theorem el29 : elOk Try.prog 29 1 8 = true := by kernel_rfl
theorem sz30 : szOf Try.prog 30 = some 1 := by kernel_rfl
theorem ag30 : isAggOf Try.prog 30 = some false := by kernel_rfl
theorem el30 : elOk Try.prog 30 1 8 = true := by kernel_rfl
theorem sz31 : szOf Try.prog 31 = some 1 := by kernel_rfl
theorem ag31 : isAggOf Try.prog 31 = some false := by kernel_rfl
theorem el31 : elOk Try.prog 31 1 8 = true := by kernel_rfl
theorem sz32 : szOf Try.prog 32 = some 1 := by kernel_rfl
theorem ag32 : isAggOf Try.prog 32 = some false := by kernel_rfl
theorem el32 : elOk Try.prog 32 1 8 = true := by kernel_rfl
theorem sz33 : szOf Try.prog 33 = some 1 := by kernel_rfl
theorem ag33 : isAggOf Try.prog 33 = some false := by kernel_rfl
theorem el33 : elOk Try.prog 33 1 8 = true := by kernel_rfl
theorem sz34 : szOf Try.prog 34 = some 1 := by kernel_rfl
theorem ag34 : isAggOf Try.prog 34 = some false := by kernel_rfl
theorem el34 : elOk Try.prog 34 1 8 = true := by kernel_rfl
theorem sz35 : szOf Try.prog 35 = some 1 := by kernel_rfl
theorem ag35 : isAggOf Try.prog 35 = some false := by kernel_rfl
theorem el35 : elOk Try.prog 35 1 8 = true := by kernel_rfl
theorem sz36 : szOf Try.prog 36 = some 1 := by kernel_rfl
theorem ag36 : isAggOf Try.prog 36 = some false := by kernel_rfl
theorem el36 : elOk Try.prog 36 1 8 = true := by kernel_rfl
theorem sz37 : szOf Try.prog 37 = some 1 := by kernel_rfl
theorem ag37 : isAggOf Try.prog 37 = some false := by kernel_rfl
theorem el37 : elOk Try.prog 37 1 8 = true := by kernel_rfl
theorem sz38 : szOf Try.prog 38 = some 1 := by kernel_rfl
theorem ag38 : isAggOf Try.prog 38 = some false := by kernel_rfl
theorem el38 : elOk Try.prog 38 1 8 = true := by kernel_rfl
theorem sz39 : szOf Try.prog 39 = some 1 := by kernel_rfl
theorem ag39 : isAggOf Try.prog 39 = some false := by kernel_rfl
theorem el39 : elOk Try.prog 39 1 8 = true := by kernel_rfl
theorem sz41 : szOf Try.prog 41 = some 1 := by kernel_rfl
theorem ag41 : isAggOf Try.prog 41 = some false := by kernel_rfl
theorem el41 : elOk Try.prog 41 1 8 = true := by kernel_rfl
theorem sz42 : szOf Try.prog 42 = some 1 := by kernel_rfl
theorem ag42 : isAggOf Try.prog 42 = some false := by kernel_rfl
theorem el42 : elOk Try.prog 42 1 8 = true := by kernel_rfl
theorem sz43 : szOf Try.prog 43 = some 1 := by kernel_rfl
theorem ag43 : isAggOf Try.prog 43 = some false := by kernel_rfl
theorem el43 : elOk Try.prog 43 1 8 = true := by kernel_rfl
theorem sz44 : szOf Try.prog 44 = some 1 := by kernel_rfl
theorem ag44 : isAggOf Try.prog 44 = some false := by kernel_rfl
theorem el44 : elOk Try.prog 44 1 8 = true := by kernel_rfl
theorem sz45 : szOf Try.prog 45 = some 1 := by kernel_rfl
theorem ag45 : isAggOf Try.prog 45 = some false := by kernel_rfl
theorem el45 : elOk Try.prog 45 1 24 = true := by kernel_rfl
theorem zv45 : (Try.prog.info? 45).bind (·.zero) = some (.slice none 0 0) := by kernel_rfl
theorem ze45 : zeroOf Try.prog 45 = some [.slice none 0 0] := by kernel_rfl
theorem sz46 : szOf Try.prog 46 = some 1 := by kernel_rfl
theorem ag46 : isAggOf Try.prog 46 = some false := by kernel_rfl
theorem el46 : elOk Try.prog 46 1 8 = true := by kernel_rfl
theorem sz47 : szOf Try.prog 47 = some 5 := by kernel_rfl
theorem ag47 : isAggOf Try.prog 47 = some true := by kernel_rfl
theorem el47 : elOk Try.prog 47 5 48 = true := by kernel_rfl
theorem ze47 : zeroOf Try.prog 47 = some [.string ⟨#[]⟩, .int .i64 0, .int .i64 0, .int .i64 0, .int .i64 0] := by kernel_rfl
theorem pl47 : placesOf Try.prog 47 = some [(0, 1), (1, 1), (2, 1), (3, 1), (4, 1)] := by kernel_rfl
theorem fd47_0 : fldOf Try.prog 47 0 = some (0, 0 + 1, false) := by kernel_rfl
theorem fd47_1 : fldOf Try.prog 47 1 = some (1, 0 + 1, false) := by kernel_rfl
theorem fd47_2 : fldOf Try.prog 47 2 = some (2, 0 + 1, false) := by kernel_rfl
theorem fd47_3 : fldOf Try.prog 47 3 = some (3, 0 + 1, false) := by kernel_rfl
theorem fd47_4 : fldOf Try.prog 47 4 = some (4, 0 + 1, false) := by kernel_rfl
theorem sz48 : szOf Try.prog 48 = some 5 := by kernel_rfl
theorem ag48 : isAggOf Try.prog 48 = some true := by kernel_rfl
theorem el48 : elOk Try.prog 48 5 48 = true := by kernel_rfl
theorem ze48 : zeroOf Try.prog 48 = some [.string ⟨#[]⟩, .int .i64 0, .int .i64 0, .int .i64 0, .int .i64 0] := by kernel_rfl
theorem pl48 : placesOf Try.prog 48 = some [(0, 1), (1, 1), (2, 1), (3, 1), (4, 1)] := by kernel_rfl
theorem fd48_0 : fldOf Try.prog 48 0 = some (0, 0 + 1, false) := by kernel_rfl
theorem fd48_1 : fldOf Try.prog 48 1 = some (1, 0 + 1, false) := by kernel_rfl
theorem fd48_2 : fldOf Try.prog 48 2 = some (2, 0 + 1, false) := by kernel_rfl
theorem fd48_3 : fldOf Try.prog 48 3 = some (3, 0 + 1, false) := by kernel_rfl
theorem fd48_4 : fldOf Try.prog 48 4 = some (4, 0 + 1, false) := by kernel_rfl
theorem sz49 : szOf Try.prog 49 = some 1 := by kernel_rfl
theorem ag49 : isAggOf Try.prog 49 = some false := by kernel_rfl
theorem el49 : elOk Try.prog 49 1 8 = true := by kernel_rfl
theorem sz51 : szOf Try.prog 51 = some 1 := by kernel_rfl
theorem ag51 : isAggOf Try.prog 51 = some false := by kernel_rfl
theorem el51 : elOk Try.prog 51 1 8 = true := by kernel_rfl
theorem sz52 : szOf Try.prog 52 = some 1 := by kernel_rfl
theorem ag52 : isAggOf Try.prog 52 = some false := by kernel_rfl
theorem el52 : elOk Try.prog 52 1 8 = true := by kernel_rfl
theorem sz53 : szOf Try.prog 53 = some 1 := by kernel_rfl
theorem ag53 : isAggOf Try.prog 53 = some false := by kernel_rfl
theorem el53 : elOk Try.prog 53 1 24 = true := by kernel_rfl
theorem zv53 : (Try.prog.info? 53).bind (·.zero) = some (.slice none 0 0) := by kernel_rfl
theorem ze53 : zeroOf Try.prog 53 = some [.slice none 0 0] := by kernel_rfl
theorem sz54 : szOf Try.prog 54 = some 1 := by kernel_rfl
theorem ag54 : isAggOf Try.prog 54 = some false := by kernel_rfl
theorem el54 : elOk Try.prog 54 1 8 = true := by kernel_rfl
theorem sz55 : szOf Try.prog 55 = some 1 := by kernel_rfl
theorem ag55 : isAggOf Try.prog 55 = some false := by kernel_rfl
theorem el55 : elOk Try.prog 55 1 8 = true := by kernel_rfl
theorem sz56 : szOf Try.prog 56 = some 1 := by kernel_rfl
theorem ag56 : isAggOf Try.prog 56 = some false := by kernel_rfl
theorem el56 : elOk Try.prog 56 1 8 = true := by kernel_rfl
theorem sz57 : szOf Try.prog 57 = some 1 := by kernel_rfl
theorem ag57 : isAggOf Try.prog 57 = some false := by kernel_rfl
theorem el57 : elOk Try.prog 57 1 8 = true := by kernel_rfl
theorem sz58 : szOf Try.prog 58 = some 1 := by kernel_rfl
theorem ag58 : isAggOf Try.prog 58 = some false := by kernel_rfl
theorem el58 : elOk Try.prog 58 1 8 = true := by kernel_rfl
theorem sz59 : szOf Try.prog 59 = some 1 := by kernel_rfl
theorem ag59 : isAggOf Try.prog 59 = some false := by kernel_rfl
theorem el59 : elOk Try.prog 59 1 8 = true := by kernel_rfl
theorem sz60 : szOf Try.prog 60 = some 1 := by kernel_rfl
theorem ag60 : isAggOf Try.prog 60 = some false := by kernel_rfl
theorem el60 : elOk Try.prog 60 1 8 = true := by kernel_rfl
theorem sz61 : szOf Try.prog 61 = some 1 := by kernel_rfl
theorem ag61 : isAggOf Try.prog 61 = some false := by kernel_rfl
theorem el61 : elOk Try.prog 61 1 8 = true := by kernel_rfl
theorem sz62 : szOf Try.prog 62 = some 1 := by kernel_rfl
theorem ag62 : isAggOf Try.prog 62 = some false := by kernel_rfl
theorem el62 : elOk Try.prog 62 1 8 = true := by kernel_rfl
theorem sz63 : szOf Try.prog 63 = some 1 := by kernel_rfl
theorem ag63 : isAggOf Try.prog 63 = some false := by kernel_rfl
theorem el63 : elOk Try.prog 63 1 8 = true := by kernel_rfl
theorem sz64 : szOf Try.prog 64 = some 1 := by kernel_rfl
theorem ag64 : isAggOf Try.prog 64 = some false := by kernel_rfl
theorem el64 : elOk Try.prog 64 1 8 = true := by kernel_rfl
theorem sz65 : szOf Try.prog 65 = some 1 := by kernel_rfl
theorem ag65 : isAggOf Try.prog 65 = some false := by kernel_rfl
theorem el65 : elOk Try.prog 65 1 8 = true := by kernel_rfl
theorem sz66 : szOf Try.prog 66 = some 1 := by kernel_rfl
theorem ag66 : isAggOf Try.prog 66 = some false := by kernel_rfl
theorem el66 : elOk Try.prog 66 1 8 = true := by kernel_rfl
theorem sz67 : szOf Try.prog 67 = some 1 := by kernel_rfl
theorem ag67 : isAggOf Try.prog 67 = some false := by kernel_rfl
theorem el67 : elOk Try.prog 67 1 8 = true := by kernel_rfl
theorem sz68 : szOf Try.prog 68 = some 1 := by kernel_rfl
theorem ag68 : isAggOf Try.prog 68 = some false := by kernel_rfl
theorem el68 : elOk Try.prog 68 1 8 = true := by kernel_rfl
theorem sz69 : szOf Try.prog 69 = some 1 := by kernel_rfl
theorem ag69 : isAggOf Try.prog 69 = some false := by kernel_rfl
theorem el69 : elOk Try.prog 69 1 8 = true := by kernel_rfl
theorem sz70 : szOf Try.prog 70 = some 1 := by kernel_rfl
theorem ag70 : isAggOf Try.prog 70 = some false := by kernel_rfl
theorem zv70 : (Try.prog.info? 70).bind (·.zero) = some (.map none) := by kernel_rfl
theorem ze70 : zeroOf Try.prog 70 = some [.map none] := by kernel_rfl
theorem sz71 : szOf Try.prog 71 = some 1 := by kernel_rfl
theorem ag71 : isAggOf Try.prog 71 = some false := by kernel_rfl
theorem el71 : elOk Try.prog 71 1 8 = true := by kernel_rfl
theorem sz73 : szOf Try.prog 73 = some 1 := by kernel_rfl
theorem ag73 : isAggOf Try.prog 73 = some false := by kernel_rfl
theorem el73 : elOk Try.prog 73 1 24 = true := by kernel_rfl
theorem zv73 : (Try.prog.info? 73).bind (·.zero) = some (.slice none 0 0) := by kernel_rfl
theorem ze73 : zeroOf Try.prog 73 = some [.slice none 0 0] := by kernel_rfl
theorem sz74 : szOf Try.prog 74 = some 1 := by kernel_rfl
theorem ag74 : isAggOf Try.prog 74 = some false := by kernel_rfl
theorem el74 : elOk Try.prog 74 1 8 = true := by kernel_rfl
theorem zv74 : (Try.prog.info? 74).bind (·.zero) = some (.int .u64 0) := by kernel_rfl
theorem ze74 : zeroOf Try.prog 74 = some [.int .u64 0] := by kernel_rfl
theorem sz75 : szOf Try.prog 75 = some 1 := by kernel_rfl
theorem ag75 : isAggOf Try.prog 75 = some false := by kernel_rfl
theorem el75 : elOk Try.prog 75 1 24 = true := by kernel_rfl
theorem zv75 : (Try.prog.info? 75).bind (·.zero) = some (.slice none 0 0) := by kernel_rfl
theorem ze75 : zeroOf Try.prog 75 = some [.slice none 0 0] := by kernel_rfl
theorem sz76 : szOf Try.prog 76 = some 1 := by kernel_rfl
theorem ag76 : isAggOf Try.prog 76 = some false := by kernel_rfl
theorem el76 : elOk Try.prog 76 1 8 = true := by kernel_rfl
theorem sz77 : szOf Try.prog 77 = some 1 := by kernel_rfl
theorem ag77 : isAggOf Try.prog 77 = some false := by kernel_rfl
theorem el77 : elOk Try.prog 77 1 8 = true := by kernel_rfl
theorem sz78 : szOf Try.prog 78 = some 1 := by kernel_rfl
theorem ag78 : isAggOf Try.prog 78 = some false := by kernel_rfl
theorem el78 : elOk Try.prog 78 1 8 = true := by kernel_rfl
theorem sz79 : szOf Try.prog 79 = some 1 := by kernel_rfl
theorem ag79 : isAggOf Try.prog 79 = some false := by kernel_rfl
theorem el79 : elOk Try.prog 79 1 8 = true := by kernel_rfl
theorem sz80 : szOf Try.prog 80 = some 1 := by kernel_rfl
theorem ag80 : isAggOf Try.prog 80 = some false := by kernel_rfl
theorem el80 : elOk Try.prog 80 1 8 = true := by kernel_rfl
theorem sz81 : szOf Try.prog 81 = some 1 := by kernel_rfl
theorem ag81 : isAggOf Try.prog 81 = some false := by kernel_rfl
theorem el81 : elOk Try.prog 81 1 8 = true := by kernel_rfl
theorem zv81 : (Try.prog.info? 81).bind (·.zero) = some (.int .u64 0) := by kernel_rfl
theorem ze81 : zeroOf Try.prog 81 = some [.int .u64 0] := by kernel_rfl
theorem sz82 : szOf Try.prog 82 = some 1 := by kernel_rfl
theorem ag82 : isAggOf Try.prog 82 = some false := by kernel_rfl
theorem el82 : elOk Try.prog 82 1 8 = true := by kernel_rfl
theorem sz83 : szOf Try.prog 83 = some 1 := by kernel_rfl
theorem ag83 : isAggOf Try.prog 83 = some false := by kernel_rfl
theorem el83 : elOk Try.prog 83 1 8 = true := by kernel_rfl
theorem sz84 : szOf Try.prog 84 = some 1 := by kernel_rfl
theorem ag84 : isAggOf Try.prog 84 = some false := by kernel_rfl
theorem el84 : elOk Try.prog 84 1 8 = true := by kernel_rfl
theorem sz85 : szOf Try.prog 85 = some 1 := by kernel_rfl
theorem ag85 : isAggOf Try.prog 85 = some false := by kernel_rfl
theorem el85 : elOk Try.prog 85 1 8 = true := by kernel_rfl
theorem zv85 : (Try.prog.info? 85).bind (·.zero) = some (.int .i64 0) := by kernel_rfl
theorem ze85 : zeroOf Try.prog 85 = some [.int .i64 0] := by kernel_rfl
theorem sz87 : szOf Try.prog 87 = some 1 := by kernel_rfl
theorem ag87 : isAggOf Try.prog 87 = some false := by kernel_rfl
theorem el87 : elOk Try.prog 87 1 8 = true := by kernel_rfl
theorem sz88 : szOf Try.prog 88 = some 1 := by kernel_rfl
theorem ag88 : isAggOf Try.prog 88 = some false := by kernel_rfl
theorem el88 : elOk Try.prog 88 1 8 = true := by kernel_rfl
theorem sz89 : szOf Try.prog 89 = some 1 := by kernel_rfl
theorem ag89 : isAggOf Try.prog 89 = some false := by kernel_rfl
theorem el89 : elOk Try.prog 89 1 8 = true := by kernel_rfl
theorem sz90 : szOf Try.prog 90 = some 1 := by kernel_rfl
theorem ag90 : isAggOf Try.prog 90 = some false := by kernel_rfl
theorem el90 : elOk Try.prog 90 1 8 = true := by kernel_rfl
theorem sz91 : szOf Try.prog 91 = some 1 := by kernel_rfl
theorem ag91 : isAggOf Try.prog 91 = some false := by kernel_rfl
theorem el91 : elOk Try.prog 91 1 8 = true := by kernel_rfl
theorem sz92 : szOf Try.prog 92 = some 1 := by kernel_rfl
theorem ag92 : isAggOf Try.prog 92 = some false := by kernel_rfl
theorem el92 : elOk Try.prog 92 1 4 = true := by kernel_rfl
theorem zv92 : (Try.prog.info? 92).bind (·.zero) = some (.int .u32 0) := by kernel_rfl
theorem ze92 : zeroOf Try.prog 92 = some [.int .u32 0] := by kernel_rfl
theorem sz93 : szOf Try.prog 93 = some 1 := by kernel_rfl
theorem ag93 : isAggOf Try.prog 93 = some false := by kernel_rfl
theorem el93 : elOk Try.prog 93 1 8 = true := by kernel_rfl
theorem sz94 : szOf Try.prog 94 = some 1 := by kernel_rfl
theorem ag94 : isAggOf Try.prog 94 = some false := by kernel_rfl
theorem el94 : elOk Try.prog 94 1 8 = true := by kernel_rfl
theorem sz95 : szOf Try.prog 95 = some 1 := by kernel_rfl
theorem ag95 : isAggOf Try.prog 95 = some false := by kernel_rfl
theorem el95 : elOk Try.prog 95 1 8 = true := by kernel_rfl
theorem zv95 : (Try.prog.info? 95).bind (·.zero) = some (.int .u64 0) := by kernel_rfl
theorem ze95 : zeroOf Try.prog 95 = some [.int .u64 0] := by kernel_rfl
theorem sz96 : szOf Try.prog 96 = some 1 := by kernel_rfl
theorem ag96 : isAggOf Try.prog 96 = some false := by kernel_rfl
theorem el96 : elOk Try.prog 96 1 8 = true := by kernel_rfl
theorem sz97 : szOf Try.prog 97 = some 1 := by kernel_rfl
theorem ag97 : isAggOf Try.prog 97 = some false := by kernel_rfl
theorem el97 : elOk Try.prog 97 1 8 = true := by kernel_rfl
theorem sz98 : szOf Try.prog 98 = some 1 := by kernel_rfl
theorem ag98 : isAggOf Try.prog 98 = some false := by kernel_rfl
theorem el98 : elOk Try.prog 98 1 8 = true := by kernel_rfl
theorem sz100 : szOf Try.prog 100 = some 1 := by kernel_rfl
theorem ag100 : isAggOf Try.prog 100 = some false := by kernel_rfl
theorem el100 : elOk Try.prog 100 1 8 = true := by kernel_rfl
theorem sz102 : szOf Try.prog 102 = some 1 := by kernel_rfl
theorem ag102 : isAggOf Try.prog 102 = some false := by kernel_rfl
theorem el102 : elOk Try.prog 102 1 8 = true := by kernel_rfl
theorem sz103 : szOf Try.prog 103 = some 1 := by kernel_rfl
theorem ag103 : isAggOf Try.prog 103 = some false := by kernel_rfl
theorem el103 : elOk Try.prog 103 1 8 = true := by kernel_rfl
theorem sz104 : szOf Try.prog 104 = some 4 := by kernel_rfl
theorem ag104 : isAggOf Try.prog 104 = some true := by kernel_rfl
theorem el104 : elOk Try.prog 104 4 40 = true := by kernel_rfl
theorem fd104_0 : fldOf Try.prog 104 0 = some (0, 0 + 1, false) := by kernel_rfl
theorem fd104_1 : fldOf Try.prog 104 1 = some (1, 0 + 1, false) := by kernel_rfl
theorem fd104_2 : fldOf Try.prog 104 2 = some (2, 0 + 1, false) := by kernel_rfl
theorem fd104_3 : fldOf Try.prog 104 3 = some (3, 0 + 1, false) := by kernel_rfl
theorem sz105 : szOf Try.prog 105 = some 4 := by kernel_rfl
theorem ag105 : isAggOf Try.prog 105 = some true := by kernel_rfl
theorem el105 : elOk Try.prog 105 4 40 = true := by kernel_rfl
theorem fd105_0 : fldOf Try.prog 105 0 = some (0, 0 + 1, false) := by kernel_rfl
theorem fd105_1 : fldOf Try.prog 105 1 = some (1, 0 + 1, false) := by kernel_rfl
theorem fd105_2 : fldOf Try.prog 105 2 = some (2, 0 + 1, false) := by kernel_rfl
theorem fd105_3 : fldOf Try.prog 105 3 = some (3, 0 + 1, false) := by kernel_rfl
theorem sz106 : szOf Try.prog 106 = some 0 := by kernel_rfl
theorem ag106 : isAggOf Try.prog 106 = some true := by kernel_rfl
theorem sz107 : szOf Try.prog 107 = some 0 := by kernel_rfl
theorem ag107 : isAggOf Try.prog 107 = some true := by kernel_rfl
theorem pl107 : placesOf Try.prog 107 = some [(0, 0)] := by kernel_rfl
theorem sz108 : szOf Try.prog 108 = some 0 := by kernel_rfl
theorem ag108 : isAggOf Try.prog 108 = some true := by kernel_rfl
theorem pl108 : placesOf Try.prog 108 = some [(0, 0)] := by kernel_rfl
theorem sz109 : szOf Try.prog 109 = some 1 := by kernel_rfl
theorem ag109 : isAggOf Try.prog 109 = some false := by kernel_rfl
theorem el109 : elOk Try.prog 109 1 8 = true := by kernel_rfl
theorem sz110 : szOf Try.prog 110 = some 1 := by kernel_rfl
theorem ag110 : isAggOf Try.prog 110 = some false := by kernel_rfl
theorem el110 : elOk Try.prog 110 1 1 = true := by kernel_rfl
theorem zv110 : (Try.prog.info? 110).bind (·.zero) = some (.int .u8 0) := by kernel_rfl
theorem ze110 : zeroOf Try.prog 110 = some [.int .u8 0] := by kernel_rfl
theorem sz111 : szOf Try.prog 111 = some 1 := by kernel_rfl
theorem ag111 : isAggOf Try.prog 111 = some false := by kernel_rfl
theorem el111 : elOk Try.prog 111 1 1 = true := by kernel_rfl
theorem zv111 : (Try.prog.info? 111).bind (·.zero) = some (.int .u8 0) := by kernel_rfl
theorem ze111 : zeroOf Try.prog 111 = some [.int .u8 0] := by kernel_rfl
theorem sz112 : szOf Try.prog 112 = some 1 := by kernel_rfl
theorem ag112 : isAggOf Try.prog 112 = some false := by kernel_rfl
theorem el112 : elOk Try.prog 112 1 8 = true := by kernel_rfl
theorem sz114 : szOf Try.prog 114 = some 1 := by kernel_rfl
theorem ag114 : isAggOf Try.prog 114 = some false := by kernel_rfl
theorem el114 : elOk Try.prog 114 1 4 = true := by kernel_rfl
theorem zv114 : (Try.prog.info? 114).bind (·.zero) = some (.int .i32 0) := by kernel_rfl
theorem ze114 : zeroOf Try.prog 114 = some [.int .i32 0] := by kernel_rfl
theorem sz115 : szOf Try.prog 115 = some 1 := by kernel_rfl
theorem ag115 : isAggOf Try.prog 115 = some false := by kernel_rfl
theorem el115 : elOk Try.prog 115 1 4 = true := by kernel_rfl
theorem zv115 : (Try.prog.info? 115).bind (·.zero) = some (.int .i32 0) := by kernel_rfl
theorem ze115 : zeroOf Try.prog 115 = some [.int .i32 0] := by kernel_rfl
theorem sz116 : szOf Try.prog 116 = some 11 := by kernel_rfl
theorem ag116 : isAggOf Try.prog 116 = some true := by kernel_rfl
theorem el116 : elOk Try.prog 116 11 48 = true := by kernel_rfl
theorem fd116_0 : fldOf Try.prog 116 0 = some (0, 0 + 1, false) := by kernel_rfl
theorem fd116_1 : fldOf Try.prog 116 1 = some (1, 0 + 1, false) := by kernel_rfl
theorem fd116_2 : fldOf Try.prog 116 2 = some (2, 0 + 1, false) := by kernel_rfl
theorem fd116_3 : fldOf Try.prog 116 3 = some (3, 0 + 1, false) := by kernel_rfl
theorem fd116_4 : fldOf Try.prog 116 4 = some (4, 0 + 1, false) := by kernel_rfl
theorem fd116_5 : fldOf Try.prog 116 5 = some (5, 0 + 1, false) := by kernel_rfl
theorem fd116_6 : fldOf Try.prog 116 6 = some (6, 0 + 1, false) := by kernel_rfl
theorem fd116_7 : fldOf Try.prog 116 7 = some (7, 0 + 1, false) := by kernel_rfl
theorem fd116_8 : fldOf Try.prog 116 8 = some (8, 0 + 1, false) := by kernel_rfl
theorem fd116_9 : fldOf Try.prog 116 9 = some (9, 0 + 1, false) := by kernel_rfl
theorem fd116_10 : fldOf Try.prog 116 10 = some (10, 0 + 1, false) := by kernel_rfl
theorem sz117 : szOf Try.prog 117 = some 11 := by kernel_rfl
theorem ag117 : isAggOf Try.prog 117 = some true := by kernel_rfl
theorem el117 : elOk Try.prog 117 11 48 = true := by kernel_rfl
theorem fd117_0 : fldOf Try.prog 117 0 = some (0, 0 + 1, false) := by kernel_rfl
theorem fd117_1 : fldOf Try.prog 117 1 = some (1, 0 + 1, false) := by kernel_rfl
theorem fd117_2 : fldOf Try.prog 117 2 = some (2, 0 + 1, false) := by kernel_rfl
theorem fd117_3 : fldOf Try.prog 117 3 = some (3, 0 + 1, false) := by kernel_rfl
theorem fd117_4 : fldOf Try.prog 117 4 = some (4, 0 + 1, false) := by kernel_rfl
theorem fd117_5 : fldOf Try.prog 117 5 = some (5, 0 + 1, false) := by kernel_rfl
theorem fd117_6 : fldOf Try.prog 117 6 = some (6, 0 + 1, false) := by kernel_rfl
theorem fd117_7 : fldOf Try.prog 117 7 = some (7, 0 + 1, false) := by kernel_rfl
theorem fd117_8 : fldOf Try.prog 117 8 = some (8, 0 + 1, false) := by kernel_rfl
theorem fd117_9 : fldOf Try.prog 117 9 = some (9, 0 + 1, false) := by kernel_rfl
theorem fd117_10 : fldOf Try.prog 117 10 = some (10, 0 + 1, false) := by kernel_rfl
end Go.Proofs.Ytcimmcjnkphagaa
